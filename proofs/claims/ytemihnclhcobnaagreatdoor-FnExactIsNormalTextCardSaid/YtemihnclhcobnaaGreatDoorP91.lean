/- Plain laws of the texts. -/
import Derived.Test.YtemihnclhcobnaaGreatDoorT0
import Derived.Test.YtemihnclhcobnaaGreatDoorRvNum
import Derived.Test.YtemihnclhcobnaaGreatDoorSizT
namespace Go.Proofs.YtemihnclhcobnaaGreatDoor
open Go.Rv
variable {β : Type}
set_option linter.unusedVariables false
def aQ (g : Nat -> Bool) : Nat -> Nat
 | 0 => 0
 | i + 1 => aQ g i ||| (if g i then 2 ^ i else 0)
theorem bU (g : Nat -> Bool) : ∀ i, aQ g i < 2 ^ i
 | 0 => by simp [aQ]
 | i + 1 => by
  have := bU g i
  unfold aQ
  have h2 : 2 ^ (i + 1) = 2 ^ i + 2 ^ i := by rw [Nat.pow_succ]; omega
  refine akL (by omega) ?_
  split
  ·have := akK i; omega
  ·exact akK _
theorem vk {g h : Nat -> Bool} : ∀ {n : Nat}, (∀ i, i < n -> g i = h i) -> aQ g n = aQ h n
 | 0, _ => rfl
 | n + 1, e => by
  unfold aQ
  rw [vk (n := n) fun i hi => e i (by omega), e n (by omega)]
theorem qC {n : Nat} (h : n <= 62) : 2 ^ n < 9223372036854775808 := Nat.lt_of_le_of_lt (aj7 (by decide) h) (by decide)
theorem bd {n : Nat} (h : n <= 5) : 2 ^ n <= 32 := akz (aj7 (by decide) h) (by decide)
theorem aM (n : Nat) (h : n <= 62) : aW .i64 1 (n : Int) = ((2 ^ n : Nat) : Int) := by
 have := rY 1 n (by omega) (by rw [amd]; exact qC h)
 rw [amd] at this
 exact this
theorem tU (N : Nat) (h : Int -> (Bool -> Option β) -> Option β) (g : Nat -> Bool) (m : Nat) (hm : m <= 32) (hh : ∀ (x : Nat) k, x < m -> h (x : Int) k = k (g x)) (k0 : Int -> Int -> Int -> Int -> Option β) (a b n : Int) :
  ∀ (F i : Nat), m - i < F -> i <= m -> eR N h F (m : Int) (i : Int) a b n (aQ g i : Int) k0 = k0 a b n (aQ g m : Int) := by
 intro F
 induction F with
 | zero => intro i hF; omega
 | succ F ih =>
  intro i hF hi
  simp only [eR, aeu, Do]
  by_cases hlt : i < m
  ·rw [ajX (by omega : (i : Int) < (m : Int))]
   simp only [ajZ, hh i _ hlt]
   have h1 := ih (i + 1) (by omega) (by omega)
   rw [aw i (by omega)]
   have hw : aQ g i < 2 ^ 63 := aka (bU g i) (aj7 (by decide) (by omega))
   cases hg : g i with
   | true =>
    have e : aQ g (i + 1) = aQ g i ||| 2 ^ i := by simp [aQ, hg]
    rw [e] at h1
    simp only [ajZ, ab (ajX (by omega : 0 <= (i : Int)))]
    rw [aM i (by omega), bOr _ _ hw (akF (by decide) (by omega))]
    exact h1
   | false =>
    have e : aQ g (i + 1) = aQ g i := by simp [aQ, hg]
    rw [e] at h1
    exact h1
  ·have : i = m := by omega
   subst this
   rw [aj2 (by omega : ¬ (i : Int) < (i : Int))]
   rfl
theorem b6 (N : Nat) (hN : 64 < N) (n : Nat) (hn : n <= 5) (h : Int -> (Bool -> Option β) -> Option β) (g : Nat -> Bool) (hh : ∀ (x : Nat) k, x < 2 ^ n -> h (x : Int) k = k (g x)) (k : Int -> Int -> Option β) :
  fS N (n : Int) h k = k n (aQ g (2 ^ n) : Int) := by
 unfold fS Dp
 rw [ab (ajX (by omega)), aM n (by omega)]
 have := bd hn
 exact tU N h g (2 ^ n) this hh (fun _ _ e2 e3 => k e2 e3) 0 0 n N 0 (by omega) (aks _)
def ys (x i b : Nat) : Nat := x - (x &&& 2 ^ i) + b * 2 ^ i
theorem gz (w y : Nat) (hw : w < 9223372036854775808) : bits .and .i64 (cW .i64 (w : Int) (y : Int)) 1 = ((if w.testBit y then 1 else 0 : Nat) : Int) := by
 rw [Hw w y hw]
 have h1 : w / 2 ^ y < 2 ^ 63 := Nat.lt_of_le_of_lt (Nat.div_le_self _ _) hw
 have := bAnd (w / 2 ^ y) 1 h1 (by decide)
 rw [show ((1 : Nat) : Int) = 1 from rfl] at this
 rw [this, Nat.and_one_is_mod]
 congr 1
 rw [Nat.testBit, Nat.shiftRight_eq_div_pow, Nat.and_comm, Nat.and_one_is_mod]
 have := Nat.mod_two_eq_zero_or_one (w / 2 ^ y)
 rcases this with h | h <;> simp [h]
def isT (a0 a1 : Int) : Bool := decide (0 <= a0) && decide (a0 <= 5) && decide (0 <= a1) && decide (a1 < 2 ^ 2 ^ a0.toNat)
theorem zv {a0 a1 : Int} (h : isT a0 a1 = true) : ∃ n w : Nat, a0 = n /\ a1 = w /\ n <= 5 /\ w < 2 ^ 2 ^ n /\ w < 4294967296 := by
 simp only [isT, aj0, decide_eq_true_eq] at h
 obtain ⟨⟨⟨h1, h2⟩, h3⟩, h4⟩ := h
 obtain ⟨n, rfl⟩ := akT h1
 obtain ⟨w, rfl⟩ := akT h3
 simp only [akc] at h4
 have h5 : w < 2 ^ 2 ^ n := by exact_mod_cast h4
 have h6 : 2 ^ 2 ^ n <= 2 ^ 32 := aj7 (by decide) (bd (by omega))
 exact ⟨n, w, rfl, rfl, by omega, h5, by omega⟩
theorem Hr : ∀ n : Nat, n <= 5 -> aW .u64 1 (n : Int) = ((2 ^ n : Nat) : Int) := by decide +kernel
theorem bv (N : Nat) (a0 a1 : Int) (k : Bool -> Option β) : eT N a0 a1 k = k (isT a0 a1) := by
 unfold eT aaY bK VD
 by_cases h0 : 0 <= a0
 ·rw [ajX (by omega : a0 >= 0)]
  simp only [ajZ]
  by_cases h5 : a0 <= 5
  ·rw [ajX h5]
   obtain ⟨n, rfl⟩ := akT h0
   have hn : n <= 5 := by omega
   have hs := bd hn
   have hp := qC (n := 2 ^ n) (by omega)
   have hpos := akK (2 ^ n)
   simp only [ajZ]
   rw [ab rfl, Hr n hn, ab (ajX (akj _)), aM (2 ^ n) (by omega), bp (by omega) (by omega)]
   have e : isT (n : Int) a1 = (decide (0 <= a1) && decide (a1 < ((2 ^ 2 ^ n : Nat) : Int))) := by
    simp only [isT, akc, ajX (by omega : 0 <= (n : Int)), ajX (by omega : (n : Int) <= 5), aj9]
    push_cast
    rfl
   rw [e]
   by_cases h1 : 0 <= a1
   ·rw [ajX (by omega : a1 >= 0)]
    simp only [ajZ, aj9]
    congr 1
    exact decide_eq_decide.2 (by omega)
   ·rw [aj2 (by omega : ¬ a1 >= 0)]; rfl
  ·rw [aj2 h5]
   simp [isT, h5]
 ·rw [aj2 (by omega : ¬ a0 >= 0)]
  simp [isT, h0]
theorem bZ (N : Nat) (a0 a1 : Int) (h : a1 < 9223372036854775808) (k : Bool -> Option β) : gm N a0 a1 k = k (isT a0 a1) := by
 unfold gm Py zj7 zb7 zj2 zb2
 by_cases h0 : 0 <= a0
 ·rw [ajX (by omega : a0 >= 0)]
  simp only [ajZ]
  by_cases h5 : a0 <= 5
  ·rw [ajX h5]
   obtain ⟨n, rfl⟩ := akT h0
   have hn : n <= 5 := by omega
   have hs := bd hn
   have hpos := akK (2 ^ n)
   simp only [ajZ]
   rw [ab rfl]
   have e : isT (n : Int) a1 = (decide (0 <= a1) && decide (a1 < ((2 ^ 2 ^ n : Nat) : Int))) := by
    simp only [isT, akc, ajX (by omega : 0 <= (n : Int)), ajX (by omega : (n : Int) <= 5), aj9]
    push_cast
    rfl
   rw [e]
   by_cases h1 : 0 <= a1
   ·obtain ⟨w, rfl⟩ := akT h1
    rw [ajX (by omega : (w : Int) >= 0), aM n (by omega)]
    simp only [ajZ, aj9]
    rw [ab (ajX (akj _)), Hw w (2 ^ n) (by omega)]
    congr 1
    have : w / 2 ^ 2 ^ n = 0 ↔ w < 2 ^ 2 ^ n := by
     rw [Nat.div_eq_zero_iff]
     omega
    by_cases hw : w < 2 ^ 2 ^ n
    ·rw [this.2 hw, ajX (by omega)]; rfl
    ·rw [aj2 (by omega)]
     have : ¬ w / 2 ^ 2 ^ n = 0 := fun h => hw (this.1 h)
     simp only [beq_eq_false_iff_ne, ne_eq]
     omega
   ·rw [aj2 (by omega : ¬ a1 >= 0)]; rfl
  ·rw [aj2 h5]
   simp [isT, h5]
 ·rw [aj2 (by omega : ¬ a0 >= 0)]
  simp [isT, h0]
theorem br (g : Nat -> Bool) : ∀ (n x : Nat), (aQ g n).testBit x = (decide (x < n) && g x)
 | 0, x => by simp [aQ]
 | n + 1, x => by
  unfold aQ
  rw [alj, br g n x]
  by_cases hx : x = n
  ·subst hx
   cases hg : g x <;> simp [Nat.testBit_two_pow_self]
  ·have h1 : (if g n then 2 ^ n else 0 : Nat).testBit x = false := by
    split
    ·exact Nat.testBit_two_pow_of_ne (Ne.symm hx)
    ·exact akQ _
   rw [h1, alB]
   congr 1
   exact decide_eq_decide.2 (by omega)
theorem rm (g h : Nat -> Bool) (n : Nat) : aQ g n = aQ h n ↔ ∀ x, x < n -> g x = h x := by
 refine ⟨fun e x hx => ?_, fun e => vk e⟩
 have := congrArg (fun t => t.testBit x) e
 simpa [br, hx] using this
theorem KJ (w n : Nat) (h : w < 2 ^ n) : aQ w.testBit n = w := by
 apply aky
 intro x
 rw [br]
 by_cases hx : x < n
 ·simp [hx]
 ·have : w.testBit x = false := alW (aka h (aj7 (by decide) (by omega)))
  simp [hx, this]
def ins (x i b : Nat) : Nat := (x / 2 ^ i) * 2 ^ (i + 1) ||| b * 2 ^ i ||| (x &&& (2 ^ i - 1))
def del (x i : Nat) : Nat := (x / 2 ^ (i + 1)) * 2 ^ i ||| (x &&& (2 ^ i - 1))
theorem RV : ∀ n, n <= 5 -> ∀ i, i < n -> ∀ x, x < 2 ^ n -> del x i < 2 ^ (n - 1) /\ ins (del x i) i (x / 2 ^ i % 2) = x /\ ∀ b, b < 2 -> ys x i b = ins (del x i) i b := by decide +kernel
theorem R7 : ∀ n, n <= 5 -> ∀ i, i < n -> ∀ x, x < 2 ^ (n - 1) -> ins x i 0 < 2 ^ n /\ ins x i 1 < 2 ^ n := by decide +kernel
theorem YE : ∀ n, n <= 5 -> ∀ i, i < n -> ∀ x, x < 2 ^ (n - 1) -> ys (ins x i 0) i 0 = ins x i 0 /\ ys (ins x i 0) i 1 = ins x i 1 /\ ys (ins x i 1) i 0 = ins x i 0 /\ ys (ins x i 1) i 1 = ins x i 1 := by decide +kernel
theorem zr (n : Nat) (hn : n <= 5) (i : Nat) (hi : i < n) (x : Nat) (hx : x < 2 ^ (n - 1)) (b : Nat) (hb : b < 2) : ins x i b < 2 ^ n /\ ∀ c, c < 2 -> ys (ins x i c) i b = ins x i b := by
  obtain ⟨h1, h2⟩ := R7 n hn i hi x hx
  obtain ⟨h3, h4, h5, h6⟩ := YE n hn i hi x hx
  have hb' : b = 0 \/ b = 1 := by omega
  rcases hb' with rfl | rfl
  · exact ⟨h1, fun c hc => by have hc' : c = 0 \/ c = 1 := by omega
                              rcases hc' with rfl | rfl <;> assumption⟩
  · exact ⟨h2, fun c hc => by have hc' : c = 0 \/ c = 1 := by omega
                              rcases hc' with rfl | rfl <;> assumption⟩
def dep (w n i : Nat) : Bool := aQ (fun x => w.testBit (ins x i 0)) (2 ^ (n - 1)) != aQ (fun x => w.testBit (ins x i 1)) (2 ^ (n - 1))
theorem EP (w n i b : Nat) (hn : n <= 5) (hi : i < n) (hb : b < 2) (hw : w < 2 ^ 2 ^ n) : (aQ (fun x => w.testBit (ys x i b)) (2 ^ n) == w) = !dep w n i := by
 have key : aQ (fun x => w.testBit (ys x i b)) (2 ^ n) = w ↔ aQ (fun x => w.testBit (ins x i 0)) (2 ^ (n - 1)) = aQ (fun x => w.testBit (ins x i 1)) (2 ^ (n - 1)) := by
  conv => lhs; rhs; rw [<- KJ w (2 ^ n) hw]
  rw [rm, rm]
  constructor
  ·intro h x hx
   obtain ⟨a1, a2⟩ := zr n hn i hi x hx 0 (by omega)
   obtain ⟨b1, b2⟩ := zr n hn i hi x hx 1 (by omega)
   have e0 := h _ a1
   have e1 := h _ b1
   have c0 := (zr n hn i hi x hx b hb).2 0 (by omega)
   have c1 := (zr n hn i hi x hx b hb).2 1 (by omega)
   rw [c0] at e0
   rw [c1] at e1
   rw [<- e0, <- e1]
  ·intro h x hx
   obtain ⟨h1, h2, h3⟩ := RV n hn i hi x hx
   have e := h _ h1
   rw [h3 b hb]
   conv => rhs; rw [<- h2]
   have hc : x / 2 ^ i % 2 = 0 \/ x / 2 ^ i % 2 = 1 := by omega
   have hb' : b = 0 \/ b = 1 := by omega
   rcases hc with hc | hc <;> rcases hb' with rfl | rfl <;> rw [hc] <;> simp only [e]
 unfold dep
 by_cases h : aQ (fun x => w.testBit (ys x i b)) (2 ^ n) = w
 ·rw [beq_iff_eq.2 h]
  simp [key.1 h]
 ·rw [beq_eq_false_iff_ne.2 h]
  rw [bne_iff_ne.2 fun e => h (key.2 e)]
  rfl
def vars (w n m : Nat) : List Int := ((List.range m).filter fun i => dep w n i).map Int.ofNat
theorem aeD (w n i b : Nat) (hn : n <= 5) (hi : i < n) (hb : b < 2) (hw : w < 2 ^ 2 ^ n) : (((w ^^^ aQ (fun x => w.testBit (ys x i b)) (2 ^ n) : Nat) : Int) != 0) = dep w n i := by
 have h := EP w n i b hn hi hb hw
 cases hd : dep w n i with
 | true =>
  rw [hd] at h
  have h1 : ¬ aQ (fun x => w.testBit (ys x i b)) (2 ^ n) = w := by simpa using h
  rw [bne_iff_ne]
  intro e
  have : w ^^^ aQ (fun x => w.testBit (ys x i b)) (2 ^ n) = 0 := by exact_mod_cast e
  refine h1 (aky fun j => ?_)
  have := congrArg (fun t => t.testBit j) this
  simp only [alP, akQ] at this
  revert this
  cases w.testBit j <;> cases (aQ (fun x => w.testBit (ys x i b)) (2 ^ n)).testBit j <;> simp
 | false =>
  rw [hd] at h
  have h1 : aQ (fun x => w.testBit (ys x i b)) (2 ^ n) = w := by simpa using h
  rw [h1, Nat.xor_self]
  rfl
def aed (w n x i b : Nat) : Bool := (w ^^^ aQ (fun x => w.testBit (ys x i b)) (2 ^ n)).testBit x
def WL (c : Bool) (l : List Int) (v : Int) : List Int := if c then l ++ [v] else l
def agA (w n x : Nat) : Nat -> List Int
 | 0 => []
 | i + 1 => WL (aed w n x i 1) (WL (aed w n x i 0) (agA w n x i) ((2 * i : Nat) : Int)) ((2 * i + 1 : Nat) : Int)
theorem aX (N : Nat) (a b c : Int) (k : Bool -> Option β) : bK N a b c k = k (decide (b <= a) && decide (a <= c)) := by
 unfold bK VD
 by_cases h : b <= a
 ·rw [ajX (by omega : a >= b)]; rfl
 ·rw [aj2 (by omega : ¬ a >= b)]; rfl
theorem Da {n w : Nat} (hn : n <= 5) (hw : w < 2 ^ 2 ^ n) : w < 4294967296 := aka hw (aj7 (by decide) (bd hn) : 2 ^ 2 ^ n <= 2 ^ 32)
def eJ (s : Nat) (l : List Int) : Nat := l.foldl (fun s x => s ||| 2 ^ x.toNat) s
def pc : Nat -> Nat -> Nat
 | 0, _ => 0
 | f + 1, w => w % 2 + pc f (w / 2)
def iG (w : Nat) : Nat := pc 32 w
def q1 (c : Nat) : Nat := (c / 2 &&& 85) + (c &&& 85)
def q2 (c : Nat) : Nat := (c / 4 &&& 51) + (c &&& 51)
def q3 (c : Nat) : Nat := (c / 16 + c) &&& 15
def g1 (a : Int) : Int := Vu (bits .and .u64 (cW .u64 a 1) 6148914691236517205 + bits .and .u64 a 6148914691236517205)
def g2 (a : Int) : Int := Vu (bits .and .u64 (cW .u64 a 2) 3689348814741910323 + bits .and .u64 a 3689348814741910323)
def g3 (a : Int) : Int := bits .and .u64 (Vu (cW .u64 a 4 + a)) 1085102592571150095
def g4 (a : Int) : Int := Vu (a + cW .u64 a 8)
def cnt (g : Nat -> Bool) : Nat -> Nat
 | 0 => 0
 | m + 1 => cnt g m + (if g m then 1 else 0)
theorem ME (g : Nat -> Bool) : ∀ m, cnt g m <= m
 | 0 => aj8 _
 | m + 1 => by have := ME g m; simp only [cnt]; split <;> omega
def afL (w i x : Nat) : Bool := w.testBit x != w.testBit (x ^^^ 2 ^ i)
set_option maxRecDepth 100000
def agS (w : Nat) (l : List Int) : Nat := l.foldl (fun w x => w ^^^ 2 ^ x.toNat) w
theorem cr (N n : Nat) (hn : n <= 5) (k : Int -> Option β) : iT N (n : Int) k = k ((2 ^ 2 ^ n - 1 : Nat) : Int) := by
 have hs := bd hn
 have hp : 2 ^ 2 ^ n < 9223372036854775808 := qC (by omega)
 have h1 := akK (2 ^ n)
 unfold iT Pr
 rw [Hr n hn, aM (2 ^ n) (by omega), ajX (by omega : (0 : Int) <= (n : Int)), ajX (akj (2 ^ n)), ab rfl, ab rfl, bp (by omega) (by omega)]
 congr 1
 omega
def dU (a0 a1 m : Int) : Bool := isT a0 a1 && decide (a0 <= m)
theorem rC (N : Nat) (a0 a1 m : Int) (h1 : a1 < 9223372036854775808) (k : Bool -> Option β) : gu N a0 a1 m k = k (dU a0 a1 m) := by
 unfold gu Dk dU
 rw [bZ N a0 a1 h1]
 cases isT a0 a1 <;> rfl
def B (l : List UInt8) : ByteArray := ⟨l.toArray⟩
theorem pW (s : ByteArray) : B s.data.toList = s := by cases s; simp [B]
theorem aE (l : List UInt8) : (B l).size = l.length := by simp [B, ByteArray.size]
theorem VZ {a b : ByteArray} (h : a.data.toList = b.data.toList) : a = b := by rw [<- pW a, <- pW b, h]
theorem aG (l : List UInt8) : (B l).toList = l := Go.ByteArray.toList_mk l
theorem Lp (l : List UInt8) : (B l).data.toList = l := by simp [B]
theorem cK (l m : List UInt8) : B l ++ B m = B (l ++ m) := by
 apply VZ
 rw [ByteArray.toList_data_append]
 simp [B]
theorem Lo (l : List UInt8) (a b : Nat) : (B l).extract a b = B ((l.take b).drop a) := by
 apply VZ
 rw [ByteArray.data_extract]
 simp [B, amt, List.extract_eq_take_drop]
theorem d7 : ByteArray.empty = B [] := rfl
theorem abo (n : Int) : aq (([] : List Int) ++ [n]) = B [UInt8.ofNat n.toNat] := by
 simp [aq, B]
theorem ci (l : List Int) : aq l = B (l.map fun n => UInt8.ofNat n.toNat) := by simp [aq, B]
theorem Ln (l : List UInt8) (i : Nat) (h : i < l.length) : bt (B l) (i : Int) = (l[i].toNat : Int) := by
 simp [bt, B, List.getD, amF h]
theorem VY (c : UInt8) (r : List UInt8) : bt (B (c :: r)) 0 = (c.toNat : Int) := by simp [bt, B]
theorem Lq (c : UInt8) (r : List UInt8) : (B (c :: r)).extract (Int.toNat 1) (B (c :: r)).size = B r := by
 rw [Lo, aE]
 simp
theorem Ir (c : UInt8) : c.toNat < 256 := c.toNat_lt
def lf (n : Nat) : Bool := (decide (97 <= n) && decide (n < 102)) || (n == 48 || n == 49)
def bn (n : Nat) : Bool := n == 38 || (n == 124 || n == 94)
def pt : Nat -> List UInt8 -> Option (Tr × List UInt8)
 | 0, _ => none
 | _ + 1, [] => none
 | F + 1, c :: r =>
  cond (lf c.toNat) (some (.node c.toNat 0 .nil .nil, r))
   (cond (c.toNat == 33) (match pt F r with
    | some (T, r1) => some (.node 33 0 T .nil, r1)
    | none => none)
    (cond (bn c.toNat) (match pt F r with
     | some (A, r1) => match pt F r1 with
      | some (C, r2) => some (.node c.toNat 0 A C, r2)
      | none => none
     | none => none) none))
def tx : Tr -> List UInt8
 | .nil => []
 | .node a _ l r => UInt8.ofNat a.toNat :: (tx l ++ tx r)
def wf : Tr -> Prop
 | .nil => False
 | .node a b l r => b = 0 /\ ∃ n : Nat, a = n /\ n < 256 /\ ((lf n = true /\ l = .nil /\ r = .nil) \/ (n = 33 /\ wf l /\ r = .nil) \/ (bn n = true /\ wf l /\ wf r))
theorem ki : ∀ (F : Nat) (l : List UInt8) (T : Tr) (r : List UInt8), pt F l = some (T, r) -> wf T /\ l = tx T ++ r := by
 intro F
 induction F with
 | zero => intro l T r h; cases h
 | succ F ih =>
  intro l T r h
  cases l with
  | nil => cases h
  | cons c l =>
   simp only [pt] at h
   cases h1 : lf c.toNat with
   | true =>
    rw [h1, ajZ] at h
    cases h
    exact ⟨⟨rfl, c.toNat, rfl, Ir c, .inl ⟨h1, rfl, rfl⟩⟩, by simp [tx]⟩
   | false =>
    rw [h1, ajY] at h
    cases h2 : c.toNat == 33 with
    | true =>
     rw [h2, ajZ] at h
     have h2 := eq_of_beq h2
     cases h3 : pt F l with
     | none => rw [h3] at h; cases h
     | some p =>
      obtain ⟨U, r1⟩ := p
      rw [h3] at h
      cases h
      obtain ⟨k1, k2⟩ := ih _ _ _ h3
      refine ⟨⟨rfl, 33, rfl, by decide, .inr (.inl ⟨rfl, k1, rfl⟩)⟩, ?_⟩
      have : c = 33 := by rw [<- ame (x := c), h2]; rfl
      subst this
      simp only [tx, akh, ak4]
      rw [<- k2]
      rfl
    | false =>
     rw [h2, ajY] at h
     cases h3 : bn c.toNat with
     | false => rw [h3] at h; cases h
     | true =>
      rw [h3, ajZ] at h
      cases h4 : pt F l with
      | none => rw [h4] at h; cases h
      | some p =>
       obtain ⟨U, r1⟩ := p
       rw [h4] at h
       simp only at h
       cases h5 : pt F r1 with
       | none => rw [h5] at h; cases h
       | some q =>
        obtain ⟨V, r2⟩ := q
        rw [h5] at h
        cases h
        obtain ⟨k1, k2⟩ := ih _ _ _ h4
        obtain ⟨k3, k4⟩ := ih _ _ _ h5
        refine ⟨⟨rfl, c.toNat, rfl, Ir c, .inr (.inr ⟨h3, k1, k3⟩)⟩, ?_⟩
        simp only [tx, akc, ame, ak4, akt]
        rw [<- k4, <- k2]
theorem q9 : ∀ (T : Tr) (F : Nat) (r : List UInt8), wf T -> (tx T).length <= F -> pt F (tx T ++ r) = some (T, r) := by
 intro T
 induction T with
 | nil => intro F r h; exact h.elim
 | node a b l r ihl ihr =>
  intro F q h hF
  obtain ⟨rfl, n, rfl, hn, h⟩ := h
  have e : (UInt8.ofNat ((n : Int).toNat)).toNat = n := by simp; omega
  cases F with
  | zero => simp [tx] at hF
  | succ F =>
   simp only [tx, ak4, akt, aj4, aj6] at hF ⊢
   simp only [pt, e]
   rcases h with ⟨h1, rfl, rfl⟩ | ⟨rfl, h1, rfl⟩ | ⟨h1, h2, h3⟩
   ·rw [h1]; simp [tx]
   ·rw [show lf 33 = false from rfl, show ((33 : Nat) == 33) = true from rfl]
    simp only [ajZ, ajY, tx, akH]
    rw [ihl F q h1 (by simpa [tx] using hF)]
    rfl
   ·have e1 : lf n = false := by
     simp only [bn, akI, beq_iff_eq] at h1
     rcases h1 with rfl | rfl | rfl <;> rfl
    have e2 : (n == 33) = false := by
     simp only [bn, akI, beq_iff_eq] at h1
     rcases h1 with rfl | rfl | rfl <;> rfl
    rw [e1, e2, h1]
    simp only [ajZ, ajY]
    rw [ihl F _ h2 (by omega)]
    simp only
    rw [ihr F _ h3 (by omega)]
theorem O7 {T : Tr} (h : wf T) : 0 < (tx T).length := by
 cases T with
 | nil => exact h.elim
 | node a b l r => simp [tx]
theorem jv (N n : Nat) (k : Bool -> Option β) : eE N (n : Int) k = k (decide (97 <= n) && decide (n < 102)) := by
 simp only [eE, HT]
 by_cases h1 : 97 <= n
 ·rw [ajX (show (n : Int) >= 97 by omega), ajX h1]
  simp only [ajZ, aj9]
  congr 1
  by_cases h2 : n < 102
  ·rw [ajX h2, ajX (by omega)]
  ·rw [aj2 h2, aj2 (by omega)]
 ·rw [aj2 (show ¬ (n : Int) >= 97 by omega), aj2 h1]
  rfl
theorem cJ (n m : Nat) : ((n : Int) == (m : Int)) = (n == m) := by
 by_cases h : n = m
 ·subst h; simp
 ·rw [beq_eq_false_iff_ne.2 h, beq_eq_false_iff_ne.2 (by omega)]
theorem Cu (N : Nat) : ∀ (F : Nat) (l : List UInt8), l.length < F -> ∀ k : Tr -> ByteArray -> Option β,
  jQ N F (B l) k = match pt F l with | some (T, r) => k T (B r) | none => k .nil (B []) := by
 intro F
 induction F with
 | zero => intro l h; omega
 | succ F ih =>
  intro l hF k
  cases l with
  | nil =>
   simp only [jQ, Qu, H4, aG, d7, pt]
   rfl
  | cons c r =>
   simp only [aj4] at hF
   simp only [jQ, Qu, H4, aG, d7, VY, Lq]
   simp only [aE]
   rw [show ((c :: r == []) : Bool) = false from rfl]
   simp only [ajY]
   rw [ab (ajX (by simp only [aj4]; omega)), ab (ajX (by simp only [aj4]; omega)), jv]
   have hn := Ir c
   simp only [pt]
   generalize c.toNat = n at hn ⊢
   have e48 : ((n : Int) == 48) = (n == 48) := cJ n 48
   have e49 : ((n : Int) == 49) = (n == 49) := cJ n 49
   have e33 : ((n : Int) == 33) = (n == 33) := cJ n 33
   have e38 : ((n : Int) == 38) = (n == 38) := cJ n 38
   have e124 : ((n : Int) == 124) = (n == 124) := cJ n 124
   have e94 : ((n : Int) == 94) = (n == 94) := cJ n 94
   rw [e48, e49, e33, e38, e124, e94]
   simp only [lf, bn]
   have bin : ∀ k' : Tr -> Tr -> List UInt8 -> Option β, (jQ N F (B r) fun r6 r7 => cond (Tr.isNil r6) (k .nil (B [])) (jQ N F r7 fun r8 r9 => cond (Tr.isNil r8) (k .nil (B [])) (k (.node n 0 r6 r8) r9))) =
     match (match pt F r with
     | some (A, r1) => (match pt F r1 with
      | some (C, r2) => some (Tr.node n 0 A C, r2)
      | none => none)
     | none => none) with | some (T, r) => k T (B r) | none => k .nil (B []) := by
    intro _
    rw [ih r (by omega)]
    cases h1 : pt F r with
    | none => rfl
    | some p =>
     obtain ⟨A, r1⟩ := p
     obtain ⟨w1, w2⟩ := ki _ _ _ _ h1
     have hl : r1.length < F := by rw [w2] at hF; simp at hF; omega
     simp only
     have hA : Tr.isNil A = false := by cases A with | nil => exact w1.elim | node => rfl
     rw [hA, ajY, ih r1 hl]
     cases h2 : pt F r1 with
     | none => rfl
     | some q =>
      obtain ⟨C, r2⟩ := q
      obtain ⟨w3, w4⟩ := ki _ _ _ _ h2
      have hC : Tr.isNil C = false := by cases C with | nil => exact w3.elim | node => rfl
      simp only
      rw [hC, ajY]
   by_cases h1 : n = 33
   ·subst h1
    simp
    rw [ih r (by omega)]
    cases h1 : pt F r with
    | none => rfl
    | some p =>
     obtain ⟨A, r1⟩ := p
     obtain ⟨w1, w2⟩ := ki _ _ _ _ h1
     have hA : Tr.isNil A = false := by cases A with | nil => exact w1.elim | node => rfl
     simp only
     rw [hA, ajY]
   ·have f1 := beq_eq_false_iff_ne.2 h1
    by_cases h2 : n = 38
    ·subst h2; simpa using bin fun _ _ _ => none
    ·have f2 := beq_eq_false_iff_ne.2 h2
     by_cases h3 : n = 124
     ·subst h3; simpa using bin fun _ _ _ => none
     ·have f3 := beq_eq_false_iff_ne.2 h3
      by_cases h4 : n = 94
      ·subst h4; simpa using bin fun _ _ _ => none
      ·have f4 := beq_eq_false_iff_ne.2 h4
       rw [f1, f2, f3, f4]
       cases (decide (97 <= n) && decide (n < 102)) <;> cases h5 : n == 48 <;> cases h6 : n == 49 <;> simp
theorem zb {α : Type} (l : List α) (i : Nat) (h : i < l.length) : l.drop i = l[i] :: l.drop (i + 1) := alJ h
theorem qN {α : Type} {l m r : List α} {i : Nat} (h : l.drop i = m ++ r) (hi : i <= l.length) : l.drop (l.length - r.length) = r /\ l.length - r.length <= l.length /\ i + m.length = l.length - r.length /\ r.length <= l.length := by
 have e : l.length - i = m.length + r.length := by rw [<- alH, h, aj6]
 have e2 : l.length - r.length = i + m.length := by omega
 refine ⟨?_, by omega, by omega, by omega⟩
 rw [e2, <- ams, h]
 simp
theorem B7 (N : Nat) (l : List UInt8) (hl : l.length <= 1048576) : ∀ (F i : Nat), l.length - i < F -> i <= l.length -> ∀ k : Int -> Option β,
  oK N F (B l) (i : Int) k = match pt F (l.drop i) with | some (_, r) => k ((l.length - r.length : Nat) : Int) | none => k (-1) := by
 intro F
 induction F with
 | zero => intro i h; omega
 | succ F ih =>
  intro i hF hi k
  simp only [oK, aeA, aa8, aE]
  rcases akg i l.length with hlt | hge
  ·rw [aj2 (show ¬ (i : Int) >= (l.length : Int) by omega), Ln l i hlt]
   simp only [ajY]
   rw [ab (ajX (by omega)), ab (ajX (by omega))]
   rw [show w64 ((i : Int) + 1) = ((i + 1 : Nat) : Int) by rw [bp] <;> omega]
   rw [zb l i hlt]
   have hlen : (l.drop (i + 1)).length = l.length - (i + 1) := alH
   simp only [pt]
   have hn := Ir l[i]
   generalize l[i].toNat = n at hn ⊢
   have bin : ∀ d : Int, (oK N F (B l) ((i + 1 : Nat) : Int) fun r4 => cond (decide (r4 < 0)) (k (-1)) (oK N F (B l) r4 fun r5 => k r5)) =
     match (match pt F (l.drop (i + 1)) with
     | some (A, r1) => (match pt F r1 with
      | some (C, r2) => some (Tr.node d 0 A C, r2)
      | none => none)
     | none => none) with | some (_, r) => k ((l.length - r.length : Nat) : Int) | none => k (-1) := by
    intro d
    rw [ih (i + 1) (by omega) (by omega)]
    cases h1 : pt F (l.drop (i + 1)) with
    | none => rfl
    | some p =>
     obtain ⟨A, r1⟩ := p
     obtain ⟨w1, w2⟩ := ki _ _ _ _ h1
     obtain ⟨s1, s2, s3, s4⟩ := qN w2 (by omega)
     simp only
     rw [aj2 (by omega), ajY, ih _ (by omega) s2, s1]
     cases h2 : pt F r1 <;> rfl
   have g : ∀ m : Nat, ((n : Int) == (m : Int)) = (n == m) := cJ n
   have g97 := g 97; have g98 := g 98; have g99 := g 99; have g100 := g 100; have g101 := g 101; have g48 := g 48
   have g49 := g 49; have g33 := g 33; have g38 := g 38; have g124 := g 124; have g94 := g 94
   simp only [alQ] at g97 g98 g99 g100 g101 g48 g49 g33 g38 g124 g94
   simp only [g97, g98, g99, g100, g101, g48, g49, g33, g38, g124, g94]
   have leaf : (i + 1 : Nat) = l.length - (l.drop (i + 1)).length := by omega
   by_cases hlf : lf n = true
   ·rw [hlf]
    simp only [ajZ]
    rw [<- leaf]
    simp only [lf, akI, aj0, decide_eq_true_eq, beq_iff_eq] at hlf
    have : n = 97 \/ n = 98 \/ n = 99 \/ n = 100 \/ n = 101 \/ n = 48 \/ n = 49 := by omega
    rcases this with rfl | rfl | rfl | rfl | rfl | rfl | rfl <;> rfl
   ·have hlf := eq_false_of_ne_true hlf
    rw [hlf]
    simp only [lf, ak3, Bool.and_eq_false_iff, decide_eq_false_iff_not, beq_eq_false_iff_ne] at hlf
    rw [beq_eq_false_iff_ne.2 (show n ≠ 97 by omega), beq_eq_false_iff_ne.2 (show n ≠ 98 by omega), beq_eq_false_iff_ne.2 (show n ≠ 99 by omega), beq_eq_false_iff_ne.2 (show n ≠ 100 by omega), beq_eq_false_iff_ne.2 (show n ≠ 101 by omega), beq_eq_false_iff_ne.2 hlf.2.1, beq_eq_false_iff_ne.2 hlf.2.2]
    simp only [ajY]
    by_cases e8 : n = 33
    ·rw [e8, show ((33 : Nat) == 33) = true from rfl]
     simp only [ajZ]
     rw [ih (i + 1) (by omega) (by omega)]
     cases pt F (l.drop (i + 1)) <;> rfl
    rw [beq_eq_false_iff_ne.2 e8]
    simp only [ajY, bn]
    by_cases e9 : n = 38
    ·rw [e9, show ((38 : Nat) == 38) = true from rfl]; exact bin 38
    rw [beq_eq_false_iff_ne.2 e9]
    by_cases e10 : n = 124
    ·rw [e10, show ((124 : Nat) == 124) = true from rfl]; exact bin 124
    rw [beq_eq_false_iff_ne.2 e10]
    by_cases e11 : n = 94
    ·rw [e11, show ((94 : Nat) == 94) = true from rfl]; exact bin 94
    rw [beq_eq_false_iff_ne.2 e11]
    rfl
  ·rw [ajX (show (i : Int) >= (l.length : Int) by omega), ajZ, alS hge]
   rfl
theorem pE (N : Nat) (hN : 1048576 < N) (l : List UInt8) (k : Bool -> Option β) : wD N (B l) k = k (decide (l.length <= 60) && (match pt 1048577 l with | some (_, []) => true | _ => false)) := by
 simp only [wD, aa9, aE]
 by_cases h : l.length <= 60
 ·rw [ajX (show (l.length : Int) <= 60 by omega), ajX h]
  simp only [ajZ, aj9]
  by_cases h0 : l.length = 0
  ·have : l = [] := akw h0
   subst this
   rfl
  ·rw [ajX (show (l.length : Int) > 0 by omega), ajZ]
   show oK N N (B l) ((0 : Nat) : Int) _ = _
   rw [B7 N l (by omega) N 0 (by omega) (by omega), ali]
   have hfu : pt N l = pt 1048577 l := by
    cases h1 : pt N l with
    | some p =>
     obtain ⟨T, r⟩ := p
     obtain ⟨w1, w2⟩ := ki _ _ _ _ h1
     rw [w2]
     rw [q9 T _ r w1]
     rw [w2] at h; simp at h; omega
    | none =>
     cases h2 : pt 1048577 l with
     | none => rfl
     | some p =>
      obtain ⟨T, r⟩ := p
      obtain ⟨w1, w2⟩ := ki _ _ _ _ h2
      rw [w2, q9 T _ r w1] at h1
      ·cases h1
      ·rw [w2] at h; simp at h; omega
   rw [hfu]
   cases h1 : pt 1048577 l with
   | none => simp; rfl
   | some p =>
    obtain ⟨T, r⟩ := p
    obtain ⟨w1, w2⟩ := ki _ _ _ _ h1
    cases r with
    | nil => simp
    | cons c r =>
     simp only [aj4]
     congr 1
     refine beq_eq_false_iff_ne.2 ?_
     have : (tx T ++ c :: r).length = l.length := by rw [<- w2]
     simp at this
     omega
 ·rw [aj2 (show ¬ (l.length : Int) <= 60 by omega), aj2 h]
  rfl
theorem a6 (g : Nat -> Nat -> Option β) (m : Nat) (r : Option β) (hs : ∀ F i, i < m -> g (F + 1) i = g F (i + 1)) (he : ∀ F, g (F + 1) m = r) :
  ∀ (F i : Nat), i <= m -> m - i < F -> g F i = r := by
 intro F
 induction F with
 | zero => intro i _ h; omega
 | succ F ih =>
  intro i hi hF
  rcases akg i m with h | h
  ·rw [hs F i h]; exact ih (i + 1) h (by omega)
  ·have : i = m := by omega
   subst this; exact he F
def sg (m : Nat) : Int := if m % 2 = 1 then -1 else 1
def bw (w x : Nat) : Nat := if w.testBit x then 1 else 0
theorem MA (w x : Nat) : bw w x <= 1 := by unfold bw; split <;> omega
def tm (w u x : Nat) : Int := sg (bw w x) * sg (iG (u &&& x))
theorem B4 {n w : Nat} (hn : n <= 5) (hw : w < 2 ^ 2 ^ n) : isT (n : Int) (w : Int) = true := by
 have h4 : ((w : Nat) : Int) < 2 ^ 2 ^ n := by exact_mod_cast hw
 simp only [isT, aj0, decide_eq_true_eq, akc]
 exact ⟨⟨⟨by omega, by omega⟩, by omega⟩, h4⟩
theorem gf {n w : Nat} (hn : n <= 5) (hw : w < 2 ^ 2 ^ n) : w < 4294967296 :=
 aka hw (akz (aj7 (by decide) (bd hn)) (by decide))
theorem FE {α : Type} (p : List α) (y z : α) (r : List α) : wr (p ++ y :: r) (p.length : Int) z = p ++ z :: r := by
 simp [wr]
theorem bV (N n : Nat) (w : Int) (hn : n <= 5) (k : Int -> Option β) : zj2 N (n : Int) w k = k ((2 ^ n : Nat) : Int) := by
 unfold zj2 zb2
 rw [ab (ajX (by omega)), aM n (by omega)]
theorem cm (N w x : Nat) (n : Int) (hw : w < 4294967296) (k : Int -> Option β) : zj3 N n (w : Int) (x : Int) k = k (bw w x : Int) := by
 unfold zj3 zb3
 rw [ab (ajX (by omega)), gz w x (by omega)]
 rfl
def en (l z : List Int) : Nat -> List Int
 | 0 => z
 | i + 1 => wr (en l z i) (iG i : Int) (w64 (rd 0 (en l z i) (iG i : Int) + w64 (rd 0 l (i : Int) * rd 0 l (i : Int))))
theorem sa (n : Nat) : 0 < 2 ^ n := Nat.pow_pos (by decide)
def Nt (n : Int) : Prop := -9223372036854775808 <= n /\ n <= 9223372036854775807
theorem cT (n : Nat) (h : n < 256) : w8 (n : Int) = n := by
 have := IntKind.wrap_u8 (n : Int)
 show IntKind.wrap .u8 (n : Int) = n
 rw [this]
 omega
theorem dy (N : Nat) (n : Int) (h : Nt n) (k : ByteArray -> Option β) : fQ N n k = k (B (Lib.itoa n)) := by
 unfold fQ PS strconv_Itoa
 rw [ab (ajX h.1), ab (ajX h.2)]
 rfl
theorem Dt (n : Nat) : ∀ y ∈ List.replicate n (0 : Int), Nt y := by
 intro y hy
 have := (List.mem_replicate.1 hy).2
 subst this
 unfold Nt; omega
theorem Mz (w x : Nat) : ((bw w x : Int) == 0) = !w.testBit x := by unfold bw; cases w.testBit x <;> rfl
theorem jY (w x : Nat) : ((bw w x : Int) == 1) = w.testBit x := by unfold bw; cases w.testBit x <;> rfl
theorem mQ (w x : Nat) (hw : w < 9223372036854775808) : bits .and .i64 (cW .i64 (w : Int) (x : Int)) 1 = (bw w x : Int) := gz w x hw
def da (p : Nat -> Bool) : Nat -> Bool
 | 0 => true
 | m + 1 => da p m && p m
theorem jd {p : Nat -> Bool} : ∀ {m : Nat}, da p m = true -> ∀ i, i < m -> p i = true
 | 0, _, i, h => by omega
 | m + 1, h, i, hi => by
  simp only [da, aj0] at h
  rcases akg i m with h1 | h1
  ·exact jd h.1 i h1
  ·have : i = m := by omega
   subst this; exact h.2
theorem sM {p : Nat -> Bool} : ∀ {m : Nat}, (∀ i, i < m -> p i = true) -> da p m = true
 | 0, _ => rfl
 | m + 1, h => by
  simp only [da, aj0]
  exact ⟨sM fun i hi => h i (by omega), h m (by omega)⟩
theorem tT (g : Nat -> Nat -> Option β) (p : Nat -> Bool) (m : Nat) (r0 r1 : Option β) (hs : ∀ F i, i < m -> g (F + 1) i = cond (p i) (g F (i + 1)) r0) (he : ∀ F, g (F + 1) m = r1) :
  ∀ F, m < F -> g F 0 = cond (da p m) r1 r0 := by
 have key : ∀ (F i : Nat), i <= m -> m - i < F -> da p i = true -> g F i = cond (da p m) r1 r0 := by
  intro F
  induction F with
  | zero => intro i _ h; omega
  | succ F ih =>
   intro i hi hF ha
   rcases akg i m with h | h
   ·rw [hs F i h]
    cases hp : p i with
    | true => exact ih (i + 1) h (by omega) (by simp only [da, ha, hp, alo])
    | false =>
     have : da p m = false := by
      cases hm : da p m with
      | false => rfl
      | true => rw [jd hm i h] at hp; cases hp
     rw [this]; rfl
   ·have : i = m := by omega
    subst this
    rw [he, ha]; rfl
 intro F hF
 exact key F 0 (aks _) (by omega) rfl
def R (w n i b : Nat) : Nat := aQ (fun x => w.testBit (ins x i b)) (2 ^ (n - 1))
def mono (w n i : Nat) : Bool := (R w n i 0 &&& R w n i 1) == R w n i 0
def agT (w n : Nat) : Bool := da (mono w n) n && (!w.testBit 0 && w.testBit (2 ^ n - 1))
def turn (w i x : Nat) : Bool := !x.testBit i && afL w i x
theorem mV (N n i : Nat) (hN : 64 < N) (hn : n <= 5) (k : Int -> Option β) : Ay N (n : Int) (i : Int) k = k (aQ (fun x => x.testBit i) (2 ^ n) : Int) := by
 have hs := bd hn
 have hz : (0 : Int) <= ((2 ^ n : Nat) : Int) := akj _
 refine a6 (fun F x => ww N F (n : Int) (i : Int) (aQ (fun x => x.testBit i) x : Int) (x : Int) fun e => k e) (2 ^ n) _ (fun F x hx => ?_) (fun F => ?_) N 0 (by omega) (by omega)
 ·simp only [ww, abc, VB]
  have ht : aQ (fun x => x.testBit i) x < 2 ^ 63 := aka (bU _ x) (aj7 (by decide) (by omega))
  have hp : 2 ^ x < 2 ^ 63 := akF (by decide) (by omega)
  rw [ab (ajX (by omega)), aM n (by omega), ajX (by omega), ajZ, ab (ajX (by omega)), mQ x i (by omega), jY, aw x (by omega)]
  cases hxb : x.testBit i with
  | true =>
   have e : aQ (fun x => x.testBit i) (x + 1) = aQ (fun x => x.testBit i) x ||| 2 ^ x := by simp [aQ, hxb]
   rw [ajZ, ab (ajX (by omega)), aM x (by omega), bOr _ _ ht hp, e]
  | false =>
   have e : aQ (fun x => x.testBit i) (x + 1) = aQ (fun x => x.testBit i) x := by simp [aQ, hxb]
   rw [ajY, e]
 ·simp only [ww, abc, VB]
  rw [ab (ajX (by omega)), aM n (by omega), aj2 (by omega), ajY]
def agU (w n i : Nat) : Bool := R w n i 0 == 0
set_option linter.unusedSimpArgs false
set_option linter.unusedSectionVars false
def qo (n w : Nat) : Nat -> Nat -> Option (List UInt8)
 | 0, _ => none
 | d + 1, i => cond (w == vw n i) (some [UInt8.ofNat (97 + i)]) (cond (w == full n - vw n i) (some [33, UInt8.ofNat (97 + i)]) (qo n w d (i + 1)))
def dp (T : List Int) (o : Bool) (w a : Nat) : Nat -> Nat -> Option Nat
 | 0, _ => none
 | d + 1, b => cond (decide (1 <= gt T b) && decide (gt T a + gt T b = gt T w) && (cond o (a &&& b) (a ||| b) == w)) (some b) (dp T o w a d (b + 1))
def bH (T : List Int) (o : Bool) (w L : Nat) : Nat -> Nat -> Option (Nat × Nat)
 | 0, _ => none
 | d + 1, a => cond (decide (1 <= gt T a) && decide (gt T a < gt T w)) (match dp T o w a L 0 with | some b => some (a, b) | none => bH T o w L d (a + 1)) (bH T o w L d (a + 1))
def fmF (T : List Int) (n : Nat) : Nat -> Nat -> List UInt8
 | 0, _ => []
 | F + 1, w => cond (w == 0) [48] (cond (w == full n) [49] (match cond (decide (gt T w = 1)) (qo n w n 0) none with
  | some s => s
  | none => match bH T true w (2 ^ 2 ^ n) (2 ^ 2 ^ n) 0 with
   | some (a, b) => 38 :: fmF T n F a ++ fmF T n F b
   | none => match bH T false w (2 ^ 2 ^ n) (2 ^ 2 ^ n) 0 with
    | some (a, b) => 124 :: fmF T n F a ++ fmF T n F b
    | none => []))
theorem Cm {T : List Int} {o : Bool} {w a b : Nat} : ∀ (d i : Nat), dp T o w a d i = some b -> 1 <= gt T b /\ gt T a + gt T b = gt T w /\ cond o (a &&& b) (a ||| b) = w /\ i <= b /\ b < i + d
 | 0, _, h => by cases h
 | d + 1, i, h => by
  unfold dp at h
  cases hb : (decide (1 <= gt T i) && decide (gt T a + gt T i = gt T w) && (cond o (a &&& i) (a ||| i) == w)) with
  | true =>
   rw [hb, ajZ, aj1] at h
   subst h
   simp only [aj0, decide_eq_true_eq, beq_iff_eq] at hb
   exact ⟨hb.1.1, hb.1.2, hb.2, aj8 _, by omega⟩
  | false =>
   rw [hb, ajY] at h
   obtain ⟨h1, h2, h3, h4, h5⟩ := Cm d (i + 1) h
   exact ⟨h1, h2, h3, by omega, by omega⟩
theorem pq {T : List Int} {o : Bool} {w L a b : Nat} : ∀ (d i : Nat), bH T o w L d i = some (a, b) -> 1 <= gt T a /\ gt T a < gt T w /\ a < i + d /\ 1 <= gt T b /\ gt T a + gt T b = gt T w /\ b < L
 | 0, _, h => by cases h
 | d + 1, i, h => by
  unfold bH at h
  cases hb : (decide (1 <= gt T i) && decide (gt T i < gt T w)) with
  | true =>
   rw [hb, ajZ] at h
   cases hp : dp T o w i L 0 with
   | some b' =>
    rw [hp] at h
    simp only [aj1, akp] at h
    obtain ⟨rfl, rfl⟩ := h
    simp only [aj0, decide_eq_true_eq] at hb
    obtain ⟨h1, h2, _, _, h5⟩ := Cm L 0 hp
    exact ⟨hb.1, hb.2, by omega, h1, h2, by omega⟩
   | none =>
    rw [hp] at h
    obtain ⟨h1, h2, h3, h4⟩ := pq d (i + 1) h
    exact ⟨h1, h2, by omega, h4⟩
  | false =>
   rw [hb, ajY] at h
   obtain ⟨h1, h2, h3, h4⟩ := pq d (i + 1) h
   exact ⟨h1, h2, by omega, h4⟩
theorem kl (T : List Int) (i : Nat) : rd 0 T (i : Int) = gt T i := by unfold rd gt; rw [akc]
theorem gs2 (s t : List UInt8) (h : s.length + t.length <= 1000000) (X : Option β) : gd (decide ((B s).size + (B t).size <= 9223372036854775807)) X = X := ab (ajX (by rw [aE, aE]; omega))
theorem Ew {T : List Int} {o : Bool} {w a d : Nat} (h : gt T 0 = 0) : dp T o w a (d + 1) 0 = dp T o w a d 1 := by
 show cond (decide (1 <= gt T 0) && _ && _) _ _ = _
 rw [h, show decide ((1 : Int) <= 0) = false from rfl, akv, akv, ajY]
theorem Ev {T : List Int} {o : Bool} {w a i : Nat} (h : gt T i = 0) : dp T o w a 1 i = none := by
 show cond (decide (1 <= gt T i) && _ && _) _ _ = _
 rw [h, show decide ((1 : Int) <= 0) = false from rfl, akv, akv, ajY]
 rfl
section
variable (N : Nat) (hN : 1048576 < N) {n : Nat} (hn : n <= 3) {T : List Int} (hT : wb n T) {w a : Nat} (hw : w < 2 ^ 2 ^ n) (ha : a < 2 ^ 2 ^ n) (g : Nat -> List UInt8)
 (hg : ∀ x, (g x).length <= 1000) (ha1 : 1 <= gt T a) (ha2 : gt T a < gt T w)
include hN hn hT hw ha hg ha1 ha2
theorem rl (o : Bool) (self : List Int -> Int -> Int -> (ByteArray -> Option β) -> Option β) (hs : ∀ x, x < 2 ^ 2 ^ n -> 1 <= gt T x -> gt T x < gt T w -> ∀ K, self T (n : Int) (x : Int) K = K (B (g x))) (k0 : ByteArray -> Option β) (k1 : List Int -> Int -> Int -> Int -> Int -> Option β) :
  ∀ (d F i : Nat), i + d = 2 ^ 2 ^ n - 1 -> d < F -> lW N self F T (n : Int) (w : Int) (cond o 0 1) (a : Int) (i : Int) k0 k1 =
   match dp T o w a (d + 1) i with
   | some b => k0 (B (cond o 38 124 :: g a ++ g b))
   | none => k1 T (n : Int) (w : Int) (cond o 0 1) (a : Int)
 | d, 0, _, _, h => absurd h (akW _)
 | 0, F + 1, i, hi, _ => by
  obtain rfl : i = 2 ^ 2 ^ n - 1 := by omega
  rw [Ev hT.full]
  show Dx N self T (n : Int) (w : Int) (cond o 0 1) (a : Int) _ _ k0 k1 = _
  unfold Dx HO
  rw [cr N n (by omega), aj2 (by omega)]
  rfl
 | d + 1, F + 1, i, hi, hF => by
  have hL := hT.len
  have ih := rl o self hs k0 k1 d F (i + 1) (by omega) (by omega)
  have hla := hT.le a
  have hlb := hT.le i
  have hlw := hT.le w
  have hL2 : 2 ^ 2 ^ n <= 256 := by
   obtain rfl | rfl | rfl | rfl : n = 0 \/ n = 1 \/ n = 2 \/ n = 3 := by omega
   all_goals decide
  show Dx N self T (n : Int) (w : Int) (cond o 0 1) (a : Int) (i : Int) _ k0 k1 = _
  unfold Dx HO
  rw [cr N n (by omega), ajX (by omega : (i : Int) < ((2 ^ 2 ^ n - 1 : Nat) : Int)), ajZ, ab (ajX (by omega)), ab (ajX (by omega)), ab (ajX (by omega)), ab (ajX (by omega)), ab (ajX (by omega)), ab (ajX (by omega))]
  rw [kl, kl, kl, bp (by omega) (by omega), aw i (by omega), bAnd a i (by omega) (by omega), bOr a i (by omega) (by omega)]
  dsimp only
  have hp : dp T o w a (d + 1 + 1) i = cond (decide (1 <= gt T i) && decide (gt T a + gt T i = gt T w) && (cond o (a &&& i) (a ||| i) == w)) (some i) (dp T o w a (d + 1) (i + 1)) := rfl
  rw [hp]
  by_cases e1 : gt T a + gt T i = gt T w
  ·have hi1 : 1 <= gt T i := by omega
   have hilt : gt T i < gt T w := by omega
   have b1 : ((gt T a + gt T i) != gt T w) = false := by simp [e1]
   rw [b1, ajY, ajX hi1, ajX e1, aj9, aj9]
   have ga := hg a
   have gi := hg i
   cases o with
   | true =>
    rw [ajZ, ajZ, ajZ, show ((0 : Int) == 0) = true from rfl, ajZ]
    by_cases e2 : a &&& i = w
    ·rw [show (((a &&& i : Nat) : Int) == (w : Int)) = true by simp [e2], show (a &&& i == w) = true by simp [e2], ajZ, ajZ, hs a ha ha1 ha2, show aq [38] = B [38] from rfl, gs2 _ _ (by simp only [aj4, aki]; omega), hs i (by omega) hi1 hilt, cK, gs2 _ _ (by simp only [aj6, aj4, aki]; omega), cK]
     rfl
    ·rw [show (((a &&& i : Nat) : Int) == (w : Int)) = false by rw [beq_eq_false_iff_ne]; omega, show (a &&& i == w) = false by simp [e2], ajY, ajY, show ((0 : Int) == 1) = false from rfl, ajY]
     exact ih
   | false =>
    rw [ajY, ajY, ajY, show ((1 : Int) == 0) = false from rfl, ajY, show ((1 : Int) == 1) = true from rfl, ajZ]
    by_cases e2 : a ||| i = w
    ·rw [show (((a ||| i : Nat) : Int) == (w : Int)) = true by simp [e2], show (a ||| i == w) = true by simp [e2], ajZ, ajZ, hs a ha ha1 ha2, show aq [124] = B [124] from rfl, gs2 _ _ (by simp only [aj4, aki]; omega), hs i (by omega) hi1 hilt, cK, gs2 _ _ (by simp only [aj6, aj4, aki]; omega), cK]
     rfl
    ·rw [show (((a ||| i : Nat) : Int) == (w : Int)) = false by rw [beq_eq_false_iff_ne]; omega, show (a ||| i == w) = false by simp [e2], ajY, ajY]
     exact ih
  ·rw [show ((gt T a + gt T i) != gt T w) = true by simp [e1], ajZ, aj2 e1, alE, akv, ajY]
   exact ih
end
theorem Et {T : List Int} {o : Bool} {w L i : Nat} (h : gt T i = 0) : bH T o w L 1 i = none := by
 show cond (decide (1 <= gt T i) && _) _ _ = _
 rw [h, show decide ((1 : Int) <= 0) = false from rfl, akv, ajY]
 rfl
theorem Eu {T : List Int} {o : Bool} {w L d : Nat} (h : gt T 0 = 0) : bH T o w L (d + 1) 0 = bH T o w L d 1 := by
 show cond (decide (1 <= gt T 0) && _) _ _ = _
 rw [h, show decide ((1 : Int) <= 0) = false from rfl, akv, ajY]
section
variable (N : Nat) (hN : 1048576 < N) {n : Nat} (hn : n <= 3) {T : List Int} (hT : wb n T) {w : Nat} (hw : w < 2 ^ 2 ^ n) (g : Nat -> List UInt8) (hg : ∀ x, (g x).length <= 1000)
include hN hn hT hw hg
theorem rk (o : Bool) (self : List Int -> Int -> Int -> (ByteArray -> Option β) -> Option β) (hs : ∀ x, x < 2 ^ 2 ^ n -> 1 <= gt T x -> gt T x < gt T w -> ∀ K, self T (n : Int) (x : Int) K = K (B (g x))) (k0 : ByteArray -> Option β) (k1 : List Int -> Int -> Int -> Int -> Option β) :
  ∀ (d F i : Nat), i + d = 2 ^ 2 ^ n - 1 -> 1 <= i -> d < F -> iU N self F T (n : Int) (w : Int) (cond o 0 1) (i : Int) k0 k1 =
   match bH T o w (2 ^ 2 ^ n) (d + 1) i with
   | some (a, b) => k0 (B (cond o 38 124 :: g a ++ g b))
   | none => k1 T (n : Int) (w : Int) (cond o 0 1)
 | d, 0, _, _, _, h => absurd h (akW _)
 | 0, F + 1, i, hi, _, _ => by
  obtain rfl : i = 2 ^ 2 ^ n - 1 := by omega
  rw [Et hT.full]
  show Dy N self T (n : Int) (w : Int) (cond o 0 1) _ _ k0 k1 = _
  unfold Dy HP
  rw [cr N n (by omega), aj2 (by omega)]
  rfl
 | d + 1, F + 1, i, hi, h1, hF => by
  have hL := hT.len
  have hlw := hT.le w
  have hL2 : 2 ^ 2 ^ n <= 256 := by
   obtain rfl | rfl | rfl | rfl : n = 0 \/ n = 1 \/ n = 2 \/ n = 3 := by omega
   all_goals decide
  have hmid := hT.mid i (by omega) (by omega)
  have ih := rk o self hs k0 k1 d F (i + 1) (by omega) (by omega) (by omega)
  show Dy N self T (n : Int) (w : Int) (cond o 0 1) (i : Int) _ k0 k1 = _
  unfold Dy HP
  rw [cr N n (by omega), ajX (by omega : (i : Int) < ((2 ^ 2 ^ n - 1 : Nat) : Int)), ajZ, ab (ajX (by omega)), ab (ajX (by omega)), ab (ajX (by omega)), ab (ajX (by omega)), kl, kl, aw i (by omega)]
  have hp : bH T o w (2 ^ 2 ^ n) (d + 1 + 1) i = cond (decide (1 <= gt T i) && decide (gt T i < gt T w)) (match dp T o w i (2 ^ 2 ^ n) 0 with | some b => some (i, b) | none => bH T o w (2 ^ 2 ^ n) (d + 1) (i + 1)) (bH T o w (2 ^ 2 ^ n) (d + 1) (i + 1)) := rfl
  rw [hp, ajX hmid, aj9]
  by_cases e1 : gt T i < gt T w
  ·have hz : dp T o w i (2 ^ 2 ^ n) 0 = dp T o w i (2 ^ 2 ^ n - 2 + 1) 1 := by
    rw [show 2 ^ 2 ^ n = 2 ^ 2 ^ n - 2 + 1 + 1 by omega]
    exact Ew hT.zero
   rw [aj2 (by omega : ¬ gt T i >= gt T w), ajY, ajX e1, ajZ, hz]
   have hb := rl N hN hn hT hw (by omega : i < 2 ^ 2 ^ n) g hg hmid e1 o self hs k0 (fun x1 x2 x3 x4 x5 => iU N self F x1 x2 x3 x4 (w64 (x5 + 1)) k0 k1) (2 ^ 2 ^ n - 2) N 1 (by omega) (by omega)
   refine alh hb ?_
   cases dp T o w i (2 ^ 2 ^ n - 2 + 1) 1 with
   | some b => rfl
   | none =>
    show iU N self F T (n : Int) (w : Int) (cond o 0 1) (w64 ((i : Int) + 1)) k0 k1 = _
    rw [aw i (by omega)]
    exact ih
  ·rw [ajX (by omega : gt T i >= gt T w), ajZ, aj2 e1, ajY]
   exact ih
theorem CX (self : List Int -> Int -> Int -> (ByteArray -> Option β) -> Option β) (hs : ∀ x, x < 2 ^ 2 ^ n -> 1 <= gt T x -> gt T x < gt T w -> ∀ K, self T (n : Int) (x : Int) K = K (B (g x))) (hL4 : 2 <= 2 ^ 2 ^ n) (k0 : ByteArray -> Option β) (k1 : Option β) :
  iV N self N T (n : Int) (w : Int) 0 k0 k1 =
   match bH T true w (2 ^ 2 ^ n) (2 ^ 2 ^ n) 0 with
   | some (a, b) => k0 (B (38 :: g a ++ g b))
   | none => match bH T false w (2 ^ 2 ^ n) (2 ^ 2 ^ n) 0 with
    | some (a, b) => k0 (B (124 :: g a ++ g b))
    | none => k1 := by
 obtain ⟨M, rfl⟩ : ∃ M, N = M + 3 := ⟨N - 3, by omega⟩
 have hL2 : 2 ^ 2 ^ n <= 256 := by
  obtain rfl | rfl | rfl | rfl : n = 0 \/ n = 1 \/ n = 2 \/ n = 3 := by omega
  all_goals decide
 have hz : ∀ o, bH T o w (2 ^ 2 ^ n) (2 ^ 2 ^ n) 0 = bH T o w (2 ^ 2 ^ n) (2 ^ 2 ^ n - 2 + 1) 1 := fun o => by
  have h := Eu (T := T) (o := o) (w := w) (L := 2 ^ 2 ^ n) (d := 2 ^ 2 ^ n - 2 + 1) hT.zero
  rw [show 2 ^ 2 ^ n - 2 + 1 + 1 = 2 ^ 2 ^ n by omega] at h
  exact h
 rw [hz true, hz false]
 have ha := fun o k0 (k1 : List Int -> Int -> Int -> Int -> Option β) => rk (M + 3) hN hn hT hw g hg o self hs k0 k1 (2 ^ 2 ^ n - 2) (M + 3) 1 (by omega) (aj8 _) (by omega)
 show Dz (M + 3) self T (n : Int) (w : Int) 0 (fun v0 v1 v2 v3 => iV (M + 3) self (M + 2) v0 v1 v2 v3 k0 k1) k0 k1 = _
 unfold Dz HQ
 refine alh (ha true _ _) ?_
 cases bH T true w (2 ^ 2 ^ n) (2 ^ 2 ^ n - 2 + 1) 1 with
 | some p => rfl
 | none =>
  show Dz (M + 3) self T (n : Int) (w : Int) 1 (fun v0 v1 v2 v3 => iV (M + 3) self (M + 1) v0 v1 v2 v3 k0 k1) k0 k1 = _
  unfold Dz HQ
  refine alh (ha false _ _) ?_
  cases bH T false w (2 ^ 2 ^ n) (2 ^ 2 ^ n - 2 + 1) 1 with
  | some p => rfl
  | none => rfl
end
theorem FD : ∀ n, n <= 3 -> ∀ i, i < n -> aQ (fun x => x.testBit i) (2 ^ n) = vw n i := by decide +kernel
theorem GW (i : Nat) (hi : i < 3) : (aq [97, 98, 99, 100, 101]).extract (Int.toNat (i : Int)) (Int.toNat ((i + 1 : Nat) : Int)) = B [UInt8.ofNat (97 + i)] := by
 obtain rfl | rfl | rfl : i = 0 \/ i = 1 \/ i = 2 := by omega
 all_goals rfl
theorem CW (N : Nat) (hN : 1048576 < N) {n : Nat} (hn : n <= 3) {T : List Int} (hT : wb n T) {w : Nat} (hw : w < 2 ^ 2 ^ n) (k0 : ByteArray -> Option β) (k1 : List Int -> Int -> Int -> Option β) :
  ∀ (d F i : Nat), i + d = n -> d < F -> lV N F T (n : Int) (w : Int) (i : Int) k0 k1 = match cond (decide (gt T w = 1)) (qo n w d i) none with
   | some s => k0 (B s)
   | none => k1 T (n : Int) (w : Int)
 | d, 0, _, _, h => absurd h (akW _)
 | 0, F + 1, i, hi, _ => by
  obtain rfl : i = n := by omega
  show Dw N T (i : Int) (w : Int) (i : Int) _ k0 k1 = _
  unfold Dw HN
  rw [aj2 (by omega)]
  cases decide (gt T w = 1) <;> rfl
 | d + 1, F + 1, i, hi, hF => by
  have hL := hT.len
  have ih := CW N hN hn hT hw k0 k1 d F (i + 1) (by omega) (by omega)
  have hv := HD n hn i (by omega)
  have hv2 := W0 n hn i (by omega)
  have hfu : full n = 2 ^ 2 ^ n - 1 := rfl
  have hL2 : 2 ^ 2 ^ n <= 256 := by
   obtain rfl | rfl | rfl | rfl : n = 0 \/ n = 1 \/ n = 2 \/ n = 3 := by omega
   all_goals decide
  show Dw N T (n : Int) (w : Int) (i : Int) _ k0 k1 = _
  unfold Dw HN
  rw [ajX (by omega : (i : Int) < (n : Int)), ajZ, ab (ajX (by omega)), ab (ajX (by omega)), kl]
  by_cases e1 : gt T w = 1
  ·rw [show (gt T w == 1) = true by simp [e1], ajZ, ajX e1, ajZ, mV N n i (by omega) (by omega), FD n hn i (by omega), cr N n (by omega), mV N n i (by omega) (by omega), FD n hn i (by omega)]
   dsimp only
   have hsub : w64 (((2 ^ 2 ^ n - 1 : Nat) : Int) - ((vw n i : Nat) : Int)) = ((full n - vw n i : Nat) : Int) := by rw [bp (by omega) (by omega)]; omega
   rw [hsub, aw i (by omega)]
   have hl : qo n w (d + 1) i = cond (w == vw n i) (some [UInt8.ofNat (97 + i)]) (cond (w == full n - vw n i) (some [33, UInt8.ofNat (97 + i)]) (qo n w d (i + 1))) := rfl
   rw [hl]
   have hsz : (aq [97, 98, 99, 100, 101]).size = 5 := rfl
   by_cases e2 : w = vw n i
   ·rw [show ((w : Int) == ((vw n i : Nat) : Int)) = true by simp [e2], show (w == vw n i) = true by simp [e2], ajZ, ajZ, ab (ajX (by omega)), ab (ajX (by rw [hsz]; omega)), ab (ajX (by omega)), ab (ajX (by omega)), GW i (by omega)]
   ·rw [show ((w : Int) == ((vw n i : Nat) : Int)) = false by rw [beq_eq_false_iff_ne]; omega, show (w == vw n i) = false by simp [e2], ajY, ajY]
    by_cases e3 : w = full n - vw n i
    ·rw [show ((w : Int) == ((full n - vw n i : Nat) : Int)) = true by simp [e3], show (w == full n - vw n i) = true by simp [e3], ajZ, ajZ, ab (ajX (by omega)), ab (ajX (by rw [hsz]; omega)), ab (ajX (by omega)), ab (ajX (by omega)), GW i (by omega), show aq [33] = B [33] from rfl, gs2 _ _ (by simp), cK]
     rfl
    ·rw [show ((w : Int) == ((full n - vw n i : Nat) : Int)) = false by rw [beq_eq_false_iff_ne]; omega, show (w == full n - vw n i) = false by simp [e3], ajY, ajY]
     rw [ajX e1, ajZ] at ih
     exact ih
  ·rw [show (gt T w == 1) = false by simp [e1], ajY, aj2 e1, ajY]
theorem B8 {n w : Nat} {s : List UInt8} : ∀ (d i : Nat), qo n w d i = some s -> s.length <= 2
 | 0, _, h => by cases h
 | d + 1, i, h => by
  unfold qo at h
  cases h1 : w == vw n i with
  | true => rw [h1, ajZ, aj1] at h; subst h; simp
  | false =>
   rw [h1, ajY] at h
   cases h2 : w == full n - vw n i with
   | true => rw [h2, ajZ, aj1] at h; subst h; simp
   | false => rw [h2, ajY] at h; exact B8 d (i + 1) h
theorem Nc {n : Nat} {T : List Int} (hT : wb n T) : ∀ (F w : Nat), ((fmF T n F w).length : Int) <= if 1 <= gt T w then 3 * gt T w - 1 else 1
 | 0, w => by
  show ((0 : Nat) : Int) <= _
  split <;> omega
 | F + 1, w => by
  have ih := Nc hT F
  have two : ∀ a b, 1 <= gt T a -> 1 <= gt T b -> gt T a + gt T b = gt T w -> ∀ c : UInt8, ((c :: fmF T n F a ++ fmF T n F b).length : Int) <= if 1 <= gt T w then 3 * gt T w - 1 else 1 := fun a b h1 h2 h3 c => by
   have ha := ih a
   have hb := ih b
   rw [if_pos h1] at ha
   rw [if_pos h2] at hb
   rw [if_pos (by omega)]
   simp only [ak4, aj4, aj6]
   omega
  unfold fmF
  cases h0 : w == 0 with
  | true =>
   rw [ajZ]
   have : w = 0 := by simpa using h0
   subst this
   rw [hT.zero]; simp
  | false =>
   rw [ajY]
   cases h1 : w == full n with
   | true =>
    rw [ajZ]
    have : w = full n := by simpa using h1
    subst this
    rw [show full n = 2 ^ 2 ^ n - 1 from rfl, hT.full]; simp
   | false =>
    rw [ajY]
    cases hl : cond (decide (gt T w = 1)) (qo n w n 0) none with
    | some s =>
     dsimp only
     cases h2 : decide (gt T w = 1) with
     | false => rw [h2] at hl; cases hl
     | true =>
      rw [h2, ajZ] at hl
      have := B8 n 0 hl
      rw [of_decide_eq_true h2]
      simp only [Int.le_refl, if_true]
      omega
    | none =>
     dsimp only
     cases hp : bH T true w (2 ^ 2 ^ n) (2 ^ 2 ^ n) 0 with
     | some p =>
      obtain ⟨a, b⟩ := p
      obtain ⟨p1, _, _, p4, p5, _⟩ := pq _ _ hp
      exact two a b p1 p4 p5 38
     | none =>
      dsimp only
      cases hq : bH T false w (2 ^ 2 ^ n) (2 ^ 2 ^ n) 0 with
      | some p =>
       obtain ⟨a, b⟩ := p
       obtain ⟨p1, _, _, p4, p5, _⟩ := pq _ _ hq
       exact two a b p1 p4 p5 124
      | none =>
       show ((0 : Nat) : Int) <= _
       split <;> omega
theorem GM {n : Nat} {T : List Int} (hT : wb n T) (F w : Nat) : (fmF T n F w).length <= 1000 := by
 have h := Nc hT F w
 have hl := hT.le w
 split at h <;> omega
theorem ve {N : Nat} (hN : 1048576 < N) {n : Nat} (hn : n <= 3) {T : List Int} (hT : wb n T) : ∀ (F w : Nat), w < 2 ^ 2 ^ n -> gt T w < F -> ∀ K : ByteArray -> Option β, dr N F T (n : Int) (w : Int) K = K (B (fmF T n F w))
 | 0, w, _, h, _ => by have := hT.le w; omega
 | F + 1, w, hw, hF, K => by
  have hs : ∀ x, x < 2 ^ 2 ^ n -> 1 <= gt T x -> gt T x < gt T w -> ∀ K : ByteArray -> Option β, dr N F T (n : Int) (x : Int) K = K (B (fmF T n F x)) := fun x hx _ h2 K => ve hN hn hT F x hx (by omega) K
  have hL2 : 2 <= 2 ^ 2 ^ n := by
   obtain rfl | rfl | rfl | rfl : n = 0 \/ n = 1 \/ n = 2 \/ n = 3 := by omega
   all_goals decide
  show Qk N (dr N F) T (n : Int) (w : Int) K = _
  unfold Qk Ps fmF
  cases h0 : w == 0 with
  | true =>
   have : w = 0 := by simpa using h0
   subst this
   rfl
  | false =>
   have h0' : w ≠ 0 := by simpa using h0
   rw [show ((w : Int) == 0) = false by rw [beq_eq_false_iff_ne]; omega, ajY, ajY, cr N n (by omega)]
   cases h1 : w == full n with
   | true =>
    have : w = full n := by simpa using h1
    subst this
    rw [show ((full n : Nat) : Int) = ((2 ^ 2 ^ n - 1 : Nat) : Int) from rfl, beq_self_eq_true]
    rfl
   | false =>
    have h1' : w ≠ 2 ^ 2 ^ n - 1 := by
     have : w ≠ full n := by simpa using h1
     exact this
    rw [show ((w : Int) == ((2 ^ 2 ^ n - 1 : Nat) : Int)) = false by rw [beq_eq_false_iff_ne]; omega, ajY, ajY]
    refine alh (CW N hN hn hT hw _ _ n N 0 (by omega) (by omega)) ?_
    cases cond (decide (gt T w = 1)) (qo n w n 0) none with
    | some s => rfl
    | none =>
     dsimp only
     refine alh (CX N hN hn hT hw (fmF T n F) (GM hT F) _ hs hL2 _ _) ?_
     cases bH T true w (2 ^ 2 ^ n) (2 ^ 2 ^ n) 0 with
     | some p => rfl
     | none =>
      cases bH T false w (2 ^ 2 ^ n) (2 ^ 2 ^ n) 0 with
      | some p => rfl
      | none => rfl
theorem adp (X : Option β) : gd true X = X := rfl
section
variable (N : Nat) (hN : 1048576 < N) {n : Nat} (hn : n <= 3) {T : List Int} (hT : wb n T) {w a : Nat} (hw : w < 2 ^ 2 ^ n) (ha : a < 2 ^ 2 ^ n) (g : Nat -> List UInt8)
 (hg : ∀ x, (g x).length <= 1000) (ha1 : 1 <= gt T a) (ha2 : gt T a < gt T w)
include hN hn hT hw ha hg ha1 ha2
theorem qY (o : Bool) (self : Int -> Int -> List Int -> (ByteArray -> Option β) -> Option β) (hs : ∀ x, x < 2 ^ 2 ^ n -> 1 <= gt T x -> gt T x < gt T w -> ∀ K, self (n : Int) (x : Int) T K = K (B (g x))) (x4 x5 : Int) (x6 : List Int) (x7 x8 : Int) (x14 : List Int) (k0 : ByteArray -> Option β) (k1 : List Int -> Int -> Int -> Int -> List Int -> Int -> Int -> Int -> Int -> List Int -> Option β) :
  ∀ (d F i : Nat), i + d = 2 ^ 2 ^ n -> d < F -> l6 N self F T (cond o 38 124) (a : Int) (gt T a) x4 x5 x6 x7 x8 T (T.length : Int) (i : Int) (n : Int) (w : Int) x14 k0 k1 =
   match dp T o w a d i with
   | some b => k0 (B (cond o 38 124 :: g a ++ g b))
   | none => k1 T (cond o 38 124) x4 x5 x6 x7 x8 (n : Int) (w : Int) x14
 | d, 0, _, _, h => absurd h (akW _)
 | 0, F + 1, i, hi, _ => by
  have hL := hT.len
  obtain rfl : i = 2 ^ 2 ^ n := by omega
  show DG N self T (cond o 38 124) (a : Int) (gt T a) x4 x5 x6 x7 x8 T (T.length : Int) _ (n : Int) (w : Int) x14 _ k0 k1 = _
  unfold DG Ii
  rw [aj2 (by omega)]
  rfl
 | d + 1, F + 1, i, hi, hF => by
  have hL := hT.len
  have ih := qY o self hs x4 x5 x6 x7 x8 x14 k0 k1 d F (i + 1) (by omega) (by omega)
  have hla := hT.le a
  have hlb := hT.le i
  have hlw := hT.le w
  have hL2 : 2 ^ 2 ^ n <= 256 := by
   obtain rfl | rfl | rfl | rfl : n = 0 \/ n = 1 \/ n = 2 \/ n = 3 := by omega
   all_goals decide
  show DG N self T (cond o 38 124) (a : Int) (gt T a) x4 x5 x6 x7 x8 T (T.length : Int) (i : Int) (n : Int) (w : Int) x14 _ k0 k1 = _
  unfold DG Ii
  rw [ajX (by omega : (i : Int) < (T.length : Int)), ajZ, ab (ajX (by omega)), kl, kl, aw i (by omega), bp (by omega) (by omega), bAnd a i (by omega) (by omega), bOr a i (by omega) (by omega)]
  dsimp only
  have hp : dp T o w a (d + 1) i = cond (decide (1 <= gt T i) && decide (gt T a + gt T i = gt T w) && (cond o (a &&& i) (a ||| i) == w)) (some i) (dp T o w a d (i + 1)) := rfl
  rw [hp]
  have g0 : ∀ X : Option β, gd (decide ((0 : Int) <= (w : Int))) X = X := fun X => ab (ajX (by omega))
  have g1 : ∀ X : Option β, gd (decide ((w : Int) < (T.length : Int))) X = X := fun X => ab (ajX (by omega))
  simp only [g0, g1, adp]
  have ga := hg a
  have gi := hg i
  cases o with
  | true =>
   simp only [ajZ] at ih ⊢
   rw [show ((38 : Int) == 124) = false from rfl, ajY]
   by_cases e0 : 1 <= gt T i
   ·rw [ajX e0, aj9, ajZ]
    by_cases e1 : gt T a + gt T i = gt T w
    ·have hilt : gt T i < gt T w := by omega
     rw [show (gt T a + gt T i == gt T w) = true by simp [e1], ajZ, ajX e1, aj9]
     by_cases e2 : a &&& i = w
     ·rw [show (((a &&& i : Nat) : Int) == (w : Int)) = true by simp [e2], show (a &&& i == w) = true by simp [e2], ajZ, ajZ, hs a ha ha1 ha2, hs i (by omega) e0 hilt]
      show gd (decide ((B [38]).size + (B (g a)).size <= 9223372036854775807)) (gd (decide ((B [38] ++ B (g a)).size + (B (g i)).size <= 9223372036854775807)) (k0 (B [38] ++ B (g a) ++ B (g i)))) = _
      rw [gs2 _ _ (by simp only [aj4, aki]; omega), cK, gs2 _ _ (by simp only [aj6, aj4, aki]; omega), cK]
      rfl
     ·rw [show (((a &&& i : Nat) : Int) == (w : Int)) = false by rw [beq_eq_false_iff_ne]; omega, show (a &&& i == w) = false by simp [e2], ajY, ajY]
      exact ih
    ·rw [show (gt T a + gt T i == gt T w) = false by rw [beq_eq_false_iff_ne]; exact e1, ajY, aj2 e1, akv, ajY]
     exact ih
   ·rw [aj2 e0, akv, akv, ajY, ajY]
    exact ih
  | false =>
   simp only [ajY] at ih ⊢
   rw [show ((124 : Int) == 124) = true from rfl, ajZ]
   by_cases e0 : 1 <= gt T i
   ·rw [ajX e0, aj9, ajZ]
    by_cases e1 : gt T a + gt T i = gt T w
    ·have hilt : gt T i < gt T w := by omega
     rw [show (gt T a + gt T i == gt T w) = true by simp [e1], ajZ, ajX e1, aj9]
     by_cases e2 : a ||| i = w
     ·rw [show (((a ||| i : Nat) : Int) == (w : Int)) = true by simp [e2], show (a ||| i == w) = true by simp [e2], ajZ, ajZ, hs a ha ha1 ha2, hs i (by omega) e0 hilt]
      show gd (decide ((B [124]).size + (B (g a)).size <= 9223372036854775807)) (gd (decide ((B [124] ++ B (g a)).size + (B (g i)).size <= 9223372036854775807)) (k0 (B [124] ++ B (g a) ++ B (g i)))) = _
      rw [gs2 _ _ (by simp only [aj4, aki]; omega), cK, gs2 _ _ (by simp only [aj6, aj4, aki]; omega), cK]
      rfl
     ·rw [show (((a ||| i : Nat) : Int) == (w : Int)) = false by rw [beq_eq_false_iff_ne]; omega, show (a ||| i == w) = false by simp [e2], ajY, ajY]
      exact ih
    ·rw [show (gt T a + gt T i == gt T w) = false by rw [beq_eq_false_iff_ne]; exact e1, ajY, aj2 e1, akv, ajY]
     exact ih
   ·rw [aj2 e0, akv, akv, ajY, ajY]
    exact ih
end
end Go.Proofs.YtemihnclhcobnaaGreatDoor
