/- Plain laws of the texts. -/
import Derived.Test.YtmhlcbibbhelkaaGreatDoorP91
import Derived.Lib.Join
import Derived.Lib.IndexBytes
namespace Go.Proofs.YtmhlcbibbhelkaaGreatDoor
open Go.Rv
set_option linter.unusedVariables false
set_option linter.unusedSimpArgs false
variable {β : Type}
def cM (x : Nat) : Tr → Nat
 | .nil => 0
 | .node s _ a c => if a.isNil then s.toNat else (if x.testBit (s.toNat - 97) then cM x c else cM x a)
def lt5 (n : Nat) : Bool := decide (97 ≤ n) && decide (n < 102)
def okT (n m v : Nat) : Bool := decide (m < 2 ^ n) && (v &&& m == v)
def qW (n : Nat) (t : Nat × Nat) : Prop := okT n t.1 t.2 = true ∧ t.1 < 32 ∧ t.2 < 32
def Ts (n : Nat) (o : List (Nat × Nat)) : Prop := ∀ t ∈ o, qW n t
def ft (m v : Nat) : Nat → List UInt8
 | 0 => []
 | i + 1 => ft m v i ++ cond (m.testBit i) (cond (v.testBit i) [UInt8.ofNat (97 + i)] [33, UInt8.ofNat (97 + i)]) []
def ftb (n m v : Nat) : List UInt8 := cond (okT n m v) (cond (ft m v n == []) [49] (ft m v n)) []
def bm (n : Nat) (o : List (Nat × Nat)) : List (List UInt8) := o.map fun t => ftb n t.1 t.2
def LU (n : Nat) (o : List (Nat × Nat)) : List UInt8 := cond (o.length == 0) [48] (Lib.join (bm n o) [124])
theorem jJ (c : UInt8) (b : Nat) : ∀ l : List (List UInt8), (∀ x ∈ l, x.length ≤ b) → (Lib.join l [c]).length ≤ (b + 1) * l.length
 | [], _ => by simp [Lib.join]
 | x :: l, h => by
  rw [Lib.join_cons, ag4, Lib.joinTail_length]
  have h1 := h x (by simp)
  have h2 : ∀ l : List (List UInt8), (∀ x ∈ l, x.length ≤ b) → Lib.lens l ≤ b * l.length := by
   intro l
   induction l with
   | nil => intro _; simp [Lib.lens]
   | cons y l ih =>
    intro h
    have e1 := h y (by simp)
    have e2 := ih fun z hz => h z (by simp [hz])
    simp only [Lib.lens, ahC, List.sum_cons, ag3] at e2 ⊢
    rw [Nat.mul_add, ahU]
    omega
  have h3 := h2 l fun z hz => h z (by simp [hz])
  simp only [ag3, ahh]
  have e3 : (b + 1) * (l.length + 1) = b * l.length + l.length + b + 1 := by rw [aiq, aja, Nat.mul_add, ahU]; omega
  rw [e3]
  omega
def scn : List UInt8 → Bool → Nat → Nat → Nat × Nat
 | [], _, m, v => (m, v)
 | b :: l, f, m, v =>
  if b.toNat = 33 then scn l true m v
  else if 97 ≤ b.toNat ∧ b.toNat < 102 then scn l false (m ||| 2 ^ (b.toNat - 97)) (cond f v (v ||| 2 ^ (b.toNat - 97)))
  else scn l f m v
def ptm (n : Nat) (l : List UInt8) : Option (Nat × Nat) :=
 if l = [49] then some (0, 0) else if l = [] then none else if ftb n (scn l false 0 0).1 (scn l false 0 0).2 = l then some (scn l false 0 0) else none
theorem QK : ∀ n : Nat, n ≤ 4 → ∀ m : Nat, m < 2 ^ n → ∀ v : Nat, v < 2 ^ n → (!(v &&& m == v) || (decide (0 < (ftb n m v).length) && decide ((ftb n m v).length ≤ 10) && !(ftb n m v).contains 124 && !(ftb n m v).contains 48 && (ptm n (ftb n m v) == some (m, v)))) = true := by decide +kernel
theorem pj {n : Nat} (hn : n ≤ 4) {t : Nat × Nat} (h : qW n t) : 0 < (ftb n t.1 t.2).length ∧ (ftb n t.1 t.2).length ≤ 10 ∧ (124 : UInt8) ∉ ftb n t.1 t.2 ∧ (48 : UInt8) ∉ ftb n t.1 t.2 ∧ ptm n (ftb n t.1 t.2) = some t := by
 obtain ⟨h1, -, -⟩ := h
 unfold okT at h1
 rw [agZ, decide_eq_true_eq] at h1
 have hle : t.2 ≤ t.1 := by rw [← eq_of_beq h1.2]; exact aiF
 have h2 := QK n hn t.1 h1.1 t.2 (by omega)
 rw [h1.2, ag5, ah6] at h2
 simp only [agZ, decide_eq_true_eq, ahl] at h2
 obtain ⟨⟨⟨⟨a1, a2⟩, a3⟩, a4⟩, a5⟩ := h2
 refine ⟨a1, a2, fun h => ?_, fun h => ?_, eq_of_beq a5⟩
 ·rw [aij.2 h] at a3; cases a3
 ·rw [aij.2 h] at a4; cases a4
theorem Of {n : Nat} (hn : n ≤ 4) {o : List (Nat × Nat)} (hg : Ts n o) : ∀ x ∈ bm n o, 0 < x.length ∧ x.length ≤ 10 ∧ (124 : UInt8) ∉ x ∧ (48 : UInt8) ∉ x := by
 intro x hx
 obtain ⟨t, ht, rfl⟩ := ahp.1 hx
 obtain ⟨a1, a2, a3, a4, -⟩ := pj hn (hg t ht)
 exact ⟨a1, a2, a3, a4⟩
theorem dW (n : Nat) (o : List (Nat × Nat)) : (bm n o).length = o.length := by simp [bm]
theorem HP {n : Nat} (hn : n ≤ 4) {o : List (Nat × Nat)} (hg : Ts n o) : (Lib.join (bm n o) [124]).length ≤ 11 * o.length := by
 have h := jJ 124 10 (bm n o) fun x hx => (Of hn hg x hx).2.1
 rw [dW] at h
 exact h
def tl (l : List (Nat × Nat)) : List (Int × Int) := l.map fun p => ((p.1 : Int), (p.2 : Int))
theorem bE (l : List (Nat × Nat)) : (tl l).length = l.length := by simp [tl]
theorem pE (o : List (Nat × Nat)) (i : Nat) (h : i < o.length) : rd (0, 0) (tl o) (i : Int) = ((o[i].1 : Int), (o[i].2 : Int)) := by
 simp [rd, tl, ajx, ajC h]
theorem sz5 : ∀ n : Nat, n ≤ 5 → 1 ≤ 2 ^ n ∧ 2 ^ n ≤ 32 := by decide +kernel
theorem Dd : ∀ v : Nat, v < 32 → ∀ m : Nat, m < 32 → (bits .and .i64 (v : Int) (m : Int) == (v : Int)) = (v &&& m == v) := by decide +kernel
theorem b9 (N n m v : Nat) (hn : n ≤ 5) (hm : m < 32) (hv : v < 32) (K : Bool → Option β) : jl N (n : Int) (m : Int) (v : Int) K = K (okT n m v) := by
 have hs := sz5 n hn
 unfold jl Si okT
 rw [aX, agW (by omega : (0 : Int) ≤ (n : Int)), agW (by omega : (n : Int) ≤ 5), aim, agY, ab rfl, aM n (by omega), bp (by omega) (by omega), aX, agW (by omega : (0 : Int) ≤ (m : Int)), ag8]
 by_cases h : m < 2 ^ n
 ·rw [agW (by omega), agW h, agY, aX, agW (by omega : (0 : Int) ≤ (v : Int)), ag8, Dd v hv m hm, ag8]
  cases hvm : (v &&& m == v) with
  | true =>
   have : v ≤ m := by rw [← eq_of_beq hvm]; exact aiF
   rw [agW (by omega)]; rfl
  | false => cases decide ((v : Int) ≤ (m : Int)) <;> rfl
 ·rw [ag1 (by omega), ag1 h]; rfl
theorem m0 (N : Nat) (hN : 1048576 < N) (n : Nat) (hn : n ≤ 5) (o : List (Nat × Nat)) (ho : o.length ≤ 1000) (hg : ∀ t ∈ o, qW n t) (K : Bool → Option β) : oM N (n : Int) (tl o) K = K (decide ((o.length : Int) ≤ 40)) := by
 unfold oM ZX
 refine a6 (fun F i => vA N F (n : Int) (tl o) (i : Int) (fun e => K e) fun e0 e1 => bK N e0 0 5 fun r6 => cond r6 (K (decide ((e1.length : Int) ≤ 40))) (K false)) o.length _ (fun F i hi => ?_) (fun F => ?_) N 0 (by omega) (by omega)
 ·obtain ⟨h1, h2, h3⟩ := hg o[i] (ahm hi)
  simp only [vA, aae, So, bE, pE o i hi]
  rw [agW (by omega : (i : Int) < (o.length : Int)), agY, ab (agW (by omega)), ab rfl, b9 N n _ _ hn h2 h3, h1, ag5, agX, aw i (by omega)]
 ·simp only [vA, aae, So, bE]
  rw [ag1 (by omega), agX, aX, agW (by omega : (0 : Int) ≤ (n : Int)), agW (by omega : (n : Int) ≤ 5)]
  rfl
theorem wo (sep y : List UInt8) : ∀ l : List (List UInt8), Lib.join (l ++ [y]) sep = if l = [] then y else Lib.join l sep ++ sep ++ y
 | [] => by rw [if_pos rfl, ahG, Lib.join_cons]; simp [Lib.joinTail]
 | x :: l => by
  rw [if_neg (by simp), ah3, Lib.join_cons, Lib.join_cons]
  simp [Lib.joinTail]
theorem Ds (m v : Nat) : ∀ i, (ft m v i).length ≤ 2 * i
 | 0 => ag7 _
 | i + 1 => by
  have := Ds m v i
  simp only [ft, ag4]
  cases m.testBit i <;> cases v.testBit i <;> simp <;> omega
theorem Qw (w y : Nat) (hw : w < 32) : (bits .and .i64 (cX .i64 (w : Int) (y : Int)) 1 == 0) = !w.testBit y := by
 rw [gv w y (by omega)]
 cases w.testBit y <;> rfl
theorem pr : (((aq [97, 98, 99, 100, 101]).size : Nat) : Int) = 5 := by decide +kernel
theorem tz : ∀ i, i < 5 → (aq [97, 98, 99, 100, 101]).extract i (i + 1) = B [UInt8.ofNat (97 + i)] := by decide +kernel
theorem bN (N : Nat) (hN : 1048576 < N) (n m v : Nat) (hn : n ≤ 5) (hm : m < 32) (hv : v < 32) (K : ByteArray → Option β) : iw N (n : Int) (m : Int) (v : Int) K = K (B (ftb n m v)) := by
 unfold iw Sj ftb
 have he : (B ([] : List UInt8)).toList = [] := aG _
 cases hok : okT n m v with
 | false =>
  obtain ⟨G, rfl⟩ : ∃ G, N = G + 1 := ⟨N - 1, by omega⟩
  simp only [rM, PL, Jr]
  rw [b9 _ n m v hn hm hv, hok, agX, beq_self_eq_true, agY, b9 _ n m v hn hm hv, hok]
  rfl
 | true =>
  have main := a6 (fun F i => rM N F (n : Int) (B (ft m v i)) (i : Int) (m : Int) (v : Int) fun e0 e1 e2 e3 => cond (e1.toList == ByteArray.empty.toList) (jl N e0 e2 e3 fun r6 => cond r6 (K (aq [49])) (K e1)) (K e1)) n
   (K (B (cond (ft m v n == []) [49] (ft m v n)))) (fun F i hi => ?_) (fun F => ?_) N 0 (by omega) (by omega)
  ·exact main
  ·have hl := Ds m v i
   simp only [rM, PL, Jr]
   rw [b9 N n m v hn hm hv, hok, agY, agW (by omega : (i : Int) < (n : Int)), agY, ab (agW (by omega)), Qw m i hm, Qw v i hv, aw i (by omega), pr, ahb, ahb, tz i (by omega)]
   simp only [cg, cK, aE, ahC, ah7, ft]
   cases m.testBit i with
   | false => rw [ahk, agY, agX, ahg]
   | true =>
    rw [ag5, agX, ab (agW (by omega)), agY]
    cases v.testBit i with
    | false =>
     rw [ahk, agY, ab (agW (by simp; omega)), ab (agW (by omega)), ab (agW (by omega)), ab (agW (by omega)), ab (agW (by omega)), ab (agW (by simp; omega)), agX]
     simp only [ahs]
     rfl
    | true =>
     rw [ag5, agX, ab (agW (by omega)), ab (agW (by omega)), ab (agW (by omega)), ab (agW (by omega)), ab (agW (by simp; omega)), agY]
  ·simp only [rM, PL, Jr]
   rw [b9 N n m v hn hm hv, hok, agY, ag1 (by omega), agX, aG, show ByteArray.empty.toList = [] from he, b9 N n m v hn hm hv, hok, agY]
   cases ft m v n == [] <;> rfl
theorem L8 {n : Nat} (hn : n ≤ 4) : ∀ {o : List (Nat × Nat)}, Ts n o → (Lib.join (bm n o) [124] = [] ↔ o = []) := by
 intro o
 cases o with
 | nil => exact fun _ => ⟨fun _ => rfl, fun _ => rfl⟩
 | cons t o =>
  intro hg
  have h := (pj hn (hg t ahn)).1
  constructor
  ·intro e
   unfold bm at e
   rw [ahC, Lib.join_cons] at e
   rw [List.append_eq_nil_iff] at e
   rw [e.1] at h
   cases h
  ·intro e; cases e
theorem qP (N : Nat) (hN : 1048576 < N) (n : Nat) (hn : n ≤ 4) (o : List (Nat × Nat)) (ho : o.length ≤ 8) (hg : Ts n o) (K : ByteArray → Option β) : xo N (n : Int) (tl o) K = K (B (LU n o)) := by
 unfold xo Oo
 have hv := fun K => m0 (β := β) N hN n (by omega) o (by omega) hg K
 rw [agW (by omega : (o.length : Int) ≤ 40)] at hv
 refine a6 (fun F i => mf N F (n : Int) (tl o) (B (Lib.join (bm n (o.take i)) [124])) (i : Int) fun e0 e1 e2 => cond (e2.toList == ByteArray.empty.toList) (oM N e0 e1 fun r7 => cond r7 (K (aq [48])) (K e2)) (K e2)) o.length _ (fun F i hi => ?_) (fun F => ?_) N 0 (by omega) (by omega)
 ·obtain ⟨g1, g2, g3⟩ := hg o[i] (ahm hi)
  have hT : Ts n (o.take i) := fun t ht => hg t (ah4 ht)
  have hl := HP hn hT
  rw [ain] at hl
  obtain ⟨a1, a2, -⟩ := pj hn (hg o[i] (ahm hi))
  have e : Lib.join (bm n (o.take (i + 1))) [124] = if bm n (o.take i) = [] then ftb n o[i].1 o[i].2 else Lib.join (bm n (o.take i)) [124] ++ [124] ++ ftb n o[i].1 o[i].2 := by
   rw [← wo]
   congr 1
   unfold bm
   rw [aiA, ajC hi, aiu]
   rfl
  have hwl : (bm n (o.take i)).length = i := by rw [dW, ain]; omega
  simp only [mf, Pk, Gv, bE, pE o i hi]
  rw [agW (by omega : (i : Int) < (o.length : Int)), agY, hv, agY, aw i (by omega), e]
  by_cases h0 : i = 0
  ·subst h0
   rw [if_pos (by exact List.length_eq_zero_iff.1 hwl), ag1 (by omega : ¬ ((0 : Nat) : Int) > 0), agX, ab (agW (by omega)), ab rfl, bN N hN n _ _ (by omega) g2 g3, List.take_zero, show Lib.join (bm n []) [124] = [] from rfl, ab (agW (by rw [aE, aE, ahh]; omega)), cK, ahG]
  ·rw [if_neg (by intro e; rw [e] at hwl; exact h0 hwl.symm), agW (by omega : (i : Int) > 0), agY, show aq [124] = B [124] from cg _, ab (agW (by rw [aE, aE]; simp; omega)), ab (agW (by omega)), ab rfl, bN N hN n _ _ (by omega) g2 g3, cK, ab (agW (by rw [aE, aE, ag4]; simp; omega)), cK]
 ·simp only [mf, Pk, Gv, bE]
  rw [ag1 (by omega : ¬ (o.length : Int) < (o.length : Int)), agX, aip, d7, aG, aG, hv, agY]
  unfold LU
  have h := L8 hn hg
  cases o with
  | nil => rw [cg]; rfl
  | cons t o =>
   have hne : Lib.join (bm n (t :: o)) [124] ≠ [] := fun e => by cases h.1 e
   rw [beq_eq_false_iff_ne.2 hne]
   rfl
def cA (p : Nat → Bool) : Nat → Bool
 | 0 => false
 | m + 1 => cA p m || p m
def imp (n w m v : Nat) : Bool := !cA (fun x => (x &&& m == v) && !w.testBit x) (2 ^ n) && cA (fun x => (x &&& m == v) && w.testBit x) (2 ^ n)
def off (m i : Nat) : Nat := m ^^^ (m &&& 2 ^ i)
def prm (n w m v : Nat) : Bool := imp n w m v && !cA (fun i => m.testBit i && imp n w (off m i) (off v i)) n
theorem rN : ∀ x : Nat, x < 32 → ∀ m : Nat, m < 32 → bits .and .i64 (x : Int) (m : Int) = ((x &&& m : Nat) : Int) := by decide +kernel
theorem l4 (N : Nat) (hN : 1048576 < N) (n w m v : Nat) (hn : n ≤ 4) (hw : w < 2 ^ 63) (hm : m < 32) (K : Bool → Option β) : rE N (n : Int) (w : Int) (m : Int) (v : Int) K = K (imp n w m v) := by
 have hs : 2 ^ n ≤ 16 := (ag6 (by decide) hn : 2 ^ n ≤ 2 ^ 4)
 have hz0 : (0 : Int) ≤ ((2 ^ n : Nat) : Int) := ahi _
 unfold rE OR gm GT zj2 zb2
 rw [ab (agW (by omega)), aM n (by omega)]
 refine a6 (fun F x => jt N F (m : Int) (v : Int) ((2 ^ n : Nat) : Int) (x : Int) (n : Int) (w : Int) (cA (fun x => (x &&& m == v) && !w.testBit x) x) (cA (fun x => (x &&& m == v) && w.testBit x) x) fun e7_0 e7_1 => cond e7_0 (cond e7_1 (K ((2 : Int) == 1)) (cond e7_1 (K ((1 : Int) == 1)) (K ((0 : Int) == 1)))) (cond e7_1 (K ((1 : Int) == 1)) (K ((0 : Int) == 1)))) (2 ^ n) _ (fun F x hx => ?_) (fun F => ?_) N 0 (by omega) (by omega)
 ·simp only [jt, Ha, CI, zj3, zb3]
  rw [agW (by omega : (x : Int) < ((2 ^ n : Nat) : Int)), agY, rN x (by omega) m hm, cJ, ab (agW (by omega)), gv w x (by omega), aw x (by omega)]
  simp only [cA]
  cases hc : (x &&& m == v) with
  | false => simp only [agX, ahu, aiy]
  | true =>
   cases hb : w.testBit x with
   | true => simp only [agY, if_true, ag8, ag5, aiy, ai2]; rfl
   | false => simp only [agY, ahM, if_false, ag8, ahk, aiy, ai2]; rfl
 ·simp only [jt, Ha, CI]
  rw [ag1 (by omega : ¬ ((2 ^ n : Nat) : Int) < ((2 ^ n : Nat) : Int)), agX]
  unfold imp
  cases cA (fun x => (x &&& m == v) && !w.testBit x) (2 ^ n) <;> cases cA (fun x => (x &&& m == v) && w.testBit x) (2 ^ n) <;> rfl
theorem Mx : ∀ m : Nat, m < 32 → ∀ i : Nat, i < 5 → bits .andNot .i64 (m : Int) (aW .i64 1 (i : Int)) = (off m i : Int) ∧ off m i < 32 ∧ (bits .and .i64 (m : Int) (aW .i64 1 (i : Int)) != 0) = m.testBit i := by decide +kernel
theorem dl {p : Nat → Bool} : ∀ {m : Nat}, cA p m = true ↔ ∃ i, i < m ∧ p i = true
 | 0 => ⟨(fun h => by cases h), (fun ⟨j, h, _⟩ => by omega)⟩
 | m + 1 => by
  rw [cA, ahH, dl (m := m)]
  constructor
  ·rintro (⟨i, h1, h2⟩ | h)
   ·exact ⟨i, by omega, h2⟩
   ·exact ⟨m, by omega, h⟩
  ·rintro ⟨i, h1, h2⟩
   rcases ahf i m with h | h
   ·exact Or.inl ⟨i, h, h2⟩
   ·have : i = m := by omega
    subst this
    exact Or.inr h2
theorem HN (N : Nat) (hN : 1048576 < N) (n w m v : Nat) (hn : n ≤ 4) (hw : w < 2 ^ 63) (hm : m < 32) (hv : v < 32) (K : Bool → Option β) : rF N (n : Int) (w : Int) (m : Int) (v : Int) K = K (prm n w m v) := by
 unfold rF OS prm
 rw [l4 N hN n w m v hn hw hm]
 cases imp n w m v with
 | false => rfl
 | true =>
  rw [ag5, agX, ag8]
  have key : ∀ (d i F : Nat), n - i = d → i ≤ n → d < F → cA (fun i => m.testBit i && imp n w (off m i) (off v i)) i = false → mv N F (n : Int) (i : Int) (n : Int) (w : Int) (m : Int) (v : Int) (fun e => K e) (K true) = K (!cA (fun i => m.testBit i && imp n w (off m i) (off v i)) n) := by
   intro d
   induction d with
   | zero =>
    intro i F hd hi hF ha
    obtain ⟨G, rfl⟩ : ∃ G, F = G + 1 := ⟨F - 1, by omega⟩
    simp only [mv, Pz, GU]
    rw [ag1 (by omega), agX]
    have e : i = n := by omega
    subst e
    rw [ha]
    rfl
   | succ d ih =>
    intro i F hd hi hF ha
    obtain ⟨G, rfl⟩ : ∃ G, F = G + 1 := ⟨F - 1, by omega⟩
    obtain ⟨c1, c2, c3⟩ := Mx m hm i (by omega)
    obtain ⟨c4, c5, -⟩ := Mx v hv i (by omega)
    simp only [mv, Pz, GU]
    rw [agW (by omega : (i : Int) < (n : Int)), agY, ab (agW (by omega)), c3, c1, c4, l4 N hN n w _ _ hn hw c2, aw i (by omega)]
    have next := ih (i + 1) G (by omega) (by omega) (by omega)
    cases hb : m.testBit i with
    | false => exact next (by rw [cA, ha, hb]; rfl)
    | true =>
     cases hp : imp n w (off m i) (off v i) with
     | false => exact next (by rw [cA, ha, hb, hp]; rfl)
     | true =>
      have : cA (fun i => m.testBit i && imp n w (off m i) (off v i)) n = true := dl.2 ⟨i, by omega, by rw [hb, hp]; rfl⟩
      rw [this]
      rfl
  exact key n 0 N (by omega) (by omega) (by omega) rfl
def prr (n w m : Nat) : Nat → List (Nat × Nat)
 | 0 => []
 | v + 1 => prr n w m v ++ cond ((v &&& m == v) && prm n w m v) [(m, v)] []
def prl (n w : Nat) : Nat → List (Nat × Nat)
 | 0 => []
 | m + 1 => prl n w m ++ prr n w m (m + 1)
theorem FQ (n w m : Nat) (t : Nat × Nat) : ∀ k, t ∈ prr n w m k ↔ ∃ v, v < k ∧ (v &&& m == v) = true ∧ prm n w m v = true ∧ t = (m, v)
 | 0 => ⟨(fun h => by cases h), (fun ⟨j, h, _⟩ => by omega)⟩
 | k + 1 => by
  rw [prr, ahB, FQ n w m t k]
  constructor
  ·rintro (⟨v, h1, h2⟩ | h)
   ·exact ⟨v, by omega, h2⟩
   ·cases hc : ((k &&& m == k) && prm n w m k) with
    | false => rw [hc] at h; cases h
    | true =>
     rw [hc] at h
     rw [agZ] at hc
     exact ⟨k, by omega, hc.1, hc.2, ahI.1 h⟩
  ·rintro ⟨v, h1, h2, h3, h4⟩
   rcases ahf v k with h | h
   ·exact Or.inl ⟨v, h, h2, h3, h4⟩
   ·have : v = k := by omega
    subst this
    refine Or.inr ?_
    rw [h2, h3]
    exact ahI.2 h4
theorem sb (n w : Nat) (t : Nat × Nat) : ∀ k, t ∈ prl n w k ↔ ∃ m, m < k ∧ ∃ v, v < m + 1 ∧ (v &&& m == v) = true ∧ prm n w m v = true ∧ t = (m, v)
 | 0 => ⟨(fun h => by cases h), (fun ⟨j, h, _⟩ => by omega)⟩
 | k + 1 => by
  rw [prl, ahB, sb n w t k, FQ]
  constructor
  ·rintro (⟨v, h1, h2⟩ | h)
   ·exact ⟨v, by omega, h2⟩
   ·exact ⟨k, by omega, h⟩
  ·rintro ⟨v, h1, h2⟩
   rcases ahf v k with h | h
   ·exact Or.inl ⟨v, h, h2⟩
   ·have : v = k := by omega
    subst this
    exact Or.inr h2
theorem tY (n w : Nat) (hn : n ≤ 4) : Ts n (prl n w (2 ^ n)) := by
 have hs : 2 ^ n ≤ 16 := (ag6 (by decide) hn : 2 ^ n ≤ 2 ^ 4)
 intro t ht
 obtain ⟨m, h1, v, h2, h3, h4, rfl⟩ := (sb n w t _).1 ht
 refine ⟨?_, by dsimp only; omega, by dsimp only; omega⟩
 unfold okT
 dsimp only
 rw [agW h1, h3]
 rfl
theorem sd (n w m : Nat) : ∀ v, (prr n w m v).length ≤ v
 | 0 => ag7 _
 | v + 1 => by
  have := sd n w m v
  rw [prr, ag4]
  cases ((v &&& m == v) && prm n w m v) <;> simp <;> omega
theorem pD (n w : Nat) : ∀ m, m ≤ 16 → (prl n w m).length ≤ 17 * m
 | 0, _ => ag7 _
 | m + 1, h => by
  have h1 := pD n w m (by omega)
  have h2 := sd n w m (m + 1)
  rw [prl, ag4]
  omega
theorem WT : ∀ m : Nat, m < 32 → ∀ i : Nat, i < 5 → m.testBit i = true → off m i < m := by decide +kernel
theorem My : ∀ i : Nat, i < 5 → ∀ m : Nat, m < 32 → ∀ v : Nat, v < 32 → (!(v &&& m == v) || (off v i &&& off m i == off v i)) = true := by decide +kernel
theorem Q3 : ∀ i : Nat, i < 5 → ∀ m : Nat, m < 32 → ∀ x : Nat, x < 32 → x &&& off m i = off (x &&& m) i := by decide +kernel
theorem VE (n w : Nat) (hn : n ≤ 4) : ∀ (k m v : Nat), m < k → m < 2 ^ n → (v &&& m == v) = true → imp n w m v = true → ∃ m' v', m' < 2 ^ n ∧ (v' &&& m' == v') = true ∧ prm n w m' v' = true ∧ ∀ x, x < 32 → x &&& m = v → x &&& m' = v' := by
 have hs : 2 ^ n ≤ 16 := (ag6 (by decide) hn : 2 ^ n ≤ 2 ^ 4)
 intro k
 induction k with
 | zero => intro m v h; omega
 | succ k ih =>
  intro m v hk hm hv hi
  cases ha : cA (fun i => m.testBit i && imp n w (off m i) (off v i)) n with
  | false => exact ⟨m, v, hm, hv, by unfold prm; rw [hi, ha]; rfl, fun x _ h => h⟩
  | true =>
   obtain ⟨i, h1, h2⟩ := dl.1 ha
   rw [agZ] at h2
   have h3 := WT m (by omega) i (by omega) h2.1
   have hvm : v ≤ m := by rw [← eq_of_beq hv]; exact aiF
   have h4 := My i (by omega) m (by omega) v (by omega)
   rw [hv, ag5, ah6] at h4
   obtain ⟨m', v', g1, g2, g3, g4⟩ := ih (off m i) (off v i) (by omega) (by omega) h4 h2.2
   exact ⟨m', v', g1, g2, g3, fun x hx h => g4 x hx (by rw [Q3 i (by omega) m (by omega) x hx, h])⟩
theorem ic (g : Nat → Bool) (i : Nat) (hi : i < 32) : bits .or .i64 (aQ g i : Int) (aW .i64 1 (i : Int)) = ((aQ g i ||| 2 ^ i : Nat) : Int) := by
 have hw : aQ g i < 2 ^ 63 := ag9 (bT g i) (ag6 (by decide) (by omega))
 rw [aM i (by omega), bOr _ _ hw (ahE (by decide) (by omega))]
theorem jZ {g : Nat → Bool} {i : Nat} (h : g i = true) : aQ g (i + 1) = aQ g i ||| 2 ^ i := by simp [aQ, h]
theorem pO {g : Nat → Bool} {i : Nat} (h : g i = false) : aQ g (i + 1) = aQ g i := by simp [aQ, h]
theorem gH (N : Nat) (hN : 1048576 < N) (n m v : Nat) (hn : n ≤ 5) (hm : m < 32) (K : Int → Option β) : oN N (n : Int) (m : Int) (v : Int) K = K (aQ (fun x => x &&& m == v) (2 ^ n) : Int) := by
 have hs := bd hn
 have hz : (0 : Int) ≤ ((2 ^ n : Nat) : Int) := ahi _
 unfold oN ZY
 refine a6 (fun F x => vB N F (n : Int) (aQ (fun x => x &&& m == v) x : Int) (x : Int) (m : Int) (v : Int) fun e => K e) (2 ^ n) _ (fun F x hx => ?_) (fun F => ?_) N 0 (by omega) (by omega)
 ·simp only [vB, aaf, Sp]
  rw [ab (agW (by omega)), aM n (by omega), agW (by omega : (x : Int) < ((2 ^ n : Nat) : Int)), agY, rN x (by omega) m hm, cJ, ab (agW (by omega)), aw x (by omega), ic _ x (by omega)]
  cases h : x &&& m == v with
  | true => rw [agY, jZ (g := fun x => x &&& m == v) h]
  | false => rw [agX, pO (g := fun x => x &&& m == v) h]
 ·simp only [vB, aaf, Sp]
  rw [ab (agW (by omega)), aM n (by omega), ag1 (by omega : ¬ ((2 ^ n : Nat) : Int) < ((2 ^ n : Nat) : Int)), agX]
theorem qc : ∀ v : Nat, v < 32 → ∀ m : Nat, m < 32 → (bits .andNot .i64 (v : Int) (m : Int) == 0) = (v &&& m == v) := by decide +kernel
theorem gz (N n m v : Nat) (hn : n ≤ 5) (hm : m < 32) (hv : v < 32) (K : Bool → Option β) : zj9 N (n : Int) (m : Int) (v : Int) K = K (okT n m v) := by
 have hs := sz5 n hn
 unfold zj9 zb9 zj7 zb7 zj8 zb8 okT
 rw [agW (by omega : (n : Int) ≥ 0), agW (by omega : (n : Int) ≤ 5), agY]
 dsimp only
 rw [agY, agW (by omega : (m : Int) ≥ 0), agY, ab rfl, aM n (by omega)]
 rw [agW (by omega : (v : Int) ≥ 0), agY, qc v hv m hm]
 by_cases h : m < 2 ^ n
 ·rw [agW (by omega), agW h, agY, ag8]
 ·rw [ag1 (by omega), ag1 h]; rfl
theorem dz (N : Nat) (hN : 1048576 < N) (n m v : Nat) (hn : n ≤ 5) (hm : m < 32) (hv : v < 32) (K : ByteArray → Option β) : jp N (n : Int) (m : Int) (v : Int) K = K (B (ftb n m v)) := by
 unfold jp OH ftb
 rw [gz N n m v hn hm hv]
 cases hok : okT n m v with
 | false => rfl
 | true =>
  rw [ag5, agX]
  have main := a6 (fun F i => ml N F (n : Int) (i : Int) (m : Int) (v : Int) ((ft m v i).map fun b => (b.toNat : Int)) fun e => cond ((e.length : Int) == 0) (K (aq [49])) (K (aq e))) n
   (K (B (cond (ft m v n == []) [49] (ft m v n)))) (fun F i hi => ?_) (fun F => ?_) N 0 (by omega) (by omega)
  ·exact main
  ·have hl := Ds m v i
   have hw : w8 (97 + w8 (i : Int)) = ((97 + i : Nat) : Int) := by
    rw [cT i (by omega), show (97 : Int) + (i : Int) = ((97 + i : Nat) : Int) by omega, cT _ (by omega)]
   have hu : ((UInt8.ofNat (97 + i)).toNat : Int) = ((97 + i : Nat) : Int) := by
    rw [ais]
    omega
   simp only [ml, Pq, GE]
   rw [agW (by omega : (i : Int) < (n : Int)), agY, ab (agW (by omega)), Qw m i hm, Qw v i hv, aw i (by omega), hw]
   simp only [ft, aiu]
   cases m.testBit i with
   | false => rw [ahk, agY, agX, ah7, ahg]
   | true =>
    rw [ag5, agX, ab (agW (by omega)), agY]
    cases v.testBit i with
    | false =>
     rw [ahk, agY, ab (agW (by simp; omega)), ab (agW (by simp; omega)), agX]
     simp only [ahC, ah7, hu, ahG, ahs]
     rfl
    | true =>
     rw [ag5, agX, ab (agW (by simp; omega)), agY]
     simp only [ahC, ah7, hu, ahG]
  ·simp only [ml, Pq, GE]
   rw [ag1 (by omega), agX, cg (List.map _ _), aiR]
   have : ((fun x : Int => UInt8.ofNat x.toNat) ∘ fun b : UInt8 => (b.toNat : Int)) = id := by
    funext b
    simp
   rw [this, List.map_id]
   cases hft : ft m v n with
   | nil => rfl
   | cons b l => rfl
theorem HO (l : List (List UInt8)) (s : List UInt8) : tj (l.map B) (B s) = B (Lib.join l s) := by
 unfold tj B
 rw [aiR]
 have : ((fun x : ByteArray => x.data.toList) ∘ fun l : List UInt8 => (⟨l.toArray⟩ : ByteArray)) = id := by
  funext l
  simp
 rw [this]
 simp
theorem gZ (N : Nat) (hN : 1048576 < N) (n : Nat) (hn : n ≤ 5) (o : List (Nat × Nat)) (ho : o.length ≤ 1000) (hg : ∀ t ∈ o, t.1 < 32 ∧ t.2 < 32 ∧ (ftb n t.1 t.2).length ≤ 10) (c : UInt8) (K : ByteArray → Option β) : kq N (n : Int) (tl o) (B [c]) K = K (B (Lib.join (bm n o) [c])) := by
 unfold kq OK
 rw [ab (agW (by omega)), ab (agW (by omega)), bE, ab (agW (by omega)), ahb]
 have key := a6 (fun F i => mn N F (n : Int) (B [c]) (tl o) (o.length : Int) (i : Int) (((bm n o).map B).take i ++ List.replicate (o.length - i) ByteArray.empty) fun e0 e1 => strings_Join N e1 e0 fun r6 => K r6) o.length (K (B (Lib.join (bm n o) [c]))) (fun F i hi => ?_) (fun F => ?_) N 0 (by omega) (by omega)
 ·simpa using key
 ·simp only [mn, Ps, GG]
  obtain ⟨h1, h2, h3⟩ := hg o[i] (ahm hi)
  have htk : (((bm n o).map B).take i).length = i := by rw [ain, ahw, dW]; omega
  rw [agW (by omega : (i : Int) < (o.length : Int)), agY, ab (agW (by omega)), bE, ab (agW (by omega)), pE o i hi, dz N hN n _ _ hn h1 h2, ab (agW (by omega)), ab (agW (by rw [ag4, htk, aiV]; omega)), aw i (by omega), show o.length - i = (o.length - (i + 1)) + 1 by omega, aiI]
  have e := El (((bm n o).map B).take i) ByteArray.empty (B (ftb n o[i].1 o[i].2)) (List.replicate (o.length - (i + 1)) ByteArray.empty)
  rw [htk] at e
  rw [e]
  have e2 : ((bm n o).map B).take (i + 1) = ((bm n o).map B).take i ++ [B (ftb n o[i].1 o[i].2)] := by
   rw [aiA, ajF]
   simp [bm, ajC hi]
  rw [e2]
  simp
 ·simp only [mn, Ps, GG]
  rw [ag1 (by omega : ¬ (o.length : Int) < (o.length : Int)), agX, aid, ai1, ahg, ahY (by rw [ahw, dW]; exact ag7 _)]
  unfold strings_Join
  have hb : ∀ x ∈ bm n o, x.length ≤ 10 := fun x hx => by
   obtain ⟨t, ht, rfl⟩ := ahp.1 hx
   exact (hg t ht).2.2
  have hj := jJ c 10 _ hb
  rw [dW] at hj
  rw [HO, ab (agW (by rw [ahw, dW]; omega)), ab (agW (by rw [aE]; omega))]
def msl (p : Nat → Bool) : Nat → List (Nat × Nat)
 | 0 => []
 | m + 1 => msl p m ++ (if p m then [(m, m)] else [])
def lR (n : Nat) (p : Nat → Bool) (m : Nat) : List UInt8 := Lib.join (bm n (msl p m)) [43]
def par (w m : Nat) : Nat → Bool
 | 0 => false
 | x + 1 => xor (par w m x) ((x &&& m == x) && w.testBit x)
def cx (w n : Nat) : Nat := aQ (fun m => par w m (2 ^ n)) (2 ^ n)
def mK (w n : Nat) : List UInt8 := cond (lR n (cx w n).testBit (2 ^ n) == []) [48] (lR n (cx w n).testBit (2 ^ n))
theorem Dc (x m : Nat) (hx : x < 32) (hm : m < 32) : (bits .andNot .i64 (x : Int) (m : Int) == 0) = (x &&& m == x) := qc x hx m hm
theorem Oi : ∀ a b : Bool, bits .xor .i64 (a.toNat : Int) (b.toNat : Int) = ((xor a b).toNat : Int) := by decide
theorem sX (N : Nat) (hN : 1048576 < N) (n w : Nat) (hn : n ≤ 5) (hw : w < 4294967296) (K : Int → Int → Option β) : gh N (n : Int) (w : Int) K = K (n : Int) (cx w n : Int) := by
 have hs := bd hn
 have hz : (0 : Int) ≤ ((2 ^ n : Nat) : Int) := ahi _
 unfold gh OJ
 rw [b6 N (by omega) n hn _ (fun m => par w m (2 ^ n)) (fun m k hm => ?_)]
 ·rfl
 ·unfold zj6 zb6
  rw [bV N n _ hn]
  have main := a6 (fun F x => zj5 N F (m : Int) (n : Int) (w : Int) ((par w m x).toNat : Int) ((2 ^ n : Nat) : Int) (x : Int) fun e => k (e == 1)) (2 ^ n) (k (par w m (2 ^ n))) (fun F x hx => by
   simp only [zj5, zj4, zb4]
   rw [agW (by omega : (x : Int) < ((2 ^ n : Nat) : Int)), agY, Dc x m (by omega) (by omega), cl N w x _ hw, aw x (by omega)]
   have e : (bw w x : Int) = ((w.testBit x).toNat : Int) := by unfold bw; cases w.testBit x <;> rfl
   rw [e, Oi]
   simp only [par]
   cases x &&& m == x <;> simp) (fun F => by
   simp only [zj5, zj4, zb4]
   rw [ag1 (by omega), agX]
   cases par w m (2 ^ n) <;> rfl) N 0 (by omega) (by omega)
  exact main
theorem rW (p : Nat → Bool) : ∀ m, (msl p m).length ≤ m
 | 0 => ag7 _
 | m + 1 => by
  have := rW p m
  simp only [msl, ag4]
  split <;> simp <;> omega
theorem jj (l : List (Nat × Nat)) (p : Nat × Nat) : tl (l ++ [p]) = tl l ++ [((p.1 : Int), (p.2 : Int))] := by simp [tl]
theorem rQ : ∀ n, n ≤ 5 → ∀ m, m < 2 ^ n → (ftb n m m).length ≠ 0 ∧ (ftb n m m).length ≤ 5 := by decide +kernel
theorem vJ (n : Nat) (p : Nat → Bool) (m : Nat) : lR n p (m + 1) = if p m then (if msl p m = [] then ftb n m m else lR n p m ++ [43] ++ ftb n m m) else lR n p m := by
 unfold lR
 cases hp : p m with
 | false => simp [msl, hp]
 | true =>
  simp only [msl, hp, if_true, bm, aiu, ahC, ah7]
  rw [wo]
  cases msl p m <;> simp
theorem oS (n : Nat) (hn : n ≤ 5) (p : Nat → Bool) : ∀ m, m ≤ 2 ^ n → ((lR n p m = []) ↔ msl p m = [])
 | 0, _ => by simp [lR, msl, bm, Lib.join]
 | m + 1, h => by
  have ih := oS n hn p m (by omega)
  have hf := rQ n hn m (by omega)
  rw [vJ]
  simp only [msl]
  cases hp : p m with
  | false => simpa using ih
  | true =>
   simp only [if_true]
   have : ftb n m m ≠ [] := fun e => hf.1 (by rw [e]; rfl)
   split <;> simp [this]
theorem rX (p : Nat → Bool) : ∀ m t, t ∈ msl p m → t.1 < m ∧ t.2 = t.1
 | 0, t, h => by simp [msl] at h
 | m + 1, t, h => by
  simp only [msl, ahB] at h
  rcases h with h | h
  ·have := rX p m t h; omega
  ·split at h
   ·simp only [ahI] at h; subst h; exact ⟨by simp, rfl⟩
   ·cases h
theorem gX (N : Nat) (hN : 1048576 < N) (n w : Nat) (hn : n ≤ 5) (hw : w < 2 ^ 2 ^ n) (K : ByteArray → Option β) : io N (n : Int) (w : Int) K = K (B (mK w n)) := by
 have hs := bd hn
 have hz : (0 : Int) ≤ ((2 ^ n : Nat) : Int) := ahi _
 have hw' := fX hn hw
 have ha : cx w n < 2 ^ 2 ^ n := bT _ _
 have ha' := fX hn ha
 unfold io OL
 rw [bZ N _ _ (by omega), Bq hn hw, ag5, agX, sX N hN n w hn hw', bV N n _ hn]
 refine a6 (fun F m => mo N F ((2 ^ n : Nat) : Int) (m : Int) (n : Int) (w : Int) (n : Int) (cx w n : Int) (tl (msl (cx w n).testBit m)) fun e0 e1 e2 => cond ((e2.length : Int) == 0) (K (aq [48])) (kq N e0 e2 (aq [43]) fun r9 => K r9)) (2 ^ n) _ (fun F m hm => ?_) (fun F => ?_) N 0 (by omega) (by omega)
 ·simp only [mo, Pt, GH]
  have hl := rW (cx w n).testBit m
  rw [agW (by omega : (m : Int) < ((2 ^ n : Nat) : Int)), agY, cl N _ m _ ha', jA, aw m (by omega)]
  simp only [msl]
  cases (cx w n).testBit m with
  | false => simp
  | true =>
   rw [agY, ab (agW (by simp [bE]; omega)), if_pos rfl, jj]
   rfl
 ·simp only [mo, Pt, GH]
  have hl := rW (cx w n).testBit (2 ^ n)
  rw [ag1 (by omega : ¬ ((2 ^ n : Nat) : Int) < ((2 ^ n : Nat) : Int)), agX, bE]
  unfold mK
  have hni := oS n hn (cx w n).testBit (2 ^ n) (ag7 _)
  by_cases h0 : msl (cx w n).testBit (2 ^ n) = []
  ·rw [h0, hni.2 h0]; rfl
  ·have h1 : lR n (cx w n).testBit (2 ^ n) ≠ [] := fun e => h0 (hni.1 e)
   have h2 : 0 < (msl (cx w n).testBit (2 ^ n)).length := List.length_pos_iff.2 h0
   rw [beq_eq_false_iff_ne.2 (by omega), agX, beq_eq_false_iff_ne.2 h1, agX]
   exact gZ N hN n hn _ (by omega) (fun t ht => by
    have := rX _ _ t ht
    have hf := rQ n hn t.1 (by omega)
    rw [this.2]
    omega) 43 K
def lZ (w m : Nat) : Nat → Nat
 | 0 => 0
 | x + 1 => lZ w m x + if (x &&& m == x) && w.testBit x then 1 else 0
theorem A5 (w m : Nat) : ∀ x, lZ w m x ≤ x
 | 0 => ag7 _
 | x + 1 => by
  have := A5 w m x
  simp only [lZ]
  split <;> omega
theorem Qr (x m : Nat) (hx : x < 32) (hm : m < 32) : (bits .and .i64 (x : Int) (m : Int) == (x : Int)) = (x &&& m == x) := Dd x hx m hm
theorem Fq (w m : Nat) : ∀ x, lZ w m x % 2 = (par w m x).toNat
 | 0 => rfl
 | x + 1 => by
  have := Fq w m x
  simp only [lZ, par]
  generalize lZ w m x = c at this ⊢
  generalize par w m x = p at this ⊢
  cases (x &&& m == x) && w.testBit x with
  | true => rw [if_pos rfl]; cases p <;> simp only [Bool.toNat_true, Bool.toNat_false, Bool.xor_true, ag5, ahk] at this ⊢ <;> omega
  | false => rw [if_neg (by decide), Bool.xor_false]; exact this
theorem BI (w m : Nat) : ∀ d, par w m (m + 1 + d) = par w m (m + 1)
 | 0 => rfl
 | d + 1 => by
  rw [show m + 1 + (d + 1) = (m + 1 + d) + 1 by omega]
  simp only [par]
  have h : ((m + 1 + d) &&& m == m + 1 + d) = false := by
   rw [beq_eq_false_iff_ne]
   intro e
   have : (m + 1 + d) &&& m ≤ m := aiF
   omega
  have := BI w m d
  simp only [par] at this
  rw [h, this]
  simp
theorem Rj (w m n : Nat) (h : m < 2 ^ n) : par w m (2 ^ n) = par w m (m + 1) := by
 rw [show 2 ^ n = m + 1 + (2 ^ n - (m + 1)) by omega, BI]
theorem l7 (N : Nat) (hN : 1048576 < N) (n w : Nat) (hn : n ≤ 5) (hw : w < 4294967296) (K : Int → Option β) : p8 N (n : Int) (w : Int) K = K (cx w n : Int) := by
 have hs := bd hn
 have hz : (0 : Int) ≤ ((2 ^ n : Nat) : Int) := ahi _
 unfold p8 ZU
 refine a6 (fun F m => uQ N F (aQ (fun m => par w m (2 ^ n)) m : Int) (m : Int) (n : Int) (w : Int) fun e => K e) (2 ^ n) _ (fun F m hm => ?_) (fun F => ?_) N 0 (by omega) (by omega)
 ·simp only [uQ, aac, Sm]
  rw [ab (agW (by omega)), aM n (by omega), agW (by omega : (m : Int) < ((2 ^ n : Nat) : Int)), agY]
  have inner := fun (k0 : Int → Int → Int → Int → Int → Option β) (v0 : Int) => a6 (fun F x => uP N F v0 (m : Int) (lZ w m x : Int) (x : Int) (n : Int) (w : Int) k0) (m + 1) (k0 v0 (m : Int) (lZ w m (m + 1) : Int) (n : Int) (w : Int)) (fun F x hx => by
   simp only [uP, aab, Sl]
   have hc := A5 w m x
   rw [agW (by omega : (x : Int) ≤ (m : Int)), agY, Qr x m (by omega) (by omega), aw x (by omega), lY w x (by omega)]
   simp only [lZ]
   cases x &&& m == x with
   | false => simp
   | true =>
    rw [agY, ab (agW (by omega)), ag8, bp (by have := KE w x; omega) (by have := KE w x; omega)]
    unfold bw
    cases w.testBit x <;> rfl) (fun F => by
   simp only [uP, aab, Sl]
   rw [ag1 (by omega), agX]) N 0 (by omega) (by omega)
  refine (inner _ _).trans ?_
  have hc := Fq w m (m + 1)
  rw [← Rj w m n hm] at hc
  have hrem : Rl (lZ w m (m + 1) : Int) 2 = ((par w m (2 ^ n)).toNat : Int) := by
   rw [← hc]; rfl
  rw [hrem, ab (agW (by omega)), aw m (by omega)]
  have hb : aQ (fun m => par w m (2 ^ n)) m < 2 ^ 63 := ag9 (bT _ m) (ag6 (by decide) (by omega))
  cases hp : par w m (2 ^ n) with
  | true =>
   rw [jZ (g := fun m => par w m (2 ^ n)) hp]
   have e1 : ((true.toNat : Nat) : Int) = 1 := rfl
   rw [e1, ic _ m (by omega)]
  | false =>
   rw [pO (g := fun m => par w m (2 ^ n)) hp]
   have h0 : aW .i64 ((false.toNat : Nat) : Int) (m : Int) = ((0 : Nat) : Int) := by
    have := se 0 m (by omega) (by omega)
    rw [air] at this
    exact this
   rw [h0, bOr _ _ hb (by decide), Nat.or_zero]
 ·simp only [uQ, aac, Sm]
  rw [ab (agW (by omega)), aM n (by omega), ag1 (by omega : ¬ ((2 ^ n : Nat) : Int) < ((2 ^ n : Nat) : Int)), agX]
  rfl
theorem Ky (n : Nat) (hn : n ≤ 5) (p : Nat → Bool) (m : Nat) (hm : m ≤ 2 ^ n) : (lR n p m).length ≤ 200 := by
 have hs := bd hn
 have h1 := rW p m
 have h2 : ∀ x ∈ bm n (msl p m), x.length ≤ 5 := fun x hx => by
  obtain ⟨t, ht, rfl⟩ := ahp.1 hx
  have := rX p m t ht
  rw [this.2]
  exact (rQ n hn t.1 (by omega)).2
 have := jJ 43 5 _ h2
 rw [bm, ahw] at this
 unfold lR bm
 omega
theorem hZ (N : Nat) (hN : 1048576 < N) (n w : Nat) (hn : n ≤ 5) (hw : w < 2 ^ 2 ^ n) (K : ByteArray → Option β) : qV N (n : Int) (w : Int) K = K (B (mK w n)) := by
 have hs := bd hn
 have hz : (0 : Int) ≤ ((2 ^ n : Nat) : Int) := ahi _
 have hw' := fX hn hw
 have ha : cx w n < 2 ^ 2 ^ n := bT _ _
 have ha' := fX hn ha
 have he : ByteArray.empty.toList = ([] : List UInt8) := aG []
 unfold qV ZW
 rw [bv, Bq hn hw, ag5, agX, l7 N hN n w hn hw']
 refine a6 (fun F m => vu N F (B (lR n (cx w n).testBit m)) (cx w n : Int) (m : Int) (n : Int) (w : Int) fun e => cond (e.toList == ByteArray.empty.toList) (K (aq [48])) (K e)) (2 ^ n) _ (fun F m hm => ?_) (fun F => ?_) N 0 (by omega) (by omega)
 ·simp only [vu, aad, Sn]
  have hl := Ky n hn (cx w n).testBit m (by omega)
  have hf := rQ n hn m hm
  have hbit : (bits .and .i64 (cX .i64 (cx w n : Int) (m : Int)) 1 == 0) = !(cx w n).testBit m := by
   rw [lY _ m (by omega), KD]
  rw [ab (agW (by omega)), aM n (by omega), agW (by omega : (m : Int) < ((2 ^ n : Nat) : Int)), agY, ab (agW (by omega)), hbit, aw m (by omega), vJ, aG, he, show aq [43] = B [43] from rfl, cK]
  cases hp : (cx w n).testBit m with
  | false => rfl
  | true =>
   simp only [ag5, agX, if_true]
   cases hm0 : lR n (cx w n).testBit m == [] with
   | true =>
    have h0 := eq_of_beq hm0
    rw [ag5, agX, bN N hN n m m hn (by omega) (by omega), cK, aE, aE, ab (agW (by omega)), if_pos ((oS n hn _ m (by omega)).1 h0), h0]
    rfl
   | false =>
    have h0 : lR n (cx w n).testBit m ≠ [] := by intro e; rw [e] at hm0; cases hm0
    rw [ahk, agY, aE, aE, ab (agW (by simp; omega)), bN N hN n m m hn (by omega) (by omega), cK, aE, aE, ab (agW (by simp; omega)), if_neg fun e => h0 ((oS n hn _ m (by omega)).2 e)]
 ·simp only [vu, aad, Sn]
  rw [ab (agW (by omega)), aM n (by omega), ag1 (by omega : ¬ ((2 ^ n : Nat) : Int) < ((2 ^ n : Nat) : Int)), agX, aG, he]
  unfold mK
  cases lR n (cx w n).testBit (2 ^ n) == [] <;> rfl
def dg (p : Nat → Bool) : Nat → Nat → Nat
 | 0, i => i
 | d + 1, i => if p i then i else dg p d (i + 1)
def sc (w m v : Nat) (b : Bool) : Nat → Bool
 | 0 => false
 | x + 1 => sc w m v b x || (x &&& m == v && w.testBit x == b)
def cI (w n m v : Nat) : Bool := sc w m v false (2 ^ n) && sc w m v true (2 ^ n)
def bg (m i : Nat) : Bool := !m.testBit i
def mnO (B : Nat) (bg : Nat → Bool) (val : Nat → Nat) : Nat → Nat
 | 0 => B
 | i + 1 => if bg i then min (mnO B bg val i) (val i) else mnO B bg val i
def ld (w n : Nat) : Nat → Nat → Nat → Nat
 | 0, _, _ => 0
 | f + 1, m, v => if cI w n m v then mnO 10 (bg m) (fun i => 1 + max (ld w n f (m ||| 2 ^ i) v) (ld w n f (m ||| 2 ^ i) (v ||| 2 ^ i))) n else 0
def fc (n m : Nat) : Nat := cnt (bg m) n
def a8 (w n m v : Nat) : Nat := ld w n (fc n m + 1) m v
def pick (w n m v i : Nat) : Bool := bg m i && (1 + max (a8 w n (m ||| 2 ^ i) v) (a8 w n (m ||| 2 ^ i) (v ||| 2 ^ i)) == a8 w n m v)
def bst (w n : Nat) : Nat → Nat → Nat → List UInt8
 | 0, _, _ => []
 | f + 1, m, v => if cI w n m v then
   UInt8.ofNat (97 + dg (pick w n m v) n 0) :: (bst w n f (m ||| 2 ^ dg (pick w n m v) n 0) v ++ bst w n f (m ||| 2 ^ dg (pick w n m v) n 0) (v ||| 2 ^ dg (pick w n m v) n 0))
  else [if sc w m v true (2 ^ n) then 49 else 48]
def Fn (N : Nat) (a0 a1 : Int) : List UInt8 := if dU a0 a1 4 then bst a1.toNat a0.toNat N 0 0 else []
theorem jF (n m : Nat) : fc n m ≤ n := KI _ n
def d8 (w n : Nat) (mp : Mp) : Prop := ∀ m v : Nat, iU ⟨true, false⟩ mp (m : Int) (v : Int) = true → fq ⟨true, false⟩ mp (m : Int) (v : Int) = (a8 w n m v : Int)
theorem Ce {n : Nat} (h : n ≤ 4) : 2 ^ n ≤ 16 := ahy (ag6 (by decide) h) (by decide)
theorem pn (N : Nat) (hN : 64 < N) (n w m v : Nat) (hn : n ≤ 5) (hw : w < 4294967296) (hm : m < 4294967296) (k : Int → Option β) :
  gm N (n : Int) (w : Int) (m : Int) (v : Int) k = k (cond (sc w m v false (2 ^ n)) (cond (sc w m v true (2 ^ n)) 2 0) (cond (sc w m v true (2 ^ n)) 1 0)) := by
 have hs := bd hn
 unfold gm GT zj2 zb2
 rw [ab (agW (by omega : (0 : Int) ≤ (n : Int))), aM n (by omega)]
 have key : ∀ (K : Bool → Bool → Option β) (F x : Nat), 2 ^ n - x < F → x ≤ 2 ^ n →
   jt N F (m : Int) (v : Int) ((2 ^ n : Nat) : Int) (x : Int) (n : Int) (w : Int) (sc w m v false x) (sc w m v true x) K = K (sc w m v false (2 ^ n)) (sc w m v true (2 ^ n)) := by
  intro K F
  induction F with
  | zero => intro x h; omega
  | succ F ih =>
   intro x hF hx
   simp only [jt, Ha, CI, zj3, zb3]
   by_cases hlt : x < 2 ^ n
   ·rw [agW (by omega : (x : Int) < ((2 ^ n : Nat) : Int)), agY, bAnd x m (by omega) (by omega), gv w x (by omega), aw x (by omega), ab (agW (by omega : (0 : Int) ≤ (x : Int)))]
    have e0 : (((x &&& m : Nat) : Int) == (v : Int)) = (x &&& m == v) := by
     rw [aic, beq_iff_eq, beq_iff_eq]
     omega
    rw [e0]
    have ih' := ih (x + 1) (by omega) (by omega)
    have s0 : ∀ b, sc w m v b (x + 1) = (sc w m v b x || (x &&& m == v && w.testBit x == b)) := fun _ => rfl
    rw [s0, s0] at ih'
    cases hv : (x &&& m == v) with
    | false =>
     rw [hv] at ih'
     simp only [ahu, aiy] at ih'
     exact ih'
    | true =>
     rw [hv] at ih'
     simp only [ag8] at ih'
     cases hb : w.testBit x with
     | false =>
      rw [hb] at ih'
      simpa [gd] using ih'
     | true =>
      rw [hb] at ih'
      simpa [gd] using ih'
   ·rw [ag1 (by omega : ¬ (x : Int) < ((2 ^ n : Nat) : Int)), agX, show x = 2 ^ n by omega]
 have := key (fun e7_0 e7_1 => cond e7_0 (cond e7_1 (k 2) (cond e7_1 (k 1) (k 0))) (cond e7_1 (k 1) (k 0))) N 0 (by omega) (ahr _)
 simp only [sc, ahN] at this
 refine this.trans ?_
 cases sc w m v false (2 ^ n) <;> cases sc w m v true (2 ^ n) <;> rfl
theorem qx {B : Nat} {bg : Nat → Bool} {val val' : Nat → Nat} : ∀ {n : Nat}, (∀ i, i < n → bg i = true → val i = val' i) → mnO B bg val n = mnO B bg val' n
 | 0, _ => rfl
 | n + 1, h => by
  simp only [mnO]
  rw [qx fun i hi hf => h i (by omega) hf]
  cases hf : bg n with
  | true => rw [h n (by omega) hf]
  | false => rfl
theorem fR : ∀ n, n ≤ 4 → ∀ m, m < 2 ^ n → ∀ i, i < n → bg m i = true → fc n (m ||| 2 ^ i) + 1 = fc n m := by decide +kernel
theorem et : ∀ n, n ≤ 4 → ∀ m, m < 2 ^ n → ∀ i, i < n → m ||| 2 ^ i < 2 ^ n := by decide +kernel
theorem rU (w n : Nat) (hn : n ≤ 4) : ∀ f m v, m < 2 ^ n → fc n m < f → ld w n f m v = a8 w n m v
 | 0, m, v, _, h => by omega
 | f + 1, m, v, hm, h => by
  simp only [a8, ld]
  cases hx : cI w n m v with
  | false => rfl
  | true =>
   rw [if_pos rfl, if_pos rfl]
   refine qx fun i hi hf => ?_
   have h4 := fR n hn m hm i hi hf
   have hlt := et n hn m hm i hi
   rw [rU w n hn f _ v hlt (by omega), rU w n hn f _ _ hlt (by omega)]
   unfold a8
   rw [h4]
theorem sF (w n m v : Nat) (hn : n ≤ 4) (hm : m < 2 ^ n) : a8 w n m v = if cI w n m v then mnO 10 (bg m) (fun i => 1 + max (a8 w n (m ||| 2 ^ i) v) (a8 w n (m ||| 2 ^ i) (v ||| 2 ^ i))) n else 0 := by
 have : a8 w n m v = ld w n (fc n m + 1) m v := rfl
 rw [this]
 simp only [ld]
 cases hx : cI w n m v with
 | false => rfl
 | true =>
  rw [if_pos rfl, if_pos rfl]
  refine qx fun i hi hf => ?_
  have h4 := fR n hn m hm i hi hf
  have hlt := et n hn m hm i hi
  rw [rU w n hn _ _ v hlt (by omega), rU w n hn _ _ _ hlt (by omega)]
theorem iD (p : Int × Int) (a b : Int) : eqK ⟨true, false⟩ p a b = (p.1 == a && p.2 == b) := by simp [eqK]
theorem QL (mp : Mp) (a b x c d : Int) : fq ⟨true, false⟩ (jS ⟨true, false⟩ mp a b x) c d = if (a == c && b == d) then x else fq ⟨true, false⟩ mp c d := by
 induction mp with
 | nil =>
  simp only [jS, fq, iD]
  cases (a == c && b == d) <;> rfl
 | cons p l ih =>
  simp only [jS]
  cases he : eqK ⟨true, false⟩ p.1 a b with
  | true =>
   rw [agY]
   simp only [fq]
   rw [iD] at he ⊢
   simp only [agZ, beq_iff_eq] at he
   rw [iD, he.1, he.2]
   cases (a == c && b == d) <;> simp
  | false =>
   rw [agX]
   simp only [fq, ih]
   cases hp : eqK ⟨true, false⟩ p.1 c d with
   | false => rfl
   | true =>
    rw [agY]
    cases hc : (a == c && b == d) with
    | false => rfl
    | true =>
     exfalso
     rw [iD] at hp he
     simp only [agZ, beq_iff_eq] at hp hc
     rw [hp.1, hp.2, hc.1, hc.2] at he
     simp at he
theorem QM (mp : Mp) (a b x c d : Int) : iU ⟨true, false⟩ (jS ⟨true, false⟩ mp a b x) c d = ((a == c && b == d) || iU ⟨true, false⟩ mp c d) := by
 induction mp with
 | nil => simp [jS, iU, iD]
 | cons p l ih =>
  simp only [jS]
  cases he : eqK ⟨true, false⟩ p.1 a b with
  | true =>
   rw [agY]
   simp only [iU]
   rw [iD] at he ⊢
   simp only [agZ, beq_iff_eq] at he
   rw [iD, he.1, he.2]
   cases (a == c && b == d) <;> simp
  | false =>
   rw [agX]
   simp only [iU, ih]
   rw [Bool.or_left_comm]
theorem d8.put {w n : Nat} {mp : Mp} (h : d8 w n mp) (m v : Nat) {x : Int} (hx : x = (a8 w n m v : Int)) : d8 w n (jS ⟨true, false⟩ mp (m : Int) (v : Int) x) := by
 intro m' v' hh
 rw [QL]
 rw [QM] at hh
 cases he : (((m : Int) == (m' : Int)) && ((v : Int) == (v' : Int))) with
 | true =>
  rw [if_pos rfl, hx]
  simp only [agZ, beq_iff_eq] at he
  rw [show m = m' by omega, show v = v' by omega]
 | false =>
  rw [he, ah6] at hh
  rw [if_neg (by decide)]
  exact h m' v' hh
theorem QE : ∀ n, n ≤ 4 → ∀ m, m < 2 ^ n → fc n m ≠ 0 → ∃ i, i < n ∧ bg m i = true := by
 intro n hn m hm h
 have key : ∀ k, cnt (bg m) k ≠ 0 → ∃ i, i < k ∧ bg m i = true := by
  intro k
  induction k with
  | zero => intro h; exact absurd rfl h
  | succ k ih =>
   intro h
   cases hf : bg m k with
   | true => exact ⟨k, by omega, hf⟩
   | false =>
    simp only [cnt, hf] at h
    obtain ⟨i, hi, hfi⟩ := ih (by simpa using h)
    exact ⟨i, by omega, hfi⟩
 exact key n h
theorem D1 (w m v : Nat) (b : Bool) : ∀ X, sc w m v b X = true ↔ ∃ x, x < X ∧ x &&& m = v ∧ w.testBit x = b
 | 0 => by simp [sc]
 | X + 1 => by
  simp only [sc, ahH, agZ, beq_iff_eq, D1 w m v b X]
  constructor
  ·rintro (⟨x, h1, h2⟩ | h)
   ·exact ⟨x, by omega, h2⟩
   ·exact ⟨X, by omega, h⟩
  ·rintro ⟨x, h1, h2⟩
   by_cases e : x = X
   ·subst e; exact .inr h2
   ·exact .inl ⟨x, by omega, h2⟩
theorem Fv : ∀ n, n ≤ 4 → ∀ m, m < 2 ^ n → fc n m = 0 → ∀ x, x < 2 ^ n → x &&& m = x := by decide +kernel
theorem Di (w n m v : Nat) (hn : n ≤ 4) (hm : m < 2 ^ n) (h : cI w n m v = true) : fc n m ≠ 0 := by
 intro h0
 unfold cI at h
 simp only [agZ, D1] at h
 obtain ⟨⟨x, hx, hxv, hbx⟩, y, hy, hyv, hby⟩ := h
 rw [Fv n hn m hm h0 x hx] at hxv
 rw [Fv n hn m hm h0 y hy] at hyv
 rw [hxv] at hbx
 rw [hyv, hbx] at hby
 cases hby
theorem DB (B : Nat) (bg : Nat → Bool) (val : Nat → Nat) : ∀ n i, i < n → bg i = true → mnO B bg val n ≤ val i
 | n + 1, i, h, hf => by
  simp only [mnO]
  by_cases e : i = n
  ·subst e
   rw [hf, if_pos rfl]
   exact Nat.min_le_right _ _
  ·have := DB B bg val n i (by omega) hf
   split <;> omega
theorem Mh (w n : Nat) (hn : n ≤ 4) : ∀ f m v, m < 2 ^ n → ld w n f m v ≤ fc n m
 | 0, m, v, _ => ahr _
 | f + 1, m, v, hm => by
  simp only [ld]
  cases hx : cI w n m v with
  | false => rw [if_neg (by decide)]; exact ahr _
  | true =>
   rw [if_pos rfl]
   obtain ⟨i, hi, hf⟩ := QE n hn m hm (Di w n m v hn hm hx)
   have h1 := DB 10 (bg m) (fun i => 1 + max (ld w n f (m ||| 2 ^ i) v) (ld w n f (m ||| 2 ^ i) (v ||| 2 ^ i))) n i hi hf
   have h2 := Mh w n hn f (m ||| 2 ^ i) v (et n hn m hm i hi)
   have h3 := Mh w n hn f (m ||| 2 ^ i) (v ||| 2 ^ i) (et n hn m hm i hi)
   have h4 := fR n hn m hm i hi hf
   have h1 : mnO 10 (bg m) (fun i => 1 + max (ld w n f (m ||| 2 ^ i) v) (ld w n f (m ||| 2 ^ i) (v ||| 2 ^ i))) n ≤ 1 + max (ld w n f (m ||| 2 ^ i) v) (ld w n f (m ||| 2 ^ i) (v ||| 2 ^ i)) := h1
   omega
theorem jD (w n m v : Nat) (hn : n ≤ 4) (hm : m < 2 ^ n) : a8 w n m v ≤ fc n m := Mh w n hn _ m v hm
theorem Ca (i : Nat) : aW .i64 0 (i : Int) = 0 := by
 unfold aW
 rw [Int.zero_mul]
 decide
theorem rc (v : Nat) (hv : v < 16) : bits .or .i64 (v : Int) 0 = (v : Int) := by
 have := bOr v 0 (by omega) (by omega)
 simpa using this
theorem yF (a b : Nat) : mxI (a : Int) (b : Int) = ((max a b : Nat) : Int) := by unfold mxI; split <;> omega
theorem FJ (a b : Nat) : mnI (a : Int) (b : Int) = ((min a b : Nat) : Int) := by unfold mnI; split <;> omega
theorem wz (B C : Nat) (hBC : B ≤ C) (bg : Nat → Bool) (val : Nat → Nat) : ∀ n, mnO B bg val n = min B (mnO C bg val n)
 | 0 => by simp only [mnO]; omega
 | n + 1 => by
  have := wz B C hBC bg val n
  simp only [mnO]
  split <;> omega
theorem Bn (N : Nat) (hN : 64 < N) (n w : Nat) (hn : n ≤ 4) (hw : w < 2 ^ 2 ^ n) : ∀ (F m v : Nat) (mp mp5 : Mp), fc n m < F → m < 2 ^ n → v < 2 ^ n → d8 w n mp →
  ∃ mp', d8 w n mp' ∧ ∀ k0 : Int → Int → Int → Mp → Mp → Option β, gq N F (m : Int) (v : Int) (n : Int) (w : Int) mp mp5 k0 = k0 (a8 w n m v : Int) n w mp' mp5 := by
 have hs := Ce hn
 have hw' := Cw (by omega) hw
 intro F
 induction F with
 | zero => intro m v mp mp5 h; omega
 | succ F ih =>
  intro m v mp mp5 hF hm hv hM
  simp only [gq, TF, OZ]
  cases hh : iU ⟨true, false⟩ mp (m : Int) (v : Int) with
  | true => exact ⟨mp, hM, fun k0 => by rw [agY, hM m v hh]⟩
  | false =>
   simp only [agX, pn N hN n w m v (by omega) hw' (by omega)]
   have e : ((cond (sc w m v false (2 ^ n)) (cond (sc w m v true (2 ^ n)) (2 : Int) 0) (cond (sc w m v true (2 ^ n)) 1 0)) == 2) = cI w n m v := by
    unfold cI
    cases sc w m v false (2 ^ n) <;> cases sc w m v true (2 ^ n) <;> rfl
   rw [e]
   have hde := sF w n m v hn hm
   cases hx : cI w n m v with
   | false =>
    rw [hx, if_neg (by decide)] at hde
    exact ⟨_, hM.put m v (x := 0) (by rw [hde]; rfl), fun k0 => by rw [agX, hde]; rfl⟩
   | true =>
    rw [hx, if_pos rfl] at hde
    simp only [agY]
    generalize hval : (fun i => 1 + max (a8 w n (m ||| 2 ^ i) v) (a8 w n (m ||| 2 ^ i) (v ||| 2 ^ i))) = val at hde
    have hvi : ∀ i, 1 + max (a8 w n (m ||| 2 ^ i) v) (a8 w n (m ||| 2 ^ i) (v ||| 2 ^ i)) = val i := fun i => by rw [← hval]
    have key : ∀ (d G i : Nat) (mp : Mp), i + d = n → d < G → d8 w n mp → ∃ mp', d8 w n mp' ∧ ∀ K : Int → Int → Int → Mp → Mp → Int → Int → Option β,
      kv N (gq N F) G (mnO n (bg m) val i : Int) (n : Int) (i : Int) (n : Int) (w : Int) mp mp5 (m : Int) (v : Int) K = K (mnO n (bg m) val n : Int) n w mp' mp5 m v := by
     intro d
     induction d with
     | zero =>
      intro G i mp hi hG hM
      obtain ⟨G, rfl⟩ : ∃ H, G = H + 1 := ⟨G - 1, by omega⟩
      refine ⟨mp, hM, fun K => ?_⟩
      simp only [kv, Hb, CJ]
      rw [ag1 (by omega : ¬ (i : Int) < (n : Int)), agX, show i = n by omega]
     | succ d ihd =>
      intro G i mp hi hG hM
      obtain ⟨G, rfl⟩ : ∃ H, G = H + 1 := ⟨G - 1, by omega⟩
      have hlt : i < n := by omega
      have hp : 2 ^ i < 2 ^ 4 := ahE (by decide) (by omega)
      have eb : ((((if m.testBit i then 1 else 0 : Nat) : Int)) == 0) = bg m i := by
       unfold bg
       cases m.testBit i <;> rfl
      cases hf : bg m i with
      | false =>
       obtain ⟨mp', hM', he⟩ := ihd G (i + 1) mp (by omega) (by omega) hM
       refine ⟨mp', hM', fun K => ?_⟩
       simp only [kv, Hb, CJ]
       rw [agW (by omega : (i : Int) < (n : Int)), agY, ab (agW (by omega : (0 : Int) ≤ (i : Int))), gv m i (by omega), eb, hf, agX, aw i (by omega)]
       have h1 := he K
       simp only [mnO, hf] at h1
       exact h1
      | true =>
       have h4 := fR n hn m hm i hlt hf
       have hmo := et n hn m hm i hlt
       have hvo := et n hn v hv i hlt
       obtain ⟨mp1, hM1, he1⟩ := ih (m ||| 2 ^ i) v mp mp5 (by omega) hmo hv hM
       obtain ⟨mp2, hM2, he2⟩ := ih (m ||| 2 ^ i) (v ||| 2 ^ i) mp1 mp5 (by omega) hmo hvo hM1
       obtain ⟨mp', hM', he⟩ := ihd G (i + 1) mp2 (by omega) (by omega) hM2
       refine ⟨mp', hM', fun K => ?_⟩
       have hd1 := jD w n (m ||| 2 ^ i) v hn hmo
       have hd2 := jD w n (m ||| 2 ^ i) (v ||| 2 ^ i) hn hmo
       have hfc := jF n (m ||| 2 ^ i)
       simp only [kv, Hb, CJ, eP, G1]
       rw [agW (by omega : (i : Int) < (n : Int)), agY, ab (agW (by omega : (0 : Int) ≤ (i : Int))), gv m i (by omega), eb, hf, agY, aw i (by omega)]
       simp only [ab (agW (by omega : (0 : Int) ≤ (i : Int)))]
       rw [Ca, aM i (by omega), rc v (by omega), bOr m _ (by omega) (by omega), bOr v _ (by omega) (by omega), he1]
       rw [he2]
       rw [yF, show (1 : Int) + ((max (a8 w n (m ||| 2 ^ i) v) (a8 w n (m ||| 2 ^ i) (v ||| 2 ^ i)) : Nat) : Int) = ((1 + max (a8 w n (m ||| 2 ^ i) v) (a8 w n (m ||| 2 ^ i) (v ||| 2 ^ i)) : Nat) : Int) by omega, si _ (by omega), FJ, hvi]
       have h1 := he K
       simp only [mnO, hf, if_true] at h1
       exact h1
    obtain ⟨mp', hM', he⟩ := key n N 0 mp (by omega) (by omega) hM
    have hle := jD w n m v hn hm
    have hfc := jF n m
    have hst := wz n 10 (by omega) (bg m) val n
    have heq : mnO n (bg m) val n = a8 w n m v := by
     rw [hst, ← hde]
     omega
    rw [heq] at he
    refine ⟨_, hM'.put m v (x := (a8 w n m v : Int)) rfl, fun k0 => ?_⟩
    have h1 := he (fun e12_0 e12_1 e12_2 e12_3 e12_4 e12_5 e12_6 => k0 e12_0 e12_1 e12_2 (jS ⟨true, false⟩ e12_3 e12_5 e12_6 e12_0) e12_4)
    simp only [mnO, ahN] at h1
    exact h1
theorem iV (N : Nat) (hN : 64 < N) (n w : Nat) (hn : n ≤ 4) (hw : w < 2 ^ 2 ^ n) (m v : Nat) (mp mp5 : Mp) (hm : m < 2 ^ n) (hv : v < 2 ^ n) (hM : d8 w n mp) :
  ∃ mp', d8 w n mp' ∧ ∀ k0 : Int → Int → Int → Mp → Mp → Option β, PH N (m : Int) (v : Int) (n : Int) (w : Int) mp mp5 k0 = k0 (a8 w n m v : Int) n w mp' mp5 := by
 have := jF n m
 exact Bn N hN n w hn hw N m v mp mp5 (by omega) hm hv hM
theorem qy (B : Nat) (bg : Nat → Bool) (val : Nat → Nat) : ∀ n, mnO B bg val n = B ∨ ∃ i, i < n ∧ bg i = true ∧ val i = mnO B bg val n
 | 0 => .inl rfl
 | n + 1 => by
  simp only [mnO]
  cases hf : bg n with
  | false =>
   rw [if_neg (by decide)]
   rcases qy B bg val n with h | ⟨i, h1, h2, h3⟩
   ·exact .inl h
   ·exact .inr ⟨i, by omega, h2, h3⟩
  | true =>
   rw [if_pos rfl]
   by_cases hle : val n ≤ mnO B bg val n
   ·exact .inr ⟨n, by omega, hf, by omega⟩
   ·rcases qy B bg val n with h | ⟨i, h1, h2, h3⟩
    ·exact .inl (by omega)
    ·exact .inr ⟨i, by omega, h2, by omega⟩
theorem H1 (w n m v : Nat) (hn : n ≤ 4) (hm : m < 2 ^ n) (hb : cI w n m v = true) : ∃ i, i < n ∧ pick w n m v i = true := by
 have hd := sF w n m v hn hm
 rw [hb, if_pos rfl] at hd
 have hle := jD w n m v hn hm
 have hfc := jF n m
 rcases qy 10 (bg m) (fun i => 1 + max (a8 w n (m ||| 2 ^ i) v) (a8 w n (m ||| 2 ^ i) (v ||| 2 ^ i))) n with h | ⟨i, h1, h2, h3⟩
 ·omega
 ·refine ⟨i, h1, ?_⟩
  unfold pick
  rw [h2, ag8, beq_iff_eq, hd]
  exact h3
theorem sS (p : Nat → Bool) : ∀ d i, (∃ j, i ≤ j ∧ j < i + d ∧ p j = true) → dg p d i < i + d ∧ i ≤ dg p d i ∧ p (dg p d i) = true
 | 0, i, ⟨j, h1, h2, _⟩ => by omega
 | d + 1, i, ⟨j, h1, h2, h3⟩ => by
  simp only [dg]
  cases hp : p i with
  | true => rw [if_pos rfl]; exact ⟨by omega, ag7 _, hp⟩
  | false =>
   rw [if_neg (by decide)]
   have hne : j ≠ i := fun e => by rw [e, hp] at h3; cases h3
   have := sS p d (i + 1) ⟨j, by omega, by omega, h3⟩
   exact ⟨by omega, by omega, this.2.2⟩
theorem pi {w n m v : Nat} (hn : n ≤ 4) (hm : m < 2 ^ n) (hb : cI w n m v = true) : dg (pick w n m v) n 0 < n ∧ bg m (dg (pick w n m v) n 0) = true ∧ pick w n m v (dg (pick w n m v) n 0) = true := by
 obtain ⟨i, h1, h2⟩ := H1 w n m v hn hm hb
 obtain ⟨h3, _, h4⟩ := sS (pick w n m v) n 0 ⟨i, ahr _, by omega, h2⟩
 have h5 := h4
 unfold pick at h5
 simp only [agZ] at h5
 exact ⟨by omega, h5.1, h4⟩
theorem sj (N m v i : Nat) (hm : m < 16) (hv : v < 16) (hi : i < 4) (K : Int → Int → Option β) :
  eP N (m : Int) (v : Int) (i : Int) 0 K = K ((m ||| 2 ^ i : Nat) : Int) v ∧ eP N (m : Int) (v : Int) (i : Int) 1 K = K ((m ||| 2 ^ i : Nat) : Int) ((v ||| 2 ^ i : Nat) : Int) := by
 have hp : 2 ^ i < 2 ^ 4 := ahE (by decide) (by omega)
 unfold eP G1
 rw [Ca, aM i (by omega), rc v (by omega), bOr m _ (by omega) (by omega), bOr v _ (by omega) (by omega), ab (agW (by omega : (0 : Int) ≤ (i : Int))), ab (agW (by omega : (0 : Int) ≤ (i : Int)))]
 rw [ab (agW (by omega : (0 : Int) ≤ (i : Int)))]
 exact ⟨rfl, rfl⟩
theorem H0 (w n m v i : Nat) (hn : n ≤ 4) (hm : m < 2 ^ n) (hb : cI w n m v = true) (hi : i < n) (hf : bg m i = true) :
  pick w n m v i = (decide (a8 w n (m ||| 2 ^ i) v < a8 w n m v) && decide (a8 w n (m ||| 2 ^ i) (v ||| 2 ^ i) < a8 w n m v)) := by
 have hd := sF w n m v hn hm
 rw [hb, if_pos rfl] at hd
 have h1 := DB 10 (bg m) (fun i => 1 + max (a8 w n (m ||| 2 ^ i) v) (a8 w n (m ||| 2 ^ i) (v ||| 2 ^ i))) n i hi hf
 rw [← hd] at h1
 have h1 : a8 w n m v ≤ 1 + max (a8 w n (m ||| 2 ^ i) v) (a8 w n (m ||| 2 ^ i) (v ||| 2 ^ i)) := h1
 unfold pick
 rw [hf, ag8, aic, agZ, beq_iff_eq, decide_eq_true_eq, decide_eq_true_eq]
 omega
theorem ve (N : Nat) (hN : 64 < N) (n w : Nat) (hn : n ≤ 4) (hw : w < 2 ^ 2 ^ n) (m v : Nat) (mp mp5 : Mp) (hm : m < 2 ^ n) (hv : v < 2 ^ n) (hM : d8 w n mp) :
  ∃ mp', d8 w n mp' ∧ ∀ k0 : Int → Int → Int → Mp → Mp → Option β, xw N (m : Int) (v : Int) (n : Int) (w : Int) mp mp5 k0 =
   k0 (if cI w n m v then (dg (pick w n m v) n 0 : Int) else -1) n w mp' mp5 := by
 have hs := Ce hn
 have hw' := Cw (by omega) hw
 unfold xw O0
 obtain ⟨mp1, hM1, he1⟩ := iV (β := β) N hN n w hn hw m v mp mp5 hm hv hM
 simp only [he1]
 cases hx : cI w n m v with
 | false =>
  refine ⟨mp1, hM1, fun k0 => ?_⟩
  rw [if_neg (by decide)]
  have hd := sF w n m v hn hm
  rw [hx, if_neg (by decide)] at hd
  rw [hd]
  refine a6 (fun F i => iu N F ((0 : Nat) : Int) (n : Int) (i : Int) (n : Int) (w : Int) mp1 mp5 (m : Int) (v : Int) k0 (fun a b c d => k0 (-1) a b c d)) n _ ?_ ?_ N 0 (ahr _) (by omega)
  ·intro F i hi
   simp only [iu, Hc, CK]
   rw [agW (by omega : (i : Int) < (n : Int)), agY, ag1 (by decide : ¬ ((0 : Nat) : Int) > 0), agX, aw i (by omega)]
  ·intro F
   simp only [iu, Hc, CK]
   rw [ag1 (by omega : ¬ (n : Int) < (n : Int)), agX]
 | true =>
  obtain ⟨f1, f2, f3⟩ := pi hn hm hx
  have hpos : 0 < a8 w n m v := by
   have := f3
   unfold pick at this
   simp only [agZ, beq_iff_eq] at this
   omega
  have key : ∀ (d G i : Nat) (mp : Mp), i + d = n → d < G → d8 w n mp → (∃ j, i ≤ j ∧ j < i + d ∧ pick w n m v j = true) → dg (pick w n m v) d i = dg (pick w n m v) n 0 →
    ∃ mp', d8 w n mp' ∧ ∀ (k0 : Int → Int → Int → Mp → Mp → Option β) (k1 : Int → Int → Mp → Mp → Option β),
     iu N G (a8 w n m v : Int) (n : Int) (i : Int) (n : Int) (w : Int) mp mp5 (m : Int) (v : Int) k0 k1 = k0 (dg (pick w n m v) n 0 : Int) n w mp' mp5 := by
   intro d
   induction d with
   | zero => intro G i mp _ _ _ ⟨j, h1, h2, _⟩; omega
   | succ d ihd =>
    intro G i mp hi hG hM hex hst
    obtain ⟨G, rfl⟩ : ∃ H, G = H + 1 := ⟨G - 1, by omega⟩
    have hlt : i < n := by omega
    simp only [iu, Hc, CK]
    simp only [agW (by omega : (i : Int) < (n : Int)), agW (by omega : (a8 w n m v : Int) > 0), agY, ab (agW (by omega : (0 : Int) ≤ (i : Int))), aw i (by omega), fun K => (sj (β := β) N m v i (by omega) (by omega) (by omega) K).1, fun K => (sj (β := β) N m v i (by omega) (by omega) (by omega) K).2, gv m i (by omega)]
    have eb : ((((if m.testBit i then 1 else 0 : Nat) : Int)) == 0) = bg m i := by
     unfold bg
     cases m.testBit i <;> rfl
    rw [eb]
    simp only [dg] at hst
    have next : pick w n m v i = false → ∀ mp, d8 w n mp → ∃ mp', d8 w n mp' ∧ ∀ (k0 : Int → Int → Int → Mp → Mp → Option β) (k1 : Int → Int → Mp → Mp → Option β),
      iu N G (a8 w n m v : Int) (n : Int) ((i + 1 : Nat) : Int) (n : Int) (w : Int) mp mp5 (m : Int) (v : Int) k0 k1 = k0 (dg (pick w n m v) n 0 : Int) n w mp' mp5 := by
     intro hno mp hM
     rw [hno, if_neg (by decide)] at hst
     refine ihd G (i + 1) mp (by omega) (by omega) hM ?_ hst
     obtain ⟨j, h1, h2, h3⟩ := hex
     have hne : j ≠ i := fun e => by rw [e, hno] at h3; cases h3
     exact ⟨j, by omega, by omega, h3⟩
    cases hf : bg m i with
    | false =>
     simp only [agX]
     exact next (by unfold pick; rw [hf]; rfl) mp hM
    | true =>
     have hmo := et n hn m hm i hlt
     have hvo := et n hn v hv i hlt
     have hpk := H0 w n m v i hn hm hx hlt hf
     obtain ⟨mpa, hMa, hea⟩ := iV (β := β) N hN n w hn hw (m ||| 2 ^ i) v mp mp5 hmo hv hM
     obtain ⟨mpb, hMb, heb⟩ := iV (β := β) N hN n w hn hw (m ||| 2 ^ i) (v ||| 2 ^ i) mpa mp5 hmo hvo hMa
     have c1 : decide (((a8 w n (m ||| 2 ^ i) v : Nat) : Int) < (a8 w n m v : Int)) = decide (a8 w n (m ||| 2 ^ i) v < a8 w n m v) := decide_eq_decide.2 (by omega)
     have c2 : decide (((a8 w n (m ||| 2 ^ i) (v ||| 2 ^ i) : Nat) : Int) < (a8 w n m v : Int)) = decide (a8 w n (m ||| 2 ^ i) (v ||| 2 ^ i) < a8 w n m v) := decide_eq_decide.2 (by omega)
     simp only [agY, hea, heb, c1, c2]
     cases d1 : decide (a8 w n (m ||| 2 ^ i) v < a8 w n m v) with
     | false =>
      rw [d1, ahu] at hpk
      simp only [agX]
      exact next hpk mpa hMa
     | true =>
      cases d2 : decide (a8 w n (m ||| 2 ^ i) (v ||| 2 ^ i) < a8 w n m v) with
      | false =>
       rw [d1, d2] at hpk
       simp only [agX, agY]
       exact next hpk mpb hMb
      | true =>
       rw [d1, d2] at hpk
       have hpk : pick w n m v i = true := hpk
       rw [hpk, if_pos rfl] at hst
       rw [← hst]
       exact ⟨mpb, hMb, fun k0 k1 => rfl⟩
  obtain ⟨mp', hM', he⟩ := key n N 0 mp1 (by omega) (by omega) hM1 ⟨_, ahr _, by omega, f3⟩ rfl
  exact ⟨mp', hM', fun k0 => by rw [if_pos rfl]; exact he _ _⟩
theorem th (b : Bool) : Lib.itoa (if b then 1 else 0 : Int) = [if b then 49 else 48] := by
 cases b
 ·show Lib.itoa 0 = [48]
  unfold Lib.itoa
  rw [if_neg (by decide), Lib.decDigits, dif_pos (by decide)]
  rfl
 ·show Lib.itoa 1 = [49]
  unfold Lib.itoa
  rw [if_neg (by decide), Lib.decDigits, dif_pos (by decide)]
  rfl
theorem yc (w n : Nat) (hn : n ≤ 4) : ∀ f m v, m < 2 ^ n → v < 2 ^ n → (bst w n f m v).length + 1 ≤ 2 ^ (fc n m + 1)
 | 0, m, v, _, _ => ahJ _
 | f + 1, m, v, hm, hv => by
  simp only [bst]
  cases hb : cI w n m v with
  | false =>
   rw [if_neg (by decide)]
   have : 2 ^ 1 ≤ 2 ^ (fc n m + 1) := ag6 (by decide) (by omega)
   simpa using this
  | true =>
   rw [if_pos rfl]
   obtain ⟨h1, h2, _⟩ := pi hn hm hb
   generalize dg (pick w n m v) n 0 = i at h1 h2 ⊢
   have h4 := fR n hn m hm i h1 h2
   have k1 := yc w n hn f (m ||| 2 ^ i) v (et n hn m hm i h1) hv
   have k2 := yc w n hn f (m ||| 2 ^ i) (v ||| 2 ^ i) (et n hn m hm i h1) (et n hn v hv i h1)
   rw [h4] at k1 k2
   have e : 2 ^ (fc n m + 1) = 2 * 2 ^ fc n m := by rw [Nat.pow_succ]; omega
   simp only [ag3, ag4]
   omega
theorem kz (w n : Nat) (hn : n ≤ 4) (f m v : Nat) (hm : m < 2 ^ n) (hv : v < 2 ^ n) : (bst w n f m v).length ≤ 31 := by
 have h1 := yc w n hn f m v hm hv
 have h2 := jF n m
 have : 2 ^ (fc n m + 1) ≤ 2 ^ 5 := ag6 (by decide) (by omega)
 omega
theorem HV (i : Nat) (h : i < 5) : aq (([] : List Int) ++ [w8 (97 + w8 (i : Int))]) = B [UInt8.ofNat (97 + i)] := by
 rw [cT i (by omega), show (97 : Int) + (i : Int) = ((97 + i : Nat) : Int) by omega, cT _ (by omega), aal, ahb]
theorem Bm (N : Nat) (hN : 64 < N) (n w : Nat) (hn : n ≤ 4) (hw : w < 2 ^ 2 ^ n) : ∀ (F m v : Nat) (mp mp5 : Mp), fc n m < F → m < 2 ^ n → v < 2 ^ n → d8 w n mp →
  ∃ mp', d8 w n mp' ∧ ∀ k0 : ByteArray → Int → Int → Mp → Mp → Option β, p6 N F (m : Int) (v : Int) (n : Int) (w : Int) mp mp5 k0 = k0 (B (bst w n F m v)) n w mp' mp5 := by
 have hs := Ce hn
 have hw' := Cw (by omega) hw
 intro F
 induction F with
 | zero => intro m v mp mp5 h; omega
 | succ F ih =>
  intro m v mp mp5 hF hm hv hM
  simp only [p6, TG, O1]
  obtain ⟨mp1, hM1, he⟩ := ve (β := β) N hN n w hn hw m v mp mp5 hm hv hM
  simp only [he, bst]
  cases hx : cI w n m v with
  | false =>
   refine ⟨mp1, hM1, fun k0 => ?_⟩
   rw [if_neg (by decide), if_neg (by decide), agW (by decide : (-1 : Int) < 0), agY, pn N hN n w m v (by omega) hw' (by omega)]
   have e : (cond (sc w m v false (2 ^ n)) (cond (sc w m v true (2 ^ n)) (2 : Int) 0) (cond (sc w m v true (2 ^ n)) 1 0)) = (if sc w m v true (2 ^ n) then 1 else 0 : Int) := by
    unfold cI at hx
    revert hx
    cases sc w m v false (2 ^ n) <;> cases sc w m v true (2 ^ n) <;> decide
   rw [e, dy N _ (by cases sc w m v true (2 ^ n) <;> exact ⟨by decide, by decide⟩), th]
  | true =>
   obtain ⟨f1, f2, _⟩ := pi hn hm hx
   simp only [if_true]
   generalize dg (pick w n m v) n 0 = i at f1 f2 ⊢
   have h4 := fR n hn m hm i f1 f2
   have hmo := et n hn m hm i f1
   have hvo := et n hn v hv i f1
   obtain ⟨mpa, hMa, hea⟩ := ih (m ||| 2 ^ i) v mp1 mp5 (by omega) hmo hv hM1
   obtain ⟨mpb, hMb, heb⟩ := ih (m ||| 2 ^ i) (v ||| 2 ^ i) mpa mp5 (by omega) hmo hvo hMa
   refine ⟨mpb, hMb, fun k0 => ?_⟩
   have l1 := kz w n hn F (m ||| 2 ^ i) v hmo hv
   have l2 := kz w n hn F (m ||| 2 ^ i) (v ||| 2 ^ i) hmo hvo
   generalize bst w n F (m ||| 2 ^ i) v = b1 at hea l1 ⊢
   generalize bst w n F (m ||| 2 ^ i) (v ||| 2 ^ i) = b2 at heb l2 ⊢
   have g1 : decide (([UInt8.ofNat (97 + i)] : List UInt8).length + b1.length ≤ 9223372036854775807) = true := agW (by simp only [ag3, ahh]; omega)
   have g2 : decide ((([UInt8.ofNat (97 + i)] : List UInt8) ++ b1).length + b2.length ≤ 9223372036854775807) = true := agW (by simp only [ag4, ag3, ahh]; omega)
   rw [ag1 (by omega : ¬ (i : Int) < 0), agX]
   simp only [fun K => (sj (β := β) N m v i (by omega) (by omega) (by omega) K).1, fun K => (sj (β := β) N m v i (by omega) (by omega) (by omega) K).2, hea, heb, HV i (by omega), cK, aE, g1, g2, gd, agY, C0, beq_self_eq_true, decide_true]
   rfl
theorem qq (N : Nat) (hN : 64 < N) (a0 a1 : Int) (h1 : a1 < 9223372036854775808) (k : ByteArray → Bool → Option β) : xx N a0 a1 k = k (B (Fn N a0 a1)) (dU a0 a1 4) := by
 unfold xx O2 Fn
 rw [rG N a0 a1 4 h1]
 cases hs : dU a0 a1 4 with
 | false => rfl
 | true =>
  have h := hs
  simp only [dU, agZ, decide_eq_true_eq] at h
  obtain ⟨n, w, rfl, rfl, hn, hw, _⟩ := yA h.1
  have hfc := jF n 0
  obtain ⟨mp', _, e⟩ := Bm (β := β) N hN n w (by omega) hw N 0 0 [] [] (by omega) (ahJ n) (ahJ n) (fun m v h => by cases h)
  simp only [ahN] at e
  rw [if_pos rfl, ag5, agX]
  unfold CZ OX TH
  exact e _
def Dn (p q : Bool) : Int := cond p (cond q 2 0) (cond q 1 (-1))
theorem zW (w m v : Nat) (b : Bool) (x : Nat) (h : sc w m v b x = true) : ∀ d, sc w m v b (x + d) = true
 | 0 => h
 | d + 1 => by rw [← ah1, sc, zW w m v b x h d]; rfl
theorem jY (N : Nat) (hN : 64 < N) (n w m v : Nat) (hn : n ≤ 5) (hw : w < 4294967296) (hm : m < 4294967296) (k : Int → Option β) :
  km N (n : Int) (w : Int) (m : Int) (v : Int) k = k (Dn (sc w m v false (2 ^ n)) (sc w m v true (2 ^ n))) := by
 have hs := bd hn
 unfold km Ot
 have key : ∀ (F x : Nat), 2 ^ n - x < F → x ≤ 2 ^ n → (sc w m v false x && sc w m v true x) = false →
   pT N F (m : Int) (v : Int) (Dn (sc w m v false x) (sc w m v true x)) (x : Int) (n : Int) (w : Int) k k = k (Dn (sc w m v false (2 ^ n)) (sc w m v true (2 ^ n))) := by
  intro F
  induction F with
  | zero => intro x h; omega
  | succ F ih =>
   intro x hF hx hno
   simp only [pT, Tt, Oq]
   rw [ab (agW (by omega : (0 : Int) ≤ (n : Int))), aM n (by omega)]
   by_cases hlt : x < 2 ^ n
   ·rw [agW (by omega : (x : Int) < ((2 ^ n : Nat) : Int)), agY, bAnd x m (by omega) (by omega), gv w x (by omega), aw x (by omega), ab (agW (by omega : (0 : Int) ≤ (x : Int)))]
    have e0 : (((x &&& m : Nat) : Int) != (v : Int)) = !(x &&& m == v) := by
     rw [bne, aic]
     simp only [ahl, beq_eq_false_iff_ne, ne_eq]
     omega
    rw [e0]
    have ih' := ih (x + 1) (by omega) (by omega)
    have s0 : ∀ b, sc w m v b (x + 1) = (sc w m v b x || (x &&& m == v && w.testBit x == b)) := fun _ => rfl
    rw [s0, s0] at ih'
    cases hv : (x &&& m == v) with
    | false =>
     rw [hv] at ih'
     simp only [ahu, aiy] at ih'
     rw [ahk, agY]
     exact ih' hno
    | true =>
     rw [hv] at ih'
     simp only [ag8] at ih'
     rw [ag5, agX]
     have both : sc w m v false (x + 1) = true → sc w m v true (x + 1) = true → Dn (sc w m v false (2 ^ n)) (sc w m v true (2 ^ n)) = 2 := fun h1 h2 => by
      have h3 := zW w m v false (x + 1) h1 (2 ^ n - (x + 1))
      have h4 := zW w m v true (x + 1) h2 (2 ^ n - (x + 1))
      rw [show x + 1 + (2 ^ n - (x + 1)) = 2 ^ n by omega] at h3 h4
      rw [h3, h4]
      rfl
     rw [s0, s0, hv] at both
     simp only [ag8] at both
     generalize Dn (sc w m v false (2 ^ n)) (sc w m v true (2 ^ n)) = R at ih' both ⊢
     cases h0 : sc w m v false x <;> cases h1 : sc w m v true x <;> cases hb : w.testBit x <;> rw [h0, h1] at hno <;> simp only [h0, h1, hb] at ih' both <;> simp [Dn] at hno ih' both ⊢ <;> first | exact ih' | (rw [both]) | (cases hno)
   ·rw [ag1 (by omega : ¬ (x : Int) < ((2 ^ n : Nat) : Int)), agX, show x = 2 ^ n by omega]
 exact key N 0 (by omega) (ahr _) rfl
theorem sD (w n m v : Nat) : decide (Dn (sc w m v false (2 ^ n)) (sc w m v true (2 ^ n)) < 2) = !cI w n m v := by
 unfold cI
 cases sc w m v false (2 ^ n) <;> cases sc w m v true (2 ^ n) <;> rfl
theorem RA (w n m v : Nat) (hv : v < 2 ^ n) (hvm : v &&& m = v) : (sc w m v false (2 ^ n) || sc w m v true (2 ^ n)) = true := by
 have := (D1 w m v (w.testBit v) (2 ^ n)).2 ⟨v, hv, hvm, rfl⟩
 cases hb : w.testBit v with
 | true => rw [hb] at this; rw [this, ai2]
 | false => rw [hb] at this; rw [this, ajj]
theorem q9 (a : Nat) : ((a : Int) == 0) = (a == 0) := by cases a <;> rfl
theorem Fi : ∀ m, m < 16 → ∀ i, i < 4 → (m &&& 2 ^ i == 0) = bg m i := by decide +kernel
theorem Tg (B : Nat) (bg : Nat → Bool) (val : Nat → Nat) : ∀ n, mnO B bg val n ≤ B
 | 0 => ag7 _
 | n + 1 => by
  have := Tg B bg val n
  simp only [mnO]
  split <;> omega
theorem Aa (N : Nat) (hN : 64 < N) (n w : Nat) (hn : n ≤ 4) (hw : w < 2 ^ 2 ^ n) : ∀ (F m v : Nat), fc n m < F → m < 2 ^ n → v < 2 ^ n → ∀ k : Int → Option β, fY N F (n : Int) (w : Int) (m : Int) (v : Int) k = k (a8 w n m v : Int) := by
 have hs := Ce hn
 have hw' := Cw (by omega) hw
 intro F
 induction F with
 | zero => intro m v h; omega
 | succ F ih =>
  intro m v hF hm hv k
  simp only [fY, Tu, Ou]
  rw [jY N hN n w m v (by omega) hw' (by omega), sD, sF w n m v hn hm]
  cases hx : cI w n m v with
  | false => rfl
  | true =>
   rw [if_pos rfl, ag5, agX]
   generalize hval : (fun i => 1 + max (a8 w n (m ||| 2 ^ i) v) (a8 w n (m ||| 2 ^ i) (v ||| 2 ^ i))) = val
   have hvi : ∀ i, 1 + max (a8 w n (m ||| 2 ^ i) v) (a8 w n (m ||| 2 ^ i) (v ||| 2 ^ i)) = val i := fun i => by rw [← hval]
   have key : ∀ (d G i : Nat), i + d = n → d < G → mg N (fY N F) G (m : Int) (v : Int) (mnO 10 (bg m) val i : Int) (i : Int) (n : Int) (w : Int) k = k (mnO 10 (bg m) val n : Int) := by
    intro d
    induction d with
    | zero =>
     intro G i hi hG
     obtain ⟨G, rfl⟩ : ∃ H, G = H + 1 := ⟨G - 1, by omega⟩
     simp only [mg, Pl, Gw]
     rw [ag1 (by omega : ¬ (i : Int) < (n : Int)), agX, show i = n by omega]
    | succ d ihd =>
     intro G i hi hG
     obtain ⟨G, rfl⟩ : ∃ H, G = H + 1 := ⟨G - 1, by omega⟩
     have hlt : i < n := by omega
     have hp : 2 ^ i < 2 ^ 4 := ahE (by decide) (by omega)
     simp only [mg, Pl, Gw]
     rw [agW (by omega : (i : Int) < (n : Int)), agY, ab (agW (by omega : (0 : Int) ≤ (i : Int))), aM i (by omega), bAnd m _ (by omega) (by omega), q9, Fi m (by omega) i (by omega), bOr m _ (by omega) (by omega), bOr v _ (by omega) (by omega), aw i (by omega)]
     have h1 := ihd G (i + 1) (by omega) (by omega)
     simp only [mnO] at h1
     cases hf : bg m i with
     | false => rw [hf] at h1; exact h1
     | true =>
      rw [hf, if_pos rfl] at h1
      have h4 := fR n hn m hm i hlt hf
      have hmo := et n hn m hm i hlt
      have hvo := et n hn v hv i hlt
      have hd1 := jD w n (m ||| 2 ^ i) v hn hmo
      have hd2 := jD w n (m ||| 2 ^ i) (v ||| 2 ^ i) hn hmo
      have hfc := jF n (m ||| 2 ^ i)
      have hB := Tg 10 (bg m) val i
      rw [agY, ih _ v (by omega) hmo hv, ih _ _ (by omega) hmo hvo, yF, show (1 : Int) + ((max (a8 w n (m ||| 2 ^ i) v) (a8 w n (m ||| 2 ^ i) (v ||| 2 ^ i)) : Nat) : Int) = ((1 + max (a8 w n (m ||| 2 ^ i) v) (a8 w n (m ||| 2 ^ i) (v ||| 2 ^ i)) : Nat) : Int) by omega, si _ (by omega), FJ, hvi]
      exact h1
   exact key n N 0 (by omega) (by omega)
theorem gI (N : Nat) (hN : 64 < N) (n w : Nat) (hn : n ≤ 4) (hw : w < 2 ^ 2 ^ n) (m v : Nat) (hm : m < 2 ^ n) (hv : v < 2 ^ n) (k : Int → Option β) : Pn N (n : Int) (w : Int) (m : Int) (v : Int) k = k (a8 w n m v : Int) := by
 have := jF n m
 exact Aa N hN n w hn hw N m v (by omega) hm hv k
theorem N1 (m v b : Nat) (h : v &&& m = v) : v &&& (m ||| b) = v ∧ (v ||| b) &&& (m ||| b) = v ||| b := by
 have hb : ∀ j, v.testBit j = true → m.testBit j = true := fun j hj => by
  have e := congrArg (fun x => x.testBit j) h
  simp only [ahW, hj, ag8] at e
  exact e
 constructor
 ·apply ahx
  intro j
  have := hb j
  simp only [ahW, aii]
  cases hv : v.testBit j with
  | false => rfl
  | true => rw [this hv]; rfl
 ·apply ahx
  intro j
  have := hb j
  simp only [ahW, aii]
  cases hv : v.testBit j with
  | false => cases m.testBit j <;> cases b.testBit j <;> rfl
  | true => rw [this hv]; rfl
theorem Cg (N : Nat) (hN : 64 < N) (n w : Nat) (hn : n ≤ 4) (hw : w < 2 ^ 2 ^ n) : ∀ (F m v : Nat), fc n m < F → m < 2 ^ n → v < 2 ^ n → v &&& m = v → ∀ k : ByteArray → Option β,
  fZ N F (n : Int) (w : Int) (m : Int) (v : Int) k = k (B (bst w n F m v)) := by
 have hs := Ce hn
 have hw' := Cw (by omega) hw
 intro F
 induction F with
 | zero => intro m v h; omega
 | succ F ih =>
  intro m v hF hm hv hvm k
  simp only [fZ, Tw, Ow]
  rw [jY N hN n w m v (by omega) hw' (by omega), sD]
  simp only [bst]
  cases hx : cI w n m v with
  | false =>
   rw [if_neg (by decide), ahk, agY]
   unfold cI at hx
   cases h0 : sc w m v false (2 ^ n) with
   | true =>
    rw [h0, ag8] at hx
    rw [hx]; rfl
   | false =>
    cases h1 : sc w m v true (2 ^ n) with
    | true => rfl
    | false => exact absurd (RA w n m v hv hvm) (by rw [h0, h1]; decide)
  | true =>
   rw [if_pos rfl, ag5, agX]
   have hfcn := jF n m
   rw [gI N hN n w hn hw m v hm hv]
   obtain ⟨f1, f2, f3⟩ := pi hn hm hx
   have key : ∀ (d G i : Nat), i + d = n → d < G → (∃ j, i ≤ j ∧ j < i + d ∧ pick w n m v j = true) → dg (pick w n m v) d i = dg (pick w n m v) n 0 →
     mh N (fZ N F) G (m : Int) (v : Int) (a8 w n m v : Int) (i : Int) (n : Int) (w : Int) k (k ByteArray.empty) =
     k (B (UInt8.ofNat (97 + dg (pick w n m v) n 0) :: (bst w n F (m ||| 2 ^ dg (pick w n m v) n 0) v ++ bst w n F (m ||| 2 ^ dg (pick w n m v) n 0) (v ||| 2 ^ dg (pick w n m v) n 0)))) := by
    intro d
    induction d with
    | zero => intro G i _ _ ⟨j, h1, h2, _⟩; omega
    | succ d ihd =>
     intro G i hi hG hex hst
     obtain ⟨G, rfl⟩ : ∃ H, G = H + 1 := ⟨G - 1, by omega⟩
     have hlt : i < n := by omega
     have hp : 2 ^ i < 2 ^ 4 := ahE (by decide) (by omega)
     simp only [mh, Tv, Ov]
     rw [agW (by omega : (i : Int) < (n : Int)), agY, ab (agW (by omega : (0 : Int) ≤ (i : Int))), aM i (by omega), bAnd m _ (by omega) (by omega), q9, Fi m (by omega) i (by omega), bOr m _ (by omega) (by omega), bOr v _ (by omega) (by omega), aw i (by omega)]
     simp only [dg] at hst
     have next : pick w n m v i = false → mh N (fZ N F) G (m : Int) (v : Int) (a8 w n m v : Int) ((i + 1 : Nat) : Int) (n : Int) (w : Int) k (k ByteArray.empty) =
       k (B (UInt8.ofNat (97 + dg (pick w n m v) n 0) :: (bst w n F (m ||| 2 ^ dg (pick w n m v) n 0) v ++ bst w n F (m ||| 2 ^ dg (pick w n m v) n 0) (v ||| 2 ^ dg (pick w n m v) n 0)))) := by
      intro hno
      rw [hno, if_neg (by decide)] at hst
      refine ihd G (i + 1) (by omega) (by omega) ?_ hst
      obtain ⟨j, h1, h2, h3⟩ := hex
      have hne : j ≠ i := fun e => by rw [e, hno] at h3; cases h3
      exact ⟨j, by omega, by omega, h3⟩
     cases hf : bg m i with
     | false =>
      rw [agX]
      exact next (by unfold pick; rw [hf]; rfl)
     | true =>
      have h4 := fR n hn m hm i hlt hf
      have hmo := et n hn m hm i hlt
      have hvo := et n hn v hv i hlt
      have hd1 := jD w n (m ||| 2 ^ i) v hn hmo
      have hd2 := jD w n (m ||| 2 ^ i) (v ||| 2 ^ i) hn hmo
      have hfc := jF n (m ||| 2 ^ i)
      rw [agY, gI N hN n w hn hw _ v hmo hv, gI N hN n w hn hw _ _ hmo hvo, yF, show (1 : Int) + ((max (a8 w n (m ||| 2 ^ i) v) (a8 w n (m ||| 2 ^ i) (v ||| 2 ^ i)) : Nat) : Int) = ((1 + max (a8 w n (m ||| 2 ^ i) v) (a8 w n (m ||| 2 ^ i) (v ||| 2 ^ i)) : Nat) : Int) by omega, si _ (by omega), cJ]
      have hpk : pick w n m v i = (1 + max (a8 w n (m ||| 2 ^ i) v) (a8 w n (m ||| 2 ^ i) (v ||| 2 ^ i)) == a8 w n m v) := by unfold pick; rw [hf, ag8]
      rw [← hpk]
      cases hpi : pick w n m v i with
      | false => rw [agX]; exact next hpi
      | true =>
       rw [hpi, if_pos rfl] at hst
       rw [← hst]
       have l1 := kz w n hn F (m ||| 2 ^ i) v hmo hv
       have l2 := kz w n hn F (m ||| 2 ^ i) (v ||| 2 ^ i) hmo hvo
       rw [agY, pr, ab (agW (by omega)), ab (agW (by omega)), ab (agW (by omega)), ab (agW (by omega)), ahb, ahb, tz i (by omega), ih _ v (by omega) hmo hv (N1 m v (2 ^ i) hvm).1, aE, aE, ab (agW (by simp only [ag3, ahh]; omega)), ih _ _ (by omega) hmo hvo (N1 m v (2 ^ i) hvm).2, cK, aE, aE, ab (agW (by simp only [ag4, ag3, ahh]; omega)), cK]
       rfl
   exact key n N 0 (by omega) (by omega) ⟨_, ahr _, by omega, f3⟩ rfl
theorem qO (N : Nat) (hN : 64 < N) (a0 a1 : Int) (k : ByteArray → Bool → Option β) : xp N a0 a1 k = k (B (Fn N a0 a1)) (dU a0 a1 4) := by
 unfold xp Ox Fn
 rw [bv]
 cases ht : isT a0 a1 with
 | false =>
  have hs : dU a0 a1 4 = false := by unfold dU; rw [ht]; rfl
  rw [hs]; rfl
 | true =>
  obtain ⟨n, w, rfl, rfl, hn, hw, _⟩ := yA ht
  by_cases h : n ≤ 4
  ·have hs : dU (n : Int) (w : Int) 4 = true := by unfold dU; rw [ht, agW (by omega)]; rfl
   have hfc := jF n 0
   have e := Cg (β := β) N hN n w h hw N 0 0 (by omega) (ahJ n) (ahJ n) rfl fun r => k r true
   simp only [ahN] at e
   rw [hs, if_pos rfl, ag5, agX, ag1 (by omega), agX]
   exact e
  ·have hs : dU (n : Int) (w : Int) 4 = false := by unfold dU; rw [ht, ag1 (by omega)]; rfl
   rw [hs, ag5, agX, agW (by omega), agY]
   rfl
def fV (w m : Nat) : List UInt8 := (List.range m).map fun x => if w.testBit x then 49 else 48
def pm (w m : Nat) : List Int := (List.range m).map fun x => 48 + (bw w x : Int)
theorem wk (w m : Nat) : (pm w m).length = m := by simp [pm]
theorem Dv (w m : Nat) : pm w (m + 1) = pm w m ++ [48 + (bw w m : Int)] := by simp [pm, ah8]
theorem fv (N n w : Nat) (hN : 64 < N) (hn : n ≤ 5) (hw : w < 2 ^ 2 ^ n) (k : ByteArray → Option β) : mj N (n : Int) (w : Int) k = k (B (fV w (2 ^ n))) := by
 have hw' := fX hn hw
 have hs := bd hn
 have hz : (0 : Int) ≤ ((2 ^ n : Nat) : Int) := ahi _
 unfold mj OF
 rw [bZ N _ _ (by omega), Bq hn hw, ag5, agX, bV N n _ hn, ab (agW (by omega)), ab (agW (by omega)), ab (agW (by omega)), ahb, aiV]
 have key := a6 (fun F x => mi N F ((2 ^ n : Nat) : Int) (x : Int) (n : Int) (w : Int) (pm w x ++ List.replicate (2 ^ n - x) 0) fun e => k (aq e)) (2 ^ n) (k (B (fV w (2 ^ n)))) (fun F x hx => ?_) (fun F => ?_) N 0 (by omega) (by omega)
 ·simpa [pm] using key
 ·simp only [mi, Pp, GB]
  have hb := KE w x
  rw [agW (by omega), agY, cl N w x _ hw', ab (agW (by omega)), ab (agW (by simp [wk]; omega)), aw x (by omega)]
  rw [cT _ (by omega), show (48 : Int) + (bw w x : Int) = ((48 + bw w x : Nat) : Int) by omega, cT _ (by omega), show 2 ^ n - x = (2 ^ n - (x + 1)) + 1 by omega, aiI, Dv]
  have e := El (pm w x) (0 : Int) ((48 + bw w x : Nat) : Int) (List.replicate (2 ^ n - (x + 1)) 0)
  rw [wk] at e
  rw [e]
  simp
 ·simp only [mi, Pp, GB]
  rw [ag1 (by omega), agX]
  congr 1
  rw [cg, aid, ai1, ahg]
  congr 1
  unfold pm fV
  rw [aiR]
  apply ai0
  intro x _
  simp only [Function.comp, bw]
  cases w.testBit x <;> rfl
theorem Eb (w m : Nat) : fV w (m + 1) = fV w m ++ [if w.testBit m then 49 else 48] := by simp [fV, ah8]
theorem lM (w m : Nat) : (fV w m).length = m := by simp [fV]
theorem mY (N n w : Nat) (hN : 64 < N) (hn : n ≤ 5) (hw : w < 2 ^ 2 ^ n) (k : ByteArray → Option β) : CR N (n : Int) (w : Int) k = k (B (fV w (2 ^ n))) := by
 have hw' := fX hn hw
 have hs := bd hn
 have hz : (0 : Int) ≤ ((2 ^ n : Nat) : Int) := ahi _
 refine a6 (fun F x => mb N F (B (fV w x)) (x : Int) (n : Int) (w : Int) fun e => k e) (2 ^ n) _ (fun F x hx => ?_) (fun F => ?_) N 0 (by omega) (by omega)
 ·simp only [mb, Pf, Gq]
  rw [bv, Bq hn hw, agY, ab (agW (by omega)), aM n (by omega), agW (by omega), agY, ab (agW (by omega)), lY w x (by omega), jA, aw x (by omega), Eb]
  simp only [cg, cK, aE]
  rw [ab (agW (by simp [lM]; omega)), ab (agW (by simp [lM]; omega))]
  cases w.testBit x <;> rfl
 ·simp only [mb, Pf, Gq]
  rw [bv, Bq hn hw, agY, ab (agW (by omega)), aM n (by omega), ag1 (by omega), agX]
theorem Cp : ∀ n, n ≤ 4 → 2 ^ 2 ^ n ≤ 65536 := by decide +kernel
theorem sw (N : Nat) (hN : 1048576 < N) (o : List (Nat × Nat)) (ho : o.length ≤ 1000) (h : Int → Int → (Bool → Option β) → Option β) (p : Nat × Nat → Bool) (hh : ∀ t ∈ o, ∀ k, h (t.1 : Int) (t.2 : Int) k = k (p t)) (K : Bool → Option β) : vq N (tl o) h K = K (o.any p) := by
 unfold vq OG En OA
 rw [bE]
 have key : ∀ (d i F : Nat), o.length - i = d → i ≤ o.length → d < F → lW N h F (tl o) (o.length : Int) (i : Int) (fun e => K (decide (e ≥ 0))) (K (decide ((-1 : Int) ≥ 0))) = K ((o.drop i).any p) := by
  intro d
  induction d with
  | zero =>
   intro i F hd hi hF
   obtain ⟨G, rfl⟩ : ∃ G, F = G + 1 := ⟨F - 1, by omega⟩
   simp only [lW, Pm, Em]
   rw [ag1 (by omega), agX, List.drop_of_length_le (by omega)]
   rfl
  | succ d ih =>
   intro i F hd hi hF
   obtain ⟨G, rfl⟩ : ∃ G, F = G + 1 := ⟨F - 1, by omega⟩
   have hlt : i < o.length := by omega
   simp only [lW, Pm, Em, bE, pE o i hlt]
   rw [agW (by omega : (i : Int) < (o.length : Int)), agY, ab (agW (by omega)), ab rfl, hh _ (ahm hlt), aw i (by omega), ih (i + 1) G (by omega) (by omega) (by omega), aiG hlt, List.any_cons, agW (by omega : (i : Int) ≥ 0)]
   cases p o[i] <;> rfl
 exact (key o.length 0 N (by omega) (by omega) (by omega)).trans (by rw [aih])
def Tb (n w : Int) (b : Bool) : Prop := b = true → ∃ m v : Nat, n = (m : Int) ∧ w = (v : Int) ∧ m ≤ 5 ∧ v < 2 ^ 2 ^ m
theorem WY : ∀ n, n ≤ 5 → ∀ i, i < n → 2 ^ n ≠ 2 ^ i := by decide
def at8 (l : List UInt8) (i : Nat) : UInt8 := l.getD i 0
def jI (l : List UInt8) (i : Nat) : Bool := at8 l i == 49 || at8 l i == 48
def is1 (l : List UInt8) (i : Nat) : Bool := at8 l i == 49
theorem KC (b : UInt8) (c : Nat) (hc : c < 256) : ((b.toNat : Int) == (c : Int)) = (b == UInt8.ofNat c) := by
 by_cases h : b = UInt8.ofNat c
 ·subst h
  rw [ais, aie hc]
  simp
 ·rw [beq_eq_false_iff_ne.2 h, beq_eq_false_iff_ne]
  intro e
  apply h
  apply ajo.1
  rw [ais, aie hc]
  omega
theorem oU (l : List UInt8) (i : Nat) (h : i < l.length) : at8 l i = l[i] := by
 simp [at8, ajx, ajC h]
theorem yd (l : List UInt8) (i : Nat) (h : i < l.length) : bt (B l) (i : Int) = ((at8 l i).toNat : Int) := by
 rw [Jz l i h, oU l i h]
theorem qQ (N : Nat) (hN : 1048576 < N) (l : List UInt8) (n : Nat) (hn : n ≤ 5) (hl : l.length = 2 ^ n) (k0 : Bool → Int → Int → Option β) (k1 : Int → Int → Int → Int → Option β) :
  rL N N (B l) (n : Int) 0 0 0 0 k0 k1 = cond (db (jI l) (2 ^ n)) (k1 (n : Int) (aQ (is1 l) (2 ^ n) : Int) 0 0) (k0 false 0 0) := by
 have hs := bd hn
 refine tB (fun F i => rL N F (B l) (n : Int) (aQ (is1 l) i : Int) (i : Int) 0 0 k0 k1) (jI l) (2 ^ n) _ _ (fun F i hi => ?_) (fun F => ?_) N (by omega)
 ·simp only [rL, aaa, Sg, aE]
  have e49 := KC (at8 l i) 49 (by decide)
  have e48 := KC (at8 l i) 48 (by decide)
  simp only [aiN] at e49 e48
  rw [agW (by omega : (i : Int) < (l.length : Int)), agY, ab (agW (by omega)), ab rfl, yd l i (by omega), e49, e48, aw i (by omega), ic _ i (by omega), ab (agW (by omega))]
  cases h1 : at8 l i == 49 with
  | true =>
   have hi1 : is1 l i = true := h1
   have hp : jI l i = true := by rw [jI, h1]; rfl
   rw [agY, hp, agY, jZ hi1]
  | false =>
   have hi1 : is1 l i = false := h1
   rw [agX, pO hi1]
   cases h0 : at8 l i == 48 with
   | true =>
    have hp : jI l i = true := by rw [jI, h1, h0]; rfl
    rw [hp]
   | false =>
    have hp : jI l i = false := by rw [jI, h1, h0]; rfl
    rw [hp]
 ·simp only [rL, aaa, Sg, aE]
  rw [ag1 (by omega), agX]
theorem Ea (l : List UInt8) (m : Nat) (hl : l.length = m) : (fV (aQ (is1 l) m) m == l) = db (jI l) m := by
 cases h : db (jI l) m with
 | true =>
  rw [beq_iff_eq]
  apply List.ext_getElem
  ·rw [lM, hl]
  ·intro i h1 h2
   have hi : i < m := by omega
   have hp := iz h i hi
   simp only [fV, List.getElem_map, List.getElem_range, br]
   rw [agW hi, ag8, ← oU l i (by omega)]
   simp only [jI, ahH] at hp
   rcases hp with hp | hp
   ·have e1 : is1 l i = true := hp
    rw [e1, if_pos rfl, eq_of_beq hp]
   ·have e := eq_of_beq hp
    have e1 : is1 l i = false := by rw [is1, e]; rfl
    rw [e1, if_neg (by decide), e]
 | false =>
  rw [beq_eq_false_iff_ne]
  intro e
  have : db (jI l) m = true := sr fun i hi => by
   have : at8 l i = if (aQ (is1 l) m).testBit i then 49 else 48 := by
    rw [oU l i (by omega)]
    have h2 : l[i]? = (fV (aQ (is1 l) m) m)[i]? := by rw [e]
    rw [ajC (by omega : i < l.length), ajC (by rw [lM]; exact hi)] at h2
    have h3 := ajn h2
    rw [h3]
    simp [fV]
   rw [jI, this]
   split <;> rfl
  rw [this] at h
  cases h
theorem As {m v : Nat} (hm : m ≤ 5) (hv : v < 2 ^ 2 ^ m) : Tb (m : Int) (v : Int) true := fun _ => ⟨m, v, rfl, rfl, hm, hv⟩
theorem fh {n w : Int} : Tb n w false := fun h => by cases h
theorem C7 (N : Nat) (hN : 1048576 < N) (l : List UInt8) :
  ∃ (n w : Int) (b : Bool), Tb n w b ∧ (∀ K : Int → Int → Bool → Option β, C5 N (B l) K = K n w b) ∧ (∀ K : Int → Int → Bool → Option β, rD N (B l) K = K n w b) := by
 have hshl : ∀ i : Nat, i ≤ 5 → aW .i64 1 (i : Int) = ((2 ^ i : Nat) : Int) := fun i hi => aM i (by omega)
 have stepS : ∀ (K : Int → Int → Bool → Option β) (F i : Nat), i ≤ 5 → l.length ≠ 2 ^ i → oK N (F + 1) (B l) (i : Int) 0 0 (fun e0 e1 e2 => K e1 e2 e0) (fun _ _ => K 0 0 false) = oK N F (B l) ((i + 1 : Nat) : Int) 0 0 (fun e0 e1 e2 => K e1 e2 e0) (fun _ _ => K 0 0 false) := fun K F i hi h => by
  simp only [oK, Sz, O8, aE]
  rw [agW (by omega : (i : Int) ≤ 5), agY, ab (agW (by omega)), hshl i hi, bne_iff_ne.2 (by omega), agY, aw i (by omega)]
 have stepI : ∀ (K : Int → Int → Bool → Option β) (F i : Nat), i ≤ 5 → l.length ≠ 2 ^ i → gf N (F + 1) (i : Int) (B l) 0 0 (fun e0 e1 e2 => K e1 e2 e0) (fun _ _ => K 0 0 false) = gf N F ((i + 1 : Nat) : Int) (B l) 0 0 (fun e0 e1 e2 => K e1 e2 e0) (fun _ _ => K 0 0 false) := fun K F i hi h => by
  simp only [gf, G9, CD, aE]
  rw [agW (by omega : (i : Int) < 6), agY, ab (agW (by omega)), hshl i hi, beq_eq_false_iff_ne.2 (by omega), agX, aw i (by omega)]
 by_cases hex : ∃ n, n ≤ 5 ∧ l.length = 2 ^ n
 ·obtain ⟨n, hn, hl⟩ := hex
  have hs := bd hn
  have hne : ∀ i, i < n → l.length ≠ 2 ^ i := fun i hi => by rw [hl]; exact WY n hn i hi
  have eS : ∀ K : Int → Int → Bool → Option β, C5 N (B l) K = cond (db (jI l) (2 ^ n)) (K (n : Int) (aQ (is1 l) (2 ^ n) : Int) true) (K 0 0 false) := fun K => by
   unfold C5 Sh
   refine a6 (fun F i => oK N F (B l) (i : Int) 0 0 (fun e0 e1 e2 => K e1 e2 e0) (fun _ _ => K 0 0 false)) n _ (fun F i hi => stepS K F i (by omega) (hne i hi)) (fun F => ?_) N 0 (by omega) (by omega)
   simp only [oK, Sz, O8, aE]
   rw [agW (by omega : (n : Int) ≤ 5), agY, ab (agW (by omega)), hshl n hn, hl, bne_self_eq_false, agX, qQ N hN l n hn hl]
  have eI : ∀ K : Int → Int → Bool → Option β, rD N (B l) K = cond (db (jI l) (2 ^ n)) (K (n : Int) (aQ (is1 l) (2 ^ n) : Int) true) (K 0 0 false) := fun K => by
   unfold rD GC
   refine a6 (fun F i => gf N F (i : Int) (B l) 0 0 (fun e0 e1 e2 => K e1 e2 e0) (fun _ _ => K 0 0 false)) n _ (fun F i hi => stepI K F i (by omega) (hne i hi)) (fun F => ?_) N 0 (by omega) (by omega)
   simp only [gf, G9, CD, aE]
   rw [agW (by omega : (n : Int) < 6), agY, ab (agW (by omega)), hshl n hn, hl, beq_self_eq_true, agY, b6 N (by omega) n hn _ (is1 l) (fun x k hx => by
    have e49 := KC (at8 l x) 49 (by decide)
    simp only [aiN] at e49
    unfold zj1 zb1
    rw [ab (agW (by omega)), aE, ab (agW (by omega)), yd l x (by omega), e49]
    rfl), fv N n _ (by omega) hn (bT _ _), aG, aG, Ea l _ hl]
   cases db (jI l) (2 ^ n) <;> rfl
  cases hall : db (jI l) (2 ^ n) with
  | true => exact ⟨_, _, true, As hn (bT _ _), fun K => by rw [eS, hall, agY], fun K => by rw [eI, hall, agY]⟩
  | false => exact ⟨0, 0, false, fh, fun K => by rw [eS, hall, agX], fun K => by rw [eI, hall, agX]⟩
 ·have hne : ∀ i, i ≤ 5 → l.length ≠ 2 ^ i := fun i hi e => hex ⟨i, hi, e⟩
  refine ⟨0, 0, false, fh, fun K => ?_, fun K => ?_⟩
  ·unfold C5 Sh
   refine a6 (fun F i => oK N F (B l) (i : Int) 0 0 (fun e0 e1 e2 => K e1 e2 e0) (fun _ _ => K 0 0 false)) 6 _ (fun F i hi => stepS K F i (by omega) (hne i (by omega))) (fun F => ?_) N 0 (by omega) (by omega)
   simp only [oK, Sz, O8, aE]
   rw [ag1 (by decide), agX]
  ·unfold rD GC
   refine a6 (fun F i => gf N F (i : Int) (B l) 0 0 (fun e0 e1 e2 => K e1 e2 e0) (fun _ _ => K 0 0 false)) 6 _ (fun F i hi => stepI K F i (by omega) (hne i (by omega))) (fun F => ?_) N 0 (by omega) (by omega)
   simp only [gf, G9, CD, aE]
   rw [ag1 (by decide), agX]
theorem rO (w n : Nat) : cx w n < 2 ^ 2 ^ n := bT _ _
def spl (c : UInt8) : List UInt8 → List UInt8 → List (List UInt8)
 | acc, [] => [acc]
 | acc, b :: l => if b = c then acc :: spl c [] l else spl c (acc ++ [b]) l
theorem sf (c : UInt8) : ∀ (l acc : List UInt8), (spl c acc l).length ≤ l.length + 1 ∧ ∀ p ∈ spl c acc l, p.length ≤ acc.length + l.length
 | [], acc => by simp [spl]
 | b :: l, acc => by
  unfold spl
  split
  ·obtain ⟨h1, h2⟩ := sf c l []
   refine ⟨by simp only [ag3]; omega, fun p hp => ?_⟩
   rcases ahe.1 hp with rfl | hp
   ·simp
   ·have := h2 p hp
    simp only [ahh, ag3] at this ⊢
    omega
  ·obtain ⟨h1, h2⟩ := sf c l (acc ++ [b])
   refine ⟨by simp only [ag3]; omega, fun p hp => ?_⟩
   have := h2 p hp
   simp only [ag4, ahh, ag3] at this ⊢
   omega
def jW (f : List UInt8 → Option Nat) : List (List UInt8) → Nat → Option Nat
 | [], w => some w
 | p :: ps, w => match f p with
  | some m => jW f ps (w ||| 2 ^ m)
  | none => none
def qi (n : Nat) (p : List UInt8) : Option Nat := match ptm n p with
 | some t => some t.1
 | none => none
theorem WX {k : Nat} (h : k < 5) : 2 ^ k < 2 ^ 5 := ahE (by decide) h
theorem or5 {a b : Nat} (ha : a < 32) (hb : b < 2 ^ 5) : a ||| b < 32 := ahK (n := 5) ha hb
theorem qM : ∀ (l : List UInt8) (f : Bool) (m v : Nat), m < 32 → v < 32 → (scn l f m v).1 < 32 ∧ (scn l f m v).2 < 32
 | [], f, m, v, hm, hv => ⟨hm, hv⟩
 | b :: l, f, m, v, hm, hv => by
  unfold scn
  split
  ·exact qM l _ _ _ hm hv
  ·split
   ·rename_i h
    have hp := WX (k := b.toNat - 97) (by omega)
    refine qM l _ _ _ (or5 hm hp) ?_
    cases f
    ·exact or5 hv hp
    ·exact hv
   ·exact qM l _ _ _ hm hv
theorem wK {n : Nat} {l : List UInt8} {p : Nat × Nat} (hn : n ≤ 5) (h : ptm n l = some p) : okT n p.1 p.2 = true ∧ p.1 < 32 ∧ p.2 < 32 := by
 unfold ptm at h
 split at h
 ·cases h
  have : ∀ n, n ≤ 5 → okT n 0 0 = true := by decide +kernel
  exact ⟨this n hn, by decide, by decide⟩
 ·split at h
  ·cases h
  ·split at h
   ·rename_i h1 h2 h3
    cases h
    refine ⟨?_, qM _ _ _ _ (by decide) (by decide)⟩
    cases hok : okT n (scn l false 0 0).1 (scn l false 0 0).2 with
    | true => rfl
    | false =>
     unfold ftb at h3
     rw [hok, agX] at h3
     exact absurd h3.symm h2
   ·cases h
theorem wS (n : Nat) (hn : n ≤ 5) : ∀ (ps : List (List UInt8)) (w w' : Nat), jW (qi n) ps w = some w' → w < 2 ^ 2 ^ n → w' < 2 ^ 2 ^ n
 | [], w, w', h, hw => by cases h; exact hw
 | p :: ps, w, w', h, hw => by
  unfold jW qi at h
  cases hp : ptm n p with
  | none => rw [hp] at h; cases h
  | some t =>
   rw [hp] at h
   have hk := (wK hn hp).1
   simp only [okT, agZ, decide_eq_true_eq] at hk
   exact wS n hn ps _ w' h (ahK hw (ahE (by decide) hk.1))
def wQ (o : Option Nat) (k1 : Nat → Option β) (k0 : Option β) : Option β := match o with
 | some w => k1 w
 | none => k0
def qs (n : Nat) (p : List UInt8) : Option Nat := match ptm n p with
 | some t => if t.1 = t.2 then some t.1 else none
 | none => none
def ptK (o : Option (Nat × Nat)) (K : Int → Int → Bool → Option β) : Option β := match o with
 | some p => K (p.1 : Int) (p.2 : Int) true
 | none => K 0 0 false
theorem FA (n : Nat) (hn : n ≤ 5) : ftb n 0 0 = [49] := by
 have : ∀ n, n ≤ 5 → ftb n 0 0 = [49] := by decide +kernel
 exact this n hn
def sU (n : Nat) (b : UInt8) : Bool := Nat.beq b.toNat 33 || (decide (97 ≤ b.toNat) && decide (b.toNat < 97 + n))
def good (n : Nat) (l : List UInt8) : Bool := l.all (sU n)
theorem ye (pre rest : List UInt8) (b : UInt8) : bt (B (pre ++ b :: rest)) (pre.length : Int) = (b.toNat : Int) := by
 rw [Jz _ pre.length (by simp)]
 simp
theorem abN (b : UInt8) : ((b.toNat : Int) == 33) = decide (b.toNat = 33) := by
 rw [aic, beq_iff_eq, decide_eq_true_eq]
 omega
theorem Ij (N n : Nat) (hn : n ≤ 5) (l : List UInt8) (hl : l.length ≤ 1000) (h1 : l ≠ [49]) (k0 : Bool → Int → Int → Option β) (K0 : Int → ByteArray → Int → Int → Int → Int → Option β) : ∀ (rest pre : List UInt8) (F : Nat) (f : Bool) (m v : Nat), pre ++ rest = l → rest.length < F → m < 32 → v < 32 →
  ky N F (n : Int) (B l) f (pre.length : Int) 0 0 (m : Int) (v : Int) k0 K0 = cond (good n rest) (K0 (n : Int) (B l) 0 0 ((scn rest f m v).1 : Int) ((scn rest f m v).2 : Int)) (k0 false 0 0) := by
 have h49 : ((B l).toList == (aq [49]).toList) = false := by
  rw [aG, cg, aG]
  exact beq_eq_false_iff_ne.2 h1
 intro rest
 induction rest with
 | nil =>
  intro pre F f m v hp hF hm hv
  obtain ⟨G, rfl⟩ : ∃ G, F = G + 1 := ⟨F - 1, by simp at hF; omega⟩
  have hlen : l.length = pre.length := by rw [← hp]; simp
  simp only [ky, Eo, CN, scn, aE]
  rw [ag1 (by omega), agX]
  rfl
 | cons b rest ih =>
  intro pre F f m v hp hF hm hv
  simp only [ag3] at hF
  obtain ⟨G, rfl⟩ : ∃ G, F = G + 1 := ⟨F - 1, by omega⟩
  have hlen : l.length = pre.length + (rest.length + 1) := by rw [← hp]; simp
  have hbt : bt (B l) (pre.length : Int) = (b.toNat : Int) := by rw [← hp]; exact ye pre rest b
  have hb := b.toNat_lt
  have next := fun f m v hm hv => ih (pre ++ [b]) G f m v (by rw [← hp]; simp) (by omega) hm hv
  simp only [ag4, ag3, ahh, ahD] at next
  have hg : good n (b :: rest) = (sU n b && good n rest) := rfl
  simp only [ky, Eo, CN, hbt, aE, abN, h49, aX]
  rw [agW (by omega : (pre.length : Int) < (l.length : Int)), agY, ahk, agY, ab (agW (by omega)), ab rfl, aw _ (by omega), hg]
  unfold scn
  by_cases h33 : b.toNat = 33
  ·have hgb : sU n b = true := by unfold sU; rw [h33]; rfl
   rw [agW h33, agY, if_pos h33, hgb, ag8]
   exact next true m v hm hv
  ·rw [ag1 h33, agX, if_neg h33, ab (agW (by omega)), ab rfl, agW (by omega : (0 : Int) ≤ (n : Int)), agW (by omega : (n : Int) ≤ 5), aim, ag5, agX, bp (x := (b.toNat : Int)) (by omega) (by omega), bp (by omega) (by omega), bp (by omega) (by omega)]
   have hne : Nat.beq b.toNat 33 = false := by
    cases hq : Nat.beq b.toNat 33 with
    | false => rfl
    | true => exact absurd (ag2 hq) h33
   unfold sU
   rw [hne, ah6]
   by_cases h97 : 97 ≤ b.toNat
   ·rw [agW (by omega : (0 : Int) ≤ (b.toNat : Int) - 97), agW h97, ag8, ag8]
    by_cases h102 : b.toNat < 97 + n
    ·have hp5 := WX (k := b.toNat - 97) (by omega)
     rw [agW (by omega : (b.toNat : Int) - 97 ≤ (n : Int) - 1), agW h102, ag5, agX, ag8, ab rfl, if_pos ⟨h97, by omega⟩, show (b.toNat : Int) - 97 = ((b.toNat - 97 : Nat) : Int) by omega, aM _ (by omega), bOr m _ (by omega) (by omega)]
     cases f with
     | false =>
      rw [ahk, agY, ab rfl, bOr v _ (by omega) (by omega)]
      exact next false _ _ (or5 hm hp5) (or5 hv hp5)
     | true =>
      rw [ag5, agX]
      exact next false _ _ (or5 hm hp5) hv
    ·rw [ag1 (by omega : ¬ (b.toNat : Int) - 97 ≤ (n : Int) - 1), ag1 h102]
     rfl
   ·rw [ag1 (by omega : ¬ (0 : Int) ≤ (b.toNat : Int) - 97), ag1 h97]
    rfl
theorem Fz (n m v : Nat) (hn : n ≤ 5) : ∀ i, i ≤ n → good n (ft m v i) = true
 | 0, _ => rfl
 | i + 1, h => by
  have h1 := Fz n m v hn i (by omega)
  have hb : sU n (UInt8.ofNat (97 + i)) = true := by
   have e : (UInt8.ofNat (97 + i)).toNat = 97 + i := by rw [ais]; omega
   unfold sU
   rw [e, agW (by omega), agW (by omega)]
   simp
  unfold good at h1 ⊢
  rw [ft, ait, h1, ag8]
  cases m.testBit i <;> cases v.testBit i <;> simp only [agY, agX, ahc, ai3, hb, aix] <;> rfl
theorem ia (N : Nat) (hN : 1048576 < N) (n : Nat) (hn : n ≤ 5) (l : List UInt8) (hl : l.length ≤ 1000) (K : Int → Int → Bool → Option β) : oL N (n : Int) (B l) K = ptK (ptm n l) K := by
 unfold oL Sk ptm
 have he : ByteArray.empty.toList = ([] : List UInt8) := aG []
 by_cases h1 : l = [49]
 ·subst h1
  have e := fun K => bN (β := β) N hN n 0 0 hn (by decide) (by decide) K
  simp only [ahN, FA n hn] at e
  rw [if_pos rfl]
  obtain ⟨G, rfl⟩ : ∃ G, N = G + 1 := ⟨N - 1, by omega⟩
  simp only [ky, Eo, CN]
  rw [e, he, aG, cg, aG]
  rfl
 ·obtain ⟨s1, s2⟩ := qM l false 0 0 (by decide) (by decide)
  have hs := Ij (β := β) N n hn l hl h1 (fun e0 e1 e2 => K e1 e2 e0) (fun e0 e1 e2 e3 e4 e5 => cond (e1.toList == ByteArray.empty.toList) (K 0 0 false) (iw N e0 e4 e5 fun r9 => cond (!(r9.toList == e1.toList)) (K 0 0 false) (K e4 e5 true))) l [] N false 0 0 rfl (by omega) (by decide) (by decide)
  rw [if_neg h1]
  refine hs.trans ?_
  rw [aG, he, bN N hN n _ _ hn s1 s2, aG]
  by_cases h0 : l = []
  ·subst h0; rfl
  ·rw [beq_eq_false_iff_ne.2 h0, agX, if_neg h0]
   by_cases h2 : ftb n (scn l false 0 0).1 (scn l false 0 0).2 = l
   ·have hg : good n l = true := by
     unfold ftb at h2
     cases hok : okT n (scn l false 0 0).1 (scn l false 0 0).2 with
     | false => rw [hok, agX] at h2; exact absurd h2.symm h0
     | true =>
      rw [hok, agY] at h2
      cases hf : (ft (scn l false 0 0).1 (scn l false 0 0).2 n == []) with
      | true => rw [hf, agY] at h2; exact absurd h2.symm h1
      | false =>
       rw [hf, agX] at h2
       rw [← h2]
       exact Fz n _ _ hn n (ag7 _)
    rw [if_pos h2, beq_iff_eq.2 h2, hg]; rfl
   ·rw [if_neg h2, beq_eq_false_iff_ne.2 h2]
    cases good n l <;> rfl
theorem sa (w m : Nat) (hw : w < 4294967296) (hm : m < 32) : bits .or .i64 (w : Int) (aW .i64 1 (m : Int)) = ((w ||| 2 ^ m : Nat) : Int) ∧ w ||| 2 ^ m < 4294967296 := by
 have h2 : 2 ^ m < 2 ^ 32 := ahE (by decide) hm
 exact ⟨by rw [aM m (by omega), bOr _ _ (by omega) (by omega)], ahK (n := 32) hw h2⟩
theorem vo (N : Nat) (hN : 1048576 < N) (n : Nat) (hn : n ≤ 5) (l : List UInt8) (hl : l.length ≤ 200) (h48 : (l == [48]) = false)
  (k0 : Bool → Int → Int → Option β) (k1 : Int → ByteArray → Int → Int → Int → Option β) : ∀ (rest pre acc : List UInt8) (F w : Nat), pre ++ rest = l → rest.length + 1 < F → acc.length ≤ pre.length → w < 4294967296 →
  jx N F (n : Int) (B l) (w : Int) (B acc) (pre.length : Int) 0 0 k0 k1 = wQ (jW (qs n) (spl 43 acc rest) w) (fun w => k1 (n : Int) (B l) (w : Int) 0 0) (k0 false 0 0) := by
 have hne48 : ((B l).toList == (aq [48]).toList) = false := by rw [aG, cg, aG]; exact h48
 have term : ∀ (acc : List UInt8) (hacc : acc.length ≤ 1000) (w : Nat) (hw : w < 4294967296) (R : Int → Option β) (Z : Option β), (oL N (n : Int) (B acc) fun r6 r7 r8 => cond (!r8) Z (cond (r6 != r7) Z (gd (decide (0 ≤ r6)) (R (bits .or .i64 (w : Int) (aW .i64 1 r6)))))) = match qs n acc with | some m => R ((w ||| 2 ^ m : Nat) : Int) | none => Z := by
  intro acc hacc w hw R Z
  rw [ia N hN n hn acc hacc]
  unfold qs
  cases hp : ptm n acc with
  | none => rfl
  | some t =>
   have ht := (wK hn hp).2
   simp only [ptK, ag5, agX]
   by_cases h : t.1 = t.2
   ·rw [if_pos h, ← h, bne_self_eq_false, agX, ab (agW (by omega)), (sa w t.1 hw ht.1).1]
   ·rw [if_neg h, bne_iff_ne.2 (by omega), agY]
 have qlt : ∀ (acc : List UInt8) (m : Nat), qs n acc = some m → m < 32 := by
  intro acc m h
  unfold qs at h
  cases hp : ptm n acc with
  | none => rw [hp] at h; cases h
  | some t =>
   rw [hp] at h
   dsimp only at h
   split at h
   ·cases h; exact (wK hn hp).2.1
   ·cases h
 intro rest
 induction rest with
 | nil =>
  intro pre acc F w hp hF hacc hw
  obtain ⟨G, rfl⟩ : ∃ G, F = G + 1 + 1 := ⟨F - 2, by simp at hF; omega⟩
  have hlen : l.length = pre.length := by rw [← hp]; simp
  rw [show jx (β := β) N (G + 1 + 1) = fun v0 v1 v2 v3 v4 v5 v6 k0 k1 => Jw N v0 v1 v2 v3 v4 v5 v6 (fun v0 v1 v2 v3 v4 v5 v6 => jx N (G + 1) v0 v1 v2 v3 v4 v5 v6 k0 k1) k0 k1 from rfl]
  simp only [Jw, Js, aE, hne48]
  rw [agW (by omega : (pre.length : Int) ≤ (l.length : Int)), agY, ahk, agY, ag1 (by omega : ¬ (pre.length : Int) < (l.length : Int)), agX, term acc (by omega) w hw (fun v => jx N (G + 1) (n : Int) (B l) v ByteArray.empty (w64 ((pre.length : Int) + 1)) 0 0 k0 k1) (k0 false 0 0)]
  simp only [spl, jW]
  cases hq : qs n acc with
  | none => rfl
  | some m =>
   rw [aw _ (by omega)]
   simp only [jx, Jw, Js, aE]
   rw [ag1 (by omega), agX]
   rfl
 | cons b rest ih =>
  intro pre acc F w hp hF hacc hw
  simp only [ag3] at hF
  obtain ⟨G, rfl⟩ : ∃ G, F = G + 1 := ⟨F - 1, by omega⟩
  have hlen : l.length = pre.length + (rest.length + 1) := by rw [← hp]; simp
  have hbt : bt (B l) (pre.length : Int) = (b.toNat : Int) := by rw [← hp]; exact ye pre rest b
  have next := fun acc w h1 h2 => ih (pre ++ [b]) acc G w (by rw [← hp]; simp) (by omega) h1 h2
  simp only [ag4, ag3, ahh, ahD] at next
  have hex : (l.take (pre.length + 1)).drop pre.length = [b] := by
   rw [← hp, ajq]
   simp
  simp only [jx, Jw, Js, aE, hbt, hne48]
  rw [agW (by omega : (pre.length : Int) ≤ (l.length : Int)), agY, ahk, agY, agW (by omega : (pre.length : Int) < (l.length : Int)), agY, ab (agW (by omega)), ab rfl, aw _ (by omega), ahb, ahb, JA, hex]
  by_cases h43 : b = 43
  ·subst h43
   rw [show ((((43 : UInt8).toNat : Nat) : Int) != 43) = false from rfl, agX, term acc (by omega) w hw (fun v => jx N G (n : Int) (B l) v ByteArray.empty ((pre.length + 1 : Nat) : Int) 0 0 k0 k1) (k0 false 0 0)]
   simp only [spl, if_true, jW]
   cases hq : qs n acc with
   | none => rfl
   | some m => exact next [] (w ||| 2 ^ m) (by simp) (sa w m hw (qlt acc m hq)).2
  ·have hne : ((b.toNat : Int) != 43) = true := by
    rw [bne_iff_ne]
    intro e
    apply h43
    apply ajo.1
    show b.toNat = 43
    omega
   rw [hne, agY, ab (agW (by omega)), ab (agW (by omega)), ab (agW (by omega)), ab (agW (by omega)), cK]
   simp only [aE]
   rw [ab (agW (by simp; omega)), spl, if_neg h43]
   exact next (acc ++ [b]) w (by simp; omega) hw
theorem wn (c : UInt8) (l : List UInt8) : ∀ acc : List UInt8, c ∉ acc → Lib.indexByte (acc ++ c :: l) c = (acc.length : Int)
 | [], _ => by simp [Lib.indexByte]
 | b :: acc, h => by
  have h1 : ¬ (b == c) = true := fun e => h (by rw [← eq_of_beq e]; exact ahn ..)
  have ih := wn c l acc fun h' => h (ahd _ h')
  rw [ah3, Lib.indexByte, if_neg h1, ih, if_neg (by simp), ag3]
  omega
theorem m3 (c : UInt8) : ∀ (l acc : List UInt8), c ∉ acc → Lib.splitK [c] 0 (l.count c) (acc ++ l) = spl c acc l
 | [], acc, h => by rw [List.count_nil, ahg]; rfl
 | b :: l, acc, h => by
  by_cases e : b = c
  ·subst e
   have hd : (acc ++ b :: l).drop (acc.length + 1) = l := by
    rw [show acc ++ b :: l = (acc ++ [b]) ++ l by simp]
    exact List.drop_left' (by simp)
   have := m3 b l [] (by simp)
   rw [ahG] at this
   rw [List.count_cons_self, spl, if_pos rfl, Lib.splitK, Lib.index_one, wn b l acc h, if_neg (by simp)]
   simp only [ahb, ahZ, ag3, ahh, ahD]
   rw [hd, List.take_left, this]
  ·rw [List.count_cons_of_ne (by simpa using e), spl, if_neg e, ← m3 c l (acc ++ [b]) (by
    intro h'
    rcases ahB.1 h' with h' | h'
    ·exact h h'
    ·simp at h'; exact e h'.symm)]
   simp
theorem un (s : ByteArray) (c : UInt8) : Lib.splitB ⟨#[c]⟩ 0 (Lib.countB s ⟨#[c]⟩) s = (spl c [] s.data.toList).map B := by
 have h := Lib.splitB_data ⟨#[c]⟩ 0 (Lib.countB s ⟨#[c]⟩) s
 have e : Lib.countB s ⟨#[c]⟩ = s.data.toList.count c := Lib.count_one c _
 have k := m3 c s.data.toList [] (by simp)
 rw [ahG] at k
 rw [e] at h ⊢
 have h : (Lib.splitB ⟨#[c]⟩ 0 (s.data.toList.count c) s).map (·.data.toList) = spl c [] s.data.toList := h.trans k
 rw [← h, aiR]
 have : (B ∘ fun x : ByteArray => x.data.toList) = id := by
  funext x
  exact mz x
 rw [this, List.map_id]
theorem HK (N n : Nat) (l : List UInt8) (hl : l.length ≤ 1000) (K0 : Int → ByteArray → Int → Int → Int → Int → Option β) : ∀ (rest pre : List UInt8) (F : Nat) (f : Bool) (m v : Nat), pre ++ rest = l → rest.length < F → m < 32 → v < 32 →
  mm N F (n : Int) (B l) (cond f 0 1) (l.length : Int) (pre.length : Int) 0 0 (m : Int) (v : Int) K0 = K0 (n : Int) (B l) 0 0 ((scn rest f m v).1 : Int) ((scn rest f m v).2 : Int) := by
 intro rest
 induction rest with
 | nil =>
  intro pre F f m v hp hF hm hv
  obtain ⟨G, rfl⟩ : ∃ G, F = G + 1 := ⟨F - 1, by simp at hF; omega⟩
  have hlen : l.length = pre.length := by rw [← hp]; simp
  simp only [mm, Pr, GF, scn]
  rw [ag1 (by omega), agX]
 | cons b rest ih =>
  intro pre F f m v hp hF hm hv
  simp only [ag3] at hF
  obtain ⟨G, rfl⟩ : ∃ G, F = G + 1 := ⟨F - 1, by omega⟩
  have hlen : l.length = pre.length + (rest.length + 1) := by rw [← hp]; simp
  have hbt : bt (B l) (pre.length : Int) = (b.toNat : Int) := by rw [← hp]; exact ye pre rest b
  have hb := b.toNat_lt
  have next := fun f m v hm hv => ih (pre ++ [b]) G f m v (by rw [← hp]; simp) (by omega) hm hv
  simp only [ag4, ag3, ahh, ahD] at next
  simp only [mm, Pr, GF, hbt, aE, eE, GD, abN]
  rw [agW (by omega : (pre.length : Int) < (l.length : Int)), agY, ab (agW (by omega)), ab rfl, aw _ (by omega)]
  unfold scn
  by_cases h33 : b.toNat = 33
  ·rw [agW h33, agY, if_pos h33]
   exact next true m v hm hv
  ·rw [ag1 h33, agX, if_neg h33, ab (agW (by omega)), ab rfl]
   by_cases h97 : 97 ≤ b.toNat
   ·rw [agW (by omega : (b.toNat : Int) ≥ 97), agY]
    by_cases h102 : b.toNat < 102
    ·have hp5 := WX (k := b.toNat - 97) (by omega)
     have hw : w8 ((b.toNat : Int) - 97) = ((b.toNat - 97 : Nat) : Int) := by
      rw [show (b.toNat : Int) - 97 = ((b.toNat - 97 : Nat) : Int) by omega, cT _ (by omega)]
     rw [agW (by omega : (b.toNat : Int) < 102), agY, if_pos ⟨h97, h102⟩, hw, ab (agW (by omega)), ab rfl, ab (agW (by omega)), ab (agW (by omega)), ab rfl, ab (agW (by omega)), aM _ (by omega), bOr m _ (by omega) (by omega)]
     cases f with
     | false =>
      have e : aW .i64 (cond false 0 1) ((b.toNat - 97 : Nat) : Int) = ((2 ^ (b.toNat - 97) : Nat) : Int) := aM _ (by omega)
      rw [e, bOr v _ (by omega) (by omega)]
      exact next false _ _ (or5 hm hp5) (or5 hv hp5)
     | true =>
      have e : aW .i64 (cond true 0 1) ((b.toNat - 97 : Nat) : Int) = ((0 : Nat) : Int) := by
       have := se 0 (b.toNat - 97) (by omega) (by omega)
       rw [air] at this
       exact this
      rw [e, bOr v 0 (by omega) (by omega), Nat.or_zero]
      exact next false _ _ (or5 hm hp5) hv
    ·rw [ag1 (by omega), agX, if_neg (by omega)]
     exact next f m v hm hv
   ·rw [ag1 (by omega), agX, agX, if_neg (by omega)]
    exact next f m v hm hv
theorem gY (N : Nat) (hN : 1048576 < N) (n : Nat) (hn : n ≤ 5) (l : List UInt8) (hl : l.length ≤ 1000) (K : Int → Int → Bool → Option β) : jq N (n : Int) (B l) K = ptK (ptm n l) K := by
 unfold jq OI ptm
 rw [aG, cg, aG, aE]
 have he : ByteArray.empty.toList = ([] : List UInt8) := aG []
 by_cases h1 : l = [49]
 ·subst h1
  have e := fun K => dz (β := β) N hN n 0 0 hn (by decide) (by decide) K
  simp only [ahN, FA n hn] at e
  rw [if_pos rfl, e, he, aG]
  rfl
 ·obtain ⟨s1, s2⟩ := qM l false 0 0 (by decide) (by decide)
  have hs := HK (β := β) N n l hl (fun e0 e1 e2 e3 e4 e5 => cond (e1.toList == ByteArray.empty.toList) (K 0 0 false) (jp N e0 e4 e5 fun r7 => cond (!(r7.toList == e1.toList)) (K 0 0 false) (K e4 e5 true))) l [] N false 0 0 rfl (by omega) (by decide) (by decide)
  have hne : (l == List.map (fun n : Int => UInt8.ofNat n.toNat) [49]) = false := beq_eq_false_iff_ne.2 h1
  rw [hne, ahk, agY, if_neg h1]
  refine hs.trans ?_
  rw [aG, he, dz N hN n _ _ hn s1 s2, aG]
  by_cases h0 : l = []
  ·subst h0; rfl
  ·rw [beq_eq_false_iff_ne.2 h0, agX, if_neg h0]
   by_cases h2 : ftb n (scn l false 0 0).1 (scn l false 0 0).2 = l
   ·rw [if_pos h2, beq_iff_eq.2 h2]; rfl
   ·rw [if_neg h2, beq_eq_false_iff_ne.2 h2]; rfl
theorem vc (N : Nat) (hN : 1048576 < N) (n : Nat) (hn : n ≤ 5) (lB : ByteArray) (ps : List (List UInt8)) (hps : ps.length ≤ 1000) (hp1 : ∀ p ∈ ps, p.length ≤ 1000)
  (k0 : Bool → Int → Int → Option β) (k1 : ByteArray → Int → Int → Int → Int → Option β) : ∀ (rest pre : List (List UInt8)) (F w : Nat), pre ++ rest = ps → rest.length < F → w < 4294967296 →
  mq N F (n : Int) lB (ps.length : Int) (pre.length : Int) 0 0 (n : Int) (w : Int) (ps.map B) k0 k1 = wQ (jW (qi n) rest w) (fun w => k1 lB 0 0 (n : Int) (w : Int)) (k0 false 0 0) := by
 intro rest
 induction rest with
 | nil =>
  intro pre F w hp hF hw
  obtain ⟨G, rfl⟩ : ∃ G, F = G + 1 := ⟨F - 1, by simp at hF; omega⟩
  have hlen : ps.length = pre.length := by rw [← hp]; simp
  simp only [mq, Pu, GI]
  rw [ag1 (by omega), agX]
  rfl
 | cons p rest ih =>
  intro pre F w hp hF hw
  simp only [ag3] at hF
  obtain ⟨G, rfl⟩ : ∃ G, F = G + 1 := ⟨F - 1, by omega⟩
  have hlen : ps.length = pre.length + (rest.length + 1) := by rw [← hp]; simp
  have hrd : rd ByteArray.empty (ps.map B) (pre.length : Int) = B p := by
   rw [← hp]
   simp [rd, ajx]
  have next := fun w h => ih (pre ++ [p]) G w (by rw [← hp]; simp) (by omega) h
  simp only [ag4, ag3, ahh, ahD] at next
  simp only [mq, Pu, GI, hrd, ahw]
  rw [agW (by omega : (pre.length : Int) < (ps.length : Int)), agY, ab (agW (by omega)), ab rfl, gY N hN n hn p (hp1 p (by rw [← hp]; simp)), aw _ (by omega)]
  simp only [jW, qi]
  cases hq : ptm n p with
  | none => rfl
  | some t =>
   have ht := (wK hn hq).2
   simp only [ptK, ag5, agX]
   rw [ab (agW (by omega)), (sa w t.1 hw ht.1).1]
   exact next (w ||| 2 ^ t.1) (sa w t.1 hw ht.1).2
theorem QJ : ∀ n, n ≤ 5 → ∀ m, m < 32 → ∀ v, v < 32 → (!okT n m v || (m == v || (ftb n m v).contains 33)) = true := by decide +kernel
theorem VJ (n : Nat) (hn : n ≤ 5) (m : Nat) (hm : m < 32) (v : Nat) (hv : v < 32) (h : okT n m v = true) (hne : m ≠ v) : (33 : UInt8) ∈ ftb n m v := by
 have := QJ n hn m hm v hv
 rw [h, beq_eq_false_iff_ne.2 hne, ag5, ah6, ah6] at this
 exact aij.1 this
theorem WZ (n : Nat) (hn : n ≤ 5) (p : List UInt8) (t : Nat × Nat) (h : ptm n p = some t) (hne : t.1 ≠ t.2) : (33 : UInt8) ∈ p := by
 obtain ⟨h1, h2, h3⟩ := wK hn h
 have := VJ n hn t.1 h2 t.2 h3 h1 hne
 unfold ptm at h
 split at h
 ·cases h; exact absurd rfl hne
 ·split at h
  ·cases h
  ·split at h
   ·rename_i e; cases h; rw [e] at this; exact this
   ·cases h
theorem uf (n : Nat) (hn : n ≤ 5) : ∀ (ps : List (List UInt8)) (w : Nat), jW (qs n) ps w = jW (qi n) ps w ∨ (jW (qs n) ps w = none ∧ ∃ p ∈ ps, (33 : UInt8) ∈ p)
 | [], w => .inl rfl
 | p :: ps, w => by
  unfold jW qs qi
  cases hp : ptm n p with
  | none => exact .inl rfl
  | some t =>
   dsimp only
   by_cases h : t.1 = t.2
   ·rw [if_pos h]
    dsimp only
    rcases uf n hn ps (w ||| 2 ^ t.1) with h | ⟨h1, q, hq, hb⟩
    ·exact .inl h
    ·exact .inr ⟨h1, q, by simp [hq], hb⟩
   ·rw [if_neg h]
    exact .inr ⟨rfl, p, by simp, WZ n hn p t hp h⟩
theorem Ac (c b : UInt8) : ∀ (l acc : List UInt8), ∀ p ∈ spl c acc l, b ∈ p → b ∈ acc ∨ b ∈ l
 | [], acc, p, hp, hb => by simp only [spl, ahI] at hp; subst hp; exact .inl hb
 | d :: l, acc, p, hp, hb => by
  unfold spl at hp
  split at hp
  ·rcases ahe.1 hp with rfl | hp
   ·exact .inl hb
   ·rcases Ac c b l [] p hp hb with h | h
    ·cases h
    ·exact .inr (by simp [h])
  ·rcases Ac c b l (acc ++ [d]) p hp hb with h | h
   ·rcases ahB.1 h with h | h
    ·exact .inl h
    ·simp only [ahI] at h; exact .inr (by simp [h])
   ·exact .inr (by simp [h])
theorem L7 (c b : UInt8) : ∀ l : List (List UInt8), b ∈ Lib.join l [c] → b = c ∨ ∃ x ∈ l, b ∈ x
 | [], h => by simp [Lib.join] at h
 | x :: l, h => by
  rw [Lib.join_cons, ahB] at h
  rcases h with h | h
  ·exact .inr ⟨x, by simp, h⟩
  ·simp only [Lib.joinTail, List.mem_flatten, ahp] at h
   obtain ⟨y, ⟨z, hz, rfl⟩, hb⟩ := h
   rcases ahB.1 hb with hb | hb
   ·exact .inl (by simpa using hb)
   ·exact .inr ⟨z, by simp [hz], hb⟩
theorem LV : ∀ n, n ≤ 5 → ∀ m, m < 2 ^ n → (33 : UInt8) ∉ ftb n m m := by decide +kernel
theorem Hw (w n : Nat) (hn : n ≤ 5) : (33 : UInt8) ∉ mK w n := by
 intro h
 unfold mK at h
 cases h0 : lR n (cx w n).testBit (2 ^ n) == [] with
 | true => rw [h0, agY] at h; revert h; decide
 | false =>
  rw [h0, agX] at h
  rcases L7 43 33 _ h with e | ⟨x, hx, hb⟩
  ·revert e; decide
  ·obtain ⟨t, ht, rfl⟩ := ahp.1 hx
   have := rX _ _ t ht
   rw [this.2] at hb
   exact LV n hn t.1 (by omega) hb
theorem Jy (N : Nat) (hN : 1048576 < N) (n : Nat) (hn : n ≤ 5) (l : List UInt8) :
  ∃ (n' w : Int) (b : Bool), Tb n' w b ∧ (∀ K : Int → Int → Bool → Option β, vv N (n : Int) (B l) K = K n' w b) ∧ (∀ K : Int → Int → Bool → Option β, mr N (n : Int) (B l) K = K n' w b) := by
 have h1in : ∀ K : Bool → Option β, bK N (n : Int) 0 5 K = K true := fun K => by
  rw [aX, agW (by omega : (0 : Int) ≤ (n : Int)), agW (by omega : (n : Int) ≤ 5)]
  rfl
 have hbits : ∀ K : Bool → Option β, zj7 N (n : Int) K = K true := fun K => by
  unfold zj7 zb7
  rw [agW (by omega : (n : Int) ≥ 0), agY, agW (by omega : (n : Int) ≤ 5)]
 by_cases hlen : l.length ≤ 200
 ·have h48 : ((B l).toList == (aq [48]).toList) = (l == [48]) := by rw [aG, cg, aG]; rfl
  have tail : ∀ (w : Nat), w < 2 ^ 2 ^ n → ∀ (K : Int → Int → Bool → Option β), (p8 N (n : Int) (w : Int) fun r14 => qV N (n : Int) r14 fun r15 => cond (!(r15.toList == (B l).toList)) (K 0 0 false) (K (n : Int) r14 true)) = cond (mK (cx w n) n == l) (K (n : Int) (cx w n : Int) true) (K 0 0 false) := fun w hw K => by
   rw [l7 N hN n w hn (fX hn hw), hZ N hN n _ hn (rO _ _), aG, aG]
   cases mK (cx w n) n == l <;> rfl
  have tailI : ∀ (w : Nat), w < 2 ^ 2 ^ n → ∀ (K : Int → Int → Bool → Option β), (gh N (n : Int) (w : Int) fun r12 r13 => io N r12 r13 fun r14 => cond (!(r14.toList == (B l).toList)) (K 0 0 false) (K r12 r13 true)) = cond (mK (cx w n) n == l) (K (n : Int) (cx w n : Int) true) (K 0 0 false) := fun w hw K => by
   rw [sX N hN n w hn (fX hn hw), gX N hN n _ hn (rO _ _), aG, aG]
   cases mK (cx w n) n == l <;> rfl
  cases hl0 : (l == [48]) with
  | true =>
   have e1 : ∀ K : Int → Int → Bool → Option β, vv N (n : Int) (B l) K = cond (mK (cx 0 n) n == l) (K (n : Int) (cx 0 n : Int) true) (K 0 0 false) := fun K => by
    unfold vv O9
    obtain ⟨G, hG⟩ : ∃ G, N = G + 1 := ⟨N - 1, by omega⟩
    rw [h1in, ag5, agX, aE, ag1 (by omega), agX]
    have : ∀ (k0 : Bool → Int → Int → Option β) (k1 : Int → ByteArray → Int → Int → Int → Option β), jx N N (n : Int) (B l) 0 ByteArray.empty 0 0 0 k0 k1 = k1 (n : Int) (B l) 0 0 0 := fun k0 k1 => by
     rw [show jx (β := β) N N = jx N (G + 1) by rw [hG]]
     simp only [jx, Jw, Js, aE, h48, hl0]
     rw [agW (by omega : (0 : Int) ≤ (l.length : Int))]
     rfl
    rw [this]
    exact tail 0 (sh _) K
   have e2 : ∀ K : Int → Int → Bool → Option β, mr N (n : Int) (B l) K = cond (mK (cx 0 n) n == l) (K (n : Int) (cx 0 n : Int) true) (K 0 0 false) := fun K => by
    unfold mr CE
    rw [hbits, ag5, agX, aE, ag1 (by omega), agX, h48, hl0, ag5, agX]
    exact tailI 0 (sh _) K
   cases hf : mK (cx 0 n) n == l with
   | true => exact ⟨_, _, true, As hn (rO _ _), fun K => by rw [e1, hf, agY], fun K => by rw [e2, hf, agY]⟩
   | false => exact ⟨0, 0, false, fh, fun K => by rw [e1, hf, agX], fun K => by rw [e2, hf, agX]⟩
  | false =>
   obtain ⟨h1, h2⟩ := sf 43 l []
   simp only [ahh, ahD] at h2
   have hw0 : ∀ w, jW (qi n) (spl 43 [] l) 0 = some w → w < 2 ^ 2 ^ n := fun w h => wS n hn _ 0 w h (sh _)
   have e1 : ∀ K : Int → Int → Bool → Option β, vv N (n : Int) (B l) K = wQ (jW (qs n) (spl 43 [] l) 0) (fun w => p8 N (n : Int) (w : Int) fun r14 => qV N (n : Int) r14 fun r15 => cond (!(r15.toList == (B l).toList)) (K 0 0 false) (K (n : Int) r14 true)) (K 0 0 false) := fun K => by
    unfold vv O9
    rw [h1in, ag5, agX, aE, ag1 (by omega), agX]
    exact vo N hN n hn l hlen hl0 (fun e0 e1 e2 => K e1 e2 e0) (fun e13_0 e13_1 e13_2 _ _ => p8 N e13_0 e13_2 fun r14 => qV N e13_0 r14 fun r15 => cond (!(r15.toList == e13_1.toList)) (K 0 0 false) (K e13_0 r14 true)) l [] [] N 0 rfl (by omega) (by simp) (by omega)
   have e2 : ∀ K : Int → Int → Bool → Option β, mr N (n : Int) (B l) K = wQ (jW (qi n) (spl 43 [] l) 0) (fun w => gh N (n : Int) (w : Int) fun r12 r13 => io N r12 r13 fun r14 => cond (!(r14.toList == (B l).toList)) (K 0 0 false) (K r12 r13 true)) (K 0 0 false) := fun K => by
    unfold mr CE strings_Split
    have hsep : aq [43] = ⟨#[43]⟩ := rfl
    rw [hbits, ag5, agX, aE, ag1 (by omega), agX, h48, hl0, ahk, agY, hsep, ab (agW (show (⟨#[43]⟩ : ByteArray).size = 1 from rfl)), ab (agW (by omega)), un, JB]
    dsimp only
    rw [ahw]
    exact vc N hN n hn (B l) (spl 43 [] l) (by omega) (fun p hp => by have := h2 p hp; omega) (fun e0 e1 e2 => K e1 e2 e0) (fun e0 _ _ e3 e4 => gh N e3 e4 fun r12 r13 => io N r12 r13 fun r14 => cond (!(r14.toList == e0.toList)) (K 0 0 false) (K r12 r13 true)) (spl 43 [] l) [] N 0 rfl (by omega) (by omega)
   rcases uf n hn (spl 43 [] l) 0 with hsame | ⟨hnone, p, hp, hb⟩
   ·rw [hsame] at e1
    cases hr : jW (qi n) (spl 43 [] l) 0 with
    | none => exact ⟨0, 0, false, fh, fun K => by rw [e1, hr]; rfl, fun K => by rw [e2, hr]; rfl⟩
    | some w =>
     rw [hr] at e1 e2
     simp only [wQ] at e1 e2
     have hw := hw0 w hr
     cases hf : mK (cx w n) n == l with
     | true => exact ⟨_, _, true, As hn (rO _ _), fun K => by rw [e1, tail w hw, hf, agY], fun K => by rw [e2, tailI w hw, hf, agY]⟩
     | false => exact ⟨0, 0, false, fh, fun K => by rw [e1, tail w hw, hf, agX], fun K => by rw [e2, tailI w hw, hf, agX]⟩
   ·refine ⟨0, 0, false, fh, fun K => by rw [e1, hnone]; rfl, fun K => ?_⟩
    cases hr : jW (qi n) (spl 43 [] l) 0 with
    | none => rw [e2, hr]; rfl
    | some w =>
     rw [e2, hr]
     simp only [wQ]
     have hf : (mK (cx w n) n == l) = false := by
      rw [beq_eq_false_iff_ne]
      intro e
      rcases Ac 43 33 l [] p hp hb with h | h
      ·cases h
      ·rw [← e] at h; exact Hw _ n hn h
     rw [tailI w (hw0 w hr), hf, agX]
 ·refine ⟨0, 0, false, fh, fun K => ?_, fun K => ?_⟩
  ·unfold vv O9
   rw [h1in, ag5, agX, aE, agW (by omega), agY]
  ·unfold mr CE
   rw [hbits, ag5, agX, aE, agW (by omega), agY]
def B2 (o : Option (List (Nat × Nat))) (k1 : List (Nat × Nat) → Option β) (k0 : Option β) : Option β := match o with
 | some o => k1 o
 | none => k0
def run (q : List UInt8 → Option (Nat × Nat)) : List (List UInt8) → List (Nat × Nat) → Option (List (Nat × Nat))
 | [], out => some out
 | p :: ps, out => match q p with
  | some t => run q ps (out ++ [t])
  | none => none
theorem Ck (N : Nat) (a : Int) (q : List UInt8 → Option (Nat × Nat)) (hq : ∀ p, p.length ≤ 1000 → ∀ K : Int → Int → Bool → Option β, oL N a (B p) K = ptK (q p) K) (l : List UInt8) (hl : l.length ≤ 200)
  (k0 : Bool → List (Int × Int) → Option β) (k1 : Int → ByteArray → List (Int × Int) → Option β) : ∀ (rest pre acc : List UInt8) (F : Nat) (out : List (Nat × Nat)), pre ++ rest = l → rest.length + 1 < F → acc.length ≤ pre.length → out.length ≤ pre.length →
  p9 N F a (B l) (B acc) (pre.length : Int) (tl out) k0 k1 = B2 (run q (spl 124 acc rest) out) (fun o => k1 a (B l) (tl o)) (k0 false []) := by
 intro rest
 induction rest with
 | nil =>
  intro pre acc F out hp hF hacc hout
  obtain ⟨G, rfl⟩ : ∃ G, F = G + 1 + 1 := ⟨F - 2, by simp at hF; omega⟩
  have hlen : l.length = pre.length := by rw [← hp]; simp
  rw [show p9 (β := β) N (G + 1 + 1) = fun v0 v1 v2 v3 v4 k0 k1 => Jx N v0 v1 v2 v3 v4 (fun v0 v1 v2 v3 v4 => p9 N (G + 1) v0 v1 v2 v3 v4 k0 k1) k0 k1 from rfl]
  simp only [Jx, Jt, aE]
  rw [agW (by omega : (pre.length : Int) ≤ (l.length : Int)), agY, agW (by omega : (l.length : Int) ≤ 200), agY, ag1 (by omega : ¬ (pre.length : Int) < (l.length : Int)), agX, hq acc (by omega)]
  simp only [spl, run]
  cases hqa : q acc with
  | none => rfl
  | some t =>
   simp only [ptK, ag5, agX, ahG, ag3, ahh]
   rw [ab (agW (by rw [bE]; omega)), ← jj, aw _ (by omega)]
   simp only [p9, Jx, Jt, aE]
   rw [ag1 (by omega), agX]
   rfl
 | cons b rest ih =>
  intro pre acc F out hp hF hacc hout
  simp only [ag3] at hF
  obtain ⟨G, rfl⟩ : ∃ G, F = G + 1 := ⟨F - 1, by omega⟩
  have hlen : l.length = pre.length + (rest.length + 1) := by rw [← hp]; simp
  have hbt : bt (B l) (pre.length : Int) = (b.toNat : Int) := by rw [← hp]; exact ye pre rest b
  have next := fun acc out h1 h2 => ih (pre ++ [b]) acc G out (by rw [← hp]; simp) (by omega) h1 h2
  simp only [ag4, ag3, ahh, ahD] at next
  have hex : (l.take (pre.length + 1)).drop pre.length = [b] := by
   rw [← hp, ajq]
   simp
  simp only [p9, Jx, Jt, aE, hbt]
  rw [agW (by omega : (pre.length : Int) ≤ (l.length : Int)), agY, agW (by omega : (l.length : Int) ≤ 200), agY, agW (by omega : (pre.length : Int) < (l.length : Int)), agY, ab (agW (by omega)), ab rfl, aw _ (by omega), ahb, ahb, JA, hex]
  by_cases h124 : b = 124
  ·subst h124
   rw [show ((((124 : UInt8).toNat : Nat) : Int) != 124) = false from rfl, agX, hq acc (by omega)]
   simp only [spl, if_true, run]
   cases hqa : q acc with
   | none => rfl
   | some t =>
    simp only [ptK, ag5, agX, ahG, ag3, ahh]
    rw [ab (agW (by rw [bE]; omega)), ← jj]
    exact next [] (out ++ [t]) (by simp) (by simp; omega)
  ·have hne : ((b.toNat : Int) != 124) = true := by
    rw [bne_iff_ne]
    intro e
    apply h124
    apply ajo.1
    show b.toNat = 124
    omega
   rw [hne, agY, ab (agW (by omega)), ab (agW (by omega)), ab (agW (by omega)), ab (agW (by omega)), cK]
   simp only [aE]
   rw [ab (agW (by simp; omega)), spl, if_neg h124]
   exact next (acc ++ [b]) out (by simp; omega) (by omega)
section
variable (N : Nat) (hN : 1048576 < N) (a : Int) (ha : (decide (0 ≤ a) && decide (a ≤ 5)) = false)
include ha
theorem rJ (m v : Int) (K : Bool → Option β) : jl N a m v K = K false := by
 unfold jl Si
 rw [aX, ha]
 rfl
end
section
variable (N : Nat) (hN : 1048576 < N) (a : Int) (ha : (decide (0 ≤ a) && decide (a ≤ 5)) = false)
include ha
include hN
theorem lU (m v : Int) (K : ByteArray → Option β) : iw N a m v K = K (B []) := by
 have e := fun m v (K : Bool → Option β) => rJ N a ha m v K
 obtain ⟨G, rfl⟩ : ∃ G, N = G + 1 := ⟨N - 1, by omega⟩
 unfold iw Sj
 simp only [rM, PL, Jr, e, agX]
 rw [beq_self_eq_true, agY]
 rfl
end
section
variable (N : Nat) (hN : 1048576 < N) (a : Int) (ha : (decide (0 ≤ a) && decide (a ≤ 5)) = false)
include ha
include hN
theorem mZ (l : List UInt8) (hl : l.length ≤ 1000) (K : Int → Int → Bool → Option β) : oL N a (B l) K = K 0 0 false := by
 have he : ByteArray.empty.toList = ([] : List UInt8) := aG []
 have hF := fun m v (K : ByteArray → Option β) => lU N hN a ha m v K
 have hk1 : ∀ m v : Int, (cond ((B l).toList == ByteArray.empty.toList) (K 0 0 false) (iw N a m v fun r9 => cond (!(r9.toList == (B l).toList)) (K 0 0 false) (K m v true))) = K 0 0 false := fun m v => by
  rw [hF, aG, he, aG]
  cases l with
  | nil => rfl
  | cons b l => rfl
 unfold oL Sk
 by_cases h1 : l = [49]
 ·obtain ⟨G, hG⟩ : ∃ G, N = G + 1 := ⟨N - 1, by omega⟩
  have hq : ((B l).toList == (aq [49]).toList) = true := by rw [aG, cg, aG, h1]; rfl
  rw [show ky (β := β) N N = ky N (G + 1) by rw [← hG]]
  simp only [ky, Eo, CN, hq, ag5, agX]
  cases decide ((0 : Int) < ((B l).size : Int)) <;> exact hk1 0 0
 ·have hq : ((B l).toList == (aq [49]).toList) = false := by
   rw [aG, cg, aG]
   exact beq_eq_false_iff_ne.2 h1
  have main : ∀ (rest pre : List UInt8) (F : Nat) (f : Bool), pre ++ rest = l → rest.length < F →
    ky N F a (B l) f (pre.length : Int) 0 0 0 0 (fun e0 e1 e2 => K e1 e2 e0) (fun e0 e1 e2 e3 e4 e5 => cond (e1.toList == ByteArray.empty.toList) (K 0 0 false) (iw N e0 e4 e5 fun r9 => cond (!(r9.toList == e1.toList)) (K 0 0 false) (K e4 e5 true))) = K 0 0 false := by
   intro rest
   induction rest with
   | nil =>
    intro pre F f hp hF
    obtain ⟨G, rfl⟩ : ∃ G, F = G + 1 := ⟨F - 1, by simp at hF; omega⟩
    have hlen : l.length = pre.length := by rw [← hp]; simp
    simp only [ky, Eo, CN, aE]
    rw [ag1 (by omega), agX]
    exact hk1 0 0
   | cons b rest ih =>
    intro pre F f hp hF
    simp only [ag3] at hF
    obtain ⟨G, rfl⟩ : ∃ G, F = G + 1 := ⟨F - 1, by omega⟩
    have hlen : l.length = pre.length + (rest.length + 1) := by rw [← hp]; simp
    have next := fun f => ih (pre ++ [b]) G f (by rw [← hp]; simp) (by omega)
    simp only [ag4, ag3, ahh, ahD] at next
    simp only [ky, Eo, CN, aE, hq, aX, ha]
    rw [agW (by omega : (pre.length : Int) < (l.length : Int)), agY, ahk, agY, ab (agW (by omega)), ab rfl, aw _ (by omega)]
    cases bt (B l) (pre.length : Int) == 33 with
    | true => rw [agY]; exact next true
    | false => rw [agX, ab (agW (by omega)), ab rfl, agY]
  exact main l [] N false rfl (by omega)
end
theorem L4 (N : Nat) (a : Int) (q : List UInt8 → Option (Nat × Nat)) (hq : ∀ p, p.length ≤ 1000 → ∀ K : Int → Int → Bool → Option β, jq N a (B p) K = ptK (q p) K) (ps : List (List UInt8)) (hps : ps.length ≤ 1000) (hp1 : ∀ p ∈ ps, p.length ≤ 1000)
  (k0 : Bool → List (Int × Int) → Option β) (k1 : Int → List (Int × Int) → Option β) : ∀ (rest pre : List (List UInt8)) (F : Nat) (out : List (Nat × Nat)), pre ++ rest = ps → rest.length < F → out.length ≤ pre.length →
  mt N F a (ps.length : Int) (pre.length : Int) (tl out) (ps.map B) k0 k1 = B2 (run q rest out) (fun o => k1 a (tl o)) (k0 false []) := by
 intro rest
 induction rest with
 | nil =>
  intro pre F out hp hF hout
  obtain ⟨G, rfl⟩ : ∃ G, F = G + 1 := ⟨F - 1, by simp at hF; omega⟩
  have hlen : ps.length = pre.length := by rw [← hp]; simp
  simp only [mt, Pv, GK]
  rw [ag1 (by omega), agX]
  rfl
 | cons p rest ih =>
  intro pre F out hp hF hout
  simp only [ag3] at hF
  obtain ⟨G, rfl⟩ : ∃ G, F = G + 1 := ⟨F - 1, by omega⟩
  have hlen : ps.length = pre.length + (rest.length + 1) := by rw [← hp]; simp
  have hrd : rd ByteArray.empty (ps.map B) (pre.length : Int) = B p := by
   rw [← hp]
   simp [rd, ajx]
  have next := fun out h => ih (pre ++ [p]) G out (by rw [← hp]; simp) (by omega) h
  simp only [ag4, ag3, ahh, ahD] at next
  simp only [mt, Pv, GK, hrd, ahw]
  rw [agW (by omega : (pre.length : Int) < (ps.length : Int)), agY, ab (agW (by omega)), ab rfl, hq p (hp1 p (by rw [← hp]; simp)), aw _ (by omega)]
  simp only [run]
  cases hqa : q p with
  | none => rfl
  | some t =>
   simp only [ptK, ag5, agX, ahG, ag3, ahh]
   rw [ab (agW (by rw [bE]; omega)), ← jj]
   exact next (out ++ [t]) (by simp; omega)
theorem NO {q : List UInt8 → Option (Nat × Nat)} {p : Nat × Nat → Prop} (hq : ∀ l t, q l = some t → p t) : ∀ (ps : List (List UInt8)) (out o : List (Nat × Nat)), run q ps out = some o → (∀ t ∈ out, p t) → (∀ t ∈ o, p t) ∧ o.length = out.length + ps.length
 | [], out, o, h, ho => by cases h; exact ⟨ho, rfl⟩
 | l :: ps, out, o, h, ho => by
  unfold run at h
  cases hl : q l with
  | none => rw [hl] at h; cases h
  | some t =>
   rw [hl] at h
   obtain ⟨h1, h2⟩ := NO hq ps (out ++ [t]) o h fun x hx => by
    rcases ahB.1 hx with hx | hx
    ·exact ho x hx
    ·simp only [ahI] at hx; rw [hx]; exact hq _ _ hl
   refine ⟨h1, ?_⟩
   rw [h2]
   simp
   omega
theorem s6 (N : Nat) (hN : 1048576 < N) (n : Nat) (hn : n ≤ 5) (o : List (Nat × Nat)) (ho : o.length ≤ 1000) (hg : ∀ t ∈ o, qW n t) (K : Bool → Option β) : pV N (n : Int) (tl o) K = K (decide ((o.length : Int) ≤ 40)) := by
 unfold pV OM pU GJ zj7 zb7 vq OG En OA
 rw [agW (by omega : (n : Int) ≥ 0), agY, agW (by omega : (n : Int) ≤ 5)]
 dsimp only
 rw [agY, bE]
 have main := fun (K : Int → Option β) => a6 (fun F i => lW N (fun x0 x1 k => gL N x0 x1 (n : Int) k) F (tl o) (o.length : Int) (i : Int) (fun e => K e) (K (-1))) o.length (K (-1)) (fun F i hi => by
  obtain ⟨h1, h2, h3⟩ := hg o[i] (ahm hi)
  simp only [lW, Pm, Em, bE, pE o i hi, gL, R7]
  rw [agW (by omega : (i : Int) < (o.length : Int)), agY, ab (agW (by omega)), ab rfl, gz N n _ _ hn h2 h3, h1, ag5, agX, aw i (by omega)]) (fun F => by
  simp only [lW, Pm, Em]
  rw [ag1 (by omega), agX]) N 0 (by omega) (by omega)
 refine (main _).trans ?_
 rfl
theorem J8 (N : Nat) (hN : 1048576 < N) (a : Int) (l : List UInt8) :
    ∃ (o : List (Nat × Nat)) (b : Bool), o.length ≤ 40 ∧ (∀ n : Nat, a = n → n ≤ 5 → ∀ t ∈ o, qW n t) ∧ (∀ K : List (Int × Int) → Bool → Option β, uR N a (B l) K = K (tl o) b) ∧ (∀ K : List (Int × Int) → Bool → Option β, kr N a (B l) K = K (tl o) b) := by
  have h48 : ((B l).toList == (aq [48]).toList) = (l == [48]) := by rw [aG, cg, aG]; rfl
  have hbits : ∀ K : Bool → Option β, zj7 N a K = K (decide (0 ≤ a) && decide (a ≤ 5)) := fun K => by
    unfold zj7 zb7
    by_cases h : 0 ≤ a
    · rw [agW (show a ≥ 0 from h), agY, ag8]
    · rw [ag1 (show ¬ a ≥ 0 from h)]; rfl
  cases hl0 : (l == [48]) with
  | true =>
    refine ⟨[], (decide (0 ≤ a) && decide (a ≤ 5)), by simp, by simp, fun K => ?_, fun K => ?_⟩
    · unfold uR Pa
      rw [h48, hl0, agY, aX]
      rfl
    · have hl := eq_of_beq hl0
      unfold kr xl
      rw [hbits, h48, hl0, aE, hl]
      cases (decide (0 ≤ a) && decide (a ≤ 5)) <;> rfl
  | false =>
    by_cases hlen : l.length ≤ 200
    · have hs : ∀ K : List (Int × Int) → Bool → Option β, uR N a (B l) K = p9 N N a (B l) (B []) (([] : List UInt8).length : Int) (tl []) (fun e0 e1 => K e1 e0) (fun e0 e1 e2 => cond (decide ((e1.size : Int) > 200)) (K [] false) (oM N e0 e2 fun r13 => cond (!r13) (K [] false) (K e2 true))) := fun K => by
        unfold uR Pa
        rw [h48, hl0]
        rfl
      cases hn : (decide (0 ≤ a) && decide (a ≤ 5)) with
      | false =>
        refine ⟨[], false, by simp, by simp, fun K => ?_, fun K => ?_⟩
        · rw [hs, Ck N a (fun _ => none) (fun p hp K => mZ N hN a hn p hp K) l hlen _ _ l [] [] N [] rfl (by omega) (by simp) (by simp)]
          have : run (fun _ => none) (spl 124 [] l) [] = none := by
            have hne : spl 124 [] l ≠ [] := by
              cases l with
              | nil => simp [spl]
              | cons b l => unfold spl; split; · simp
                            · intro h
                              have key : ∀ (l acc : List UInt8), spl 124 acc l ≠ [] := by
                                intro l
                                induction l with
                                | nil => intro acc; simp [spl]
                                | cons b l ih => intro acc; unfold spl; split; · simp
                                                 · exact ih _
                              exact key _ _ h
            cases hsp : spl 124 [] l with
            | nil => exact absurd hsp hne
            | cons p ps => rfl
          rw [this]
          rfl
        · unfold kr xl
          rw [hbits, hn]
          rfl
      | true =>
        simp only [agZ, decide_eq_true_eq] at hn
        obtain ⟨n, rfl⟩ := ahS hn.1
        have hn5 : n ≤ 5 := by omega
        obtain ⟨h1, h2⟩ := sf 124 l []
        simp only [ahh, ahD] at h2
        have e1 : ∀ K : List (Int × Int) → Bool → Option β, uR N (n : Int) (B l) K = B2 (run (ptm n) (spl 124 [] l) []) (fun o => oM N (n : Int) (tl o) fun r13 => cond (!r13) (K [] false) (K (tl o) true)) (K [] false) := fun K => by
          rw [hs, Ck N n (ptm n) (fun p hp K => ia N hN n hn5 p hp K) l hlen _ _ l [] [] N [] rfl (by omega) (by simp) (by simp)]
          congr 1
          funext o
          rw [aE, ag1 (by omega), agX]
        have e2 : ∀ K : List (Int × Int) → Bool → Option β, kr N (n : Int) (B l) K = B2 (run (ptm n) (spl 124 [] l) []) (fun o => pV N (n : Int) (tl o) fun r11 => cond (!r11) (K [] false) (K (tl o) true)) (K [] false) := fun K => by
          unfold kr xl strings_Split
          have hsep : aq [124] = ⟨#[124]⟩ := rfl
          rw [hbits, agW (by omega : (0 : Int) ≤ (n : Int)), agW (by omega : (n : Int) ≤ 5), aim, ag5, agX, aE, ag1 (by omega), agX, h48, hl0, agX, hsep, ab (agW (show (⟨#[124]⟩ : ByteArray).size = 1 from rfl)), ab (agW (by omega)), un, JB]
          dsimp only
          rw [ahw]
          exact L4 N n (ptm n) (fun p hp K => gY N hN n hn5 p hp K) (spl 124 [] l) (by omega) (fun p hp => by have := h2 p hp; omega) (fun e0 e1 => K e1 e0) (fun e0 e1 => pV N e0 e1 fun r11 => cond (!r11) (K [] false) (K e1 true)) (spl 124 [] l) [] N [] rfl (by omega) (by simp)
        cases hr : run (ptm n) (spl 124 [] l) [] with
        | none => exact ⟨[], false, by simp, by simp, fun K => by rw [e1, hr]; rfl, fun K => by rw [e2, hr]; rfl⟩
        | some o =>
          obtain ⟨g1, g2⟩ := NO (p := qW n) (fun l t h => wK hn5 h) _ _ _ hr (by simp)
          simp only [ahh, ahD] at g2
          by_cases h40 : o.length ≤ 40
          · refine ⟨o, true, h40, fun m hm _ t ht => (show m = n by omega) ▸ g1 t ht, fun K => ?_, fun K => ?_⟩
            · rw [e1, hr]
              simp only [B2]
              rw [m0 N hN n hn5 o (by omega) g1, agW (by omega)]
              rfl
            · rw [e2, hr]
              simp only [B2]
              rw [s6 N hN n hn5 o (by omega) g1, agW (by omega)]
              rfl
          · refine ⟨[], false, by simp, by simp, fun K => ?_, fun K => ?_⟩
            · rw [e1, hr]
              simp only [B2]
              rw [m0 N hN n hn5 o (by omega) g1, ag1 (by omega)]
              rfl
            · rw [e2, hr]
              simp only [B2]
              rw [s6 N hN n hn5 o (by omega) g1, ag1 (by omega)]
              rfl
    · refine ⟨[], false, by simp, by simp, fun K => ?_, fun K => ?_⟩
      · unfold uR Pa
        rw [h48, hl0, agX]
        obtain ⟨G, rfl⟩ : ∃ G, N = G + 1 := ⟨N - 1, by omega⟩
        simp only [p9, Jx, Jt, aE]
        rw [agW (by omega : (0 : Int) ≤ (l.length : Int)), agY, ag1 (by omega : ¬ (l.length : Int) ≤ 200), agX, agW (by omega), agY]
        rfl
      · unfold kr xl
        rw [hbits, aE, agW (by omega : (l.length : Int) > 200)]
        cases (decide (0 ≤ a) && decide (a ≤ 5)) <;> rfl
def hold (o : List (Nat × Nat)) (x : Nat) : Bool := o.any fun t => x &&& t.1 == t.2
theorem Gj (g h : Nat → Bool) : ∀ m, aQ g m ||| aQ h m = aQ (fun x => g x || h x) m
 | 0 => by simp [aQ]
 | m + 1 => by
  apply ahx
  intro i
  rw [aii, br, br, br]
  cases decide (i < m + 1) <;> simp
theorem lV (N : Nat) (hN : 1048576 < N) (n : Nat) (hn : n ≤ 5) (o : List (Nat × Nat)) (ho : o.length ≤ 1000) (hg : ∀ t ∈ o, qW n t) (K : Int → Int → Bool → Option β) : Ep N (n : Int) (tl o) K = K (n : Int) (aQ (hold o) (2 ^ n) : Int) true := by
 have h1in : ∀ K : Bool → Option β, bK N (n : Int) 0 5 K = K true := fun K => by
  rw [aX, agW (by omega : (0 : Int) ≤ (n : Int)), agW (by omega : (n : Int) ≤ 5)]
  rfl
 have hs := bd hn
 unfold Ep ZZ
 refine a6 (fun F i => uS N F (n : Int) (tl o) (aQ (hold (o.take i)) (2 ^ n) : Int) (i : Int) 0 0 (fun e0 e1 e2 => K e1 e2 e0) fun e0 e1 _ _ => bK N e0 0 5 fun r9 => cond (!r9) (K 0 0 false) (K e0 e1 true)) o.length _ (fun F i hi => ?_) (fun F => ?_) N 0 (by omega) (by omega) |> fun h => aig ?_ h
 ·have h0 : aQ (hold []) (2 ^ n) = 0 := by
   apply ahx
   intro i
   rw [br]
   simp [hold]
  show _ = uS N N (n : Int) (tl o) (aQ (hold (o.take 0)) (2 ^ n) : Int) ((0 : Nat) : Int) 0 0 _ _
  rw [List.take_zero, h0]
  rfl
 ·simp only [uS, aag, Sq, bE]
  obtain ⟨g1, g2, g3⟩ := hg o[i] (ahm hi)
  rw [agW (by omega : (i : Int) < (o.length : Int)), agY, ab (agW (by omega)), ab rfl, pE o i hi, b9 N n _ _ hn g2 g3, g1, ag5, agX, ab (agW (by omega)), ab rfl, gH N hN n _ _ hn g2, aw i (by omega)]
  have b1 : ∀ g, aQ g (2 ^ n) < 2 ^ 63 := fun g => ag9 (bT g _) (ag6 (by decide) (by omega))
  rw [bOr _ _ (b1 _) (b1 _), Gj]
  have e : (fun x => hold (o.take i) x || (x &&& o[i].1 == o[i].2)) = hold (o.take (i + 1)) := by
   funext x
   unfold hold
   rw [aiA, ajC hi, Option.toList_some, List.any_append, List.any_cons, List.any_nil, aiy]
  rw [e]
 ·simp only [uS, aag, Sq, bE]
  rw [ag1 (by omega : ¬ (o.length : Int) < (o.length : Int)), agX, h1in, ag5, agX, ahY (ag7 _)]
theorem lS (N : Nat) (hN : 1048576 < N) (n : Nat) (hn : n ≤ 5) (o : List (Nat × Nat)) (ho : o.length ≤ 1000) (hg : ∀ t ∈ o, qW n t) (K : Int → Int → Bool → Option β) : uJ N (n : Int) (tl o) K = K (n : Int) (aQ (hold o) (2 ^ n) : Int) true := by
 have hbits : ∀ K : Bool → Option β, zj7 N (n : Int) K = K true := fun K => by
  unfold zj7 zb7
  rw [agW (by omega : (n : Int) ≥ 0), agY, agW (by omega : (n : Int) ≤ 5)]
 have hs := bd hn
 unfold uJ ON pU GJ
 rw [hbits, agY, sw N hN o ho _ (fun _ => false) (fun t ht k => by
  obtain ⟨g1, g2, g3⟩ := hg t ht
  unfold gL R7
  rw [gz N n _ _ hn g2 g3, g1]
  rfl)]
 have h0 : (o.any fun _ => false) = false := by simp
 rw [h0, ahk]
 dsimp only
 rw [ag5, agX]
 unfold ip GL
 rw [b6 N (by omega) n hn _ (hold o) (fun x k hx => by
  unfold da Sa
  rw [sw N hN o ho _ (fun t => x &&& t.1 == t.2) (fun t ht k => by
   obtain ⟨g1, g2, g3⟩ := hg t ht
   unfold ij R9 Jv R8
   rw [rN x (by omega) t.1 g2, cJ])]
  rfl)]
theorem Hi (N : Nat) (hN : 1048576 < N) (n : Nat) (hn : n ≤ 5) (l : List UInt8) :
  ∃ (n' w : Int) (b : Bool), Tb n' w b ∧ (∀ K : Int → Int → Bool → Option β, (uR N (n : Int) (B l) fun r13 r14 => cond (!r14) (K 0 0 false) (Ep N (n : Int) r13 fun r15 r16 r17 => K r15 r16 r17)) = K n' w b) ∧
   (∀ K : Int → Int → Bool → Option β, (kr N (n : Int) (B l) fun r13 r14 => cond (!r14) (K 0 0 false) (uJ N (n : Int) r13 fun r15 r16 r17 => K r15 r16 r17)) = K n' w b) := by
 obtain ⟨o, b, ho, hg, e1, e2⟩ := J8 (β := β) N hN n l
 have hg := hg n rfl hn
 cases b with
 | false => exact ⟨0, 0, false, fh, fun K => by rw [e1]; rfl, fun K => by rw [e2]; rfl⟩
 | true => exact ⟨_, _, true, As hn (bT _ _), fun K => by rw [e1, ag5, agX, lV N hN n hn o (by omega) hg], fun K => by rw [e2, ag5, agX, lS N hN n hn o (by omega) hg]⟩
def ltr (n : Nat) : Bool := decide (97 ≤ n) && decide (n < 102)
def tt : Nat → List UInt8 → Nat → Option (Tr × List UInt8)
 | 0, _, _ => none
 | _ + 1, [], _ => none
 | F + 1, c :: r, m =>
  cond (c.toNat == 48 || c.toNat == 49) (some (.node c.toNat 0 .nil .nil, r))
   (cond (ltr c.toNat && !m.testBit (c.toNat - 97)) (match tt F r (m ||| 2 ^ (c.toNat - 97)) with
    | some (A, r1) => match tt F r1 (m ||| 2 ^ (c.toNat - 97)) with
     | some (C, r2) => some (.node c.toNat 0 A C, r2)
     | none => none
    | none => none) none)
theorem rA (N n : Nat) (h1 : 97 ≤ n) (h2 : n < 102) (k : Int → Int → Option β) : uI N (n : Int) k = k ((n - 97 : Nat) : Int) n := by
 unfold uI ZN
 have := cT (n - 97) (by omega)
 rw [show (n : Int) - 97 = ((n - 97 : Nat) : Int) by omega, this, si _ (by omega)]
theorem dQ : ∀ m, m < 32 → ∀ j, j < 5 → m ||| 2 ^ j < 32 ∧ (m.testBit j = true ∨ g7 (m ||| 2 ^ j) = g7 m + 1) ∧ g7 m ≤ 5 := by decide +kernel
theorem lN : ∀ (F : Nat) (l : List UInt8) (m : Nat) (T : Tr) (r : List UInt8), m < 32 → tt F l m = some (T, r) → T.isNil = false ∧ l = tx T ++ r ∧ (tx T).length + 1 ≤ 2 ^ (6 - g7 m) := by
 intro F
 induction F with
 | zero => intro l m T r _ h; cases h
 | succ F ih =>
  intro l m T r hm h
  cases l with
  | nil => cases h
  | cons c l =>
   have ho : g7 m ≤ 5 := (dQ m hm 0 (by decide)).2.2
   simp only [tt] at h
   cases h1 : (c.toNat == 48 || c.toNat == 49) with
   | true =>
    rw [h1, agY] at h
    cases h
    refine ⟨rfl, by simp [tx], ?_⟩
    have : 2 ^ 1 ≤ 2 ^ (6 - g7 m) := ag6 (by decide) (by omega)
    simpa [tx] using this
   | false =>
    rw [h1, agX] at h
    cases h2 : (ltr c.toNat && !m.testBit (c.toNat - 97)) with
    | false => rw [h2] at h; cases h
    | true =>
     rw [h2, agY] at h
     simp only [ltr, agZ, decide_eq_true_eq, ahl] at h2
     obtain ⟨m1, m2, _⟩ := dQ m hm (c.toNat - 97) (by omega)
     have m2 : g7 (m ||| 2 ^ (c.toNat - 97)) = g7 m + 1 := by
      rcases m2 with m2 | m2
      ·rw [h2.2] at m2; cases m2
      ·exact m2
     cases h4 : tt F l (m ||| 2 ^ (c.toNat - 97)) with
     | none => rw [h4] at h; cases h
     | some p =>
      obtain ⟨U, r1⟩ := p
      rw [h4] at h
      simp only at h
      cases h5 : tt F r1 (m ||| 2 ^ (c.toNat - 97)) with
      | none => rw [h5] at h; cases h
      | some q =>
       obtain ⟨V, r2⟩ := q
       rw [h5] at h
       cases h
       obtain ⟨_, k2, k3⟩ := ih _ _ _ _ m1 h4
       obtain ⟨_, k4, k5⟩ := ih _ _ _ _ m1 h5
       refine ⟨rfl, ?_, ?_⟩
       ·simp only [tx, ahb, ajb, ah3, ahs]
        rw [← k4, ← k2]
       ·rw [m2] at k3 k5
        have e : 2 ^ (6 - g7 m) = 2 * 2 ^ (6 - (g7 m + 1)) := by
         rw [show 6 - g7 m = (6 - (g7 m + 1)) + 1 by omega, Nat.pow_succ]; omega
        simp only [tx, ag3, ag4]
        omega
theorem BP (N : Nat) : ∀ (F : Nat) (l : List UInt8) (m : Nat), l.length < F → m < 32 → ∀ k : Tr → ByteArray → Option β,
  mu N F (B l) (m : Int) k = match tt F l m with | some (T, r) => k T (B r) | none => k .nil (B []) := by
 intro F
 induction F with
 | zero => intro l m h; omega
 | succ F ih =>
  intro l m hF hm k
  cases l with
  | nil =>
   simp only [mu, Pw, GM, aG, d7, tt]
   rfl
  | cons c r =>
   simp only [ag3] at hF
   simp only [mu, Pw, GM, aG, d7, SD, JC]
   simp only [aE]
   rw [show ((c :: r == []) : Bool) = false from rfl]
   simp only [agX]
   rw [ab (agW (by simp only [ag3]; omega)), ab (agW (by simp only [ag3]; omega)), iY]
   have hn := Hd c
   simp only [tt]
   generalize c.toNat = n at hn ⊢
   have e48 : ((n : Int) == 48) = (n == 48) := cJ n 48
   have e49 : ((n : Int) == 49) = (n == 49) := cJ n 49
   rw [e48, e49]
   cases h1 : n == 48 with
   | true => rfl
   | false =>
    cases h2 : n == 49 with
    | true => rfl
    | false =>
     simp only [agX, Bool.or_self]
     have el : (decide (97 ≤ n) && decide (n < 102)) = ltr n := rfl
     rw [el]
     cases h3 : ltr n with
     | false => rfl
     | true =>
      have h3' := h3
      simp only [ltr, agZ, decide_eq_true_eq] at h3'
      simp only [ag5, agX, ag8]
      rw [rA N n h3'.1 h3'.2, ab (agW (ahi _)), lY m _ (by omega), jA]
      cases h4 : m.testBit (n - 97) with
      | true => rfl
      | false =>
       obtain ⟨m1, _, _⟩ := dQ m hm (n - 97) (by omega)
       have hp : 2 ^ (n - 97) < 2 ^ 5 := ahE (by decide) (by omega)
       simp only [agX, ahk, agY]
       rw [rA N n h3'.1 h3'.2, ab (agW (ahi _)), aM _ (by omega), bOr m _ (by omega) (by omega), ih r _ (by omega) m1]
       cases h5 : tt F r (m ||| 2 ^ (n - 97)) with
       | none => rfl
       | some p =>
        obtain ⟨A, r1⟩ := p
        obtain ⟨a1, a2, _⟩ := lN _ _ _ _ _ m1 h5
        have hl : r1.length < F := by rw [a2] at hF; simp at hF; omega
        simp only
        rw [a1, agX, ih r1 _ hl m1]
        cases h6 : tt F r1 (m ||| 2 ^ (n - 97)) with
        | none => rfl
        | some q =>
         obtain ⟨C, r2⟩ := q
         obtain ⟨b1, _, _⟩ := lN _ _ _ _ _ m1 h6
         simp only
         rw [b1, agX]
def iZ (N : Nat) (l : List UInt8) : Bool := match tt N l 0 with | some (_, []) => true | _ => false
theorem Me (N : Nat) (l : List UInt8) (hl : l.length ≤ 1048576) : ∀ (F i m : Nat), l.length - i < F → i ≤ l.length → m < 32 → ∀ k : Int → Option β,
  Am N F (B l) (i : Int) (m : Int) k = match tt F (l.drop i) m with | some (_, r) => k ((l.length - r.length : Nat) : Int) | none => k (-1) := by
 intro F
 induction F with
 | zero => intro i m h; omega
 | succ F ih =>
  intro i m hF hi hm k
  simp only [Am, acv, Z0, aE]
  rcases ahf i l.length with hlt | hge
  ·rw [ag1 (show ¬ (i : Int) ≥ (l.length : Int) by omega), Jz l i hlt, yl l i hlt]
   have hlen : (l.drop (i + 1)).length = l.length - (i + 1) := aiE
   have g1 : decide ((0 : Int) ≤ (i : Int)) = true := agW (by omega)
   have g2 : decide ((i : Int) < (l.length : Int)) = true := agW (by omega)
   simp only [agX, g1, g2, gd, agY]
   rw [show w64 ((i : Int) + 1) = ((i + 1 : Nat) : Int) by rw [bp] <;> omega]
   have leaf : (i + 1 : Nat) = l.length - (l.drop (i + 1)).length := by omega
   have hn := Hd l[i]
   simp only [tt]
   generalize l[i].toNat = n at hn ⊢
   have e48 : ((n : Int) == 48) = (n == 48) := cJ n 48
   have e49 : ((n : Int) == 49) = (n == 49) := cJ n 49
   rw [e48, e49]
   cases h1 : n == 48 with
   | true =>
    simp only [agY, ajj]
    rw [← leaf]
   | false =>
    cases h2 : n == 49 with
    | true =>
     simp only [agY, agX, ai2]
     rw [← leaf]
    | false =>
     simp only [agX, Bool.or_self]
     rw [show w64 (w64 (n : Int) - 97) = (n : Int) - 97 by rw [bp (x := (n : Int)) (by omega) (by omega), bp (by omega) (by omega)], aX]
     have el : (decide ((0 : Int) ≤ (n : Int) - 97) && decide ((n : Int) - 97 ≤ 4)) = ltr n := by
      unfold ltr
      congr 1
      ·by_cases h : 97 ≤ n
       ·rw [agW h, agW (by omega)]
       ·rw [ag1 h, ag1 (by omega)]
      ·by_cases h : n < 102
       ·rw [agW h, agW (by omega)]
       ·rw [ag1 h, ag1 (by omega)]
     rw [el]
     cases h3 : ltr n with
     | false => rfl
     | true =>
      have h3' := h3
      simp only [ltr, agZ, decide_eq_true_eq] at h3'
      simp only [ag5, agX, ag8]
      rw [show (n : Int) - 97 = ((n - 97 : Nat) : Int) by omega, agW (ahi (n - 97)), lY m _ (by omega), jA]
      simp only [agY]
      cases h4 : m.testBit (n - 97) with
      | true => rfl
      | false =>
       obtain ⟨m1, _, _⟩ := dQ m hm (n - 97) (by omega)
       have hp : 2 ^ (n - 97) < 2 ^ 5 := ahE (by decide) (by omega)
       simp only [agX, ahk, agY]
       rw [aM _ (by omega), bOr m _ (by omega) (by omega), ih (i + 1) _ (by omega) (by omega) m1]
       cases h5 : tt F (l.drop (i + 1)) (m ||| 2 ^ (n - 97)) with
       | none => rfl
       | some p =>
        obtain ⟨A, r1⟩ := p
        obtain ⟨_, a2, _⟩ := lN _ _ _ _ _ m1 h5
        obtain ⟨s1, s2, s3, s4⟩ := qS a2 (by omega)
        simp only
        rw [ag1 (by omega), agX, ih _ _ (by omega) s2 m1, s1]
        cases tt F r1 (m ||| 2 ^ (n - 97)) <;> rfl
  ·rw [agW (show (i : Int) ≥ (l.length : Int) by omega), agY, aiP hge]
   rfl
theorem tf (N : Nat) (l : List UInt8) (h : iZ N l = true) : l.length ≤ 63 := by
 unfold iZ at h
 split at h
 ·rename_i T hp
  obtain ⟨_, a2, a3⟩ := lN _ _ _ _ _ (by decide) hp
  have e : 2 ^ (6 - g7 0) = 64 := by decide
  rw [e] at a3
  rw [a2, ahg]; omega
 ·cases h
theorem fG (N : Nat) (hN : 1048576 < N) (l : List UInt8) (hl : l.length ≤ 1048576) (k : Bool → Option β) : C6 N (B l) k = k (iZ N l) := by
 unfold C6 Z1
 rw [aE]
 by_cases h : l.length ≤ 63
 ·rw [agW (show (l.length : Int) ≤ 63 by omega), agY]
  by_cases h0 : l.length = 0
  ·have : l = [] := ahv h0
   subst this
   obtain ⟨M, rfl⟩ : ∃ M, N = M + 1 := ⟨N - 1, by omega⟩
   rfl
  ·rw [agW (show (l.length : Int) > 0 by omega), agY]
   have := fun k => Me (β := β) N l hl N 0 0 (by omega) (by omega) (by decide) k
   simp only [ahN, aih] at this
   unfold acw iZ
   rw [this]
   cases hp : tt N l 0 with
   | none => exact congrArg k (beq_eq_false_iff_ne.2 (by omega))
   | some p =>
    obtain ⟨T, r⟩ := p
    obtain ⟨_, a2, _⟩ := lN _ _ _ _ _ (by decide) hp
    cases r with
    | nil => simp
    | cons c r =>
     simp only [ag3]
     congr 1
     refine beq_eq_false_iff_ne.2 ?_
     have : (tx T ++ c :: r).length = l.length := by rw [← a2]
     simp at this
     omega
 ·rw [ag1 (show ¬ (l.length : Int) ≤ 63 by omega), agX]
  cases ht : iZ N l with
  | false => rfl
  | true => exact absurd (tf N l ht) h
def sV : Tr → Prop
 | .nil => False
 | .node s b a c => b = 0 ∧ ∃ n : Nat, s = n ∧ (((n = 48 ∨ n = 49) ∧ a = .nil ∧ c = .nil) ∨ (97 ≤ n ∧ n < 102 ∧ sV a ∧ sV c))
def hd : Tr → Nat
 | .nil => 0
 | .node _ _ a c => if a.isNil then 0 else 1 + max (hd a) (hd c)
def ed (x : Nat) : Tr → Nat
 | .nil => 0
 | .node s _ a c => if a.isNil then 0 else 1 + (if x.testBit (s.toNat - 97) then ed x c else ed x a)
theorem qn {T : Tr} (h : sV T) : T.isNil = false := by
 cases T with
 | nil => exact h.elim
 | node => rfl
def If (x j : Nat) (b : Bool) : Nat := cond b (x ||| 2 ^ j) (x &&& (31 ^^^ 2 ^ j))
theorem Ig : ∀ x, x < 32 → ∀ j, j < 5 → (If x j true < 32 ∧ (If x j true).testBit j = true ∧ If x j false < 32 ∧ (If x j false).testBit j = false) ∧ ∀ i, i < 5 → i ≠ j → (If x j true).testBit i = x.testBit i ∧ (If x j false).testBit i = x.testBit i := by decide +kernel
theorem acg : ∀ (F : Nat) (l : List UInt8) (m : Nat) (T : Tr) (r : List UInt8), m < 32 → tt F l m = some (T, r) → sV T ∧ hd T + g7 m ≤ 5 ∧
  ∀ x, x < 32 → ∃ y, y < 32 ∧ (∀ i, i < 5 → m.testBit i = true → y.testBit i = x.testBit i) ∧ ed y T = hd T := by
 intro F
 induction F with
 | zero => intro l m T r _ h; cases h
 | succ F ih =>
  intro l m T r hm h
  cases l with
  | nil => cases h
  | cons c l =>
   have ho : g7 m ≤ 5 := (dQ m hm 0 (by decide)).2.2
   simp only [tt] at h
   cases h1 : (c.toNat == 48 || c.toNat == 49) with
   | true =>
    rw [h1, agY] at h
    cases h
    simp only [ahH, beq_iff_eq] at h1
    exact ⟨⟨rfl, c.toNat, rfl, .inl ⟨h1, rfl, rfl⟩⟩, by simpa [hd, Tr.isNil] using ho, fun x hx => ⟨x, hx, fun _ _ _ => rfl, rfl⟩⟩
   | false =>
    rw [h1, agX] at h
    cases h2 : (ltr c.toNat && !m.testBit (c.toNat - 97)) with
    | false => rw [h2] at h; cases h
    | true =>
     rw [h2, agY] at h
     simp only [ltr, agZ, decide_eq_true_eq, ahl] at h2
     obtain ⟨m1, m2, _⟩ := dQ m hm (c.toNat - 97) (by omega)
     have m2 : g7 (m ||| 2 ^ (c.toNat - 97)) = g7 m + 1 := by
      rcases m2 with m2 | m2
      ·rw [h2.2] at m2; cases m2
      ·exact m2
     cases h4 : tt F l (m ||| 2 ^ (c.toNat - 97)) with
     | none => rw [h4] at h; cases h
     | some p =>
      obtain ⟨U, r1⟩ := p
      rw [h4] at h
      simp only at h
      cases h5 : tt F r1 (m ||| 2 ^ (c.toNat - 97)) with
      | none => rw [h5] at h; cases h
      | some q =>
       obtain ⟨V, r2⟩ := q
       rw [h5] at h
       cases h
       obtain ⟨a1, a2, a3⟩ := ih _ _ _ _ m1 h4
       obtain ⟨b1, b2, b3⟩ := ih _ _ _ _ m1 h5
       have hU := qn a1
       have e : hd (.node (c.toNat : Int) 0 U V) = 1 + max (hd U) (hd V) := by simp only [hd]; rw [hU, if_neg (by decide)]
       refine ⟨⟨rfl, c.toNat, rfl, .inr ⟨h2.1.1, h2.1.2, a1, b1⟩⟩, by omega, fun x hx => ?_⟩
       have hj : c.toNat - 97 < 5 := by omega
       have hmj := h2.2
       have ea : ∀ y : Nat, ed y (.node (c.toNat : Int) 0 U V) = 1 + (if y.testBit (c.toNat - 97) then ed y V else ed y U) := fun y => by
        simp only [ed]; rw [hU, if_neg (by decide)]; rfl
       rw [e]
       generalize c.toNat - 97 = j at hj hmj a3 b3 ea
       obtain ⟨⟨s1, s2, s3, s4⟩, s5⟩ := Ig x hx j hj
       have hself : (m ||| 2 ^ j).testBit j = true := by rw [aii, Nat.testBit_two_pow_self, ai2]
       have hsub : ∀ i, m.testBit i = true → (m ||| 2 ^ j).testBit i = true := fun i hi => by rw [aii, hi, ajj]
       have hne : ∀ i, m.testBit i = true → i ≠ j := fun i hi e => by rw [e, hmj] at hi; cases hi
       by_cases hle : hd U ≤ hd V
       ·obtain ⟨y, y1, y2, y3⟩ := b3 _ s1
        refine ⟨y, y1, fun i hi hmi => ?_, ?_⟩
        ·rw [y2 i hi (hsub i hmi)]
         exact (s5 i hi (hne i hmi)).1
        ·rw [ea, y2 j hj hself, s2, if_pos rfl, y3]; omega
       ·obtain ⟨y, y1, y2, y3⟩ := a3 _ s3
        refine ⟨y, y1, fun i hi hmi => ?_, ?_⟩
        ·rw [y2 i hi (hsub i hmi)]
         exact (s5 i hi (hne i hmi)).2
        ·rw [ea, y2 j hj hself, s4, if_neg (by decide), y3]; omega
def qv (n : Nat) : Tr → Bool
 | .nil => true
 | .node s _ a c => if a.isNil then true else decide (s.toNat - 97 < n) && (qv n a && qv n c)
def tv (T : Tr) (x : Nat) : Bool := cM x T == 49
def okB (n : Nat) (b : UInt8) : Bool := !decide (97 ≤ b.toNat) || decide (b.toNat - 97 < n)
theorem Cl (b : Nat) (h : 97 ≤ b) (hb : b < 256) : w64 (w8 ((b : Int) - 97)) = ((b - 97 : Nat) : Int) := by
 rw [show (b : Int) - 97 = ((b - 97 : Nat) : Int) by omega, cT _ (by omega), bp (by omega) (by omega)]
theorem vI (p : UInt8 → Bool) (l : List UInt8) : db (fun i => p (at8 l i)) l.length = l.all p := by
 rw [aic, aht]
 constructor
 ·intro h x hx
  obtain ⟨i, hi, rfl⟩ := aiX.1 hx
  have := iz h i hi
  rw [oU l i hi] at this
  exact this
 ·intro h
  exact sr fun i hi => by
   show p (at8 l i) = true
   rw [oU l i hi]
   exact h _ (ahm hi)
theorem yf (n : Nat) (h : n < 256) : (UInt8.ofNat n).toNat = n := by
 rw [ais]; exact aie h
theorem tw (n : Nat) : ∀ T, sV T → (tx T).all (okB n) = qv n T
 | .nil, h => h.elim
 | .node s b a c, h => by
  obtain ⟨rfl, m, rfl, h⟩ := h
  rcases h with ⟨h, rfl, rfl⟩ | ⟨h1, h2, ga, gc⟩
  ·rcases h with rfl | rfl <;> rfl
  ·have e : (UInt8.ofNat m).toNat = m := yf m (by omega)
   simp only [tx, qv, ahb, ahc, ait, okB, e, qn ga, tw n a ga, tw n c gc]
   rw [agW h1, if_neg (by decide)]
   rfl
theorem Hs {l r : List UInt8} {c : UInt8} {i : Nat} (h : l.drop i = c :: r) : i < l.length ∧ bt (B l) (i : Int) = (c.toNat : Int) ∧ l.drop (i + 1) = r := by
 have hi : i < l.length := by
  rcases ahf i l.length with h1 | h1
  ·exact h1
  ·rw [aiP h1] at h; cases h
 rw [yl l i hi] at h
 injection h with h1 h2
 exact ⟨hi, by rw [Jz l i hi, h1], h2⟩
theorem yH {l r : List UInt8} {n i : Nat} {a c : Tr} (hn : n < 256) (h : l.drop i = tx (.node (n : Int) 0 a c) ++ r) : i < l.length ∧ bt (B l) (i : Int) = (n : Int) ∧ l.drop (i + 1) = tx a ++ (tx c ++ r) := by
 simp only [tx, ahb, ah3, ahs] at h
 have := Hs h
 rw [yf n hn] at this
 exact this
theorem vV {l m r : List UInt8} {i : Nat} (h : l.drop i = m ++ r) : l.drop (i + m.length) = r := by
 rw [← ajp, h]; simp
theorem HS (N : Nat) (l : List UInt8) (hl : l.length ≤ 1048576) : ∀ (F : Nat) (T : Tr) (i : Nat) (r : List UInt8), sV T → l.drop i = tx T ++ r → (tx T).length ≤ F → ∀ k : Int → Option β,
  vC N F (B l) (i : Int) k = k ((i + (tx T).length : Nat) : Int) := by
 intro F
 induction F with
 | zero =>
  intro T i r hg _ h
  cases T with
  | nil => exact hg.elim
  | node => simp [tx] at h
 | succ F ih =>
  intro T i r hg hd hF k
  cases T with
  | nil => exact hg.elim
  | node s b a c =>
   obtain ⟨rfl, n, rfl, h⟩ := hg
   have hn : n < 256 := by rcases h with ⟨h, _⟩ | ⟨_, h, _⟩ <;> omega
   obtain ⟨hi, hb, hr⟩ := yH hn hd
   simp only [vC, acx, Z2, hb, aE]
   have g1 : decide ((0 : Int) ≤ (i : Int)) = true := agW (by omega)
   have g2 : decide ((i : Int) < (l.length : Int)) = true := agW (by omega)
   simp only [g1, g2, gd, agY]
   rw [show w64 ((i : Int) + 1) = ((i + 1 : Nat) : Int) by rw [bp] <;> omega]
   have e48 : ((n : Int) == 48) = (n == 48) := cJ n 48
   have e49 : ((n : Int) == 49) = (n == 49) := cJ n 49
   rw [e48, e49]
   simp only [tx, ag3, ag4] at hF ⊢
   rcases h with ⟨h, rfl, rfl⟩ | ⟨h1, h2, ga, gc⟩
   ·rcases h with rfl | rfl <;> rfl
   ·rw [beq_eq_false_iff_ne.2 (by omega : n ≠ 48), beq_eq_false_iff_ne.2 (by omega : n ≠ 49), agX, agX, ih a (i + 1) _ ga hr (by omega), ih c _ r gc (vV hr) (by omega)]
    congr 2
    omega
theorem Mf (N : Nat) (l : List UInt8) (hl : l.length ≤ 1048576) (hN : 1048576 < N) (x : Nat) (hx : x < 32) : ∀ (F : Nat) (T : Tr) (i c : Nat) (r : List UInt8), sV T → l.drop i = tx T ++ r → hd T < F → hd T + c < 1000 →
  ∃ p, p < l.length ∧ bt (B l) (p : Int) = (cM x T : Int) ∧ ∀ k0 : ByteArray → Int → Int → Option β, An N F (B l) (x : Int) (i : Int) (c : Int) k0 = k0 (B l) (p : Int) ((c + ed x T : Nat) : Int) := by
 intro F
 induction F with
 | zero => intro T i c r _ _ h; omega
 | succ F ih =>
  intro T i q r hg hdr hF hq
  cases T with
  | nil => exact hg.elim
  | node s b a c =>
   obtain ⟨rfl, n, rfl, h⟩ := hg
   have hn : n < 256 := by rcases h with ⟨h, _⟩ | ⟨_, h, _⟩ <;> omega
   obtain ⟨hi, hb, hr⟩ := yH hn hdr
   simp only [An, acz, Z3, hb, aE]
   have g1 : decide ((0 : Int) ≤ (i : Int)) = true := agW (by omega)
   have g2 : decide ((i : Int) < (l.length : Int)) = true := agW (by omega)
   simp only [g1, g2, gd, agY]
   rw [show w64 ((i : Int) + 1) = ((i + 1 : Nat) : Int) by rw [bp] <;> omega, show w64 ((q : Int) + 1) = ((q + 1 : Nat) : Int) by rw [bp] <;> omega]
   have e48 : ((n : Int) != 48) = !(n == 48) := congrArg Bool.not (cJ n 48)
   have e49 : ((n : Int) != 49) = !(n == 49) := congrArg Bool.not (cJ n 49)
   rw [e48, e49]
   rcases h with ⟨h, rfl, rfl⟩ | ⟨h1, h2, ga, gc⟩
   ·refine ⟨i, hi, hb, fun k0 => ?_⟩
    rcases h with rfl | rfl <;> rfl
   ·have hna := qn ga
    simp only [hd] at hF hq
    rw [hna, if_neg (by decide)] at hF hq
    have ea : ed x (.node (n : Int) 0 a c) = 1 + (if x.testBit (n - 97) then ed x c else ed x a) := by
     simp only [ed]; rw [hna, if_neg (by decide)]; rfl
    have el : cM x (.node (n : Int) 0 a c) = (if x.testBit (n - 97) then cM x c else cM x a) := by
     simp only [cM]; rw [hna, if_neg (by decide)]; rfl
    rw [ea, el]
    have ew : w8 ((n : Int) - 97) = ((n - 97 : Nat) : Int) := by rw [show (n : Int) - 97 = ((n - 97 : Nat) : Int) by omega, cT _ (by omega)]
    simp only [beq_eq_false_iff_ne.2 (by omega : n ≠ 48), beq_eq_false_iff_ne.2 (by omega : n ≠ 49), ahk, agY, ew, agW (ahi (n - 97)), lY x (n - 97) (by omega), jA]
    cases hbit : x.testBit (n - 97) with
    | false =>
     obtain ⟨p, hp, hv, he⟩ := ih a (i + 1) (q + 1) _ ga hr (by omega) (by omega)
     refine ⟨p, hp, by rw [if_neg (by decide)]; exact hv, fun k0 => ?_⟩
     rw [agX, he, if_neg (by decide)]
     congr 2
     omega
    | true =>
     obtain ⟨p, hp, hv, he⟩ := ih c (i + 1 + (tx a).length) (q + 1) r gc (vV hr) (by omega) (by omega)
     have hlen : (tx a).length ≤ N := by
      have := congrArg List.length hr
      rw [aiE, ag4] at this
      omega
     refine ⟨p, hp, by rw [if_pos rfl]; exact hv, fun k0 => ?_⟩
     unfold acy
     rw [agY, HS N l hl N a (i + 1) _ ga hr hlen, he, if_pos rfl]
     congr 2
     omega
theorem tu (x : Nat) : ∀ T, sV T → cM x T = 48 ∨ cM x T = 49
 | .nil, h => h.elim
 | .node s b a c, h => by
  obtain ⟨rfl, m, rfl, h⟩ := h
  rcases h with ⟨h, rfl, rfl⟩ | ⟨h1, h2, ga, gc⟩
  ·rcases h with rfl | rfl
   ·exact .inl rfl
   ·exact .inr rfl
  ·have e1 := tu x a ga
   have e2 := tu x c gc
   simp only [cM]
   rw [qn ga, if_neg (by decide)]
   split
   ·exact e2
   ·exact e1
theorem Mi (x : Nat) (T : Tr) (h : sV T) : w64 (w8 ((cM x T : Int) - 48)) = ((tv T x).toNat : Int) := by
 unfold tv
 rcases tu x T h with e | e <;> rw [e] <;> rfl
theorem fy (a b : Int) (l r : Tr) : Tr.isNil (.node a b l r) = false := rfl
theorem Jq (N : Nat) (n : Nat) : ∀ (F : Nat) (T : Tr), sV T → hd T < F → ∀ k : Bool → Option β, pW N F T (n : Int) k = k (qv n T) := by
 intro F
 induction F with
 | zero => intro T _ h; omega
 | succ F ih =>
  intro T hg hF k
  cases T with
  | nil => exact hg.elim
  | node s b a c =>
   obtain ⟨rfl, m, rfl, h⟩ := hg
   rcases h with ⟨h, rfl, rfl⟩ | ⟨h1, h2, ga, gc⟩
   ·rcases h with rfl | rfl <;> rfl
   ·have hna := qn ga
    simp only [hd] at hF
    rw [hna, if_neg (by decide)] at hF
    simp only [pW, Ty, OO, rK, Sb, fy, ahk, Tr.l, Tr.r, Tr.a, hna]
    simp only [gd, agY, agX, Cl m h1 (by omega)]
    rw [ih a ga (by omega)]
    simp only [qv, hna, ahb]
    rw [if_neg (by decide)]
    by_cases hm : m - 97 < n
    ·rw [agW (by omega : ((m - 97 : Nat) : Int) < (n : Int)), agW hm, agY]
     cases hl : qv n a with
     | false => rfl
     | true => rw [agY, ih c gc (by omega)]; rfl
    ·rw [ag1 (by omega : ¬ ((m - 97 : Nat) : Int) < (n : Int)), ag1 hm]; rfl
theorem KB (N x : Nat) (hx : x < 32) : ∀ (F : Nat) (T : Tr) (c : Nat), sV T → hd T < F → hd T + c < 1000 →
  ∃ b : Int, ∃ a d : Tr, ∀ k0 : Tr → Int → Option β, Ak N F T (x : Int) (c : Int) k0 = k0 (.node (cM x T : Int) b a d) ((c + ed x T : Nat) : Int) := by
 intro F
 induction F with
 | zero => intro T c _ h; omega
 | succ F ih =>
  intro T q hg hF hq
  cases T with
  | nil => exact hg.elim
  | node s b a c =>
   obtain ⟨rfl, m, rfl, h⟩ := hg
   rcases h with ⟨h, rfl, rfl⟩ | ⟨h1, h2, ga, gc⟩
   ·exact ⟨0, .nil, .nil, fun k0 => by rcases h with rfl | rfl <;> rfl⟩
   ·have hna := qn ga
    simp only [hd] at hF hq
    rw [hna, if_neg (by decide)] at hF hq
    have ea : ed x (.node (m : Int) 0 a c) = 1 + (if x.testBit (m - 97) then ed x c else ed x a) := by
     simp only [ed]; rw [hna, if_neg (by decide)]; rfl
    have el : cM x (.node (m : Int) 0 a c) = (if x.testBit (m - 97) then cM x c else cM x a) := by
     simp only [cM]; rw [hna, if_neg (by decide)]; rfl
    simp only [Ak, act, ZO, rK, Sb, fy, ahk, Tr.l, Tr.r, Tr.a, hna]
    simp only [gd, agY, Cl m h1 (by omega), agW (ahi (m - 97)), lY x (m - 97) (by omega), KD, aw q (by omega)]
    rw [ea, el]
    cases hbit : x.testBit (m - 97) with
    | false =>
     obtain ⟨b', a', d', he⟩ := ih a (q + 1) ga (by omega) (by omega)
     refine ⟨b', a', d', fun k0 => ?_⟩
     rw [ahk, agY, he, if_neg (by decide), if_neg (by decide)]
     congr 2
     omega
    | true =>
     obtain ⟨b', a', d', he⟩ := ih c (q + 1) gc (by omega) (by omega)
     refine ⟨b', a', d', fun k0 => ?_⟩
     rw [ag5, agX, he, if_pos rfl, if_pos rfl]
     congr 2
     omega
theorem Hj (N : Nat) (hN : 1048576 < N) (n : Nat) (hn : n ≤ 5) (l : List UInt8) (hl : l.length ≤ 1048576) :
  ∃ (n' w : Int) (b : Bool), Tb n' w b ∧ (∀ K : Int → Int → Bool → Option β, Ao N (B l) (n : Int) K = K n' w b) ∧ (∀ K : Int → Int → Bool → Option β, pX N (B l) (n : Int) K = K n' w b) := by
 have h1in : ∀ K : Bool → Option β, bK N (n : Int) 0 5 K = K true := fun K => by
  rw [aX, agW (by omega : (0 : Int) ≤ (n : Int)), agW (by omega : (n : Int) ≤ 5)]
  rfl
 have hbits : ∀ K : Bool → Option β, zj7 N (n : Int) K = K true := fun K => by
  unfold zj7 zb7
  rw [agW (by omega : (n : Int) ≥ 0), agY, agW (by omega : (n : Int) ≤ 5)]
 have hs := bd hn
 have hz : (0 : Int) ≤ ((2 ^ n : Nat) : Int) := ahi _
 have hread := fun k => BP (β := β) N N l 0 (by omega) (by decide) k
 simp only [ahN] at hread
 cases ht : tt N l 0 with
 | none =>
  refine ⟨0, 0, false, fh, fun K => ?_, fun K => ?_⟩
  ·unfold Ao Pb
   rw [fG N hN l hl]
   unfold iZ
   rw [ht]
   rfl
  ·unfold pX CG uL CF uK GN Px
   rw [hread, ht]
   rfl
 | some p =>
  obtain ⟨T, r⟩ := p
  obtain ⟨g1, g2, _⟩ := acg _ _ _ _ _ (by decide) ht
  obtain ⟨a1, a2, _⟩ := lN _ _ _ _ _ (by decide) ht
  have hr : ∀ K : Tr → Bool → Option β, uK N (B l) K = K T (r == []) := fun K => by
   unfold uK GN Px
   rw [hread, ht]
   simp only [a1, ahk, agY, d7, aG]
  cases hre : r == [] with
  | false =>
   refine ⟨0, 0, false, fh, fun K => ?_, fun K => ?_⟩
   ·unfold Ao Pb
    rw [fG N hN l hl]
    unfold iZ
    rw [ht]
    cases r with
    | nil => cases hre
    | cons c r => rfl
   ·unfold pX CG uL CF
    rw [hr, hre]
    rfl
  | true =>
   have hre := eq_of_beq hre
   subst hre
   rw [ahg] at a2
   have hit : iZ N l = true := by unfold iZ; rw [ht]
   have hlen := tf N l hit
   have eS : ∀ K : Int → Int → Bool → Option β, Ao N (B l) (n : Int) K = cond (qv n T) (K (n : Int) (aQ (tv T) (2 ^ n) : Int) true) (K 0 0 false) := fun K => by
    unfold Ao Pb
    rw [fG N hN l hl, hit, ag5, agX, h1in, ag5, agX]
    have fC := fun (k1 : ByteArray → Int → Int → Int → Option β) => tB (fun F i => uT N F (B l) (n : Int) (i : Int) 0 0 (fun e0 e1 e2 => K e1 e2 e0) k1) (fun i => okB n (at8 l i)) l.length (K 0 0 false) (k1 (B l) (n : Int) 0 0) (fun F i hi => by
     simp only [uT, aah, Sr, aE]
     have hb := (at8 l i).toNat_lt
     rw [agW (by omega : (i : Int) < (l.length : Int)), agY, ab (agW (by omega)), ab rfl, yd l i hi, ab (agW (by omega)), ab rfl, aw i (by omega)]
     unfold okB
     by_cases h97 : 97 ≤ (at8 l i).toNat
     ·rw [agW (by omega : ((at8 l i).toNat : Int) ≥ 97), agY, Cl _ h97 (by omega), agW h97]
      by_cases hlt : (at8 l i).toNat - 97 < n
      ·rw [ag1 (by omega), agW hlt]; rfl
      ·rw [agW (by omega), ag1 hlt]; rfl
     ·rw [ag1 (by omega : ¬ ((at8 l i).toNat : Int) ≥ 97), agX, ag1 h97]; rfl) (fun F => by
     simp only [uT, aah, Sr, aE]
     rw [ag1 (by omega), agX]) N (by omega)
    refine (fC _).trans ?_
    rw [vI (okB n) l]
    have hall : l.all (okB n) = qv n T := by rw [← tw n T g1, ← a2]
    rw [hall]
    cases qv n T with
    | false => rfl
    | true =>
     rw [agY, agY]
     refine a6 (fun F x => uU N F (B l) (n : Int) (aQ (tv T) x : Int) (x : Int) 0 0 fun e0 e1 _ _ => K e0 e1 true) (2 ^ n) _ (fun F x hx => ?_) (fun F => ?_) N 0 (by omega) (by omega)
     ·simp only [uU, aai, Ss]
      rw [ab (agW (by omega)), aM n (by omega), agW (by omega : (x : Int) < ((2 ^ n : Nat) : Int)), agY]
      unfold Er Z4
      obtain ⟨p, hp, hv, he⟩ := Mf (β := β) N l hl hN x (by omega) N T 0 0 [] g1 (by rw [aih, ahg]; exact a2) (by omega) (by omega)
      simp only [ahN] at he
      rw [he, aE, ab (agW (by omega)), ab (agW (by omega)), hv, Mi x T g1]
      dsimp only
      rw [ab (agW (by omega)), aw x (by omega)]
      cases hx1 : tv T x with
      | true =>
       have e1 : ((true.toNat : Nat) : Int) = 1 := rfl
       rw [e1, ic _ x (by omega), jZ hx1]
      | false =>
       have hb : aQ (tv T) x < 2 ^ 63 := ag9 (bT _ x) (ag6 (by decide) (by omega))
       have h0 : aW .i64 ((false.toNat : Nat) : Int) (x : Int) = ((0 : Nat) : Int) := by
        have := se 0 x (by omega) (by omega)
        rw [air] at this
        exact this
       rw [h0, bOr _ _ hb (by decide), Nat.or_zero, pO hx1]
     ·simp only [uU, aai, Ss]
      rw [ab (agW (by omega)), aM n (by omega), ag1 (by omega : ¬ ((2 ^ n : Nat) : Int) < ((2 ^ n : Nat) : Int)), agX]
   have eI : ∀ K : Int → Int → Bool → Option β, pX N (B l) (n : Int) K = cond (qv n T) (K (n : Int) (aQ (tv T) (2 ^ n) : Int) true) (K 0 0 false) := fun K => by
    unfold pX CG uL CF Tz
    rw [hr]
    dsimp only
    rw [show (([] : List UInt8) == []) = true from rfl, ag5, agX, hbits, ag5, agX, Jq N n N T g1 (by omega)]
    cases qv n T with
    | false => rfl
    | true =>
     rw [ag5, agX, agY, b6 N (by omega) n hn _ (tv T) (fun x k hx => by
      unfold de ZQ PD ZP
      obtain ⟨b, a, d, he⟩ := KB (β := β) N x (by omega) N T 0 g1 (by omega) (by omega)
      simp only [ahN] at he
      rw [he]
      simp only [fy, ahk, gd, agY, Tr.a, Mi x T g1]
      cases tv T x <;> rfl)]
   cases hlt : qv n T with
   | true => exact ⟨_, _, true, As hn (bT _ _), fun K => by rw [eS, hlt, agY], fun K => by rw [eI, hlt, agY]⟩
   | false => exact ⟨0, 0, false, fh, fun K => by rw [eS, hlt, agX], fun K => by rw [eI, hlt, agX]⟩
def dn (n : Nat) : Tr → Bool
 | .nil => true
 | .node s _ a c => if a.isNil then cond (lt5 s.toNat) (decide (s.toNat - 97 < n)) true else dn n a && cond (s.toNat == 33) true (dn n c)
def ev (x : Nat) : Tr → Bool
 | .nil => false
 | .node s _ a c =>
  if a.isNil then cond (lt5 s.toNat) (x.testBit (s.toNat - 97)) (s.toNat == 49)
  else cond (s.toNat == 33) (!ev x a) (cond (s.toNat == 38) (ev x a && ev x c) (cond (s.toNat == 124) (ev x a || ev x c) (ev x a != ev x c)))
def mQ (l : List UInt8) : Bool := decide (l.length ≤ 60) && (match pt 1048577 l with | some (_, []) => true | _ => false)
theorem ul (N : Nat) (hN : 1048576 < N) (l : List UInt8) (k : Bool → Option β) : vD N (B l) k = k (mQ l) := pM N hN l k
theorem abZ (N : Nat) (hN : 1048576 < N) (l : List UInt8) (h60 : l.length ≤ 60) : pt N l = pt 1048577 l := by
 cases h1 : pt N l with
 | some p =>
  obtain ⟨T, r⟩ := p
  obtain ⟨w1, w2⟩ := jR _ _ _ _ h1
  rw [w2, rg T _ r w1]
  rw [w2] at h60; simp at h60; omega
 | none =>
  cases h2 : pt 1048577 l with
  | none => rfl
  | some p =>
   obtain ⟨T, r⟩ := p
   obtain ⟨w1, w2⟩ := jR _ _ _ _ h2
   rw [w2, rg T _ r w1] at h1
   ·cases h1
   ·rw [w2] at h60; simp at h60; omega
theorem cY {T : Tr} (h : wf T) : T.isNil = false := by
 cases T with
 | nil => exact h.elim
 | node => rfl
def okF (n : Nat) (b : UInt8) : Bool := !(decide (97 ≤ b.toNat) && decide (b.toNat ≤ 101)) || decide (b.toNat - 97 < n)
theorem FO (n m : Nat) (hm : m < 256) : okF n (UInt8.ofNat m) = cond (lt5 m) (decide (m - 97 < n)) true := by
 have e : (UInt8.ofNat m).toNat = m := yf m hm
 unfold okF lt5
 rw [e]
 by_cases h1 : 97 ≤ m
 ·by_cases h2 : m < 102
  ·rw [agW h1, agW h2, agW (by omega : m ≤ 101)]; rfl
  ·rw [ag1 h2, ag1 (by omega : ¬ m ≤ 101), aiB]; rfl
 ·rw [ag1 h1]; rfl
theorem jz {n : Nat} (h : bn n = true) : n = 38 ∨ n = 124 ∨ n = 94 := by
 simpa [bn] using h
theorem lH (n : Nat) : ∀ T, wf T → (tx T).all (okF n) = dn n T
 | .nil, h => h.elim
 | .node s b a c, h => by
  obtain ⟨rfl, m, rfl, hm, h⟩ := h
  rcases h with ⟨h, rfl, rfl⟩ | ⟨rfl, ha, rfl⟩ | ⟨h, ha, hc⟩
  ·simp only [tx, dn, ahb, ahc, ahg, ai3, aix, FO n m hm]
   rfl
  ·simp only [tx, dn, ahc, ahg, cY ha, lH n a ha]
   rw [if_neg (by decide)]
   have : okF n (UInt8.ofNat (Int.toNat ((33 : Nat) : Int))) = true := rfl
   rw [this]
   simp
  ·simp only [tx, dn, ahb, ahc, ait, cY ha, lH n a ha, lH n c hc, FO n m hm]
   rw [if_neg (by decide)]
   rcases jz h with rfl | rfl | rfl <;> simp [lt5]
theorem qr : Tr.isNil .nil = true := rfl
theorem Bv {n : Nat} (h : lf n = true) : lt5 n = true ∨ (lt5 n = false ∧ (n = 48 ∨ n = 49)) := by
 unfold lf at h
 cases h1 : lt5 n with
 | true => exact .inl rfl
 | false =>
  unfold lt5 at h1
  rw [h1] at h
  exact .inr ⟨rfl, by simpa using h⟩
theorem Dy (N : Nat) (hN : 1048576 < N) (l : List UInt8) (hl : l.length ≤ 60) (x : Nat) (hx : x < 32) : ∀ (F : Nat) (T : Tr) (i : Nat) (r : List UInt8), wf T → l.drop i = tx T ++ r → (tx T).length ≤ F → i ≤ l.length → ∀ k : Bool → Option β,
  uV N F (B l) (i : Int) (x : Int) k = k (ev x T) := by
 intro F
 induction F with
 | zero => intro T i r h _ hF; have := Ob h; omega
 | succ F ih =>
  intro T i r h hd hF hi k
  cases T with
  | nil => exact h.elim
  | node a b A C =>
   obtain ⟨rfl, n, rfl, hn, h⟩ := h
   obtain ⟨hlt, hcn, hr⟩ := yH hn hd
   have hsub : (tx (.node n 0 A C)).length + r.length = l.length - i := by rw [← ag4, ← hd, aiE]
   simp only [tx, ag3, ag4] at hF hsub
   simp only [uV, acB, Z7, aE]
   rw [ab (agW (by omega)), ab (agW (by omega)), hcn]
   rw [show w64 ((i : Int) + 1) = ((i + 1 : Nat) : Int) by rw [bp] <;> omega]
   have g33 := cJ n 33; have g38 := cJ n 38; have g124 := cJ n 124; have g94 := cJ n 94; have g48 := cJ n 48; have g49 := cJ n 49
   simp only [aiN] at g33 g38 g124 g94 g48 g49
   rw [g33, g38, g124, g94, g48, g49]
   rcases h with ⟨h1, rfl, rfl⟩ | ⟨rfl, h1, rfl⟩ | ⟨h1, h2, h3⟩
   ·simp only [ev, qr, if_true, ahb]
    rcases Bv h1 with h2 | ⟨h2, h3⟩
    ·have h2' := h2
     simp only [lt5, agZ, decide_eq_true_eq] at h2'
     rw [beq_eq_false_iff_ne.2 (show n ≠ 33 by omega), beq_eq_false_iff_ne.2 (show n ≠ 38 by omega), beq_eq_false_iff_ne.2 (show n ≠ 124 by omega), beq_eq_false_iff_ne.2 (show n ≠ 94 by omega), beq_eq_false_iff_ne.2 (show n ≠ 48 by omega), beq_eq_false_iff_ne.2 (show n ≠ 49 by omega)]
     have ew : w8 ((n : Int) - 97) = ((n - 97 : Nat) : Int) := by rw [show (n : Int) - 97 = ((n - 97 : Nat) : Int) by omega, cT _ (by omega)]
     simp only [agX, h2, agY, ew]
     rw [ab (agW (by omega)), ab (agW (by omega)), ab (agW (by omega)), lY x _ (by omega), jA]
    ·rcases h3 with rfl | rfl <;> rfl
   ·have hr' : l.drop (i + 1) = tx A ++ r := by simpa [tx] using hr
    simp only [ev, cY h1]
    rw [if_neg (by decide)]
    refine (ih A (i + 1) r h1 hr' (by omega) (by omega) fun b => k (!b)).trans ?_
    rfl
   ·have hpt : pt N (l.drop (i + 1)) = some (A, tx C ++ r) := by rw [hr]; exact rg A N _ h2 (by omega)
    obtain ⟨s1, s2, s3, s4⟩ := qS hr (by omega)
    have hend : ∀ k' : Int → Option β, SA N (B l) ((i + 1 : Nat) : Int) k' = k' ((l.length - (tx C ++ r).length : Nat) : Int) := fun k' => by
     show oO N N (B l) _ _ = _
     rw [Bt N l (by omega) N (i + 1) (by omega) (by omega), hpt]
    have p1 := fun k' => ih A (i + 1) _ h2 hr (by omega) (by omega) k'
    have p2 := fun k' => ih C _ r h3 s1 (by omega) s2 k'
    simp only [ev, cY h2, ahb]
    rw [if_neg (by decide)]
    rcases jz h1 with rfl | rfl | rfl
    ·refine (p1 _).trans ?_
     show cond (ev x A) _ _ = _
     rw [hend, p2]
     cases ev x A <;> rfl
    ·refine (p1 _).trans ?_
     show cond (ev x A) _ _ = _
     rw [hend, p2]
     cases ev x A <;> rfl
    ·refine (p1 _).trans ?_
     show SA N (B l) ((i + 1 : Nat) : Int) _ = _
     rw [hend, p2]
     cases ev x A <;> cases ev x C <;> rfl
theorem HM (N : Nat) (a b : Int) (l r : Tr) (k : Bool → Option β) : CX N (.node a b l r) k = k l.isNil := rfl
theorem ji (g : Nat → Bool) (n : Nat) (hn : n ≤ 5) : aQ g (2 ^ n) < 2 ^ 63 := ag9 (bT g _) (ag6 (by decide) (by have := bd hn; omega))
theorem N6 (g : Nat → Bool) (m : Nat) : aQ g m ^^^ (2 ^ m - 1) = aQ (fun x => !g x) m := by
 apply ahx
 intro i
 rw [aiM, br, br, Nat.testBit_two_pow_sub_one]
 cases decide (i < m) <;> simp
theorem N5 (g h : Nat → Bool) (m : Nat) : aQ g m &&& aQ h m = aQ (fun x => g x && h x) m := by
 apply ahx
 intro i
 rw [ahW, br, br, br]
 cases decide (i < m) <;> simp
theorem N7 (g h : Nat → Bool) (m : Nat) : aQ g m ^^^ aQ h m = aQ (fun x => g x != h x) m := by
 apply ahx
 intro i
 rw [aiM, br, br, br]
 cases decide (i < m) <;> simp
theorem vm (N : Nat) (hN : 1048576 < N) (n : Nat) (hn : n ≤ 5) : ∀ (F : Nat) (T : Tr), wf T → (tx T).length ≤ F → ∀ K : Int → Int → Bool → Option β,
  pY N F T (n : Int) K = cond (dn n T) (K (n : Int) (aQ (fun x => ev x T) (2 ^ n) : Int) true) (K 0 0 false) := by
 have hbits : ∀ K : Bool → Option β, zj7 N (n : Int) K = K true := fun K => by
  unfold zj7 zb7
  rw [agW (by omega : (n : Int) ≥ 0), agY, agW (by omega : (n : Int) ≤ 5)]
 have hs := bd hn
 have hz : (0 : Int) ≤ ((2 ^ n : Nat) : Int) := ahi _
 intro F
 induction F with
 | zero => intro T h hF; have := Ob h; omega
 | succ F ih =>
  intro T h hF K
  cases T with
  | nil => exact h.elim
  | node s b A C =>
   obtain ⟨rfl, m, rfl, hm, h⟩ := h
   simp only [tx, ag3, ag4] at hF
   simp only [pY, TB, OQ, HM, fy, ahk, Tr.a, Tr.l, Tr.r]
   simp only [gd, agY]
   rcases h with ⟨h, rfl, rfl⟩ | ⟨rfl, ha, rfl⟩ | ⟨h, ha, hc⟩
   ·rw [qr, agY, iY]
    simp only [dn, ev, qr, if_true, ahb]
    have e5 : (decide (97 ≤ m) && decide (m < 102)) = lt5 m := rfl
    rw [e5]
    rcases Bv h with h5 | ⟨h5, h4⟩
    ·have h5' := h5
     simp only [lt5, agZ, decide_eq_true_eq] at h5'
     simp only [h5, agY]
     rw [Cl m h5'.1 hm]
     unfold CY OP
     rw [hbits, ag5, agX, ag1 (by omega), agX]
     by_cases hlt : m - 97 < n
     ·rw [ag1 (by omega), agX, agW hlt, agY]
      unfold p7 Sc
      rw [b6 N (by omega) n hn _ (fun x => x.testBit (m - 97)) (fun x k hx => by
       unfold zj0 zb0
       rw [ab (agW (by omega)), lY x _ (by omega), jA])]
     ·rw [agW (by omega), agY, ag1 hlt, agX]
    ·simp only [h5, agX, agY]
     rw [b6 N (by omega) n hn _ (fun _ => m == 49) (fun x k hx => by
      unfold df ZR
      simp only [fy, ahk, gd, agY, Tr.a]
      exact congrArg k (cJ m 49))]
   ·rw [cY ha, agX, ih A ha (by omega)]
    simp only [dn, ev, cY ha]
    rw [if_neg (by decide)]
    cases hl : dn n A with
    | false => rfl
    | true =>
     rw [agY, ag5, agX, show ((((33 : Nat) : Int)) == 33) = true from rfl, agY]
     unfold eF GQ
     rw [bV N n _ hn, ab (agW (by omega)), aM (2 ^ n) (by omega)]
     have hp : (2 : Nat) ^ 2 ^ n ≤ 2 ^ 32 := ag6 (by decide) hs
     have hp1 := sh (2 ^ n)
     rw [show (((2 ^ 2 ^ n : Nat) : Int) - 1) = ((2 ^ 2 ^ n - 1 : Nat) : Int) by omega, bp (by omega) (by omega), Qv _ _ (ji _ n hn) (by omega), N6]
     simp
   ·rw [cY ha, agX, ih A ha (by omega)]
    simp only [dn, ev, cY ha, ahb]
    rw [if_neg (by decide)]
    have e33 : ((m : Int) == 33) = false := by rcases jz h with rfl | rfl | rfl <;> rfl
    have e33' : (m == 33) = false := by rcases jz h with rfl | rfl | rfl <;> rfl
    cases hl : dn n A with
    | false => rfl
    | true =>
     rw [agY, ag5, agX, e33, agX, ih C hc (by omega), e33', agX, ag8]
     cases hl2 : dn n C with
     | false => rfl
     | true =>
      rw [agY, ag5, agX, agY, bAnd _ _ (ji _ n hn) (ji _ n hn), bOr _ _ (ji _ n hn) (ji _ n hn), Qv _ _ (ji _ n hn) (ji _ n hn), N5, Gj, N7]
      rcases jz h with rfl | rfl | rfl <;> simp
theorem xD (N : Nat) (hN : 1048576 < N) (n : Nat) (hn : n ≤ 5) (l : List UInt8) :
  ∃ (n' w : Int) (b : Bool), (b = true → ∃ T, wf T ∧ l = tx T ∧ l.length ≤ 60 ∧ dn n T = true ∧ n' = n ∧ w = (aQ (fun x => ev x T) (2 ^ n) : Int)) ∧ ((∃ T, wf T ∧ l = tx T ∧ l.length ≤ 60 ∧ dn n T = true) → b = true) ∧ (∀ K : Int → Int → Bool → Option β, uY N (B l) (n : Int) K = K n' w b) ∧ (∀ K : Int → Int → Bool → Option β, ks N (B l) (n : Int) K = K n' w b) := by
 have h1in : ∀ K : Bool → Option β, bK N (n : Int) 0 5 K = K true := fun K => by
  rw [aX, agW (by omega : (0 : Int) ≤ (n : Int)), agW (by omega : (n : Int) ≤ 5)]
  rfl
 have hbits : ∀ K : Bool → Option β, zj7 N (n : Int) K = K true := fun K => by
  unfold zj7 zb7
  rw [agW (by omega : (n : Int) ≥ 0), agY, agW (by omega : (n : Int) ≤ 5)]
 have hs := bd hn
 have hz : (0 : Int) ≤ ((2 ^ n : Nat) : Int) := ahi _
 have hform : ∀ K : Bool → Option β, vD N (B l) K = K (mQ l) := fun K => ul N hN l K
 have hread : ∀ K : Tr → Bool → Option β, l.length ≤ 60 → uM N (B l) K = match pt 1048577 l with | some (T, r) => K T (r == []) | none => K .nil false := fun K h60 => by
  unfold uM GP TA
  rw [aE, ag1 (by omega), agX, BO N N l (by omega), abZ N hN l h60]
  cases hp : pt 1048577 l with
  | none => rfl
  | some p =>
   obtain ⟨T, r⟩ := p
   have hw := cY (jR _ _ _ _ hp).1
   dsimp only
   rw [hw, ahk, agY, aG, d7, aG]
 by_cases h60 : l.length ≤ 60
 ·cases hp : pt 1048577 l with
  | none =>
   refine ⟨0, 0, false, (fun h => by cases h), (fun ⟨T, hw, htx, _⟩ => ?_), fun K => ?_, fun K => ?_⟩
   ·rw [htx, ← ahg (tx T), rg T _ _ hw (by rw [← htx]; omega)] at hp; cases hp
   ·unfold uY Ju
    rw [hform]
    unfold mQ
    rw [hp, aiB]
    rfl
   ·unfold ks xm
    rw [hread _ h60, hp]
    rfl
  | some p =>
   obtain ⟨T, r⟩ := p
   obtain ⟨hw, htx⟩ := jR _ _ _ _ hp
   cases r with
   | cons c r =>
    refine ⟨0, 0, false, (fun h => by cases h), (fun ⟨U, hu, hux, _⟩ => ?_), fun K => ?_, fun K => ?_⟩
    ·rw [hux, ← ahg (tx U), rg U _ _ hu (by rw [← hux]; omega)] at hp; cases hp
    ·unfold uY Ju
     rw [hform]
     unfold mQ
     rw [hp, aiB]
     rfl
    ·unfold ks xm
     rw [hread _ h60, hp]
     rfl
   | nil =>
    rw [ahg] at htx
    have eS : ∀ K : Int → Int → Bool → Option β, uY N (B l) (n : Int) K = cond (dn n T) (K (n : Int) (aQ (fun x => ev x T) (2 ^ n) : Int) true) (K 0 0 false) := fun K => by
     unfold uY Ju
     rw [hform]
     have hf : mQ l = true := by unfold mQ; rw [hp, agW h60]; rfl
     rw [hf, ag5, agX, h1in, ag5, agX]
     have fC := fun (k1 : ByteArray → Int → Int → Int → Option β) => tB (fun F i => uW N F (B l) (n : Int) (i : Int) 0 0 (fun e0 e1 e2 => K e1 e2 e0) k1) (fun i => okF n (at8 l i)) l.length (K 0 0 false) (k1 (B l) (n : Int) 0 0) (fun F i hi => by
      simp only [uW, aaj, Su, aE]
      have hb := (at8 l i).toNat_lt
      rw [agW (by omega : (i : Int) < (l.length : Int)), agY, ab (agW (by omega)), ab rfl, yd l i hi, ab (agW (by omega)), ab rfl, ab (agW (by omega)), ab rfl, aw i (by omega)]
      unfold okF
      by_cases h97 : 97 ≤ (at8 l i).toNat
      ·rw [agW (by omega : ((at8 l i).toNat : Int) ≥ 97), agY, Cl _ h97 (by omega), agW h97]
       by_cases h101 : (at8 l i).toNat ≤ 101
       ·rw [agW (by omega : ((at8 l i).toNat : Int) ≤ 101), agY, agW h101]
        by_cases hlt : (at8 l i).toNat - 97 < n
        ·rw [ag1 (by omega), agW hlt]; rfl
        ·rw [agW (by omega), ag1 hlt]; rfl
       ·rw [ag1 (by omega : ¬ ((at8 l i).toNat : Int) ≤ 101), agX, ag1 h101]; rfl
      ·rw [ag1 (by omega : ¬ ((at8 l i).toNat : Int) ≥ 97), agX, ag1 h97]; rfl) (fun F => by
      simp only [uW, aaj, Su, aE]
      rw [ag1 (by omega), agX]) N (by omega)
     refine (fC _).trans ?_
     rw [vI (okF n) l]
     have hall : l.all (okF n) = dn n T := by rw [← lH n T hw, ← htx]
     rw [hall]
     cases dn n T with
     | false => rfl
     | true =>
      rw [agY, agY]
      refine a6 (fun F x => uX N F (B l) (n : Int) (aQ (fun x => ev x T) x : Int) (x : Int) 0 0 fun e0 e1 _ _ => K e0 e1 true) (2 ^ n) _ (fun F x hx => ?_) (fun F => ?_) N 0 (by omega) (by omega)
      ·simp only [uX, aak, Sv]
       rw [ab (agW (by omega)), aM n (by omega), agW (by omega : (x : Int) < ((2 ^ n : Nat) : Int)), agY]
       have hv := fun k => Dy (β := β) N hN l h60 x (by omega) N T 0 [] hw (by rw [aih, ahg]; exact htx) (by rw [← htx]; omega) (by omega) k
       simp only [ahN] at hv
       unfold acC
       rw [hv, ab (agW (by omega)), aw x (by omega), ic _ x (by omega)]
       cases hx1 : ev x T with
       | true => rw [agY, jZ (g := fun x => ev x T) hx1]
       | false => rw [agX, pO (g := fun x => ev x T) hx1]
      ·simp only [uX, aak, Sv]
       rw [ab (agW (by omega)), aM n (by omega), ag1 (by omega : ¬ ((2 ^ n : Nat) : Int) < ((2 ^ n : Nat) : Int)), agX]
    have eI : ∀ K : Int → Int → Bool → Option β, ks N (B l) (n : Int) K = cond (dn n T) (K (n : Int) (aQ (fun x => ev x T) (2 ^ n) : Int) true) (K 0 0 false) := fun K => by
     unfold ks xm TC
     rw [hread _ h60, hp]
     dsimp only
     rw [show (([] : List UInt8) == []) = true from rfl, ag5, agX, hbits, ag5, agX, vm N hN n hn N T hw (by rw [← htx]; omega)]
    cases hlt : dn n T with
    | true => exact ⟨_, _, true, fun _ => ⟨T, hw, htx, h60, hlt, rfl, rfl⟩, fun _ => rfl, fun K => by rw [eS, hlt, agY], fun K => by rw [eI, hlt, agY]⟩
    | false => exact ⟨0, 0, false, (fun h => by cases h), (fun ⟨U, hu, hux, _, hlu⟩ => by
     rw [hux, ← ahg (tx U), rg U _ _ hu (by rw [← hux]; omega)] at hp
     cases hp; rw [hlt] at hlu; cases hlu), fun K => by rw [eS, hlt, agX], fun K => by rw [eI, hlt, agX]⟩
 ·refine ⟨0, 0, false, (fun h => by cases h), (fun ⟨U, _, _, h, _⟩ => absurd h h60), fun K => ?_, fun K => ?_⟩
  ·unfold uY Ju
   rw [hform]
   unfold mQ
   rw [ag1 h60]
   rfl
  ·unfold ks xm uM GP
   rw [aE, agW (by omega), agY]
   rfl
theorem xC (N : Nat) (hN : 1048576 < N) (n : Nat) (hn : n ≤ 5) (l : List UInt8) :
  ∃ (n' w : Int) (b : Bool), Tb n' w b ∧ (∀ K : Int → Int → Bool → Option β, uY N (B l) (n : Int) K = K n' w b) ∧ (∀ K : Int → Int → Bool → Option β, ks N (B l) (n : Int) K = K n' w b) := by
 obtain ⟨n', w, b, h0, _, h1, h2⟩ := xD (β := β) N hN n hn l
 refine ⟨n', w, b, fun h => ?_, h1, h2⟩
 obtain ⟨T, _, _, _, _, rfl, rfl⟩ := h0 h
 exact ⟨n, _, rfl, rfl, hn, bT _ _⟩
theorem Hg (N : Nat) (hN : 1048576 < N) (a : List UInt8) (a1 : Int) (l : List UInt8) (hl : l.length ≤ 1048576) :
  ∃ (n' w : Int) (b : Bool), Tb n' w b ∧ (∀ K : Int → Int → Bool → Option β, uG N (B a) a1 (B l) K = K n' w b) ∧ (∀ K : Int → Int → Bool → Option β, uN N (B a) a1 (B l) K = K n' w b) := by
 by_cases h0 : 0 ≤ a1 ∧ a1 ≤ 4
 ·obtain ⟨n, rfl⟩ := ahS h0.1
  have hn : n ≤ 4 := by omega
  have h1in : ∀ K : Bool → Option β, bK N (n : Int) 0 4 K = K true := fun K => by
   rw [aX, agW (by omega : (0 : Int) ≤ (n : Int)), agW (by omega : (n : Int) ≤ 4)]
   rfl
  unfold uG Gp uN GR
  simp only [h1in, ag5, agX, ag1 (by omega : ¬ (n : Int) < 0), ag1 (by omega : ¬ (n : Int) > 4)]
  cases (B a).toList == (aq [116, 97, 98, 108, 101]).toList with
  | true =>
   obtain ⟨n', w, b, e0, e1, e2⟩ := C7 (β := β) N hN l
   simp only [agY, e1, e2]
   cases b with
   | false => exact ⟨0, 0, false, fh, fun K => rfl, fun K => rfl⟩
   | true =>
    cases hb : n' != (n : Int) with
    | true => exact ⟨0, 0, false, fh, fun K => rfl, fun K => rfl⟩
    | false => exact ⟨n', w, true, e0, fun K => rfl, fun K => rfl⟩
  | false =>
   simp only [agX]
   cases (B a).toList == (aq [97, 110, 102]).toList with
   | true => exact Jy N hN n (by omega) l
   | false =>
    simp only [agX]
    cases (B a).toList == (aq [115, 117, 109]).toList with
    | true => exact Hi N hN n (by omega) l
    | false =>
     simp only [agX]
     cases (B a).toList == (aq [116, 114, 101, 101]).toList with
     | true => exact Hj N hN n (by omega) l hl
     | false =>
      simp only [agX]
      cases (B a).toList == (aq [102, 111, 114, 109, 117, 108, 97]).toList with
      | true => exact xC N hN n (by omega) l
      | false => exact ⟨0, 0, false, fh, fun K => rfl, fun K => rfl⟩
 ·refine ⟨0, 0, false, fh, fun K => ?_, fun K => ?_⟩
  ·unfold uG Gp
   have : (decide (0 ≤ a1) && decide (a1 ≤ 4)) = false := by
    rw [Bool.and_eq_false_iff, decide_eq_false_iff_not, decide_eq_false_iff_not]; omega
   rw [aX, this]
   rfl
  ·unfold uN GR
   by_cases h : a1 < 0
   ·rw [agW h]; rfl
   ·rw [ag1 h, agW (by omega : a1 > 4)]; rfl
end Go.Proofs.YtmhlcbibbhelkaaGreatDoor
