/- Plain laws of the texts. -/
import Derived.Test.YtemihnclhcobnaaGreatDoorP91
import Derived.Lib.Join
import Derived.Lib.IndexBytes
namespace Go.Proofs.YtemihnclhcobnaaGreatDoor
open Go.Rv
set_option linter.unusedVariables false
set_option linter.unusedSimpArgs false
variable {β : Type}
def cM (x : Nat) : Tr -> Nat
 | .nil => 0
 | .node s _ a c => if a.isNil then s.toNat else (if x.testBit (s.toNat - 97) then cM x c else cM x a)
def lt5 (n : Nat) : Bool := decide (97 <= n) && decide (n < 102)
def okT (n m v : Nat) : Bool := decide (m < 2 ^ n) && (v &&& m == v)
def qR (n : Nat) (t : Nat × Nat) : Prop := okT n t.1 t.2 = true /\ t.1 < 32 /\ t.2 < 32
def Ts (n : Nat) (o : List (Nat × Nat)) : Prop := ∀ t ∈ o, qR n t
def ft (m v : Nat) : Nat -> List UInt8
 | 0 => []
 | i + 1 => ft m v i ++ cond (m.testBit i) (cond (v.testBit i) [UInt8.ofNat (97 + i)] [33, UInt8.ofNat (97 + i)]) []
def ftb (n m v : Nat) : List UInt8 := cond (okT n m v) (cond (ft m v n == []) [49] (ft m v n)) []
def bm (n : Nat) (o : List (Nat × Nat)) : List (List UInt8) := o.map fun t => ftb n t.1 t.2
def Nh (n : Nat) (o : List (Nat × Nat)) : List UInt8 := cond (o.length == 0) [48] (Lib.join (bm n o) [124])
theorem j9 (c : UInt8) (b : Nat) : ∀ l : List (List UInt8), (∀ x ∈ l, x.length <= b) -> (Lib.join l [c]).length <= (b + 1) * l.length
 | [], _ => by simp [Lib.join]
 | x :: l, h => by
  rw [Lib.join_cons, aj6, Lib.joinTail_length]
  have h1 := h x (by simp)
  have h2 : ∀ l : List (List UInt8), (∀ x ∈ l, x.length <= b) -> Lib.lens l <= b * l.length := by
   intro l
   induction l with
   | nil => intro _; simp [Lib.lens]
   | cons y l ih =>
    intro h
    have e1 := h y (by simp)
    have e2 := ih fun z hz => h z (by simp [hz])
    simp only [Lib.lens, akD, List.sum_cons, aj4] at e2 ⊢
    rw [Nat.mul_add, akV]
    omega
  have h3 := h2 l fun z hz => h z (by simp [hz])
  simp only [aj4, aki]
  have e3 : (b + 1) * (l.length + 1) = b * l.length + l.length + b + 1 := by rw [als, amd, Nat.mul_add, akV]; omega
  rw [e3]
  omega
def scn : List UInt8 -> Bool -> Nat -> Nat -> Nat × Nat
 | [], _, m, v => (m, v)
 | b :: l, f, m, v =>
  if b.toNat = 33 then scn l true m v
  else if 97 <= b.toNat /\ b.toNat < 102 then scn l false (m ||| 2 ^ (b.toNat - 97)) (cond f v (v ||| 2 ^ (b.toNat - 97)))
  else scn l f m v
def ptm (n : Nat) (l : List UInt8) : Option (Nat × Nat) :=
 if l = [49] then some (0, 0) else if l = [] then none else if ftb n (scn l false 0 0).1 (scn l false 0 0).2 = l then some (scn l false 0 0) else none
theorem R2 : ∀ n : Nat, n <= 4 -> ∀ m : Nat, m < 2 ^ n -> ∀ v : Nat, v < 2 ^ n -> (!(v &&& m == v) || (decide (0 < (ftb n m v).length) && decide ((ftb n m v).length <= 10) && !(ftb n m v).contains 124 && !(ftb n m v).contains 48 && (ptm n (ftb n m v) == some (m, v)))) = true := by decide +kernel
theorem pa {n : Nat} (hn : n <= 4) {t : Nat × Nat} (h : qR n t) : 0 < (ftb n t.1 t.2).length /\ (ftb n t.1 t.2).length <= 10 /\ (124 : UInt8) ∉ ftb n t.1 t.2 /\ (48 : UInt8) ∉ ftb n t.1 t.2 /\ ptm n (ftb n t.1 t.2) = some t := by
 obtain ⟨h1, -, -⟩ := h
 unfold okT at h1
 rw [aj0, decide_eq_true_eq] at h1
 have hle : t.2 <= t.1 := by rw [<- eq_of_beq h1.2]; exact alI
 have h2 := R2 n hn t.1 h1.1 t.2 (by omega)
 rw [h1.2, aj5, ak7] at h2
 simp only [aj0, decide_eq_true_eq, akm] at h2
 obtain ⟨⟨⟨⟨a1, a2⟩, a3⟩, a4⟩, a5⟩ := h2
 refine ⟨a1, a2, fun h => ?_, fun h => ?_, eq_of_beq a5⟩
 ·rw [alk.2 h] at a3; cases a3
 ·rw [alk.2 h] at a4; cases a4
theorem Pb {n : Nat} (hn : n <= 4) {o : List (Nat × Nat)} (hg : Ts n o) : ∀ x ∈ bm n o, 0 < x.length /\ x.length <= 10 /\ (124 : UInt8) ∉ x /\ (48 : UInt8) ∉ x := by
 intro x hx
 obtain ⟨t, ht, rfl⟩ := akq.1 hx
 obtain ⟨a1, a2, a3, a4, -⟩ := pa hn (hg t ht)
 exact ⟨a1, a2, a3, a4⟩
theorem dW (n : Nat) (o : List (Nat × Nat)) : (bm n o).length = o.length := by simp [bm]
theorem JA {n : Nat} (hn : n <= 4) {o : List (Nat × Nat)} (hg : Ts n o) : (Lib.join (bm n o) [124]).length <= 11 * o.length := by
 have h := j9 124 10 (bm n o) fun x hx => (Pb hn hg x hx).2.1
 rw [dW] at h
 exact h
def tl (l : List (Nat × Nat)) : List (Int × Int) := l.map fun p => ((p.1 : Int), (p.2 : Int))
theorem bE (l : List (Nat × Nat)) : (tl l).length = l.length := by simp [tl]
theorem pw (o : List (Nat × Nat)) (i : Nat) (h : i < o.length) : rd (0, 0) (tl o) (i : Int) = ((o[i].1 : Int), (o[i].2 : Int)) := by
 simp [rd, tl, amA, amF h]
theorem sz5 : ∀ n : Nat, n <= 5 -> 1 <= 2 ^ n /\ 2 ^ n <= 32 := by decide +kernel
theorem DT : ∀ v : Nat, v < 32 -> ∀ m : Nat, m < 32 -> (bits .and .i64 (v : Int) (m : Int) == (v : Int)) = (v &&& m == v) := by decide +kernel
theorem cc (N n m v : Nat) (hn : n <= 5) (hm : m < 32) (hv : v < 32) (K : Bool -> Option β) : jK N (n : Int) (m : Int) (v : Int) K = K (okT n m v) := by
 have hs := sz5 n hn
 unfold jK VG okT
 rw [aX, ajX (by omega : (0 : Int) <= (n : Int)), ajX (by omega : (n : Int) <= 5), alo, ajZ, ab rfl, aM n (by omega), bp (by omega) (by omega), aX, ajX (by omega : (0 : Int) <= (m : Int)), aj9]
 by_cases h : m < 2 ^ n
 ·rw [ajX (by omega), ajX h, ajZ, aX, ajX (by omega : (0 : Int) <= (v : Int)), aj9, DT v hv m hm, aj9]
  cases hvm : (v &&& m == v) with
  | true =>
   have : v <= m := by rw [<- eq_of_beq hvm]; exact alI
   rw [ajX (by omega)]; rfl
  | false => cases decide ((v : Int) <= (m : Int)) <;> rfl
 ·rw [aj2 (by omega), aj2 h]; rfl
theorem nQ (N : Nat) (hN : 1048576 < N) (n : Nat) (hn : n <= 5) (o : List (Nat × Nat)) (ho : o.length <= 1000) (hg : ∀ t ∈ o, qR n t) (K : Bool -> Option β) : oI N (n : Int) (tl o) K = K (decide ((o.length : Int) <= 40)) := by
 unfold oI aa0
 refine a6 (fun F i => wA N F (n : Int) (tl o) (i : Int) (fun e => K e) fun e0 e1 => bK N e0 0 5 fun r6 => cond r6 (K (decide ((e1.length : Int) <= 40))) (K false)) o.length _ (fun F i hi => ?_) (fun F => ?_) N 0 (by omega) (by omega)
 ·obtain ⟨h1, h2, h3⟩ := hg o[i] (akn hi)
  simp only [wA, abh, VM, bE, pw o i hi]
  rw [ajX (by omega : (i : Int) < (o.length : Int)), ajZ, ab (ajX (by omega)), ab rfl, cc N n _ _ hn h2 h3, h1, aj5, ajY, aw i (by omega)]
 ·simp only [wA, abh, VM, bE]
  rw [aj2 (by omega), ajY, aX, ajX (by omega : (0 : Int) <= (n : Int)), ajX (by omega : (n : Int) <= 5)]
  rfl
theorem xm (sep y : List UInt8) : ∀ l : List (List UInt8), Lib.join (l ++ [y]) sep = if l = [] then y else Lib.join l sep ++ sep ++ y
 | [] => by rw [if_pos rfl, akH, Lib.join_cons]; simp [Lib.joinTail]
 | x :: l => by
  rw [if_neg (by simp), ak4, Lib.join_cons, Lib.join_cons]
  simp [Lib.joinTail]
theorem D8 (m v : Nat) : ∀ i, (ft m v i).length <= 2 * i
 | 0 => aj8 _
 | i + 1 => by
  have := D8 m v i
  simp only [ft, aj6]
  cases m.testBit i <;> cases v.testBit i <;> simp <;> omega
theorem RO (w y : Nat) (hw : w < 32) : (bits .and .i64 (cW .i64 (w : Int) (y : Int)) 1 == 0) = !w.testBit y := by
 rw [gz w y (by omega)]
 cases w.testBit y <;> rfl
theorem pi : (((aq [97, 98, 99, 100, 101]).size : Nat) : Int) = 5 := by decide +kernel
theorem tR : ∀ i, i < 5 -> (aq [97, 98, 99, 100, 101]).extract i (i + 1) = B [UInt8.ofNat (97 + i)] := by decide +kernel
theorem bN (N : Nat) (hN : 1048576 < N) (n m v : Nat) (hn : n <= 5) (hm : m < 32) (hv : v < 32) (K : ByteArray -> Option β) : ja N (n : Int) (m : Int) (v : Int) K = K (B (ftb n m v)) := by
 unfold ja VH ftb
 have he : (B ([] : List UInt8)).toList = [] := aG _
 cases hok : okT n m v with
 | false =>
  obtain ⟨G, rfl⟩ : ∃ G, N = G + 1 := ⟨N - 1, by omega⟩
  simp only [rH, QH, Lf]
  rw [cc _ n m v hn hm hv, hok, ajY, beq_self_eq_true, ajZ, cc _ n m v hn hm hv, hok]
  rfl
 | true =>
  have main := a6 (fun F i => rH N F (n : Int) (B (ft m v i)) (i : Int) (m : Int) (v : Int) fun e0 e1 e2 e3 => cond (e1.toList == ByteArray.empty.toList) (jK N e0 e2 e3 fun r6 => cond r6 (K (aq [49])) (K e1)) (K e1)) n
   (K (B (cond (ft m v n == []) [49] (ft m v n)))) (fun F i hi => ?_) (fun F => ?_) N 0 (by omega) (by omega)
  ·exact main
  ·have hl := D8 m v i
   simp only [rH, QH, Lf]
   rw [cc N n m v hn hm hv, hok, ajZ, ajX (by omega : (i : Int) < (n : Int)), ajZ, ab (ajX (by omega)), RO m i hm, RO v i hv, aw i (by omega), pi, akc, akc, tR i (by omega)]
   simp only [ci, cK, aE, akD, ak8, ft]
   cases m.testBit i with
   | false => rw [akl, ajZ, ajY, akh]
   | true =>
    rw [aj5, ajY, ab (ajX (by omega)), ajZ]
    cases v.testBit i with
    | false =>
     rw [akl, ajZ, ab (ajX (by simp; omega)), ab (ajX (by omega)), ab (ajX (by omega)), ab (ajX (by omega)), ab (ajX (by omega)), ab (ajX (by simp; omega)), ajY]
     simp only [akt]
     rfl
    | true =>
     rw [aj5, ajY, ab (ajX (by omega)), ab (ajX (by omega)), ab (ajX (by omega)), ab (ajX (by omega)), ab (ajX (by simp; omega)), ajZ]
  ·simp only [rH, QH, Lf]
   rw [cc N n m v hn hm hv, hok, ajZ, aj2 (by omega), ajY, aG, show ByteArray.empty.toList = [] from he, cc N n m v hn hm hv, hok, ajZ]
   cases ft m v n == [] <;> rfl
theorem Nw {n : Nat} (hn : n <= 4) : ∀ {o : List (Nat × Nat)}, Ts n o -> (Lib.join (bm n o) [124] = [] ↔ o = []) := by
 intro o
 cases o with
 | nil => exact fun _ => ⟨fun _ => rfl, fun _ => rfl⟩
 | cons t o =>
  intro hg
  have h := (pa hn (hg t ako)).1
  constructor
  ·intro e
   unfold bm at e
   rw [akD, Lib.join_cons] at e
   rw [List.append_eq_nil_iff] at e
   rw [e.1] at h
   cases h
  ·intro e; cases e
theorem qK (N : Nat) (hN : 1048576 < N) (n : Nat) (hn : n <= 4) (o : List (Nat × Nat)) (ho : o.length <= 8) (hg : Ts n o) (K : ByteArray -> Option β) : ym N (n : Int) (tl o) K = K (B (Nh n o)) := by
 unfold ym Pk
 have hv := fun K => nQ (β := β) N hN n (by omega) o (by omega) hg K
 rw [ajX (by omega : (o.length : Int) <= 40)] at hv
 refine a6 (fun F i => m6 N F (n : Int) (tl o) (B (Lib.join (bm n (o.take i)) [124])) (i : Int) fun e0 e1 e2 => cond (e2.toList == ByteArray.empty.toList) (oI N e0 e1 fun r7 => cond r7 (K (aq [48])) (K e2)) (K e2)) o.length _ (fun F i hi => ?_) (fun F => ?_) N 0 (by omega) (by omega)
 ·obtain ⟨g1, g2, g3⟩ := hg o[i] (akn hi)
  have hT : Ts n (o.take i) := fun t ht => hg t (ak5 ht)
  have hl := JA hn hT
  rw [alp] at hl
  obtain ⟨a1, a2, -⟩ := pa hn (hg o[i] (akn hi))
  have e : Lib.join (bm n (o.take (i + 1))) [124] = if bm n (o.take i) = [] then ftb n o[i].1 o[i].2 else Lib.join (bm n (o.take i)) [124] ++ [124] ++ ftb n o[i].1 o[i].2 := by
   rw [<- xm]
   congr 1
   unfold bm
   rw [alD, amF hi, alx]
   rfl
  have hwl : (bm n (o.take i)).length = i := by rw [dW, alp]; omega
  simp only [m6, Qg, HL, bE, pw o i hi]
  rw [ajX (by omega : (i : Int) < (o.length : Int)), ajZ, hv, ajZ, aw i (by omega), e]
  by_cases h0 : i = 0
  ·subst h0
   rw [if_pos (by exact List.length_eq_zero_iff.1 hwl), aj2 (by omega : ¬ ((0 : Nat) : Int) > 0), ajY, ab (ajX (by omega)), ab rfl, bN N hN n _ _ (by omega) g2 g3, List.take_zero, show Lib.join (bm n []) [124] = [] from rfl, ab (ajX (by rw [aE, aE, aki]; omega)), cK, akH]
  ·rw [if_neg (by intro e; rw [e] at hwl; exact h0 hwl.symm), ajX (by omega : (i : Int) > 0), ajZ, show aq [124] = B [124] from ci _, ab (ajX (by rw [aE, aE]; simp; omega)), ab (ajX (by omega)), ab rfl, bN N hN n _ _ (by omega) g2 g3, cK, ab (ajX (by rw [aE, aE, aj6]; simp; omega)), cK]
 ·simp only [m6, Qg, HL, bE]
  rw [aj2 (by omega : ¬ (o.length : Int) < (o.length : Int)), ajY, alr, d7, aG, aG, hv, ajZ]
  unfold Nh
  have h := Nw hn hg
  cases o with
  | nil => rw [ci]; rfl
  | cons t o =>
   have hne : Lib.join (bm n (t :: o)) [124] ≠ [] := fun e => by cases h.1 e
   rw [beq_eq_false_iff_ne.2 hne]
   rfl
def cA (p : Nat -> Bool) : Nat -> Bool
 | 0 => false
 | m + 1 => cA p m || p m
def imp (n w m v : Nat) : Bool := !cA (fun x => (x &&& m == v) && !w.testBit x) (2 ^ n) && cA (fun x => (x &&& m == v) && w.testBit x) (2 ^ n)
def off (m i : Nat) : Nat := m ^^^ (m &&& 2 ^ i)
def prm (n w m v : Nat) : Bool := imp n w m v && !cA (fun i => m.testBit i && imp n w (off m i) (off v i)) n
theorem rI : ∀ x : Nat, x < 32 -> ∀ m : Nat, m < 32 -> bits .and .i64 (x : Int) (m : Int) = ((x &&& m : Nat) : Int) := by decide +kernel
theorem mU (N : Nat) (hN : 1048576 < N) (n w m v : Nat) (hn : n <= 4) (hw : w < 2 ^ 63) (hm : m < 32) (K : Bool -> Option β) : rA N (n : Int) (w : Int) (m : Int) (v : Int) K = K (imp n w m v) := by
 have hs : 2 ^ n <= 16 := (aj7 (by decide) hn : 2 ^ n <= 2 ^ 4)
 have hz0 : (0 : Int) <= ((2 ^ n : Nat) : Int) := akj _
 unfold rA PL gv H8 zj2 zb2
 rw [ab (ajX (by omega)), aM n (by omega)]
 refine a6 (fun F x => jR N F (m : Int) (v : Int) ((2 ^ n : Nat) : Int) (x : Int) (n : Int) (w : Int) (cA (fun x => (x &&& m == v) && !w.testBit x) x) (cA (fun x => (x &&& m == v) && w.testBit x) x) fun e7_0 e7_1 => cond e7_0 (cond e7_1 (K ((2 : Int) == 1)) (cond e7_1 (K ((1 : Int) == 1)) (K ((0 : Int) == 1)))) (cond e7_1 (K ((1 : Int) == 1)) (K ((0 : Int) == 1)))) (2 ^ n) _ (fun F x hx => ?_) (fun F => ?_) N 0 (by omega) (by omega)
 ·simp only [jR, Io, Dl, zj3, zb3]
  rw [ajX (by omega : (x : Int) < ((2 ^ n : Nat) : Int)), ajZ, rI x (by omega) m hm, cJ, ab (ajX (by omega)), gz w x (by omega), aw x (by omega)]
  simp only [cA]
  cases hc : (x &&& m == v) with
  | false => simp only [ajY, akv, alB]
  | true =>
   cases hb : w.testBit x with
   | true => simp only [ajZ, if_true, aj9, aj5, alB, al5]; rfl
   | false => simp only [ajZ, akN, if_false, aj9, akl, alB, al5]; rfl
 ·simp only [jR, Io, Dl]
  rw [aj2 (by omega : ¬ ((2 ^ n : Nat) : Int) < ((2 ^ n : Nat) : Int)), ajY]
  unfold imp
  cases cA (fun x => (x &&& m == v) && !w.testBit x) (2 ^ n) <;> cases cA (fun x => (x &&& m == v) && w.testBit x) (2 ^ n) <;> rfl
theorem NV : ∀ m : Nat, m < 32 -> ∀ i : Nat, i < 5 -> bits .andNot .i64 (m : Int) (aW .i64 1 (i : Int)) = (off m i : Int) /\ off m i < 32 /\ (bits .and .i64 (m : Int) (aW .i64 1 (i : Int)) != 0) = m.testBit i := by decide +kernel
theorem dk {p : Nat -> Bool} : ∀ {m : Nat}, cA p m = true ↔ ∃ i, i < m /\ p i = true
 | 0 => ⟨(fun h => by cases h), (fun ⟨j, h, _⟩ => by omega)⟩
 | m + 1 => by
  rw [cA, akI, dk (m := m)]
  constructor
  ·rintro (⟨i, h1, h2⟩ | h)
   ·exact ⟨i, by omega, h2⟩
   ·exact ⟨m, by omega, h⟩
  ·rintro ⟨i, h1, h2⟩
   rcases akg i m with h | h
   ·exact Or.inl ⟨i, h, h2⟩
   ·have : i = m := by omega
    subst this
    exact Or.inr h2
theorem Jy (N : Nat) (hN : 1048576 < N) (n w m v : Nat) (hn : n <= 4) (hw : w < 2 ^ 63) (hm : m < 32) (hv : v < 32) (K : Bool -> Option β) : rB N (n : Int) (w : Int) (m : Int) (v : Int) K = K (prm n w m v) := by
 unfold rB PM prm
 rw [mU N hN n w m v hn hw hm]
 cases imp n w m v with
 | false => rfl
 | true =>
  rw [aj5, ajY, aj9]
  have key : ∀ (d i F : Nat), n - i = d -> i <= n -> d < F -> cA (fun i => m.testBit i && imp n w (off m i) (off v i)) i = false -> nk N F (n : Int) (i : Int) (n : Int) (w : Int) (m : Int) (v : Int) (fun e => K e) (K true) = K (!cA (fun i => m.testBit i && imp n w (off m i) (off v i)) n) := by
   intro d
   induction d with
   | zero =>
    intro i F hd hi hF ha
    obtain ⟨G, rfl⟩ : ∃ G, F = G + 1 := ⟨F - 1, by omega⟩
    simp only [nk, Qv, H9]
    rw [aj2 (by omega), ajY]
    have e : i = n := by omega
    subst e
    rw [ha]
    rfl
   | succ d ih =>
    intro i F hd hi hF ha
    obtain ⟨G, rfl⟩ : ∃ G, F = G + 1 := ⟨F - 1, by omega⟩
    obtain ⟨c1, c2, c3⟩ := NV m hm i (by omega)
    obtain ⟨c4, c5, -⟩ := NV v hv i (by omega)
    simp only [nk, Qv, H9]
    rw [ajX (by omega : (i : Int) < (n : Int)), ajZ, ab (ajX (by omega)), c3, c1, c4, mU N hN n w _ _ hn hw c2, aw i (by omega)]
    have next := ih (i + 1) G (by omega) (by omega) (by omega)
    cases hb : m.testBit i with
    | false => exact next (by rw [cA, ha, hb]; rfl)
    | true =>
     cases hp : imp n w (off m i) (off v i) with
     | false => exact next (by rw [cA, ha, hb, hp]; rfl)
     | true =>
      have : cA (fun i => m.testBit i && imp n w (off m i) (off v i)) n = true := dk.2 ⟨i, by omega, by rw [hb, hp]; rfl⟩
      rw [this]
      rfl
  exact key n 0 N (by omega) (by omega) (by omega) rfl
def prr (n w m : Nat) : Nat -> List (Nat × Nat)
 | 0 => []
 | v + 1 => prr n w m v ++ cond ((v &&& m == v) && prm n w m v) [(m, v)] []
def prl (n w : Nat) : Nat -> List (Nat × Nat)
 | 0 => []
 | m + 1 => prl n w m ++ prr n w m (m + 1)
theorem G8 (n w m : Nat) (t : Nat × Nat) : ∀ k, t ∈ prr n w m k ↔ ∃ v, v < k /\ (v &&& m == v) = true /\ prm n w m v = true /\ t = (m, v)
 | 0 => ⟨(fun h => by cases h), (fun ⟨j, h, _⟩ => by omega)⟩
 | k + 1 => by
  rw [prr, akC, G8 n w m t k]
  constructor
  ·rintro (⟨v, h1, h2⟩ | h)
   ·exact ⟨v, by omega, h2⟩
   ·cases hc : ((k &&& m == k) && prm n w m k) with
    | false => rw [hc] at h; cases h
    | true =>
     rw [hc] at h
     rw [aj0] at hc
     exact ⟨k, by omega, hc.1, hc.2, akJ.1 h⟩
  ·rintro ⟨v, h1, h2, h3, h4⟩
   rcases akg v k with h | h
   ·exact Or.inl ⟨v, h, h2, h3, h4⟩
   ·have : v = k := by omega
    subst this
    refine Or.inr ?_
    rw [h2, h3]
    exact akJ.2 h4
theorem rW (n w : Nat) (t : Nat × Nat) : ∀ k, t ∈ prl n w k ↔ ∃ m, m < k /\ ∃ v, v < m + 1 /\ (v &&& m == v) = true /\ prm n w m v = true /\ t = (m, v)
 | 0 => ⟨(fun h => by cases h), (fun ⟨j, h, _⟩ => by omega)⟩
 | k + 1 => by
  rw [prl, akC, rW n w t k, G8]
  constructor
  ·rintro (⟨v, h1, h2⟩ | h)
   ·exact ⟨v, by omega, h2⟩
   ·exact ⟨k, by omega, h⟩
  ·rintro ⟨v, h1, h2⟩
   rcases akg v k with h | h
   ·exact Or.inl ⟨v, h, h2⟩
   ·have : v = k := by omega
    subst this
    exact Or.inr h2
theorem uO (n w : Nat) (hn : n <= 4) : Ts n (prl n w (2 ^ n)) := by
 have hs : 2 ^ n <= 16 := (aj7 (by decide) hn : 2 ^ n <= 2 ^ 4)
 intro t ht
 obtain ⟨m, h1, v, h2, h3, h4, rfl⟩ := (rW n w t _).1 ht
 refine ⟨?_, by dsimp only; omega, by dsimp only; omega⟩
 unfold okT
 dsimp only
 rw [ajX h1, h3]
 rfl
theorem rX (n w m : Nat) : ∀ v, (prr n w m v).length <= v
 | 0 => aj8 _
 | v + 1 => by
  have := rX n w m v
  rw [prr, aj6]
  cases ((v &&& m == v) && prm n w m v) <;> simp <;> omega
theorem pv (n w : Nat) : ∀ m, m <= 16 -> (prl n w m).length <= 17 * m
 | 0, _ => aj8 _
 | m + 1, h => by
  have h1 := pv n w m (by omega)
  have h2 := rX n w m (m + 1)
  rw [prl, aj6]
  omega
theorem Zv : ∀ m : Nat, m < 32 -> ∀ i : Nat, i < 5 -> m.testBit i = true -> off m i < m := by decide +kernel
theorem NW : ∀ i : Nat, i < 5 -> ∀ m : Nat, m < 32 -> ∀ v : Nat, v < 32 -> (!(v &&& m == v) || (off v i &&& off m i == off v i)) = true := by decide +kernel
theorem S2 : ∀ i : Nat, i < 5 -> ∀ m : Nat, m < 32 -> ∀ x : Nat, x < 32 -> x &&& off m i = off (x &&& m) i := by decide +kernel
theorem Yw (n w : Nat) (hn : n <= 4) : ∀ (k m v : Nat), m < k -> m < 2 ^ n -> (v &&& m == v) = true -> imp n w m v = true -> ∃ m' v', m' < 2 ^ n /\ (v' &&& m' == v') = true /\ prm n w m' v' = true /\ ∀ x, x < 32 -> x &&& m = v -> x &&& m' = v' := by
 have hs : 2 ^ n <= 16 := (aj7 (by decide) hn : 2 ^ n <= 2 ^ 4)
 intro k
 induction k with
 | zero => intro m v h; omega
 | succ k ih =>
  intro m v hk hm hv hi
  cases ha : cA (fun i => m.testBit i && imp n w (off m i) (off v i)) n with
  | false => exact ⟨m, v, hm, hv, by unfold prm; rw [hi, ha]; rfl, fun x _ h => h⟩
  | true =>
   obtain ⟨i, h1, h2⟩ := dk.1 ha
   rw [aj0] at h2
   have h3 := Zv m (by omega) i (by omega) h2.1
   have hvm : v <= m := by rw [<- eq_of_beq hv]; exact alI
   have h4 := NW i (by omega) m (by omega) v (by omega)
   rw [hv, aj5, ak7] at h4
   obtain ⟨m', v', g1, g2, g3, g4⟩ := ih (off m i) (off v i) (by omega) (by omega) h4 h2.2
   exact ⟨m', v', g1, g2, g3, fun x hx h => g4 x hx (by rw [S2 i (by omega) m (by omega) x hx, h])⟩
theorem iP (g : Nat -> Bool) (i : Nat) (hi : i < 32) : bits .or .i64 (aQ g i : Int) (aW .i64 1 (i : Int)) = ((aQ g i ||| 2 ^ i : Nat) : Int) := by
 have hw : aQ g i < 2 ^ 63 := aka (bU g i) (aj7 (by decide) (by omega))
 rw [aM i (by omega), bOr _ _ hw (akF (by decide) (by omega))]
theorem kr {g : Nat -> Bool} {i : Nat} (h : g i = true) : aQ g (i + 1) = aQ g i ||| 2 ^ i := by simp [aQ, h]
theorem pG {g : Nat -> Bool} {i : Nat} (h : g i = false) : aQ g (i + 1) = aQ g i := by simp [aQ, h]
theorem gL (N : Nat) (hN : 1048576 < N) (n m v : Nat) (hn : n <= 5) (hm : m < 32) (K : Int -> Option β) : oJ N (n : Int) (m : Int) (v : Int) K = K (aQ (fun x => x &&& m == v) (2 ^ n) : Int) := by
 have hs := bd hn
 have hz : (0 : Int) <= ((2 ^ n : Nat) : Int) := akj _
 unfold oJ aa1
 refine a6 (fun F x => wB N F (n : Int) (aQ (fun x => x &&& m == v) x : Int) (x : Int) (m : Int) (v : Int) fun e => K e) (2 ^ n) _ (fun F x hx => ?_) (fun F => ?_) N 0 (by omega) (by omega)
 ·simp only [wB, abi, VN]
  rw [ab (ajX (by omega)), aM n (by omega), ajX (by omega : (x : Int) < ((2 ^ n : Nat) : Int)), ajZ, rI x (by omega) m hm, cJ, ab (ajX (by omega)), aw x (by omega), iP _ x (by omega)]
  cases h : x &&& m == v with
  | true => rw [ajZ, kr (g := fun x => x &&& m == v) h]
  | false => rw [ajY, pG (g := fun x => x &&& m == v) h]
 ·simp only [wB, abi, VN]
  rw [ab (ajX (by omega)), aM n (by omega), aj2 (by omega : ¬ ((2 ^ n : Nat) : Int) < ((2 ^ n : Nat) : Int)), ajY]
theorem p6 : ∀ v : Nat, v < 32 -> ∀ m : Nat, m < 32 -> (bits .andNot .i64 (v : Int) (m : Int) == 0) = (v &&& m == v) := by decide +kernel
theorem gG (N n m v : Nat) (hn : n <= 5) (hm : m < 32) (hv : v < 32) (K : Bool -> Option β) : zj9 N (n : Int) (m : Int) (v : Int) K = K (okT n m v) := by
 have hs := sz5 n hn
 unfold zj9 zb9 zj7 zb7 zj8 zb8 okT
 rw [ajX (by omega : (n : Int) >= 0), ajX (by omega : (n : Int) <= 5), ajZ]
 dsimp only
 rw [ajZ, ajX (by omega : (m : Int) >= 0), ajZ, ab rfl, aM n (by omega)]
 rw [ajX (by omega : (v : Int) >= 0), ajZ, p6 v hv m hm]
 by_cases h : m < 2 ^ n
 ·rw [ajX (by omega), ajX h, ajZ, aj9]
 ·rw [aj2 (by omega), aj2 h]; rfl
theorem dz (N : Nat) (hN : 1048576 < N) (n m v : Nat) (hn : n <= 5) (hm : m < 32) (hv : v < 32) (K : ByteArray -> Option β) : jO N (n : Int) (m : Int) (v : Int) K = K (B (ftb n m v)) := by
 unfold jO PB ftb
 rw [gG N n m v hn hm hv]
 cases hok : okT n m v with
 | false => rfl
 | true =>
  rw [aj5, ajY]
  have main := a6 (fun F i => nb N F (n : Int) (i : Int) (m : Int) (v : Int) ((ft m v i).map fun b => (b.toNat : Int)) fun e => cond ((e.length : Int) == 0) (K (aq [49])) (K (aq e))) n
   (K (B (cond (ft m v n == []) [49] (ft m v n)))) (fun F i hi => ?_) (fun F => ?_) N 0 (by omega) (by omega)
  ·exact main
  ·have hl := D8 m v i
   have hw : w8 (97 + w8 (i : Int)) = ((97 + i : Nat) : Int) := by
    rw [cT i (by omega), show (97 : Int) + (i : Int) = ((97 + i : Nat) : Int) by omega, cT _ (by omega)]
   have hu : ((UInt8.ofNat (97 + i)).toNat : Int) = ((97 + i : Nat) : Int) := by
    rw [alv]
    omega
   simp only [nb, Qm, HU]
   rw [ajX (by omega : (i : Int) < (n : Int)), ajZ, ab (ajX (by omega)), RO m i hm, RO v i hv, aw i (by omega), hw]
   simp only [ft, alx]
   cases m.testBit i with
   | false => rw [akl, ajZ, ajY, ak8, akh]
   | true =>
    rw [aj5, ajY, ab (ajX (by omega)), ajZ]
    cases v.testBit i with
    | false =>
     rw [akl, ajZ, ab (ajX (by simp; omega)), ab (ajX (by simp; omega)), ajY]
     simp only [akD, ak8, hu, akH, akt]
     rfl
    | true =>
     rw [aj5, ajY, ab (ajX (by simp; omega)), ajZ]
     simp only [akD, ak8, hu, akH]
  ·simp only [nb, Qm, HU]
   rw [aj2 (by omega), ajY, ci (List.map _ _), alU]
   have : ((fun x : Int => UInt8.ofNat x.toNat) ∘ fun b : UInt8 => (b.toNat : Int)) = id := by
    funext b
    simp
   rw [this, List.map_id]
   cases hft : ft m v n with
   | nil => rfl
   | cons b l => rfl
theorem Jz (l : List (List UInt8)) (s : List UInt8) : tL (l.map B) (B s) = B (Lib.join l s) := by
 unfold tL B
 rw [alU]
 have : ((fun x : ByteArray => x.data.toList) ∘ fun l : List UInt8 => (⟨l.toArray⟩ : ByteArray)) = id := by
  funext l
  simp
 rw [this]
 simp
theorem iD (N : Nat) (hN : 1048576 < N) (n : Nat) (hn : n <= 5) (o : List (Nat × Nat)) (ho : o.length <= 1000) (hg : ∀ t ∈ o, t.1 < 32 /\ t.2 < 32 /\ (ftb n t.1 t.2).length <= 10) (c : UInt8) (K : ByteArray -> Option β) : lX N (n : Int) (tl o) (B [c]) K = K (B (Lib.join (bm n o) [c])) := by
 unfold lX PE
 rw [ab (ajX (by omega)), ab (ajX (by omega)), bE, ab (ajX (by omega)), akc]
 have key := a6 (fun F i => nd N F (n : Int) (B [c]) (tl o) (o.length : Int) (i : Int) (((bm n o).map B).take i ++ List.replicate (o.length - i) ByteArray.empty) fun e0 e1 => strings_Join N e1 e0 fun r6 => K r6) o.length (K (B (Lib.join (bm n o) [c]))) (fun F i hi => ?_) (fun F => ?_) N 0 (by omega) (by omega)
 ·simpa using key
 ·simp only [nd, Qo, HW]
  obtain ⟨h1, h2, h3⟩ := hg o[i] (akn hi)
  have htk : (((bm n o).map B).take i).length = i := by rw [alp, akx, dW]; omega
  rw [ajX (by omega : (i : Int) < (o.length : Int)), ajZ, ab (ajX (by omega)), bE, ab (ajX (by omega)), pw o i hi, dz N hN n _ _ hn h1 h2, ab (ajX (by omega)), ab (ajX (by rw [aj6, htk, alY]; omega)), aw i (by omega), show o.length - i = (o.length - (i + 1)) + 1 by omega, alL]
  have e := FE (((bm n o).map B).take i) ByteArray.empty (B (ftb n o[i].1 o[i].2)) (List.replicate (o.length - (i + 1)) ByteArray.empty)
  rw [htk] at e
  rw [e]
  have e2 : ((bm n o).map B).take (i + 1) = ((bm n o).map B).take i ++ [B (ftb n o[i].1 o[i].2)] := by
   rw [alD, amI]
   simp [bm, amF hi]
  rw [e2]
  simp
 ·simp only [nd, Qo, HW]
  rw [aj2 (by omega : ¬ (o.length : Int) < (o.length : Int)), ajY, ale, al4, akh, akZ (by rw [akx, dW]; exact aj8 _)]
  unfold strings_Join
  have hb : ∀ x ∈ bm n o, x.length <= 10 := fun x hx => by
   obtain ⟨t, ht, rfl⟩ := akq.1 hx
   exact (hg t ht).2.2
  have hj := j9 c 10 _ hb
  rw [dW] at hj
  rw [Jz, ab (ajX (by rw [akx, dW]; omega)), ab (ajX (by rw [aE]; omega))]
def msl (p : Nat -> Bool) : Nat -> List (Nat × Nat)
 | 0 => []
 | m + 1 => msl p m ++ (if p m then [(m, m)] else [])
def mJ (n : Nat) (p : Nat -> Bool) (m : Nat) : List UInt8 := Lib.join (bm n (msl p m)) [43]
def par (w m : Nat) : Nat -> Bool
 | 0 => false
 | x + 1 => xor (par w m x) ((x &&& m == x) && w.testBit x)
def cx (w n : Nat) : Nat := aQ (fun m => par w m (2 ^ n)) (2 ^ n)
def nA (w n : Nat) : List UInt8 := cond (mJ n (cx w n).testBit (2 ^ n) == []) [48] (mJ n (cx w n).testBit (2 ^ n))
theorem DS (x m : Nat) (hx : x < 32) (hm : m < 32) : (bits .andNot .i64 (x : Int) (m : Int) == 0) = (x &&& m == x) := p6 x hx m hm
theorem Pe : ∀ a b : Bool, bits .xor .i64 (a.toNat : Int) (b.toNat : Int) = ((xor a b).toNat : Int) := by decide
theorem tB (N : Nat) (hN : 1048576 < N) (n w : Nat) (hn : n <= 5) (hw : w < 4294967296) (K : Int -> Int -> Option β) : gr N (n : Int) (w : Int) K = K (n : Int) (cx w n : Int) := by
 have hs := bd hn
 have hz : (0 : Int) <= ((2 ^ n : Nat) : Int) := akj _
 unfold gr PD
 rw [b6 N (by omega) n hn _ (fun m => par w m (2 ^ n)) (fun m k hm => ?_)]
 ·rfl
 ·unfold zj6 zb6
  rw [bV N n _ hn]
  have main := a6 (fun F x => zj5 N F (m : Int) (n : Int) (w : Int) ((par w m x).toNat : Int) ((2 ^ n : Nat) : Int) (x : Int) fun e => k (e == 1)) (2 ^ n) (k (par w m (2 ^ n))) (fun F x hx => by
   simp only [zj5, zj4, zb4]
   rw [ajX (by omega : (x : Int) < ((2 ^ n : Nat) : Int)), ajZ, DS x m (by omega) (by omega), cm N w x _ hw, aw x (by omega)]
   have e : (bw w x : Int) = ((w.testBit x).toNat : Int) := by unfold bw; cases w.testBit x <;> rfl
   rw [e, Pe]
   simp only [par]
   cases x &&& m == x <;> simp) (fun F => by
   simp only [zj5, zj4, zb4]
   rw [aj2 (by omega), ajY]
   cases par w m (2 ^ n) <;> rfl) N 0 (by omega) (by omega)
  exact main
theorem rR (p : Nat -> Bool) : ∀ m, (msl p m).length <= m
 | 0 => aj8 _
 | m + 1 => by
  have := rR p m
  simp only [msl, aj6]
  split <;> simp <;> omega
theorem jI (l : List (Nat × Nat)) (p : Nat × Nat) : tl (l ++ [p]) = tl l ++ [((p.1 : Int), (p.2 : Int))] := by simp [tl]
theorem rL : ∀ n, n <= 5 -> ∀ m, m < 2 ^ n -> (ftb n m m).length ≠ 0 /\ (ftb n m m).length <= 5 := by decide +kernel
theorem wM (n : Nat) (p : Nat -> Bool) (m : Nat) : mJ n p (m + 1) = if p m then (if msl p m = [] then ftb n m m else mJ n p m ++ [43] ++ ftb n m m) else mJ n p m := by
 unfold mJ
 cases hp : p m with
 | false => simp [msl, hp]
 | true =>
  simp only [msl, hp, if_true, bm, alx, akD, ak8]
  rw [xm]
  cases msl p m <;> simp
theorem oP (n : Nat) (hn : n <= 5) (p : Nat -> Bool) : ∀ m, m <= 2 ^ n -> ((mJ n p m = []) ↔ msl p m = [])
 | 0, _ => by simp [mJ, msl, bm, Lib.join]
 | m + 1, h => by
  have ih := oP n hn p m (by omega)
  have hf := rL n hn m (by omega)
  rw [wM]
  simp only [msl]
  cases hp : p m with
  | false => simpa using ih
  | true =>
   simp only [if_true]
   have : ftb n m m ≠ [] := fun e => hf.1 (by rw [e]; rfl)
   split <;> simp [this]
theorem rS (p : Nat -> Bool) : ∀ m t, t ∈ msl p m -> t.1 < m /\ t.2 = t.1
 | 0, t, h => by simp [msl] at h
 | m + 1, t, h => by
  simp only [msl, akC] at h
  rcases h with h | h
  ·have := rS p m t h; omega
  ·split at h
   ·simp only [akJ] at h; subst h; exact ⟨by simp, rfl⟩
   ·cases h
theorem iB (N : Nat) (hN : 1048576 < N) (n w : Nat) (hn : n <= 5) (hw : w < 2 ^ 2 ^ n) (K : ByteArray -> Option β) : iW N (n : Int) (w : Int) K = K (B (nA w n)) := by
 have hs := bd hn
 have hz : (0 : Int) <= ((2 ^ n : Nat) : Int) := akj _
 have hw' := gf hn hw
 have ha : cx w n < 2 ^ 2 ^ n := bU _ _
 have ha' := gf hn ha
 unfold iW PF
 rw [bZ N _ _ (by omega), B4 hn hw, aj5, ajY, tB N hN n w hn hw', bV N n _ hn]
 refine a6 (fun F m => nf N F ((2 ^ n : Nat) : Int) (m : Int) (n : Int) (w : Int) (n : Int) (cx w n : Int) (tl (msl (cx w n).testBit m)) fun e0 e1 e2 => cond ((e2.length : Int) == 0) (K (aq [48])) (lX N e0 e2 (aq [43]) fun r9 => K r9)) (2 ^ n) _ (fun F m hm => ?_) (fun F => ?_) N 0 (by omega) (by omega)
 ·simp only [nf, Qp, HX]
  have hl := rR (cx w n).testBit m
  rw [ajX (by omega : (m : Int) < ((2 ^ n : Nat) : Int)), ajZ, cm N _ m _ ha', jY, aw m (by omega)]
  simp only [msl]
  cases (cx w n).testBit m with
  | false => simp
  | true =>
   rw [ajZ, ab (ajX (by simp [bE]; omega)), if_pos rfl, jI]
   rfl
 ·simp only [nf, Qp, HX]
  have hl := rR (cx w n).testBit (2 ^ n)
  rw [aj2 (by omega : ¬ ((2 ^ n : Nat) : Int) < ((2 ^ n : Nat) : Int)), ajY, bE]
  unfold nA
  have hni := oP n hn (cx w n).testBit (2 ^ n) (aj8 _)
  by_cases h0 : msl (cx w n).testBit (2 ^ n) = []
  ·rw [h0, hni.2 h0]; rfl
  ·have h1 : mJ n (cx w n).testBit (2 ^ n) ≠ [] := fun e => h0 (hni.1 e)
   have h2 : 0 < (msl (cx w n).testBit (2 ^ n)).length := List.length_pos_iff.2 h0
   rw [beq_eq_false_iff_ne.2 (by omega), ajY, beq_eq_false_iff_ne.2 h1, ajY]
   exact iD N hN n hn _ (by omega) (fun t ht => by
    have := rS _ _ t ht
    have hf := rL n hn t.1 (by omega)
    rw [this.2]
    omega) 43 K
def mR (w m : Nat) : Nat -> Nat
 | 0 => 0
 | x + 1 => mR w m x + if (x &&& m == x) && w.testBit x then 1 else 0
theorem BI (w m : Nat) : ∀ x, mR w m x <= x
 | 0 => aj8 _
 | x + 1 => by
  have := BI w m x
  simp only [mR]
  split <;> omega
theorem RJ (x m : Nat) (hx : x < 32) (hm : m < 32) : (bits .and .i64 (x : Int) (m : Int) == (x : Int)) = (x &&& m == x) := DT x hx m hm
theorem GG (w m : Nat) : ∀ x, mR w m x % 2 = (par w m x).toNat
 | 0 => rfl
 | x + 1 => by
  have := GG w m x
  simp only [mR, par]
  generalize mR w m x = c at this ⊢
  generalize par w m x = p at this ⊢
  cases (x &&& m == x) && w.testBit x with
  | true => rw [if_pos rfl]; cases p <;> simp only [Bool.toNat_true, Bool.toNat_false, Bool.xor_true, aj5, akl] at this ⊢ <;> omega
  | false => rw [if_neg (by decide), Bool.xor_false]; exact this
theorem Cn (w m : Nat) : ∀ d, par w m (m + 1 + d) = par w m (m + 1)
 | 0 => rfl
 | d + 1 => by
  rw [show m + 1 + (d + 1) = (m + 1 + d) + 1 by omega]
  simp only [par]
  have h : ((m + 1 + d) &&& m == m + 1 + d) = false := by
   rw [beq_eq_false_iff_ne]
   intro e
   have : (m + 1 + d) &&& m <= m := alI
   omega
  have := Cn w m d
  simp only [par] at this
  rw [h, this]
  simp
theorem Tc (w m n : Nat) (h : m < 2 ^ n) : par w m (2 ^ n) = par w m (m + 1) := by
 rw [show 2 ^ n = m + 1 + (2 ^ n - (m + 1)) by omega, Cn]
theorem mX (N : Nat) (hN : 1048576 < N) (n w : Nat) (hn : n <= 5) (hw : w < 4294967296) (K : Int -> Option β) : pU N (n : Int) (w : Int) K = K (cx w n : Int) := by
 have hs := bd hn
 have hz : (0 : Int) <= ((2 ^ n : Nat) : Int) := akj _
 unfold pU aaX
 refine a6 (fun F m => vP N F (aQ (fun m => par w m (2 ^ n)) m : Int) (m : Int) (n : Int) (w : Int) fun e => K e) (2 ^ n) _ (fun F m hm => ?_) (fun F => ?_) N 0 (by omega) (by omega)
 ·simp only [vP, abf, VK]
  rw [ab (ajX (by omega)), aM n (by omega), ajX (by omega : (m : Int) < ((2 ^ n : Nat) : Int)), ajZ]
  have inner := fun (k0 : Int -> Int -> Int -> Int -> Int -> Option β) (v0 : Int) => a6 (fun F x => vO N F v0 (m : Int) (mR w m x : Int) (x : Int) (n : Int) (w : Int) k0) (m + 1) (k0 v0 (m : Int) (mR w m (m + 1) : Int) (n : Int) (w : Int)) (fun F x hx => by
   simp only [vO, abe, VJ]
   have hc := BI w m x
   rw [ajX (by omega : (x : Int) <= (m : Int)), ajZ, RJ x m (by omega) (by omega), aw x (by omega), mQ w x (by omega)]
   simp only [mR]
   cases x &&& m == x with
   | false => simp
   | true =>
    rw [ajZ, ab (ajX (by omega)), aj9, bp (by have := MA w x; omega) (by have := MA w x; omega)]
    unfold bw
    cases w.testBit x <;> rfl) (fun F => by
   simp only [vO, abe, VJ]
   rw [aj2 (by omega), ajY]) N 0 (by omega) (by omega)
  refine (inner _ _).trans ?_
  have hc := GG w m (m + 1)
  rw [<- Tc w m n hm] at hc
  have hrem : Te (mR w m (m + 1) : Int) 2 = ((par w m (2 ^ n)).toNat : Int) := by
   rw [<- hc]; rfl
  rw [hrem, ab (ajX (by omega)), aw m (by omega)]
  have hb : aQ (fun m => par w m (2 ^ n)) m < 2 ^ 63 := aka (bU _ m) (aj7 (by decide) (by omega))
  cases hp : par w m (2 ^ n) with
  | true =>
   rw [kr (g := fun m => par w m (2 ^ n)) hp]
   have e1 : ((true.toNat : Nat) : Int) = 1 := rfl
   rw [e1, iP _ m (by omega)]
  | false =>
   rw [pG (g := fun m => par w m (2 ^ n)) hp]
   have h0 : aW .i64 ((false.toNat : Nat) : Int) (m : Int) = ((0 : Nat) : Int) := by
    have := rY 0 m (by omega) (by omega)
    rw [alu] at this
    exact this
   rw [h0, bOr _ _ hb (by decide), Nat.or_zero]
 ·simp only [vP, abf, VK]
  rw [ab (ajX (by omega)), aM n (by omega), aj2 (by omega : ¬ ((2 ^ n : Nat) : Int) < ((2 ^ n : Nat) : Int)), ajY]
  rfl
theorem Mu (n : Nat) (hn : n <= 5) (p : Nat -> Bool) (m : Nat) (hm : m <= 2 ^ n) : (mJ n p m).length <= 200 := by
 have hs := bd hn
 have h1 := rR p m
 have h2 : ∀ x ∈ bm n (msl p m), x.length <= 5 := fun x hx => by
  obtain ⟨t, ht, rfl⟩ := akq.1 hx
  have := rS p m t ht
  rw [this.2]
  exact (rL n hn t.1 (by omega)).2
 have := j9 43 5 _ h2
 rw [bm, akx] at this
 unfold mJ bm
 omega
theorem iM (N : Nat) (hN : 1048576 < N) (n w : Nat) (hn : n <= 5) (hw : w < 2 ^ 2 ^ n) (K : ByteArray -> Option β) : qQ N (n : Int) (w : Int) K = K (B (nA w n)) := by
 have hs := bd hn
 have hz : (0 : Int) <= ((2 ^ n : Nat) : Int) := akj _
 have hw' := gf hn hw
 have ha : cx w n < 2 ^ 2 ^ n := bU _ _
 have ha' := gf hn ha
 have he : ByteArray.empty.toList = ([] : List UInt8) := aG []
 unfold qQ aaZ
 rw [bv, B4 hn hw, aj5, ajY, mX N hN n w hn hw']
 refine a6 (fun F m => wy N F (B (mJ n (cx w n).testBit m)) (cx w n : Int) (m : Int) (n : Int) (w : Int) fun e => cond (e.toList == ByteArray.empty.toList) (K (aq [48])) (K e)) (2 ^ n) _ (fun F m hm => ?_) (fun F => ?_) N 0 (by omega) (by omega)
 ·simp only [wy, abg, VL]
  have hl := Mu n hn (cx w n).testBit m (by omega)
  have hf := rL n hn m hm
  have hbit : (bits .and .i64 (cW .i64 (cx w n : Int) (m : Int)) 1 == 0) = !(cx w n).testBit m := by
   rw [mQ _ m (by omega), Mz]
  rw [ab (ajX (by omega)), aM n (by omega), ajX (by omega : (m : Int) < ((2 ^ n : Nat) : Int)), ajZ, ab (ajX (by omega)), hbit, aw m (by omega), wM, aG, he, show aq [43] = B [43] from rfl, cK]
  cases hp : (cx w n).testBit m with
  | false => rfl
  | true =>
   simp only [aj5, ajY, if_true]
   cases hm0 : mJ n (cx w n).testBit m == [] with
   | true =>
    have h0 := eq_of_beq hm0
    rw [aj5, ajY, bN N hN n m m hn (by omega) (by omega), cK, aE, aE, ab (ajX (by omega)), if_pos ((oP n hn _ m (by omega)).1 h0), h0]
    rfl
   | false =>
    have h0 : mJ n (cx w n).testBit m ≠ [] := by intro e; rw [e] at hm0; cases hm0
    rw [akl, ajZ, aE, aE, ab (ajX (by simp; omega)), bN N hN n m m hn (by omega) (by omega), cK, aE, aE, ab (ajX (by simp; omega)), if_neg fun e => h0 ((oP n hn _ m (by omega)).2 e)]
 ·simp only [wy, abg, VL]
  rw [ab (ajX (by omega)), aM n (by omega), aj2 (by omega : ¬ ((2 ^ n : Nat) : Int) < ((2 ^ n : Nat) : Int)), ajY, aG, he]
  unfold nA
  cases mJ n (cx w n).testBit (2 ^ n) == [] <;> rfl
def df (p : Nat -> Bool) : Nat -> Nat -> Nat
 | 0, i => i
 | d + 1, i => if p i then i else df p d (i + 1)
def sc (w m v : Nat) (b : Bool) : Nat -> Bool
 | 0 => false
 | x + 1 => sc w m v b x || (x &&& m == v && w.testBit x == b)
def cI (w n m v : Nat) : Bool := sc w m v false (2 ^ n) && sc w m v true (2 ^ n)
def bg (m i : Nat) : Bool := !m.testBit i
def mnO (B : Nat) (bg : Nat -> Bool) (val : Nat -> Nat) : Nat -> Nat
 | 0 => B
 | i + 1 => if bg i then min (mnO B bg val i) (val i) else mnO B bg val i
def ld (w n : Nat) : Nat -> Nat -> Nat -> Nat
 | 0, _, _ => 0
 | f + 1, m, v => if cI w n m v then mnO 10 (bg m) (fun i => 1 + max (ld w n f (m ||| 2 ^ i) v) (ld w n f (m ||| 2 ^ i) (v ||| 2 ^ i))) n else 0
def fc (n m : Nat) : Nat := cnt (bg m) n
def a8 (w n m v : Nat) : Nat := ld w n (fc n m + 1) m v
def pick (w n m v i : Nat) : Bool := bg m i && (1 + max (a8 w n (m ||| 2 ^ i) v) (a8 w n (m ||| 2 ^ i) (v ||| 2 ^ i)) == a8 w n m v)
def bst (w n : Nat) : Nat -> Nat -> Nat -> List UInt8
 | 0, _, _ => []
 | f + 1, m, v => if cI w n m v then
   UInt8.ofNat (97 + df (pick w n m v) n 0) :: (bst w n f (m ||| 2 ^ df (pick w n m v) n 0) v ++ bst w n f (m ||| 2 ^ df (pick w n m v) n 0) (v ||| 2 ^ df (pick w n m v) n 0))
  else [if sc w m v true (2 ^ n) then 49 else 48]
def GD (N : Nat) (a0 a1 : Int) : List UInt8 := if dU a0 a1 4 then bst a1.toNat a0.toNat N 0 0 else []
theorem j5 (n m : Nat) : fc n m <= n := ME _ n
def d8 (w n : Nat) (mp : Mp) : Prop := ∀ m v : Nat, jq ⟨true, false⟩ mp (m : Int) (v : Int) = true -> fp ⟨true, false⟩ mp (m : Int) (v : Int) = (a8 w n m v : Int)
theorem CT {n : Nat} (h : n <= 4) : 2 ^ n <= 16 := akz (aj7 (by decide) h) (by decide)
theorem pe (N : Nat) (hN : 64 < N) (n w m v : Nat) (hn : n <= 5) (hw : w < 4294967296) (hm : m < 4294967296) (k : Int -> Option β) :
  gv N (n : Int) (w : Int) (m : Int) (v : Int) k = k (cond (sc w m v false (2 ^ n)) (cond (sc w m v true (2 ^ n)) 2 0) (cond (sc w m v true (2 ^ n)) 1 0)) := by
 have hs := bd hn
 unfold gv H8 zj2 zb2
 rw [ab (ajX (by omega : (0 : Int) <= (n : Int))), aM n (by omega)]
 have key : ∀ (K : Bool -> Bool -> Option β) (F x : Nat), 2 ^ n - x < F -> x <= 2 ^ n ->
   jR N F (m : Int) (v : Int) ((2 ^ n : Nat) : Int) (x : Int) (n : Int) (w : Int) (sc w m v false x) (sc w m v true x) K = K (sc w m v false (2 ^ n)) (sc w m v true (2 ^ n)) := by
  intro K F
  induction F with
  | zero => intro x h; omega
  | succ F ih =>
   intro x hF hx
   simp only [jR, Io, Dl, zj3, zb3]
   by_cases hlt : x < 2 ^ n
   ·rw [ajX (by omega : (x : Int) < ((2 ^ n : Nat) : Int)), ajZ, bAnd x m (by omega) (by omega), gz w x (by omega), aw x (by omega), ab (ajX (by omega : (0 : Int) <= (x : Int)))]
    have e0 : (((x &&& m : Nat) : Int) == (v : Int)) = (x &&& m == v) := by
     rw [ald, beq_iff_eq, beq_iff_eq]
     omega
    rw [e0]
    have ih' := ih (x + 1) (by omega) (by omega)
    have s0 : ∀ b, sc w m v b (x + 1) = (sc w m v b x || (x &&& m == v && w.testBit x == b)) := fun _ => rfl
    rw [s0, s0] at ih'
    cases hv : (x &&& m == v) with
    | false =>
     rw [hv] at ih'
     simp only [akv, alB] at ih'
     exact ih'
    | true =>
     rw [hv] at ih'
     simp only [aj9] at ih'
     cases hb : w.testBit x with
     | false =>
      rw [hb] at ih'
      simpa [gd] using ih'
     | true =>
      rw [hb] at ih'
      simpa [gd] using ih'
   ·rw [aj2 (by omega : ¬ (x : Int) < ((2 ^ n : Nat) : Int)), ajY, show x = 2 ^ n by omega]
 have := key (fun e7_0 e7_1 => cond e7_0 (cond e7_1 (k 2) (cond e7_1 (k 1) (k 0))) (cond e7_1 (k 1) (k 0))) N 0 (by omega) (aks _)
 simp only [sc, akO] at this
 refine this.trans ?_
 cases sc w m v false (2 ^ n) <;> cases sc w m v true (2 ^ n) <;> rfl
theorem qr {B : Nat} {bg : Nat -> Bool} {val val' : Nat -> Nat} : ∀ {n : Nat}, (∀ i, i < n -> bg i = true -> val i = val' i) -> mnO B bg val n = mnO B bg val' n
 | 0, _ => rfl
 | n + 1, h => by
  simp only [mnO]
  rw [qr fun i hi hf => h i (by omega) hf]
  cases hf : bg n with
  | true => rw [h n (by omega) hf]
  | false => rfl
theorem fZ : ∀ n, n <= 4 -> ∀ m, m < 2 ^ n -> ∀ i, i < n -> bg m i = true -> fc n (m ||| 2 ^ i) + 1 = fc n m := by decide +kernel
theorem et : ∀ n, n <= 4 -> ∀ m, m < 2 ^ n -> ∀ i, i < n -> m ||| 2 ^ i < 2 ^ n := by decide +kernel
theorem rP (w n : Nat) (hn : n <= 4) : ∀ f m v, m < 2 ^ n -> fc n m < f -> ld w n f m v = a8 w n m v
 | 0, m, v, _, h => by omega
 | f + 1, m, v, hm, h => by
  simp only [a8, ld]
  cases hx : cI w n m v with
  | false => rfl
  | true =>
   rw [if_pos rfl, if_pos rfl]
   refine qr fun i hi hf => ?_
   have h4 := fZ n hn m hm i hi hf
   have hlt := et n hn m hm i hi
   rw [rP w n hn f _ v hlt (by omega), rP w n hn f _ _ hlt (by omega)]
   unfold a8
   rw [h4]
theorem sX (w n m v : Nat) (hn : n <= 4) (hm : m < 2 ^ n) : a8 w n m v = if cI w n m v then mnO 10 (bg m) (fun i => 1 + max (a8 w n (m ||| 2 ^ i) v) (a8 w n (m ||| 2 ^ i) (v ||| 2 ^ i))) n else 0 := by
 have : a8 w n m v = ld w n (fc n m + 1) m v := rfl
 rw [this]
 simp only [ld]
 cases hx : cI w n m v with
 | false => rfl
 | true =>
  rw [if_pos rfl, if_pos rfl]
  refine qr fun i hi hf => ?_
  have h4 := fZ n hn m hm i hi hf
  have hlt := et n hn m hm i hi
  rw [rP w n hn _ _ v hlt (by omega), rP w n hn _ _ _ hlt (by omega)]
theorem jh (p : Int × Int) (a b : Int) : eqK ⟨true, false⟩ p a b = (p.1 == a && p.2 == b) := by simp [eqK]
theorem R3 (mp : Mp) (a b x c d : Int) : fp ⟨true, false⟩ (kj ⟨true, false⟩ mp a b x) c d = if (a == c && b == d) then x else fp ⟨true, false⟩ mp c d := by
 induction mp with
 | nil =>
  simp only [kj, fp, jh]
  cases (a == c && b == d) <;> rfl
 | cons p l ih =>
  simp only [kj]
  cases he : eqK ⟨true, false⟩ p.1 a b with
  | true =>
   rw [ajZ]
   simp only [fp]
   rw [jh] at he ⊢
   simp only [aj0, beq_iff_eq] at he
   rw [jh, he.1, he.2]
   cases (a == c && b == d) <;> simp
  | false =>
   rw [ajY]
   simp only [fp, ih]
   cases hp : eqK ⟨true, false⟩ p.1 c d with
   | false => rfl
   | true =>
    rw [ajZ]
    cases hc : (a == c && b == d) with
    | false => rfl
    | true =>
     exfalso
     rw [jh] at hp he
     simp only [aj0, beq_iff_eq] at hp hc
     rw [hp.1, hp.2, hc.1, hc.2] at he
     simp at he
theorem R4 (mp : Mp) (a b x c d : Int) : jq ⟨true, false⟩ (kj ⟨true, false⟩ mp a b x) c d = ((a == c && b == d) || jq ⟨true, false⟩ mp c d) := by
 induction mp with
 | nil => simp [kj, jq, jh]
 | cons p l ih =>
  simp only [kj]
  cases he : eqK ⟨true, false⟩ p.1 a b with
  | true =>
   rw [ajZ]
   simp only [jq]
   rw [jh] at he ⊢
   simp only [aj0, beq_iff_eq] at he
   rw [jh, he.1, he.2]
   cases (a == c && b == d) <;> simp
  | false =>
   rw [ajY]
   simp only [jq, ih]
   rw [Bool.or_left_comm]
theorem d8.put {w n : Nat} {mp : Mp} (h : d8 w n mp) (m v : Nat) {x : Int} (hx : x = (a8 w n m v : Int)) : d8 w n (kj ⟨true, false⟩ mp (m : Int) (v : Int) x) := by
 intro m' v' hh
 rw [R3]
 rw [R4] at hh
 cases he : (((m : Int) == (m' : Int)) && ((v : Int) == (v' : Int))) with
 | true =>
  rw [if_pos rfl, hx]
  simp only [aj0, beq_iff_eq] at he
  rw [show m = m' by omega, show v = v' by omega]
 | false =>
  rw [he, ak7] at hh
  rw [if_neg (by decide)]
  exact h m' v' hh
theorem RW : ∀ n, n <= 4 -> ∀ m, m < 2 ^ n -> fc n m ≠ 0 -> ∃ i, i < n /\ bg m i = true := by
 intro n hn m hm h
 have key : ∀ k, cnt (bg m) k ≠ 0 -> ∃ i, i < k /\ bg m i = true := by
  intro k
  induction k with
  | zero => intro h; exact absurd rfl h
  | succ k ih =>
   intro h
   cases hf : bg m k with
   | true => exact ⟨k, by omega, hf⟩
   | false =>
    simp only [cnt, hf] at h
    obtain ⟨i, hi, hfi⟩ := ih (by simpa using h)
    exact ⟨i, by omega, hfi⟩
 exact key n h
theorem EJ (w m v : Nat) (b : Bool) : ∀ X, sc w m v b X = true ↔ ∃ x, x < X /\ x &&& m = v /\ w.testBit x = b
 | 0 => by simp [sc]
 | X + 1 => by
  simp only [sc, akI, aj0, beq_iff_eq, EJ w m v b X]
  constructor
  ·rintro (⟨x, h1, h2⟩ | h)
   ·exact ⟨x, by omega, h2⟩
   ·exact ⟨X, by omega, h⟩
  ·rintro ⟨x, h1, h2⟩
   by_cases e : x = X
   ·subst e; exact .inr h2
   ·exact .inl ⟨x, by omega, h2⟩
theorem GL : ∀ n, n <= 4 -> ∀ m, m < 2 ^ n -> fc n m = 0 -> ∀ x, x < 2 ^ n -> x &&& m = x := by decide +kernel
theorem DY (w n m v : Nat) (hn : n <= 4) (hm : m < 2 ^ n) (h : cI w n m v = true) : fc n m ≠ 0 := by
 intro h0
 unfold cI at h
 simp only [aj0, EJ] at h
 obtain ⟨⟨x, hx, hxv, hbx⟩, y, hy, hyv, hby⟩ := h
 rw [GL n hn m hm h0 x hx] at hxv
 rw [GL n hn m hm h0 y hy] at hyv
 rw [hxv] at hbx
 rw [hyv, hbx] at hby
 cases hby
theorem Eh (B : Nat) (bg : Nat -> Bool) (val : Nat -> Nat) : ∀ n i, i < n -> bg i = true -> mnO B bg val n <= val i
 | n + 1, i, h, hf => by
  simp only [mnO]
  by_cases e : i = n
  ·subst e
   rw [hf, if_pos rfl]
   exact Nat.min_le_right _ _
  ·have := Eh B bg val n i (by omega) hf
   split <;> omega
theorem NF (w n : Nat) (hn : n <= 4) : ∀ f m v, m < 2 ^ n -> ld w n f m v <= fc n m
 | 0, m, v, _ => aks _
 | f + 1, m, v, hm => by
  simp only [ld]
  cases hx : cI w n m v with
  | false => rw [if_neg (by decide)]; exact aks _
  | true =>
   rw [if_pos rfl]
   obtain ⟨i, hi, hf⟩ := RW n hn m hm (DY w n m v hn hm hx)
   have h1 := Eh 10 (bg m) (fun i => 1 + max (ld w n f (m ||| 2 ^ i) v) (ld w n f (m ||| 2 ^ i) (v ||| 2 ^ i))) n i hi hf
   have h2 := NF w n hn f (m ||| 2 ^ i) v (et n hn m hm i hi)
   have h3 := NF w n hn f (m ||| 2 ^ i) (v ||| 2 ^ i) (et n hn m hm i hi)
   have h4 := fZ n hn m hm i hi hf
   have h1 : mnO 10 (bg m) (fun i => 1 + max (ld w n f (m ||| 2 ^ i) v) (ld w n f (m ||| 2 ^ i) (v ||| 2 ^ i))) n <= 1 + max (ld w n f (m ||| 2 ^ i) v) (ld w n f (m ||| 2 ^ i) (v ||| 2 ^ i)) := h1
   omega
theorem j3 (w n m v : Nat) (hn : n <= 4) (hm : m < 2 ^ n) : a8 w n m v <= fc n m := NF w n hn _ m v hm
theorem CQ (i : Nat) : aW .i64 0 (i : Int) = 0 := by
 unfold aW
 rw [Int.zero_mul]
 decide
theorem q6 (v : Nat) (hv : v < 16) : bits .or .i64 (v : Int) 0 = (v : Int) := by
 have := bOr v 0 (by omega) (by omega)
 simpa using this
theorem zA (a b : Nat) : mxI (a : Int) (b : Int) = ((max a b : Nat) : Int) := by unfold mxI; split <;> omega
theorem G0 (a b : Nat) : mnI (a : Int) (b : Int) = ((min a b : Nat) : Int) := by unfold mnI; split <;> omega
theorem xu (B C : Nat) (hBC : B <= C) (bg : Nat -> Bool) (val : Nat -> Nat) : ∀ n, mnO B bg val n = min B (mnO C bg val n)
 | 0 => by simp only [mnO]; omega
 | n + 1 => by
  have := xu B C hBC bg val n
  simp only [mnO]
  split <;> omega
theorem B1 (N : Nat) (hN : 64 < N) (n w : Nat) (hn : n <= 4) (hw : w < 2 ^ 2 ^ n) : ∀ (F m v : Nat) (mp mp5 : Mp), fc n m < F -> m < 2 ^ n -> v < 2 ^ n -> d8 w n mp ->
  ∃ mp', d8 w n mp' /\ ∀ k0 : Int -> Int -> Int -> Mp -> Mp -> Option β, gw N F (m : Int) (v : Int) (n : Int) (w : Int) mp mp5 k0 = k0 (a8 w n m v : Int) n w mp' mp5 := by
 have hs := CT hn
 have hw' := Da (by omega) hw
 intro F
 induction F with
 | zero => intro m v mp mp5 h; omega
 | succ F ih =>
  intro m v mp mp5 hF hm hv hM
  simp only [gw, Xf, PU]
  cases hh : jq ⟨true, false⟩ mp (m : Int) (v : Int) with
  | true => exact ⟨mp, hM, fun k0 => by rw [ajZ, hM m v hh]⟩
  | false =>
   simp only [ajY, pe N hN n w m v (by omega) hw' (by omega)]
   have e : ((cond (sc w m v false (2 ^ n)) (cond (sc w m v true (2 ^ n)) (2 : Int) 0) (cond (sc w m v true (2 ^ n)) 1 0)) == 2) = cI w n m v := by
    unfold cI
    cases sc w m v false (2 ^ n) <;> cases sc w m v true (2 ^ n) <;> rfl
   rw [e]
   have hde := sX w n m v hn hm
   cases hx : cI w n m v with
   | false =>
    rw [hx, if_neg (by decide)] at hde
    exact ⟨_, hM.put m v (x := 0) (by rw [hde]; rfl), fun k0 => by rw [ajY, hde]; rfl⟩
   | true =>
    rw [hx, if_pos rfl] at hde
    simp only [ajZ]
    generalize hval : (fun i => 1 + max (a8 w n (m ||| 2 ^ i) v) (a8 w n (m ||| 2 ^ i) (v ||| 2 ^ i))) = val at hde
    have hvi : ∀ i, 1 + max (a8 w n (m ||| 2 ^ i) v) (a8 w n (m ||| 2 ^ i) (v ||| 2 ^ i)) = val i := fun i => by rw [<- hval]
    have key : ∀ (d G i : Nat) (mp : Mp), i + d = n -> d < G -> d8 w n mp -> ∃ mp', d8 w n mp' /\ ∀ K : Int -> Int -> Int -> Mp -> Mp -> Int -> Int -> Option β,
      l4 N (gw N F) G (mnO n (bg m) val i : Int) (n : Int) (i : Int) (n : Int) (w : Int) mp mp5 (m : Int) (v : Int) K = K (mnO n (bg m) val n : Int) n w mp' mp5 m v := by
     intro d
     induction d with
     | zero =>
      intro G i mp hi hG hM
      obtain ⟨G, rfl⟩ : ∃ H, G = H + 1 := ⟨G - 1, by omega⟩
      refine ⟨mp, hM, fun K => ?_⟩
      simp only [l4, Ip, Dm]
      rw [aj2 (by omega : ¬ (i : Int) < (n : Int)), ajY, show i = n by omega]
     | succ d ihd =>
      intro G i mp hi hG hM
      obtain ⟨G, rfl⟩ : ∃ H, G = H + 1 := ⟨G - 1, by omega⟩
      have hlt : i < n := by omega
      have hp : 2 ^ i < 2 ^ 4 := akF (by decide) (by omega)
      have eb : ((((if m.testBit i then 1 else 0 : Nat) : Int)) == 0) = bg m i := by
       unfold bg
       cases m.testBit i <;> rfl
      cases hf : bg m i with
      | false =>
       obtain ⟨mp', hM', he⟩ := ihd G (i + 1) mp (by omega) (by omega) hM
       refine ⟨mp', hM', fun K => ?_⟩
       simp only [l4, Ip, Dm]
       rw [ajX (by omega : (i : Int) < (n : Int)), ajZ, ab (ajX (by omega : (0 : Int) <= (i : Int))), gz m i (by omega), eb, hf, ajY, aw i (by omega)]
       have h1 := he K
       simp only [mnO, hf] at h1
       exact h1
      | true =>
       have h4 := fZ n hn m hm i hlt hf
       have hmo := et n hn m hm i hlt
       have hvo := et n hn v hv i hlt
       obtain ⟨mp1, hM1, he1⟩ := ih (m ||| 2 ^ i) v mp mp5 (by omega) hmo hv hM
       obtain ⟨mp2, hM2, he2⟩ := ih (m ||| 2 ^ i) (v ||| 2 ^ i) mp1 mp5 (by omega) hmo hvo hM1
       obtain ⟨mp', hM', he⟩ := ihd G (i + 1) mp2 (by omega) (by omega) hM2
       refine ⟨mp', hM', fun K => ?_⟩
       have hd1 := j3 w n (m ||| 2 ^ i) v hn hmo
       have hd2 := j3 w n (m ||| 2 ^ i) (v ||| 2 ^ i) hn hmo
       have hfc := j5 n (m ||| 2 ^ i)
       simp only [l4, Ip, Dm, eO, Ig]
       rw [ajX (by omega : (i : Int) < (n : Int)), ajZ, ab (ajX (by omega : (0 : Int) <= (i : Int))), gz m i (by omega), eb, hf, ajZ, aw i (by omega)]
       simp only [ab (ajX (by omega : (0 : Int) <= (i : Int)))]
       rw [CQ, aM i (by omega), q6 v (by omega), bOr m _ (by omega) (by omega), bOr v _ (by omega) (by omega), he1]
       rw [he2]
       rw [zA, show (1 : Int) + ((max (a8 w n (m ||| 2 ^ i) v) (a8 w n (m ||| 2 ^ i) (v ||| 2 ^ i)) : Nat) : Int) = ((1 + max (a8 w n (m ||| 2 ^ i) v) (a8 w n (m ||| 2 ^ i) (v ||| 2 ^ i)) : Nat) : Int) by omega, sb _ (by omega), G0, hvi]
       have h1 := he K
       simp only [mnO, hf, if_true] at h1
       exact h1
    obtain ⟨mp', hM', he⟩ := key n N 0 mp (by omega) (by omega) hM
    have hle := j3 w n m v hn hm
    have hfc := j5 n m
    have hst := xu n 10 (by omega) (bg m) val n
    have heq : mnO n (bg m) val n = a8 w n m v := by
     rw [hst, <- hde]
     omega
    rw [heq] at he
    refine ⟨_, hM'.put m v (x := (a8 w n m v : Int)) rfl, fun k0 => ?_⟩
    have h1 := he (fun e12_0 e12_1 e12_2 e12_3 e12_4 e12_5 e12_6 => k0 e12_0 e12_1 e12_2 (kj ⟨true, false⟩ e12_3 e12_5 e12_6 e12_0) e12_4)
    simp only [mnO, akO] at h1
    exact h1
theorem jr (N : Nat) (hN : 64 < N) (n w : Nat) (hn : n <= 4) (hw : w < 2 ^ 2 ^ n) (m v : Nat) (mp mp5 : Mp) (hm : m < 2 ^ n) (hv : v < 2 ^ n) (hM : d8 w n mp) :
  ∃ mp', d8 w n mp' /\ ∀ k0 : Int -> Int -> Int -> Mp -> Mp -> Option β, QD N (m : Int) (v : Int) (n : Int) (w : Int) mp mp5 k0 = k0 (a8 w n m v : Int) n w mp' mp5 := by
 have := j5 n m
 exact B1 N hN n w hn hw N m v mp mp5 (by omega) hm hv hM
theorem qt (B : Nat) (bg : Nat -> Bool) (val : Nat -> Nat) : ∀ n, mnO B bg val n = B \/ ∃ i, i < n /\ bg i = true /\ val i = mnO B bg val n
 | 0 => .inl rfl
 | n + 1 => by
  simp only [mnO]
  cases hf : bg n with
  | false =>
   rw [if_neg (by decide)]
   rcases qt B bg val n with h | ⟨i, h1, h2, h3⟩
   ·exact .inl h
   ·exact .inr ⟨i, by omega, h2, h3⟩
  | true =>
   rw [if_pos rfl]
   by_cases hle : val n <= mnO B bg val n
   ·exact .inr ⟨n, by omega, hf, by omega⟩
   ·rcases qt B bg val n with h | ⟨i, h1, h2, h3⟩
    ·exact .inl (by omega)
    ·exact .inr ⟨i, by omega, h2, by omega⟩
theorem JN (w n m v : Nat) (hn : n <= 4) (hm : m < 2 ^ n) (hb : cI w n m v = true) : ∃ i, i < n /\ pick w n m v i = true := by
 have hd := sX w n m v hn hm
 rw [hb, if_pos rfl] at hd
 have hle := j3 w n m v hn hm
 have hfc := j5 n m
 rcases qt 10 (bg m) (fun i => 1 + max (a8 w n (m ||| 2 ^ i) v) (a8 w n (m ||| 2 ^ i) (v ||| 2 ^ i))) n with h | ⟨i, h1, h2, h3⟩
 ·omega
 ·refine ⟨i, h1, ?_⟩
  unfold pick
  rw [h2, aj9, beq_iff_eq, hd]
  exact h3
theorem tq (p : Nat -> Bool) : ∀ d i, (∃ j, i <= j /\ j < i + d /\ p j = true) -> df p d i < i + d /\ i <= df p d i /\ p (df p d i) = true
 | 0, i, ⟨j, h1, h2, _⟩ => by omega
 | d + 1, i, ⟨j, h1, h2, h3⟩ => by
  simp only [df]
  cases hp : p i with
  | true => rw [if_pos rfl]; exact ⟨by omega, aj8 _, hp⟩
  | false =>
   rw [if_neg (by decide)]
   have hne : j ≠ i := fun e => by rw [e, hp] at h3; cases h3
   have := tq p d (i + 1) ⟨j, by omega, by omega, h3⟩
   exact ⟨by omega, by omega, this.2.2⟩
theorem o9 {w n m v : Nat} (hn : n <= 4) (hm : m < 2 ^ n) (hb : cI w n m v = true) : df (pick w n m v) n 0 < n /\ bg m (df (pick w n m v) n 0) = true /\ pick w n m v (df (pick w n m v) n 0) = true := by
 obtain ⟨i, h1, h2⟩ := JN w n m v hn hm hb
 obtain ⟨h3, _, h4⟩ := tq (pick w n m v) n 0 ⟨i, aks _, by omega, h2⟩
 have h5 := h4
 unfold pick at h5
 simp only [aj0] at h5
 exact ⟨by omega, h5.1, h4⟩
theorem sd (N m v i : Nat) (hm : m < 16) (hv : v < 16) (hi : i < 4) (K : Int -> Int -> Option β) :
  eO N (m : Int) (v : Int) (i : Int) 0 K = K ((m ||| 2 ^ i : Nat) : Int) v /\ eO N (m : Int) (v : Int) (i : Int) 1 K = K ((m ||| 2 ^ i : Nat) : Int) ((v ||| 2 ^ i : Nat) : Int) := by
 have hp : 2 ^ i < 2 ^ 4 := akF (by decide) (by omega)
 unfold eO Ig
 rw [CQ, aM i (by omega), q6 v (by omega), bOr m _ (by omega) (by omega), bOr v _ (by omega) (by omega), ab (ajX (by omega : (0 : Int) <= (i : Int))), ab (ajX (by omega : (0 : Int) <= (i : Int)))]
 rw [ab (ajX (by omega : (0 : Int) <= (i : Int)))]
 exact ⟨rfl, rfl⟩
theorem JM (w n m v i : Nat) (hn : n <= 4) (hm : m < 2 ^ n) (hb : cI w n m v = true) (hi : i < n) (hf : bg m i = true) :
  pick w n m v i = (decide (a8 w n (m ||| 2 ^ i) v < a8 w n m v) && decide (a8 w n (m ||| 2 ^ i) (v ||| 2 ^ i) < a8 w n m v)) := by
 have hd := sX w n m v hn hm
 rw [hb, if_pos rfl] at hd
 have h1 := Eh 10 (bg m) (fun i => 1 + max (a8 w n (m ||| 2 ^ i) v) (a8 w n (m ||| 2 ^ i) (v ||| 2 ^ i))) n i hi hf
 rw [<- hd] at h1
 have h1 : a8 w n m v <= 1 + max (a8 w n (m ||| 2 ^ i) v) (a8 w n (m ||| 2 ^ i) (v ||| 2 ^ i)) := h1
 unfold pick
 rw [hf, aj9, ald, aj0, beq_iff_eq, decide_eq_true_eq, decide_eq_true_eq]
 omega
theorem wi (N : Nat) (hN : 64 < N) (n w : Nat) (hn : n <= 4) (hw : w < 2 ^ 2 ^ n) (m v : Nat) (mp mp5 : Mp) (hm : m < 2 ^ n) (hv : v < 2 ^ n) (hM : d8 w n mp) :
  ∃ mp', d8 w n mp' /\ ∀ k0 : Int -> Int -> Int -> Mp -> Mp -> Option β, yu N (m : Int) (v : Int) (n : Int) (w : Int) mp mp5 k0 =
   k0 (if cI w n m v then (df (pick w n m v) n 0 : Int) else -1) n w mp' mp5 := by
 have hs := CT hn
 have hw' := Da (by omega) hw
 unfold yu PV
 obtain ⟨mp1, hM1, he1⟩ := jr (β := β) N hN n w hn hw m v mp mp5 hm hv hM
 simp only [he1]
 cases hx : cI w n m v with
 | false =>
  refine ⟨mp1, hM1, fun k0 => ?_⟩
  rw [if_neg (by decide)]
  have hd := sX w n m v hn hm
  rw [hx, if_neg (by decide)] at hd
  rw [hd]
  refine a6 (fun F i => i6 N F ((0 : Nat) : Int) (n : Int) (i : Int) (n : Int) (w : Int) mp1 mp5 (m : Int) (v : Int) k0 (fun a b c d => k0 (-1) a b c d)) n _ ?_ ?_ N 0 (aks _) (by omega)
  ·intro F i hi
   simp only [i6, Iq, Dn]
   rw [ajX (by omega : (i : Int) < (n : Int)), ajZ, aj2 (by decide : ¬ ((0 : Nat) : Int) > 0), ajY, aw i (by omega)]
  ·intro F
   simp only [i6, Iq, Dn]
   rw [aj2 (by omega : ¬ (n : Int) < (n : Int)), ajY]
 | true =>
  obtain ⟨f1, f2, f3⟩ := o9 hn hm hx
  have hpos : 0 < a8 w n m v := by
   have := f3
   unfold pick at this
   simp only [aj0, beq_iff_eq] at this
   omega
  have key : ∀ (d G i : Nat) (mp : Mp), i + d = n -> d < G -> d8 w n mp -> (∃ j, i <= j /\ j < i + d /\ pick w n m v j = true) -> df (pick w n m v) d i = df (pick w n m v) n 0 ->
    ∃ mp', d8 w n mp' /\ ∀ (k0 : Int -> Int -> Int -> Mp -> Mp -> Option β) (k1 : Int -> Int -> Mp -> Mp -> Option β),
     i6 N G (a8 w n m v : Int) (n : Int) (i : Int) (n : Int) (w : Int) mp mp5 (m : Int) (v : Int) k0 k1 = k0 (df (pick w n m v) n 0 : Int) n w mp' mp5 := by
   intro d
   induction d with
   | zero => intro G i mp _ _ _ ⟨j, h1, h2, _⟩; omega
   | succ d ihd =>
    intro G i mp hi hG hM hex hst
    obtain ⟨G, rfl⟩ : ∃ H, G = H + 1 := ⟨G - 1, by omega⟩
    have hlt : i < n := by omega
    simp only [i6, Iq, Dn]
    simp only [ajX (by omega : (i : Int) < (n : Int)), ajX (by omega : (a8 w n m v : Int) > 0), ajZ, ab (ajX (by omega : (0 : Int) <= (i : Int))), aw i (by omega), fun K => (sd (β := β) N m v i (by omega) (by omega) (by omega) K).1, fun K => (sd (β := β) N m v i (by omega) (by omega) (by omega) K).2, gz m i (by omega)]
    have eb : ((((if m.testBit i then 1 else 0 : Nat) : Int)) == 0) = bg m i := by
     unfold bg
     cases m.testBit i <;> rfl
    rw [eb]
    simp only [df] at hst
    have next : pick w n m v i = false -> ∀ mp, d8 w n mp -> ∃ mp', d8 w n mp' /\ ∀ (k0 : Int -> Int -> Int -> Mp -> Mp -> Option β) (k1 : Int -> Int -> Mp -> Mp -> Option β),
      i6 N G (a8 w n m v : Int) (n : Int) ((i + 1 : Nat) : Int) (n : Int) (w : Int) mp mp5 (m : Int) (v : Int) k0 k1 = k0 (df (pick w n m v) n 0 : Int) n w mp' mp5 := by
     intro hno mp hM
     rw [hno, if_neg (by decide)] at hst
     refine ihd G (i + 1) mp (by omega) (by omega) hM ?_ hst
     obtain ⟨j, h1, h2, h3⟩ := hex
     have hne : j ≠ i := fun e => by rw [e, hno] at h3; cases h3
     exact ⟨j, by omega, by omega, h3⟩
    cases hf : bg m i with
    | false =>
     simp only [ajY]
     exact next (by unfold pick; rw [hf]; rfl) mp hM
    | true =>
     have hmo := et n hn m hm i hlt
     have hvo := et n hn v hv i hlt
     have hpk := JM w n m v i hn hm hx hlt hf
     obtain ⟨mpa, hMa, hea⟩ := jr (β := β) N hN n w hn hw (m ||| 2 ^ i) v mp mp5 hmo hv hM
     obtain ⟨mpb, hMb, heb⟩ := jr (β := β) N hN n w hn hw (m ||| 2 ^ i) (v ||| 2 ^ i) mpa mp5 hmo hvo hMa
     have c1 : decide (((a8 w n (m ||| 2 ^ i) v : Nat) : Int) < (a8 w n m v : Int)) = decide (a8 w n (m ||| 2 ^ i) v < a8 w n m v) := decide_eq_decide.2 (by omega)
     have c2 : decide (((a8 w n (m ||| 2 ^ i) (v ||| 2 ^ i) : Nat) : Int) < (a8 w n m v : Int)) = decide (a8 w n (m ||| 2 ^ i) (v ||| 2 ^ i) < a8 w n m v) := decide_eq_decide.2 (by omega)
     simp only [ajZ, hea, heb, c1, c2]
     cases d1 : decide (a8 w n (m ||| 2 ^ i) v < a8 w n m v) with
     | false =>
      rw [d1, akv] at hpk
      simp only [ajY]
      exact next hpk mpa hMa
     | true =>
      cases d2 : decide (a8 w n (m ||| 2 ^ i) (v ||| 2 ^ i) < a8 w n m v) with
      | false =>
       rw [d1, d2] at hpk
       simp only [ajY, ajZ]
       exact next hpk mpb hMb
      | true =>
       rw [d1, d2] at hpk
       have hpk : pick w n m v i = true := hpk
       rw [hpk, if_pos rfl] at hst
       rw [<- hst]
       exact ⟨mpb, hMb, fun k0 k1 => rfl⟩
  obtain ⟨mp', hM', he⟩ := key n N 0 mp1 (by omega) (by omega) hM1 ⟨_, aks _, by omega, f3⟩ rfl
  exact ⟨mp', hM', fun k0 => by rw [if_pos rfl]; exact he _ _⟩
theorem tK (b : Bool) : Lib.itoa (if b then 1 else 0 : Int) = [if b then 49 else 48] := by
 cases b
 ·show Lib.itoa 0 = [48]
  unfold Lib.itoa
  rw [if_neg (by decide), Lib.decDigits, dif_pos (by decide)]
  rfl
 ·show Lib.itoa 1 = [49]
  unfold Lib.itoa
  rw [if_neg (by decide), Lib.decDigits, dif_pos (by decide)]
  rfl
theorem yR (w n : Nat) (hn : n <= 4) : ∀ f m v, m < 2 ^ n -> v < 2 ^ n -> (bst w n f m v).length + 1 <= 2 ^ (fc n m + 1)
 | 0, m, v, _, _ => akK _
 | f + 1, m, v, hm, hv => by
  simp only [bst]
  cases hb : cI w n m v with
  | false =>
   rw [if_neg (by decide)]
   have : 2 ^ 1 <= 2 ^ (fc n m + 1) := aj7 (by decide) (by omega)
   simpa using this
  | true =>
   rw [if_pos rfl]
   obtain ⟨h1, h2, _⟩ := o9 hn hm hb
   generalize df (pick w n m v) n 0 = i at h1 h2 ⊢
   have h4 := fZ n hn m hm i h1 h2
   have k1 := yR w n hn f (m ||| 2 ^ i) v (et n hn m hm i h1) hv
   have k2 := yR w n hn f (m ||| 2 ^ i) (v ||| 2 ^ i) (et n hn m hm i h1) (et n hn v hv i h1)
   rw [h4] at k1 k2
   have e : 2 ^ (fc n m + 1) = 2 * 2 ^ fc n m := by rw [Nat.pow_succ]; omega
   simp only [aj4, aj6]
   omega
theorem l8 (w n : Nat) (hn : n <= 4) (f m v : Nat) (hm : m < 2 ^ n) (hv : v < 2 ^ n) : (bst w n f m v).length <= 31 := by
 have h1 := yR w n hn f m v hm hv
 have h2 := j5 n m
 have : 2 ^ (fc n m + 1) <= 2 ^ 5 := aj7 (by decide) (by omega)
 omega
theorem JG (i : Nat) (h : i < 5) : aq (([] : List Int) ++ [w8 (97 + w8 (i : Int))]) = B [UInt8.ofNat (97 + i)] := by
 rw [cT i (by omega), show (97 : Int) + (i : Int) = ((97 + i : Nat) : Int) by omega, cT _ (by omega), abo, akc]
theorem BZ (N : Nat) (hN : 64 < N) (n w : Nat) (hn : n <= 4) (hw : w < 2 ^ 2 ^ n) : ∀ (F m v : Nat) (mp mp5 : Mp), fc n m < F -> m < 2 ^ n -> v < 2 ^ n -> d8 w n mp ->
  ∃ mp', d8 w n mp' /\ ∀ k0 : ByteArray -> Int -> Int -> Mp -> Mp -> Option β, pS N F (m : Int) (v : Int) (n : Int) (w : Int) mp mp5 k0 = k0 (B (bst w n F m v)) n w mp' mp5 := by
 have hs := CT hn
 have hw' := Da (by omega) hw
 intro F
 induction F with
 | zero => intro m v mp mp5 h; omega
 | succ F ih =>
  intro m v mp mp5 hF hm hv hM
  simp only [pS, Xg, PW]
  obtain ⟨mp1, hM1, he⟩ := wi (β := β) N hN n w hn hw m v mp mp5 hm hv hM
  simp only [he, bst]
  cases hx : cI w n m v with
  | false =>
   refine ⟨mp1, hM1, fun k0 => ?_⟩
   rw [if_neg (by decide), if_neg (by decide), ajX (by decide : (-1 : Int) < 0), ajZ, pe N hN n w m v (by omega) hw' (by omega)]
   have e : (cond (sc w m v false (2 ^ n)) (cond (sc w m v true (2 ^ n)) (2 : Int) 0) (cond (sc w m v true (2 ^ n)) 1 0)) = (if sc w m v true (2 ^ n) then 1 else 0 : Int) := by
    unfold cI at hx
    revert hx
    cases sc w m v false (2 ^ n) <;> cases sc w m v true (2 ^ n) <;> decide
   rw [e, dy N _ (by cases sc w m v true (2 ^ n) <;> exact ⟨by decide, by decide⟩), tK]
  | true =>
   obtain ⟨f1, f2, _⟩ := o9 hn hm hx
   simp only [if_true]
   generalize df (pick w n m v) n 0 = i at f1 f2 ⊢
   have h4 := fZ n hn m hm i f1 f2
   have hmo := et n hn m hm i f1
   have hvo := et n hn v hv i f1
   obtain ⟨mpa, hMa, hea⟩ := ih (m ||| 2 ^ i) v mp1 mp5 (by omega) hmo hv hM1
   obtain ⟨mpb, hMb, heb⟩ := ih (m ||| 2 ^ i) (v ||| 2 ^ i) mpa mp5 (by omega) hmo hvo hMa
   refine ⟨mpb, hMb, fun k0 => ?_⟩
   have l1 := l8 w n hn F (m ||| 2 ^ i) v hmo hv
   have l2 := l8 w n hn F (m ||| 2 ^ i) (v ||| 2 ^ i) hmo hvo
   generalize bst w n F (m ||| 2 ^ i) v = b1 at hea l1 ⊢
   generalize bst w n F (m ||| 2 ^ i) (v ||| 2 ^ i) = b2 at heb l2 ⊢
   have g1 : decide (([UInt8.ofNat (97 + i)] : List UInt8).length + b1.length <= 9223372036854775807) = true := ajX (by simp only [aj4, aki]; omega)
   have g2 : decide ((([UInt8.ofNat (97 + i)] : List UInt8) ++ b1).length + b2.length <= 9223372036854775807) = true := ajX (by simp only [aj6, aj4, aki]; omega)
   rw [aj2 (by omega : ¬ (i : Int) < 0), ajY]
   simp only [fun K => (sd (β := β) N m v i (by omega) (by omega) (by omega) K).1, fun K => (sd (β := β) N m v i (by omega) (by omega) (by omega) K).2, hea, heb, JG i (by omega), cK, aE, g1, g2, gd, ajZ, DE, beq_self_eq_true, decide_true]
   rfl
theorem qk (N : Nat) (hN : 64 < N) (a0 a1 : Int) (h1 : a1 < 9223372036854775808) (k : ByteArray -> Bool -> Option β) : yv N a0 a1 k = k (B (GD N a0 a1)) (dU a0 a1 4) := by
 unfold yv PX GD
 rw [rC N a0 a1 4 h1]
 cases hs : dU a0 a1 4 with
 | false => rfl
 | true =>
  have h := hs
  simp only [dU, aj0, decide_eq_true_eq] at h
  obtain ⟨n, w, rfl, rfl, hn, hw, _⟩ := zv h.1
  have hfc := j5 n 0
  obtain ⟨mp', _, e⟩ := BZ (β := β) N hN n w (by omega) hw N 0 0 [] [] (by omega) (akK n) (akK n) (fun m v h => by cases h)
  simp only [akO] at e
  rw [if_pos rfl, aj5, ajY]
  unfold DD PR Xh
  exact e _
def D3 (p q : Bool) : Int := cond p (cond q 2 0) (cond q 1 (-1))
theorem Ai (w m v : Nat) (b : Bool) (x : Nat) (h : sc w m v b x = true) : ∀ d, sc w m v b (x + d) = true
 | 0 => h
 | d + 1 => by rw [<- ak2, sc, Ai w m v b x h d]; rfl
theorem kq (N : Nat) (hN : 64 < N) (n w m v : Nat) (hn : n <= 5) (hw : w < 4294967296) (hm : m < 4294967296) (k : Int -> Option β) :
  lU N (n : Int) (w : Int) (m : Int) (v : Int) k = k (D3 (sc w m v false (2 ^ n)) (sc w m v true (2 ^ n))) := by
 have hs := bd hn
 unfold lU Pm
 have key : ∀ (F x : Nat), 2 ^ n - x < F -> x <= 2 ^ n -> (sc w m v false x && sc w m v true x) = false ->
   pL N F (m : Int) (v : Int) (D3 (sc w m v false x) (sc w m v true x)) (x : Int) (n : Int) (w : Int) k k = k (D3 (sc w m v false (2 ^ n)) (sc w m v true (2 ^ n))) := by
  intro F
  induction F with
  | zero => intro x h; omega
  | succ F ih =>
   intro x hF hx hno
   simp only [pL, W3, Pl]
   rw [ab (ajX (by omega : (0 : Int) <= (n : Int))), aM n (by omega)]
   by_cases hlt : x < 2 ^ n
   ·rw [ajX (by omega : (x : Int) < ((2 ^ n : Nat) : Int)), ajZ, bAnd x m (by omega) (by omega), gz w x (by omega), aw x (by omega), ab (ajX (by omega : (0 : Int) <= (x : Int)))]
    have e0 : (((x &&& m : Nat) : Int) != (v : Int)) = !(x &&& m == v) := by
     rw [bne, ald]
     simp only [akm, beq_eq_false_iff_ne, ne_eq]
     omega
    rw [e0]
    have ih' := ih (x + 1) (by omega) (by omega)
    have s0 : ∀ b, sc w m v b (x + 1) = (sc w m v b x || (x &&& m == v && w.testBit x == b)) := fun _ => rfl
    rw [s0, s0] at ih'
    cases hv : (x &&& m == v) with
    | false =>
     rw [hv] at ih'
     simp only [akv, alB] at ih'
     rw [akl, ajZ]
     exact ih' hno
    | true =>
     rw [hv] at ih'
     simp only [aj9] at ih'
     rw [aj5, ajY]
     have both : sc w m v false (x + 1) = true -> sc w m v true (x + 1) = true -> D3 (sc w m v false (2 ^ n)) (sc w m v true (2 ^ n)) = 2 := fun h1 h2 => by
      have h3 := Ai w m v false (x + 1) h1 (2 ^ n - (x + 1))
      have h4 := Ai w m v true (x + 1) h2 (2 ^ n - (x + 1))
      rw [show x + 1 + (2 ^ n - (x + 1)) = 2 ^ n by omega] at h3 h4
      rw [h3, h4]
      rfl
     rw [s0, s0, hv] at both
     simp only [aj9] at both
     generalize D3 (sc w m v false (2 ^ n)) (sc w m v true (2 ^ n)) = R at ih' both ⊢
     cases h0 : sc w m v false x <;> cases h1 : sc w m v true x <;> cases hb : w.testBit x <;> rw [h0, h1] at hno <;> simp only [h0, h1, hb] at ih' both <;> simp [D3] at hno ih' both ⊢ <;> first | exact ih' | (rw [both]) | (cases hno)
   ·rw [aj2 (by omega : ¬ (x : Int) < ((2 ^ n : Nat) : Int)), ajY, show x = 2 ^ n by omega]
 exact key N 0 (by omega) (aks _) rfl
theorem sV (w n m v : Nat) : decide (D3 (sc w m v false (2 ^ n)) (sc w m v true (2 ^ n)) < 2) = !cI w n m v := by
 unfold cI
 cases sc w m v false (2 ^ n) <;> cases sc w m v true (2 ^ n) <;> rfl
theorem T0 (w n m v : Nat) (hv : v < 2 ^ n) (hvm : v &&& m = v) : (sc w m v false (2 ^ n) || sc w m v true (2 ^ n)) = true := by
 have := (EJ w m v (w.testBit v) (2 ^ n)).2 ⟨v, hv, hvm, rfl⟩
 cases hb : w.testBit v with
 | true => rw [hb] at this; rw [this, al5]
 | false => rw [hb] at this; rw [this, amm]
theorem q5 (a : Nat) : ((a : Int) == 0) = (a == 0) := by cases a <;> rfl
theorem Gy : ∀ m, m < 16 -> ∀ i, i < 4 -> (m &&& 2 ^ i == 0) = bg m i := by decide +kernel
theorem WS (B : Nat) (bg : Nat -> Bool) (val : Nat -> Nat) : ∀ n, mnO B bg val n <= B
 | 0 => aj8 _
 | n + 1 => by
  have := WS B bg val n
  simp only [mnO]
  split <;> omega
theorem An (N : Nat) (hN : 64 < N) (n w : Nat) (hn : n <= 4) (hw : w < 2 ^ 2 ^ n) : ∀ (F m v : Nat), fc n m < F -> m < 2 ^ n -> v < 2 ^ n -> ∀ k : Int -> Option β, gh N F (n : Int) (w : Int) (m : Int) (v : Int) k = k (a8 w n m v : Int) := by
 have hs := CT hn
 have hw' := Da (by omega) hw
 intro F
 induction F with
 | zero => intro m v h; omega
 | succ F ih =>
  intro m v hF hm hv k
  simp only [gh, W4, Pn]
  rw [kq N hN n w m v (by omega) hw' (by omega), sV, sX w n m v hn hm]
  cases hx : cI w n m v with
  | false => rfl
  | true =>
   rw [if_pos rfl, aj5, ajY]
   generalize hval : (fun i => 1 + max (a8 w n (m ||| 2 ^ i) v) (a8 w n (m ||| 2 ^ i) (v ||| 2 ^ i))) = val
   have hvi : ∀ i, 1 + max (a8 w n (m ||| 2 ^ i) v) (a8 w n (m ||| 2 ^ i) (v ||| 2 ^ i)) = val i := fun i => by rw [<- hval]
   have key : ∀ (d G i : Nat), i + d = n -> d < G -> m7 N (gh N F) G (m : Int) (v : Int) (mnO 10 (bg m) val i : Int) (i : Int) (n : Int) (w : Int) k = k (mnO 10 (bg m) val n : Int) := by
    intro d
    induction d with
    | zero =>
     intro G i hi hG
     obtain ⟨G, rfl⟩ : ∃ H, G = H + 1 := ⟨G - 1, by omega⟩
     simp only [m7, Qh, HM]
     rw [aj2 (by omega : ¬ (i : Int) < (n : Int)), ajY, show i = n by omega]
    | succ d ihd =>
     intro G i hi hG
     obtain ⟨G, rfl⟩ : ∃ H, G = H + 1 := ⟨G - 1, by omega⟩
     have hlt : i < n := by omega
     have hp : 2 ^ i < 2 ^ 4 := akF (by decide) (by omega)
     simp only [m7, Qh, HM]
     rw [ajX (by omega : (i : Int) < (n : Int)), ajZ, ab (ajX (by omega : (0 : Int) <= (i : Int))), aM i (by omega), bAnd m _ (by omega) (by omega), q5, Gy m (by omega) i (by omega), bOr m _ (by omega) (by omega), bOr v _ (by omega) (by omega), aw i (by omega)]
     have h1 := ihd G (i + 1) (by omega) (by omega)
     simp only [mnO] at h1
     cases hf : bg m i with
     | false => rw [hf] at h1; exact h1
     | true =>
      rw [hf, if_pos rfl] at h1
      have h4 := fZ n hn m hm i hlt hf
      have hmo := et n hn m hm i hlt
      have hvo := et n hn v hv i hlt
      have hd1 := j3 w n (m ||| 2 ^ i) v hn hmo
      have hd2 := j3 w n (m ||| 2 ^ i) (v ||| 2 ^ i) hn hmo
      have hfc := j5 n (m ||| 2 ^ i)
      have hB := WS 10 (bg m) val i
      rw [ajZ, ih _ v (by omega) hmo hv, ih _ _ (by omega) hmo hvo, zA, show (1 : Int) + ((max (a8 w n (m ||| 2 ^ i) v) (a8 w n (m ||| 2 ^ i) (v ||| 2 ^ i)) : Nat) : Int) = ((1 + max (a8 w n (m ||| 2 ^ i) v) (a8 w n (m ||| 2 ^ i) (v ||| 2 ^ i)) : Nat) : Int) by omega, sb _ (by omega), G0, hvi]
      exact h1
   exact key n N 0 (by omega) (by omega)
theorem gM (N : Nat) (hN : 64 < N) (n w : Nat) (hn : n <= 4) (hw : w < 2 ^ 2 ^ n) (m v : Nat) (hm : m < 2 ^ n) (hv : v < 2 ^ n) (k : Int -> Option β) : Qj N (n : Int) (w : Int) (m : Int) (v : Int) k = k (a8 w n m v : Int) := by
 have := j5 n m
 exact An N hN n w hn hw N m v (by omega) hm hv k
theorem OX (m v b : Nat) (h : v &&& m = v) : v &&& (m ||| b) = v /\ (v ||| b) &&& (m ||| b) = v ||| b := by
 have hb : ∀ j, v.testBit j = true -> m.testBit j = true := fun j hj => by
  have e := congrArg (fun x => x.testBit j) h
  simp only [akX, hj, aj9] at e
  exact e
 constructor
 ·apply aky
  intro j
  have := hb j
  simp only [akX, alj]
  cases hv : v.testBit j with
  | false => rfl
  | true => rw [this hv]; rfl
 ·apply aky
  intro j
  have := hb j
  simp only [akX, alj]
  cases hv : v.testBit j with
  | false => cases m.testBit j <;> cases b.testBit j <;> rfl
  | true => rw [this hv]; rfl
theorem CV (N : Nat) (hN : 64 < N) (n w : Nat) (hn : n <= 4) (hw : w < 2 ^ 2 ^ n) : ∀ (F m v : Nat), fc n m < F -> m < 2 ^ n -> v < 2 ^ n -> v &&& m = v -> ∀ k : ByteArray -> Option β,
  gj N F (n : Int) (w : Int) (m : Int) (v : Int) k = k (B (bst w n F m v)) := by
 have hs := CT hn
 have hw' := Da (by omega) hw
 intro F
 induction F with
 | zero => intro m v h; omega
 | succ F ih =>
  intro m v hF hm hv hvm k
  simp only [gj, W6, Pp]
  rw [kq N hN n w m v (by omega) hw' (by omega), sV]
  simp only [bst]
  cases hx : cI w n m v with
  | false =>
   rw [if_neg (by decide), akl, ajZ]
   unfold cI at hx
   cases h0 : sc w m v false (2 ^ n) with
   | true =>
    rw [h0, aj9] at hx
    rw [hx]; rfl
   | false =>
    cases h1 : sc w m v true (2 ^ n) with
    | true => rfl
    | false => exact absurd (T0 w n m v hv hvm) (by rw [h0, h1]; decide)
  | true =>
   rw [if_pos rfl, aj5, ajY]
   have hfcn := j5 n m
   rw [gM N hN n w hn hw m v hm hv]
   obtain ⟨f1, f2, f3⟩ := o9 hn hm hx
   have key : ∀ (d G i : Nat), i + d = n -> d < G -> (∃ j, i <= j /\ j < i + d /\ pick w n m v j = true) -> df (pick w n m v) d i = df (pick w n m v) n 0 ->
     m8 N (gj N F) G (m : Int) (v : Int) (a8 w n m v : Int) (i : Int) (n : Int) (w : Int) k (k ByteArray.empty) =
     k (B (UInt8.ofNat (97 + df (pick w n m v) n 0) :: (bst w n F (m ||| 2 ^ df (pick w n m v) n 0) v ++ bst w n F (m ||| 2 ^ df (pick w n m v) n 0) (v ||| 2 ^ df (pick w n m v) n 0)))) := by
    intro d
    induction d with
    | zero => intro G i _ _ ⟨j, h1, h2, _⟩; omega
    | succ d ihd =>
     intro G i hi hG hex hst
     obtain ⟨G, rfl⟩ : ∃ H, G = H + 1 := ⟨G - 1, by omega⟩
     have hlt : i < n := by omega
     have hp : 2 ^ i < 2 ^ 4 := akF (by decide) (by omega)
     simp only [m8, W5, Po]
     rw [ajX (by omega : (i : Int) < (n : Int)), ajZ, ab (ajX (by omega : (0 : Int) <= (i : Int))), aM i (by omega), bAnd m _ (by omega) (by omega), q5, Gy m (by omega) i (by omega), bOr m _ (by omega) (by omega), bOr v _ (by omega) (by omega), aw i (by omega)]
     simp only [df] at hst
     have next : pick w n m v i = false -> m8 N (gj N F) G (m : Int) (v : Int) (a8 w n m v : Int) ((i + 1 : Nat) : Int) (n : Int) (w : Int) k (k ByteArray.empty) =
       k (B (UInt8.ofNat (97 + df (pick w n m v) n 0) :: (bst w n F (m ||| 2 ^ df (pick w n m v) n 0) v ++ bst w n F (m ||| 2 ^ df (pick w n m v) n 0) (v ||| 2 ^ df (pick w n m v) n 0)))) := by
      intro hno
      rw [hno, if_neg (by decide)] at hst
      refine ihd G (i + 1) (by omega) (by omega) ?_ hst
      obtain ⟨j, h1, h2, h3⟩ := hex
      have hne : j ≠ i := fun e => by rw [e, hno] at h3; cases h3
      exact ⟨j, by omega, by omega, h3⟩
     cases hf : bg m i with
     | false =>
      rw [ajY]
      exact next (by unfold pick; rw [hf]; rfl)
     | true =>
      have h4 := fZ n hn m hm i hlt hf
      have hmo := et n hn m hm i hlt
      have hvo := et n hn v hv i hlt
      have hd1 := j3 w n (m ||| 2 ^ i) v hn hmo
      have hd2 := j3 w n (m ||| 2 ^ i) (v ||| 2 ^ i) hn hmo
      have hfc := j5 n (m ||| 2 ^ i)
      rw [ajZ, gM N hN n w hn hw _ v hmo hv, gM N hN n w hn hw _ _ hmo hvo, zA, show (1 : Int) + ((max (a8 w n (m ||| 2 ^ i) v) (a8 w n (m ||| 2 ^ i) (v ||| 2 ^ i)) : Nat) : Int) = ((1 + max (a8 w n (m ||| 2 ^ i) v) (a8 w n (m ||| 2 ^ i) (v ||| 2 ^ i)) : Nat) : Int) by omega, sb _ (by omega), cJ]
      have hpk : pick w n m v i = (1 + max (a8 w n (m ||| 2 ^ i) v) (a8 w n (m ||| 2 ^ i) (v ||| 2 ^ i)) == a8 w n m v) := by unfold pick; rw [hf, aj9]
      rw [<- hpk]
      cases hpi : pick w n m v i with
      | false => rw [ajY]; exact next hpi
      | true =>
       rw [hpi, if_pos rfl] at hst
       rw [<- hst]
       have l1 := l8 w n hn F (m ||| 2 ^ i) v hmo hv
       have l2 := l8 w n hn F (m ||| 2 ^ i) (v ||| 2 ^ i) hmo hvo
       rw [ajZ, pi, ab (ajX (by omega)), ab (ajX (by omega)), ab (ajX (by omega)), ab (ajX (by omega)), akc, akc, tR i (by omega), ih _ v (by omega) hmo hv (OX m v (2 ^ i) hvm).1, aE, aE, ab (ajX (by simp only [aj4, aki]; omega)), ih _ _ (by omega) hmo hvo (OX m v (2 ^ i) hvm).2, cK, aE, aE, ab (ajX (by simp only [aj6, aj4, aki]; omega)), cK]
       rfl
   exact key n N 0 (by omega) (by omega) ⟨_, aks _, by omega, f3⟩ rfl
theorem qJ (N : Nat) (hN : 64 < N) (a0 a1 : Int) (k : ByteArray -> Bool -> Option β) : yn N a0 a1 k = k (B (GD N a0 a1)) (dU a0 a1 4) := by
 unfold yn Pq GD
 rw [bv]
 cases ht : isT a0 a1 with
 | false =>
  have hs : dU a0 a1 4 = false := by unfold dU; rw [ht]; rfl
  rw [hs]; rfl
 | true =>
  obtain ⟨n, w, rfl, rfl, hn, hw, _⟩ := zv ht
  by_cases h : n <= 4
  ·have hs : dU (n : Int) (w : Int) 4 = true := by unfold dU; rw [ht, ajX (by omega)]; rfl
   have hfc := j5 n 0
   have e := CV (β := β) N hN n w h hw N 0 0 (by omega) (akK n) (akK n) rfl fun r => k r true
   simp only [akO] at e
   rw [hs, if_pos rfl, aj5, ajY, aj2 (by omega), ajY]
   exact e
  ·have hs : dU (n : Int) (w : Int) 4 = false := by unfold dU; rw [ht, aj2 (by omega)]; rfl
   rw [hs, aj5, ajY, ajX (by omega), ajZ]
   rfl
def f9 (w m : Nat) : List UInt8 := (List.range m).map fun x => if w.testBit x then 49 else 48
def pd (w m : Nat) : List Int := (List.range m).map fun x => 48 + (bw w x : Int)
theorem xi (w m : Nat) : (pd w m).length = m := by simp [pd]
theorem Eb (w m : Nat) : pd w (m + 1) = pd w m ++ [48 + (bw w m : Int)] := by simp [pd, ak9]
theorem fE (N n w : Nat) (hN : 64 < N) (hn : n <= 5) (hw : w < 2 ^ 2 ^ n) (k : ByteArray -> Option β) : na N (n : Int) (w : Int) k = k (B (f9 w (2 ^ n))) := by
 have hw' := gf hn hw
 have hs := bd hn
 have hz : (0 : Int) <= ((2 ^ n : Nat) : Int) := akj _
 unfold na Pz
 rw [bZ N _ _ (by omega), B4 hn hw, aj5, ajY, bV N n _ hn, ab (ajX (by omega)), ab (ajX (by omega)), ab (ajX (by omega)), akc, alY]
 have key := a6 (fun F x => m9 N F ((2 ^ n : Nat) : Int) (x : Int) (n : Int) (w : Int) (pd w x ++ List.replicate (2 ^ n - x) 0) fun e => k (aq e)) (2 ^ n) (k (B (f9 w (2 ^ n)))) (fun F x hx => ?_) (fun F => ?_) N 0 (by omega) (by omega)
 ·simpa [pd] using key
 ·simp only [m9, Ql, HR]
  have hb := MA w x
  rw [ajX (by omega), ajZ, cm N w x _ hw', ab (ajX (by omega)), ab (ajX (by simp [xi]; omega)), aw x (by omega)]
  rw [cT _ (by omega), show (48 : Int) + (bw w x : Int) = ((48 + bw w x : Nat) : Int) by omega, cT _ (by omega), show 2 ^ n - x = (2 ^ n - (x + 1)) + 1 by omega, alL, Eb]
  have e := FE (pd w x) (0 : Int) ((48 + bw w x : Nat) : Int) (List.replicate (2 ^ n - (x + 1)) 0)
  rw [xi] at e
  rw [e]
  simp
 ·simp only [m9, Ql, HR]
  rw [aj2 (by omega), ajY]
  congr 1
  rw [ci, ale, al4, akh]
  congr 1
  unfold pd f9
  rw [alU]
  apply al3
  intro x _
  simp only [Function.comp, bw]
  cases w.testBit x <;> rfl
theorem ET (w m : Nat) : f9 w (m + 1) = f9 w m ++ [if w.testBit m then 49 else 48] := by simp [f9, ak9]
theorem mE (w m : Nat) : (f9 w m).length = m := by simp [f9]
theorem nO (N n w : Nat) (hN : 64 < N) (hn : n <= 5) (hw : w < 2 ^ 2 ^ n) (k : ByteArray -> Option β) : Du N (n : Int) (w : Int) k = k (B (f9 w (2 ^ n))) := by
 have hw' := gf hn hw
 have hs := bd hn
 have hz : (0 : Int) <= ((2 ^ n : Nat) : Int) := akj _
 refine a6 (fun F x => m3 N F (B (f9 w x)) (x : Int) (n : Int) (w : Int) fun e => k e) (2 ^ n) _ (fun F x hx => ?_) (fun F => ?_) N 0 (by omega) (by omega)
 ·simp only [m3, Qb, HG]
  rw [bv, B4 hn hw, ajZ, ab (ajX (by omega)), aM n (by omega), ajX (by omega), ajZ, ab (ajX (by omega)), mQ w x (by omega), jY, aw x (by omega), ET]
  simp only [ci, cK, aE]
  rw [ab (ajX (by simp [mE]; omega)), ab (ajX (by simp [mE]; omega))]
  cases w.testBit x <;> rfl
 ·simp only [m3, Qb, HG]
  rw [bv, B4 hn hw, ajZ, ab (ajX (by omega)), aM n (by omega), aj2 (by omega), ajY]
theorem C3 : ∀ n, n <= 4 -> 2 ^ 2 ^ n <= 65536 := by decide +kernel
theorem sP (N : Nat) (hN : 1048576 < N) (o : List (Nat × Nat)) (ho : o.length <= 1000) (h : Int -> Int -> (Bool -> Option β) -> Option β) (p : Nat × Nat -> Bool) (hh : ∀ t ∈ o, ∀ k, h (t.1 : Int) (t.2 : Int) k = k (p t)) (K : Bool -> Option β) : wv N (tl o) h K = K (o.any p) := by
 unfold wv PA FG Pt
 rw [bE]
 have key : ∀ (d i F : Nat), o.length - i = d -> i <= o.length -> d < F -> mO N h F (tl o) (o.length : Int) (i : Int) (fun e => K (decide (e >= 0))) (K (decide ((-1 : Int) >= 0))) = K ((o.drop i).any p) := by
  intro d
  induction d with
  | zero =>
   intro i F hd hi hF
   obtain ⟨G, rfl⟩ : ∃ G, F = G + 1 := ⟨F - 1, by omega⟩
   simp only [mO, Qi, FF]
   rw [aj2 (by omega), ajY, List.drop_of_length_le (by omega)]
   rfl
  | succ d ih =>
   intro i F hd hi hF
   obtain ⟨G, rfl⟩ : ∃ G, F = G + 1 := ⟨F - 1, by omega⟩
   have hlt : i < o.length := by omega
   simp only [mO, Qi, FF, bE, pw o i hlt]
   rw [ajX (by omega : (i : Int) < (o.length : Int)), ajZ, ab (ajX (by omega)), ab rfl, hh _ (akn hlt), aw i (by omega), ih (i + 1) G (by omega) (by omega) (by omega), alJ hlt, List.any_cons, ajX (by omega : (i : Int) >= 0)]
   cases p o[i] <;> rfl
 exact (key o.length 0 N (by omega) (by omega) (by omega)).trans (by rw [ali])
def Tb (n w : Int) (b : Bool) : Prop := b = true -> ∃ m v : Nat, n = (m : Int) /\ w = (v : Int) /\ m <= 5 /\ v < 2 ^ 2 ^ m
theorem ZA : ∀ n, n <= 5 -> ∀ i, i < n -> 2 ^ n ≠ 2 ^ i := by decide
def at8 (l : List UInt8) (i : Nat) : UInt8 := l.getD i 0
def j8 (l : List UInt8) (i : Nat) : Bool := at8 l i == 49 || at8 l i == 48
def is1 (l : List UInt8) (i : Nat) : Bool := at8 l i == 49
theorem My (b : UInt8) (c : Nat) (hc : c < 256) : ((b.toNat : Int) == (c : Int)) = (b == UInt8.ofNat c) := by
 by_cases h : b = UInt8.ofNat c
 ·subst h
  rw [alv, alf hc]
  simp
 ·rw [beq_eq_false_iff_ne.2 h, beq_eq_false_iff_ne]
  intro e
  apply h
  apply amr.1
  rw [alv, alf hc]
  omega
theorem oR (l : List UInt8) (i : Nat) (h : i < l.length) : at8 l i = l[i] := by
 simp [at8, amA, amF h]
theorem yS (l : List UInt8) (i : Nat) (h : i < l.length) : bt (B l) (i : Int) = ((at8 l i).toNat : Int) := by
 rw [Ln l i h, oR l i h]
theorem qL (N : Nat) (hN : 1048576 < N) (l : List UInt8) (n : Nat) (hn : n <= 5) (hl : l.length = 2 ^ n) (k0 : Bool -> Int -> Int -> Option β) (k1 : Int -> Int -> Int -> Int -> Option β) :
  rG N N (B l) (n : Int) 0 0 0 0 k0 k1 = cond (da (j8 l) (2 ^ n)) (k1 (n : Int) (aQ (is1 l) (2 ^ n) : Int) 0 0) (k0 false 0 0) := by
 have hs := bd hn
 refine tT (fun F i => rG N F (B l) (n : Int) (aQ (is1 l) i : Int) (i : Int) 0 0 k0 k1) (j8 l) (2 ^ n) _ _ (fun F i hi => ?_) (fun F => ?_) N (by omega)
 ·simp only [rG, abd, VE, aE]
  have e49 := My (at8 l i) 49 (by decide)
  have e48 := My (at8 l i) 48 (by decide)
  simp only [alQ] at e49 e48
  rw [ajX (by omega : (i : Int) < (l.length : Int)), ajZ, ab (ajX (by omega)), ab rfl, yS l i (by omega), e49, e48, aw i (by omega), iP _ i (by omega), ab (ajX (by omega))]
  cases h1 : at8 l i == 49 with
  | true =>
   have hi1 : is1 l i = true := h1
   have hp : j8 l i = true := by rw [j8, h1]; rfl
   rw [ajZ, hp, ajZ, kr hi1]
  | false =>
   have hi1 : is1 l i = false := h1
   rw [ajY, pG hi1]
   cases h0 : at8 l i == 48 with
   | true =>
    have hp : j8 l i = true := by rw [j8, h1, h0]; rfl
    rw [hp]
   | false =>
    have hp : j8 l i = false := by rw [j8, h1, h0]; rfl
    rw [hp]
 ·simp only [rG, abd, VE, aE]
  rw [aj2 (by omega), ajY]
theorem ES (l : List UInt8) (m : Nat) (hl : l.length = m) : (f9 (aQ (is1 l) m) m == l) = da (j8 l) m := by
 cases h : da (j8 l) m with
 | true =>
  rw [beq_iff_eq]
  apply List.ext_getElem
  ·rw [mE, hl]
  ·intro i h1 h2
   have hi : i < m := by omega
   have hp := jd h i hi
   simp only [f9, List.getElem_map, List.getElem_range, br]
   rw [ajX hi, aj9, <- oR l i (by omega)]
   simp only [j8, akI] at hp
   rcases hp with hp | hp
   ·have e1 : is1 l i = true := hp
    rw [e1, if_pos rfl, eq_of_beq hp]
   ·have e := eq_of_beq hp
    have e1 : is1 l i = false := by rw [is1, e]; rfl
    rw [e1, if_neg (by decide), e]
 | false =>
  rw [beq_eq_false_iff_ne]
  intro e
  have : da (j8 l) m = true := sM fun i hi => by
   have : at8 l i = if (aQ (is1 l) m).testBit i then 49 else 48 := by
    rw [oR l i (by omega)]
    have h2 : l[i]? = (f9 (aQ (is1 l) m) m)[i]? := by rw [e]
    rw [amF (by omega : i < l.length), amF (by rw [mE]; exact hi)] at h2
    have h3 := amq h2
    rw [h3]
    simp [f9]
   rw [j8, this]
   split <;> rfl
  rw [this] at h
  cases h
theorem AU {m v : Nat} (hm : m <= 5) (hv : v < 2 ^ 2 ^ m) : Tb (m : Int) (v : Int) true := fun _ => ⟨m, v, rfl, rfl, hm, hv⟩
theorem fg {n w : Int} : Tb n w false := fun h => by cases h
theorem DO (N : Nat) (hN : 1048576 < N) (l : List UInt8) :
  ∃ (n w : Int) (b : Bool), Tb n w b /\ (∀ K : Int -> Int -> Bool -> Option β, DK N (B l) K = K n w b) /\ (∀ K : Int -> Int -> Bool -> Option β, rz N (B l) K = K n w b) := by
 have hshl : ∀ i : Nat, i <= 5 -> aW .i64 1 (i : Int) = ((2 ^ i : Nat) : Int) := fun i hi => aM i (by omega)
 have stepS : ∀ (K : Int -> Int -> Bool -> Option β) (F i : Nat), i <= 5 -> l.length ≠ 2 ^ i -> oG N (F + 1) (B l) (i : Int) 0 0 (fun e0 e1 e2 => K e1 e2 e0) (fun _ _ => K 0 0 false) = oG N F (B l) ((i + 1 : Nat) : Int) 0 0 (fun e0 e1 e2 => K e1 e2 e0) (fun _ _ => K 0 0 false) := fun K F i hi h => by
  simp only [oG, VW, P4, aE]
  rw [ajX (by omega : (i : Int) <= 5), ajZ, ab (ajX (by omega)), hshl i hi, bne_iff_ne.2 (by omega), ajZ, aw i (by omega)]
 have stepI : ∀ (K : Int -> Int -> Bool -> Option β) (F i : Nat), i <= 5 -> l.length ≠ 2 ^ i -> gq N (F + 1) (i : Int) (B l) 0 0 (fun e0 e1 e2 => K e1 e2 e0) (fun _ _ => K 0 0 false) = gq N F ((i + 1 : Nat) : Int) (B l) 0 0 (fun e0 e1 e2 => K e1 e2 e0) (fun _ _ => K 0 0 false) := fun K F i hi h => by
  simp only [gq, In, Dg, aE]
  rw [ajX (by omega : (i : Int) < 6), ajZ, ab (ajX (by omega)), hshl i hi, beq_eq_false_iff_ne.2 (by omega), ajY, aw i (by omega)]
 by_cases hex : ∃ n, n <= 5 /\ l.length = 2 ^ n
 ·obtain ⟨n, hn, hl⟩ := hex
  have hs := bd hn
  have hne : ∀ i, i < n -> l.length ≠ 2 ^ i := fun i hi => by rw [hl]; exact ZA n hn i hi
  have eS : ∀ K : Int -> Int -> Bool -> Option β, DK N (B l) K = cond (da (j8 l) (2 ^ n)) (K (n : Int) (aQ (is1 l) (2 ^ n) : Int) true) (K 0 0 false) := fun K => by
   unfold DK VF
   refine a6 (fun F i => oG N F (B l) (i : Int) 0 0 (fun e0 e1 e2 => K e1 e2 e0) (fun _ _ => K 0 0 false)) n _ (fun F i hi => stepS K F i (by omega) (hne i hi)) (fun F => ?_) N 0 (by omega) (by omega)
   simp only [oG, VW, P4, aE]
   rw [ajX (by omega : (n : Int) <= 5), ajZ, ab (ajX (by omega)), hshl n hn, hl, bne_self_eq_false, ajY, qL N hN l n hn hl]
  have eI : ∀ K : Int -> Int -> Bool -> Option β, rz N (B l) K = cond (da (j8 l) (2 ^ n)) (K (n : Int) (aQ (is1 l) (2 ^ n) : Int) true) (K 0 0 false) := fun K => by
   unfold rz HS
   refine a6 (fun F i => gq N F (i : Int) (B l) 0 0 (fun e0 e1 e2 => K e1 e2 e0) (fun _ _ => K 0 0 false)) n _ (fun F i hi => stepI K F i (by omega) (hne i hi)) (fun F => ?_) N 0 (by omega) (by omega)
   simp only [gq, In, Dg, aE]
   rw [ajX (by omega : (n : Int) < 6), ajZ, ab (ajX (by omega)), hshl n hn, hl, beq_self_eq_true, ajZ, b6 N (by omega) n hn _ (is1 l) (fun x k hx => by
    have e49 := My (at8 l x) 49 (by decide)
    simp only [alQ] at e49
    unfold zj1 zb1
    rw [ab (ajX (by omega)), aE, ab (ajX (by omega)), yS l x (by omega), e49]
    rfl), fE N n _ (by omega) hn (bU _ _), aG, aG, ES l _ hl]
   cases da (j8 l) (2 ^ n) <;> rfl
  cases hall : da (j8 l) (2 ^ n) with
  | true => exact ⟨_, _, true, AU hn (bU _ _), fun K => by rw [eS, hall, ajZ], fun K => by rw [eI, hall, ajZ]⟩
  | false => exact ⟨0, 0, false, fg, fun K => by rw [eS, hall, ajY], fun K => by rw [eI, hall, ajY]⟩
 ·have hne : ∀ i, i <= 5 -> l.length ≠ 2 ^ i := fun i hi e => hex ⟨i, hi, e⟩
  refine ⟨0, 0, false, fg, fun K => ?_, fun K => ?_⟩
  ·unfold DK VF
   refine a6 (fun F i => oG N F (B l) (i : Int) 0 0 (fun e0 e1 e2 => K e1 e2 e0) (fun _ _ => K 0 0 false)) 6 _ (fun F i hi => stepS K F i (by omega) (hne i (by omega))) (fun F => ?_) N 0 (by omega) (by omega)
   simp only [oG, VW, P4, aE]
   rw [aj2 (by decide), ajY]
  ·unfold rz HS
   refine a6 (fun F i => gq N F (i : Int) (B l) 0 0 (fun e0 e1 e2 => K e1 e2 e0) (fun _ _ => K 0 0 false)) 6 _ (fun F i hi => stepI K F i (by omega) (hne i (by omega))) (fun F => ?_) N 0 (by omega) (by omega)
   simp only [gq, In, Dg, aE]
   rw [aj2 (by decide), ajY]
theorem rJ (w n : Nat) : cx w n < 2 ^ 2 ^ n := bU _ _
def spl (c : UInt8) : List UInt8 -> List UInt8 -> List (List UInt8)
 | acc, [] => [acc]
 | acc, b :: l => if b = c then acc :: spl c [] l else spl c (acc ++ [b]) l
theorem rZ (c : UInt8) : ∀ (l acc : List UInt8), (spl c acc l).length <= l.length + 1 /\ ∀ p ∈ spl c acc l, p.length <= acc.length + l.length
 | [], acc => by simp [spl]
 | b :: l, acc => by
  unfold spl
  split
  ·obtain ⟨h1, h2⟩ := rZ c l []
   refine ⟨by simp only [aj4]; omega, fun p hp => ?_⟩
   rcases akf.1 hp with rfl | hp
   ·simp
   ·have := h2 p hp
    simp only [aki, aj4] at this ⊢
    omega
  ·obtain ⟨h1, h2⟩ := rZ c l (acc ++ [b])
   refine ⟨by simp only [aj4]; omega, fun p hp => ?_⟩
   have := h2 p hp
   simp only [aj6, aki, aj4] at this ⊢
   omega
def ko (f : List UInt8 -> Option Nat) : List (List UInt8) -> Nat -> Option Nat
 | [], w => some w
 | p :: ps, w => match f p with
  | some m => ko f ps (w ||| 2 ^ m)
  | none => none
def qi (n : Nat) (p : List UInt8) : Option Nat := match ptm n p with
 | some t => some t.1
 | none => none
theorem Zz {k : Nat} (h : k < 5) : 2 ^ k < 2 ^ 5 := akF (by decide) h
theorem or5 {a b : Nat} (ha : a < 32) (hb : b < 2 ^ 5) : a ||| b < 32 := akL (n := 5) ha hb
theorem qH : ∀ (l : List UInt8) (f : Bool) (m v : Nat), m < 32 -> v < 32 -> (scn l f m v).1 < 32 /\ (scn l f m v).2 < 32
 | [], f, m, v, hm, hv => ⟨hm, hv⟩
 | b :: l, f, m, v, hm, hv => by
  unfold scn
  split
  ·exact qH l _ _ _ hm hv
  ·split
   ·rename_i h
    have hp := Zz (k := b.toNat - 97) (by omega)
    refine qH l _ _ _ (or5 hm hp) ?_
    cases f
    ·exact or5 hv hp
    ·exact hv
   ·exact qH l _ _ _ hm hv
theorem xF {n : Nat} {l : List UInt8} {p : Nat × Nat} (hn : n <= 5) (h : ptm n l = some p) : okT n p.1 p.2 = true /\ p.1 < 32 /\ p.2 < 32 := by
 unfold ptm at h
 split at h
 ·cases h
  have : ∀ n, n <= 5 -> okT n 0 0 = true := by decide +kernel
  exact ⟨this n hn, by decide, by decide⟩
 ·split at h
  ·cases h
  ·split at h
   ·rename_i h1 h2 h3
    cases h
    refine ⟨?_, qH _ _ _ _ (by decide) (by decide)⟩
    cases hok : okT n (scn l false 0 0).1 (scn l false 0 0).2 with
    | true => rfl
    | false =>
     unfold ftb at h3
     rw [hok, ajY] at h3
     exact absurd h3.symm h2
   ·cases h
theorem xN (n : Nat) (hn : n <= 5) : ∀ (ps : List (List UInt8)) (w w' : Nat), ko (qi n) ps w = some w' -> w < 2 ^ 2 ^ n -> w' < 2 ^ 2 ^ n
 | [], w, w', h, hw => by cases h; exact hw
 | p :: ps, w, w', h, hw => by
  unfold ko qi at h
  cases hp : ptm n p with
  | none => rw [hp] at h; cases h
  | some t =>
   rw [hp] at h
   have hk := (xF hn hp).1
   simp only [okT, aj0, decide_eq_true_eq] at hk
   exact xN n hn ps _ w' h (akL hw (akF (by decide) hk.1))
def xL (o : Option Nat) (k1 : Nat -> Option β) (k0 : Option β) : Option β := match o with
 | some w => k1 w
 | none => k0
def qs (n : Nat) (p : List UInt8) : Option Nat := match ptm n p with
 | some t => if t.1 = t.2 then some t.1 else none
 | none => none
def ptK (o : Option (Nat × Nat)) (K : Int -> Int -> Bool -> Option β) : Option β := match o with
 | some p => K (p.1 : Int) (p.2 : Int) true
 | none => K 0 0 false
theorem GQ (n : Nat) (hn : n <= 5) : ftb n 0 0 = [49] := by
 have : ∀ n, n <= 5 -> ftb n 0 0 = [49] := by decide +kernel
 exact this n hn
def tw (n : Nat) (b : UInt8) : Bool := Nat.beq b.toNat 33 || (decide (97 <= b.toNat) && decide (b.toNat < 97 + n))
def good (n : Nat) (l : List UInt8) : Bool := l.all (tw n)
theorem yT (pre rest : List UInt8) (b : UInt8) : bt (B (pre ++ b :: rest)) (pre.length : Int) = (b.toNat : Int) := by
 rw [Ln _ pre.length (by simp)]
 simp
theorem adn (b : UInt8) : ((b.toNat : Int) == 33) = decide (b.toNat = 33) := by
 rw [ald, beq_iff_eq, decide_eq_true_eq]
 omega
theorem KE (N n : Nat) (hn : n <= 5) (l : List UInt8) (hl : l.length <= 1000) (h1 : l ≠ [49]) (k0 : Bool -> Int -> Int -> Option β) (K0 : Int -> ByteArray -> Int -> Int -> Int -> Int -> Option β) : ∀ (rest pre : List UInt8) (F : Nat) (f : Bool) (m v : Nat), pre ++ rest = l -> rest.length < F -> m < 32 -> v < 32 ->
  l7 N F (n : Int) (B l) f (pre.length : Int) 0 0 (m : Int) (v : Int) k0 K0 = cond (good n rest) (K0 (n : Int) (B l) 0 0 ((scn rest f m v).1 : Int) ((scn rest f m v).2 : Int)) (k0 false 0 0) := by
 have h49 : ((B l).toList == (aq [49]).toList) = false := by
  rw [aG, ci, aG]
  exact beq_eq_false_iff_ne.2 h1
 intro rest
 induction rest with
 | nil =>
  intro pre F f m v hp hF hm hv
  obtain ⟨G, rfl⟩ : ∃ G, F = G + 1 := ⟨F - 1, by simp at hF; omega⟩
  have hlen : l.length = pre.length := by rw [<- hp]; simp
  simp only [l7, FH, Dq, scn, aE]
  rw [aj2 (by omega), ajY]
  rfl
 | cons b rest ih =>
  intro pre F f m v hp hF hm hv
  simp only [aj4] at hF
  obtain ⟨G, rfl⟩ : ∃ G, F = G + 1 := ⟨F - 1, by omega⟩
  have hlen : l.length = pre.length + (rest.length + 1) := by rw [<- hp]; simp
  have hbt : bt (B l) (pre.length : Int) = (b.toNat : Int) := by rw [<- hp]; exact yT pre rest b
  have hb := b.toNat_lt
  have next := fun f m v hm hv => ih (pre ++ [b]) G f m v (by rw [<- hp]; simp) (by omega) hm hv
  simp only [aj6, aj4, aki, akE] at next
  have hg : good n (b :: rest) = (tw n b && good n rest) := rfl
  simp only [l7, FH, Dq, hbt, aE, adn, h49, aX]
  rw [ajX (by omega : (pre.length : Int) < (l.length : Int)), ajZ, akl, ajZ, ab (ajX (by omega)), ab rfl, aw _ (by omega), hg]
  unfold scn
  by_cases h33 : b.toNat = 33
  ·have hgb : tw n b = true := by unfold tw; rw [h33]; rfl
   rw [ajX h33, ajZ, if_pos h33, hgb, aj9]
   exact next true m v hm hv
  ·rw [aj2 h33, ajY, if_neg h33, ab (ajX (by omega)), ab rfl, ajX (by omega : (0 : Int) <= (n : Int)), ajX (by omega : (n : Int) <= 5), alo, aj5, ajY, bp (x := (b.toNat : Int)) (by omega) (by omega), bp (by omega) (by omega), bp (by omega) (by omega)]
   have hne : Nat.beq b.toNat 33 = false := by
    cases hq : Nat.beq b.toNat 33 with
    | false => rfl
    | true => exact absurd (aj3 hq) h33
   unfold tw
   rw [hne, ak7]
   by_cases h97 : 97 <= b.toNat
   ·rw [ajX (by omega : (0 : Int) <= (b.toNat : Int) - 97), ajX h97, aj9, aj9]
    by_cases h102 : b.toNat < 97 + n
    ·have hp5 := Zz (k := b.toNat - 97) (by omega)
     rw [ajX (by omega : (b.toNat : Int) - 97 <= (n : Int) - 1), ajX h102, aj5, ajY, aj9, ab rfl, if_pos ⟨h97, by omega⟩, show (b.toNat : Int) - 97 = ((b.toNat - 97 : Nat) : Int) by omega, aM _ (by omega), bOr m _ (by omega) (by omega)]
     cases f with
     | false =>
      rw [akl, ajZ, ab rfl, bOr v _ (by omega) (by omega)]
      exact next false _ _ (or5 hm hp5) (or5 hv hp5)
     | true =>
      rw [aj5, ajY]
      exact next false _ _ (or5 hm hp5) hv
    ·rw [aj2 (by omega : ¬ (b.toNat : Int) - 97 <= (n : Int) - 1), aj2 h102]
     rfl
   ·rw [aj2 (by omega : ¬ (0 : Int) <= (b.toNat : Int) - 97), aj2 h97]
    rfl
theorem GP (n m v : Nat) (hn : n <= 5) : ∀ i, i <= n -> good n (ft m v i) = true
 | 0, _ => rfl
 | i + 1, h => by
  have h1 := GP n m v hn i (by omega)
  have hb : tw n (UInt8.ofNat (97 + i)) = true := by
   have e : (UInt8.ofNat (97 + i)).toNat = 97 + i := by rw [alv]; omega
   unfold tw
   rw [e, ajX (by omega), ajX (by omega)]
   simp
  unfold good at h1 ⊢
  rw [ft, alw, h1, aj9]
  cases m.testBit i <;> cases v.testBit i <;> simp only [ajZ, ajY, akd, al6, hb, alA] <;> rfl
theorem iN (N : Nat) (hN : 1048576 < N) (n : Nat) (hn : n <= 5) (l : List UInt8) (hl : l.length <= 1000) (K : Int -> Int -> Bool -> Option β) : oH N (n : Int) (B l) K = ptK (ptm n l) K := by
 unfold oH VI ptm
 have he : ByteArray.empty.toList = ([] : List UInt8) := aG []
 by_cases h1 : l = [49]
 ·subst h1
  have e := fun K => bN (β := β) N hN n 0 0 hn (by decide) (by decide) K
  simp only [akO, GQ n hn] at e
  rw [if_pos rfl]
  obtain ⟨G, rfl⟩ : ∃ G, N = G + 1 := ⟨N - 1, by omega⟩
  simp only [l7, FH, Dq]
  rw [e, he, aG, ci, aG]
  rfl
 ·obtain ⟨s1, s2⟩ := qH l false 0 0 (by decide) (by decide)
  have hs := KE (β := β) N n hn l hl h1 (fun e0 e1 e2 => K e1 e2 e0) (fun e0 e1 e2 e3 e4 e5 => cond (e1.toList == ByteArray.empty.toList) (K 0 0 false) (ja N e0 e4 e5 fun r9 => cond (!(r9.toList == e1.toList)) (K 0 0 false) (K e4 e5 true))) l [] N false 0 0 rfl (by omega) (by decide) (by decide)
  rw [if_neg h1]
  refine hs.trans ?_
  rw [aG, he, bN N hN n _ _ hn s1 s2, aG]
  by_cases h0 : l = []
  ·subst h0; rfl
  ·rw [beq_eq_false_iff_ne.2 h0, ajY, if_neg h0]
   by_cases h2 : ftb n (scn l false 0 0).1 (scn l false 0 0).2 = l
   ·have hg : good n l = true := by
     unfold ftb at h2
     cases hok : okT n (scn l false 0 0).1 (scn l false 0 0).2 with
     | false => rw [hok, ajY] at h2; exact absurd h2.symm h0
     | true =>
      rw [hok, ajZ] at h2
      cases hf : (ft (scn l false 0 0).1 (scn l false 0 0).2 n == []) with
      | true => rw [hf, ajZ] at h2; exact absurd h2.symm h1
      | false =>
       rw [hf, ajY] at h2
       rw [<- h2]
       exact GP n _ _ hn n (aj8 _)
    rw [if_pos h2, beq_iff_eq.2 h2, hg]; rfl
   ·rw [if_neg h2, beq_eq_false_iff_ne.2 h2]
    cases good n l <;> rfl
theorem rV (w m : Nat) (hw : w < 4294967296) (hm : m < 32) : bits .or .i64 (w : Int) (aW .i64 1 (m : Int)) = ((w ||| 2 ^ m : Nat) : Int) /\ w ||| 2 ^ m < 4294967296 := by
 have h2 : 2 ^ m < 2 ^ 32 := akF (by decide) hm
 exact ⟨by rw [aM m (by omega), bOr _ _ (by omega) (by omega)], akL (n := 32) hw h2⟩
theorem wt (N : Nat) (hN : 1048576 < N) (n : Nat) (hn : n <= 5) (l : List UInt8) (hl : l.length <= 200) (h48 : (l == [48]) = false)
  (k0 : Bool -> Int -> Int -> Option β) (k1 : Int -> ByteArray -> Int -> Int -> Int -> Option β) : ∀ (rest pre acc : List UInt8) (F w : Nat), pre ++ rest = l -> rest.length + 1 < F -> acc.length <= pre.length -> w < 4294967296 ->
  jV N F (n : Int) (B l) (w : Int) (B acc) (pre.length : Int) 0 0 k0 k1 = xL (ko (qs n) (spl 43 acc rest) w) (fun w => k1 (n : Int) (B l) (w : Int) 0 0) (k0 false 0 0) := by
 have hne48 : ((B l).toList == (aq [48]).toList) = false := by rw [aG, ci, aG]; exact h48
 have term : ∀ (acc : List UInt8) (hacc : acc.length <= 1000) (w : Nat) (hw : w < 4294967296) (R : Int -> Option β) (Z : Option β), (oH N (n : Int) (B acc) fun r6 r7 r8 => cond (!r8) Z (cond (r6 != r7) Z (gd (decide (0 <= r6)) (R (bits .or .i64 (w : Int) (aW .i64 1 r6)))))) = match qs n acc with | some m => R ((w ||| 2 ^ m : Nat) : Int) | none => Z := by
  intro acc hacc w hw R Z
  rw [iN N hN n hn acc hacc]
  unfold qs
  cases hp : ptm n acc with
  | none => rfl
  | some t =>
   have ht := (xF hn hp).2
   simp only [ptK, aj5, ajY]
   by_cases h : t.1 = t.2
   ·rw [if_pos h, <- h, bne_self_eq_false, ajY, ab (ajX (by omega)), (rV w t.1 hw ht.1).1]
   ·rw [if_neg h, bne_iff_ne.2 (by omega), ajZ]
 have qlt : ∀ (acc : List UInt8) (m : Nat), qs n acc = some m -> m < 32 := by
  intro acc m h
  unfold qs at h
  cases hp : ptm n acc with
  | none => rw [hp] at h; cases h
  | some t =>
   rw [hp] at h
   dsimp only at h
   split at h
   ·cases h; exact (xF hn hp).2.1
   ·cases h
 intro rest
 induction rest with
 | nil =>
  intro pre acc F w hp hF hacc hw
  obtain ⟨G, rfl⟩ : ∃ G, F = G + 1 + 1 := ⟨F - 2, by simp at hF; omega⟩
  have hlen : l.length = pre.length := by rw [<- hp]; simp
  rw [show jV (β := β) N (G + 1 + 1) = fun v0 v1 v2 v3 v4 v5 v6 k0 k1 => Lk N v0 v1 v2 v3 v4 v5 v6 (fun v0 v1 v2 v3 v4 v5 v6 => jV N (G + 1) v0 v1 v2 v3 v4 v5 v6 k0 k1) k0 k1 from rfl]
  simp only [Lk, Lg, aE, hne48]
  rw [ajX (by omega : (pre.length : Int) <= (l.length : Int)), ajZ, akl, ajZ, aj2 (by omega : ¬ (pre.length : Int) < (l.length : Int)), ajY, term acc (by omega) w hw (fun v => jV N (G + 1) (n : Int) (B l) v ByteArray.empty (w64 ((pre.length : Int) + 1)) 0 0 k0 k1) (k0 false 0 0)]
  simp only [spl, ko]
  cases hq : qs n acc with
  | none => rfl
  | some m =>
   rw [aw _ (by omega)]
   simp only [jV, Lk, Lg, aE]
   rw [aj2 (by omega), ajY]
   rfl
 | cons b rest ih =>
  intro pre acc F w hp hF hacc hw
  simp only [aj4] at hF
  obtain ⟨G, rfl⟩ : ∃ G, F = G + 1 := ⟨F - 1, by omega⟩
  have hlen : l.length = pre.length + (rest.length + 1) := by rw [<- hp]; simp
  have hbt : bt (B l) (pre.length : Int) = (b.toNat : Int) := by rw [<- hp]; exact yT pre rest b
  have next := fun acc w h1 h2 => ih (pre ++ [b]) acc G w (by rw [<- hp]; simp) (by omega) h1 h2
  simp only [aj6, aj4, aki, akE] at next
  have hex : (l.take (pre.length + 1)).drop pre.length = [b] := by
   rw [<- hp, amt]
   simp
  simp only [jV, Lk, Lg, aE, hbt, hne48]
  rw [ajX (by omega : (pre.length : Int) <= (l.length : Int)), ajZ, akl, ajZ, ajX (by omega : (pre.length : Int) < (l.length : Int)), ajZ, ab (ajX (by omega)), ab rfl, aw _ (by omega), akc, akc, Lo, hex]
  by_cases h43 : b = 43
  ·subst h43
   rw [show ((((43 : UInt8).toNat : Nat) : Int) != 43) = false from rfl, ajY, term acc (by omega) w hw (fun v => jV N G (n : Int) (B l) v ByteArray.empty ((pre.length + 1 : Nat) : Int) 0 0 k0 k1) (k0 false 0 0)]
   simp only [spl, if_true, ko]
   cases hq : qs n acc with
   | none => rfl
   | some m => exact next [] (w ||| 2 ^ m) (by simp) (rV w m hw (qlt acc m hq)).2
  ·have hne : ((b.toNat : Int) != 43) = true := by
    rw [bne_iff_ne]
    intro e
    apply h43
    apply amr.1
    show b.toNat = 43
    omega
   rw [hne, ajZ, ab (ajX (by omega)), ab (ajX (by omega)), ab (ajX (by omega)), ab (ajX (by omega)), cK]
   simp only [aE]
   rw [ab (ajX (by simp; omega)), spl, if_neg h43]
   exact next (acc ++ [b]) w (by simp; omega) hw
theorem xl (c : UInt8) (l : List UInt8) : ∀ acc : List UInt8, c ∉ acc -> Lib.indexByte (acc ++ c :: l) c = (acc.length : Int)
 | [], _ => by simp [Lib.indexByte]
 | b :: acc, h => by
  have h1 : ¬ (b == c) = true := fun e => h (by rw [<- eq_of_beq e]; exact ako ..)
  have ih := xl c l acc fun h' => h (ake _ h')
  rw [ak4, Lib.indexByte, if_neg h1, ih, if_neg (by simp), aj4]
  omega
theorem nR (c : UInt8) : ∀ (l acc : List UInt8), c ∉ acc -> Lib.splitK [c] 0 (l.count c) (acc ++ l) = spl c acc l
 | [], acc, h => by rw [List.count_nil, akh]; rfl
 | b :: l, acc, h => by
  by_cases e : b = c
  ·subst e
   have hd : (acc ++ b :: l).drop (acc.length + 1) = l := by
    rw [show acc ++ b :: l = (acc ++ [b]) ++ l by simp]
    exact List.drop_left' (by simp)
   have := nR b l [] (by simp)
   rw [akH] at this
   rw [List.count_cons_self, spl, if_pos rfl, Lib.splitK, Lib.index_one, xl b l acc h, if_neg (by simp)]
   simp only [akc, ak0, aj4, aki, akE]
   rw [hd, List.take_left, this]
  ·rw [List.count_cons_of_ne (by simpa using e), spl, if_neg e, <- nR c l (acc ++ [b]) (by
    intro h'
    rcases akC.1 h' with h' | h'
    ·exact h h'
    ·simp at h'; exact e h'.symm)]
   simp
theorem vf (s : ByteArray) (c : UInt8) : Lib.splitB ⟨#[c]⟩ 0 (Lib.countB s ⟨#[c]⟩) s = (spl c [] s.data.toList).map B := by
 have h := Lib.splitB_data ⟨#[c]⟩ 0 (Lib.countB s ⟨#[c]⟩) s
 have e : Lib.countB s ⟨#[c]⟩ = s.data.toList.count c := Lib.count_one c _
 have k := nR c s.data.toList [] (by simp)
 rw [akH] at k
 rw [e] at h ⊢
 have h : (Lib.splitB ⟨#[c]⟩ 0 (s.data.toList.count c) s).map (·.data.toList) = spl c [] s.data.toList := h.trans k
 rw [<- h, alU]
 have : (B ∘ fun x : ByteArray => x.data.toList) = id := by
  funext x
  exact pW x
 rw [this, List.map_id]
theorem Jv (N n : Nat) (l : List UInt8) (hl : l.length <= 1000) (K0 : Int -> ByteArray -> Int -> Int -> Int -> Int -> Option β) : ∀ (rest pre : List UInt8) (F : Nat) (f : Bool) (m v : Nat), pre ++ rest = l -> rest.length < F -> m < 32 -> v < 32 ->
  nc N F (n : Int) (B l) (cond f 0 1) (l.length : Int) (pre.length : Int) 0 0 (m : Int) (v : Int) K0 = K0 (n : Int) (B l) 0 0 ((scn rest f m v).1 : Int) ((scn rest f m v).2 : Int) := by
 intro rest
 induction rest with
 | nil =>
  intro pre F f m v hp hF hm hv
  obtain ⟨G, rfl⟩ : ∃ G, F = G + 1 := ⟨F - 1, by simp at hF; omega⟩
  have hlen : l.length = pre.length := by rw [<- hp]; simp
  simp only [nc, Qn, HV, scn]
  rw [aj2 (by omega), ajY]
 | cons b rest ih =>
  intro pre F f m v hp hF hm hv
  simp only [aj4] at hF
  obtain ⟨G, rfl⟩ : ∃ G, F = G + 1 := ⟨F - 1, by omega⟩
  have hlen : l.length = pre.length + (rest.length + 1) := by rw [<- hp]; simp
  have hbt : bt (B l) (pre.length : Int) = (b.toNat : Int) := by rw [<- hp]; exact yT pre rest b
  have hb := b.toNat_lt
  have next := fun f m v hm hv => ih (pre ++ [b]) G f m v (by rw [<- hp]; simp) (by omega) hm hv
  simp only [aj6, aj4, aki, akE] at next
  simp only [nc, Qn, HV, hbt, aE, eE, HT, adn]
  rw [ajX (by omega : (pre.length : Int) < (l.length : Int)), ajZ, ab (ajX (by omega)), ab rfl, aw _ (by omega)]
  unfold scn
  by_cases h33 : b.toNat = 33
  ·rw [ajX h33, ajZ, if_pos h33]
   exact next true m v hm hv
  ·rw [aj2 h33, ajY, if_neg h33, ab (ajX (by omega)), ab rfl]
   by_cases h97 : 97 <= b.toNat
   ·rw [ajX (by omega : (b.toNat : Int) >= 97), ajZ]
    by_cases h102 : b.toNat < 102
    ·have hp5 := Zz (k := b.toNat - 97) (by omega)
     have hw : w8 ((b.toNat : Int) - 97) = ((b.toNat - 97 : Nat) : Int) := by
      rw [show (b.toNat : Int) - 97 = ((b.toNat - 97 : Nat) : Int) by omega, cT _ (by omega)]
     rw [ajX (by omega : (b.toNat : Int) < 102), ajZ, if_pos ⟨h97, h102⟩, hw, ab (ajX (by omega)), ab rfl, ab (ajX (by omega)), ab (ajX (by omega)), ab rfl, ab (ajX (by omega)), aM _ (by omega), bOr m _ (by omega) (by omega)]
     cases f with
     | false =>
      have e : aW .i64 (cond false 0 1) ((b.toNat - 97 : Nat) : Int) = ((2 ^ (b.toNat - 97) : Nat) : Int) := aM _ (by omega)
      rw [e, bOr v _ (by omega) (by omega)]
      exact next false _ _ (or5 hm hp5) (or5 hv hp5)
     | true =>
      have e : aW .i64 (cond true 0 1) ((b.toNat - 97 : Nat) : Int) = ((0 : Nat) : Int) := by
       have := rY 0 (b.toNat - 97) (by omega) (by omega)
       rw [alu] at this
       exact this
      rw [e, bOr v 0 (by omega) (by omega), Nat.or_zero]
      exact next false _ _ (or5 hm hp5) hv
    ·rw [aj2 (by omega), ajY, if_neg (by omega)]
     exact next f m v hm hv
   ·rw [aj2 (by omega), ajY, ajY, if_neg (by omega)]
    exact next f m v hm hv
theorem iC (N : Nat) (hN : 1048576 < N) (n : Nat) (hn : n <= 5) (l : List UInt8) (hl : l.length <= 1000) (K : Int -> Int -> Bool -> Option β) : jP N (n : Int) (B l) K = ptK (ptm n l) K := by
 unfold jP PC ptm
 rw [aG, ci, aG, aE]
 have he : ByteArray.empty.toList = ([] : List UInt8) := aG []
 by_cases h1 : l = [49]
 ·subst h1
  have e := fun K => dz (β := β) N hN n 0 0 hn (by decide) (by decide) K
  simp only [akO, GQ n hn] at e
  rw [if_pos rfl, e, he, aG]
  rfl
 ·obtain ⟨s1, s2⟩ := qH l false 0 0 (by decide) (by decide)
  have hs := Jv (β := β) N n l hl (fun e0 e1 e2 e3 e4 e5 => cond (e1.toList == ByteArray.empty.toList) (K 0 0 false) (jO N e0 e4 e5 fun r7 => cond (!(r7.toList == e1.toList)) (K 0 0 false) (K e4 e5 true))) l [] N false 0 0 rfl (by omega) (by decide) (by decide)
  have hne : (l == List.map (fun n : Int => UInt8.ofNat n.toNat) [49]) = false := beq_eq_false_iff_ne.2 h1
  rw [hne, akl, ajZ, if_neg h1]
  refine hs.trans ?_
  rw [aG, he, dz N hN n _ _ hn s1 s2, aG]
  by_cases h0 : l = []
  ·subst h0; rfl
  ·rw [beq_eq_false_iff_ne.2 h0, ajY, if_neg h0]
   by_cases h2 : ftb n (scn l false 0 0).1 (scn l false 0 0).2 = l
   ·rw [if_pos h2, beq_iff_eq.2 h2]; rfl
   ·rw [if_neg h2, beq_eq_false_iff_ne.2 h2]; rfl
theorem wg (N : Nat) (hN : 1048576 < N) (n : Nat) (hn : n <= 5) (lB : ByteArray) (ps : List (List UInt8)) (hps : ps.length <= 1000) (hp1 : ∀ p ∈ ps, p.length <= 1000)
  (k0 : Bool -> Int -> Int -> Option β) (k1 : ByteArray -> Int -> Int -> Int -> Int -> Option β) : ∀ (rest pre : List (List UInt8)) (F w : Nat), pre ++ rest = ps -> rest.length < F -> w < 4294967296 ->
  ng N F (n : Int) lB (ps.length : Int) (pre.length : Int) 0 0 (n : Int) (w : Int) (ps.map B) k0 k1 = xL (ko (qi n) rest w) (fun w => k1 lB 0 0 (n : Int) (w : Int)) (k0 false 0 0) := by
 intro rest
 induction rest with
 | nil =>
  intro pre F w hp hF hw
  obtain ⟨G, rfl⟩ : ∃ G, F = G + 1 := ⟨F - 1, by simp at hF; omega⟩
  have hlen : ps.length = pre.length := by rw [<- hp]; simp
  simp only [ng, Qq, HY]
  rw [aj2 (by omega), ajY]
  rfl
 | cons p rest ih =>
  intro pre F w hp hF hw
  simp only [aj4] at hF
  obtain ⟨G, rfl⟩ : ∃ G, F = G + 1 := ⟨F - 1, by omega⟩
  have hlen : ps.length = pre.length + (rest.length + 1) := by rw [<- hp]; simp
  have hrd : rd ByteArray.empty (ps.map B) (pre.length : Int) = B p := by
   rw [<- hp]
   simp [rd, amA]
  have next := fun w h => ih (pre ++ [p]) G w (by rw [<- hp]; simp) (by omega) h
  simp only [aj6, aj4, aki, akE] at next
  simp only [ng, Qq, HY, hrd, akx]
  rw [ajX (by omega : (pre.length : Int) < (ps.length : Int)), ajZ, ab (ajX (by omega)), ab rfl, iC N hN n hn p (hp1 p (by rw [<- hp]; simp)), aw _ (by omega)]
  simp only [ko, qi]
  cases hq : ptm n p with
  | none => rfl
  | some t =>
   have ht := (xF hn hq).2
   simp only [ptK, aj5, ajY]
   rw [ab (ajX (by omega)), (rV w t.1 hw ht.1).1]
   exact next (w ||| 2 ^ t.1) (rV w t.1 hw ht.1).2
theorem R1 : ∀ n, n <= 5 -> ∀ m, m < 32 -> ∀ v, v < 32 -> (!okT n m v || (m == v || (ftb n m v).contains 33)) = true := by decide +kernel
theorem YB (n : Nat) (hn : n <= 5) (m : Nat) (hm : m < 32) (v : Nat) (hv : v < 32) (h : okT n m v = true) (hne : m ≠ v) : (33 : UInt8) ∈ ftb n m v := by
 have := R1 n hn m hm v hv
 rw [h, beq_eq_false_iff_ne.2 hne, aj5, ak7, ak7] at this
 exact alk.1 this
theorem ZB (n : Nat) (hn : n <= 5) (p : List UInt8) (t : Nat × Nat) (h : ptm n p = some t) (hne : t.1 ≠ t.2) : (33 : UInt8) ∈ p := by
 obtain ⟨h1, h2, h3⟩ := xF hn h
 have := YB n hn t.1 h2 t.2 h3 h1 hne
 unfold ptm at h
 split at h
 ·cases h; exact absurd rfl hne
 ·split at h
  ·cases h
  ·split at h
   ·rename_i e; cases h; rw [e] at this; exact this
   ·cases h
theorem uZ (n : Nat) (hn : n <= 5) : ∀ (ps : List (List UInt8)) (w : Nat), ko (qs n) ps w = ko (qi n) ps w \/ (ko (qs n) ps w = none /\ ∃ p ∈ ps, (33 : UInt8) ∈ p)
 | [], w => .inl rfl
 | p :: ps, w => by
  unfold ko qs qi
  cases hp : ptm n p with
  | none => exact .inl rfl
  | some t =>
   dsimp only
   by_cases h : t.1 = t.2
   ·rw [if_pos h]
    dsimp only
    rcases uZ n hn ps (w ||| 2 ^ t.1) with h | ⟨h1, q, hq, hb⟩
    ·exact .inl h
    ·exact .inr ⟨h1, q, by simp [hq], hb⟩
   ·rw [if_neg h]
    exact .inr ⟨rfl, p, by simp, ZB n hn p t hp h⟩
theorem Ap (c b : UInt8) : ∀ (l acc : List UInt8), ∀ p ∈ spl c acc l, b ∈ p -> b ∈ acc \/ b ∈ l
 | [], acc, p, hp, hb => by simp only [spl, akJ] at hp; subst hp; exact .inl hb
 | d :: l, acc, p, hp, hb => by
  unfold spl at hp
  split at hp
  ·rcases akf.1 hp with rfl | hp
   ·exact .inl hb
   ·rcases Ap c b l [] p hp hb with h | h
    ·cases h
    ·exact .inr (by simp [h])
  ·rcases Ap c b l (acc ++ [d]) p hp hb with h | h
   ·rcases akC.1 h with h | h
    ·exact .inl h
    ·simp only [akJ] at h; exact .inr (by simp [h])
   ·exact .inr (by simp [h])
theorem Nv (c b : UInt8) : ∀ l : List (List UInt8), b ∈ Lib.join l [c] -> b = c \/ ∃ x ∈ l, b ∈ x
 | [], h => by simp [Lib.join] at h
 | x :: l, h => by
  rw [Lib.join_cons, akC] at h
  rcases h with h | h
  ·exact .inr ⟨x, by simp, h⟩
  ·simp only [Lib.joinTail, List.mem_flatten, akq] at h
   obtain ⟨y, ⟨z, hz, rfl⟩, hb⟩ := h
   rcases akC.1 hb with hb | hb
   ·exact .inl (by simpa using hb)
   ·exact .inr ⟨z, by simp [hz], hb⟩
theorem Ni : ∀ n, n <= 5 -> ∀ m, m < 2 ^ n -> (33 : UInt8) ∉ ftb n m m := by decide +kernel
theorem IH (w n : Nat) (hn : n <= 5) : (33 : UInt8) ∉ nA w n := by
 intro h
 unfold nA at h
 cases h0 : mJ n (cx w n).testBit (2 ^ n) == [] with
 | true => rw [h0, ajZ] at h; revert h; decide
 | false =>
  rw [h0, ajY] at h
  rcases Nv 43 33 _ h with e | ⟨x, hx, hb⟩
  ·revert e; decide
  ·obtain ⟨t, ht, rfl⟩ := akq.1 hx
   have := rS _ _ t ht
   rw [this.2] at hb
   exact Ni n hn t.1 (by omega) hb
theorem Lm (N : Nat) (hN : 1048576 < N) (n : Nat) (hn : n <= 5) (l : List UInt8) :
  ∃ (n' w : Int) (b : Bool), Tb n' w b /\ (∀ K : Int -> Int -> Bool -> Option β, wz N (n : Int) (B l) K = K n' w b) /\ (∀ K : Int -> Int -> Bool -> Option β, nh N (n : Int) (B l) K = K n' w b) := by
 have h1in : ∀ K : Bool -> Option β, bK N (n : Int) 0 5 K = K true := fun K => by
  rw [aX, ajX (by omega : (0 : Int) <= (n : Int)), ajX (by omega : (n : Int) <= 5)]
  rfl
 have hbits : ∀ K : Bool -> Option β, zj7 N (n : Int) K = K true := fun K => by
  unfold zj7 zb7
  rw [ajX (by omega : (n : Int) >= 0), ajZ, ajX (by omega : (n : Int) <= 5)]
 by_cases hlen : l.length <= 200
 ·have h48 : ((B l).toList == (aq [48]).toList) = (l == [48]) := by rw [aG, ci, aG]; rfl
  have tail : ∀ (w : Nat), w < 2 ^ 2 ^ n -> ∀ (K : Int -> Int -> Bool -> Option β), (pU N (n : Int) (w : Int) fun r14 => qQ N (n : Int) r14 fun r15 => cond (!(r15.toList == (B l).toList)) (K 0 0 false) (K (n : Int) r14 true)) = cond (nA (cx w n) n == l) (K (n : Int) (cx w n : Int) true) (K 0 0 false) := fun w hw K => by
   rw [mX N hN n w hn (gf hn hw), iM N hN n _ hn (rJ _ _), aG, aG]
   cases nA (cx w n) n == l <;> rfl
  have tailI : ∀ (w : Nat), w < 2 ^ 2 ^ n -> ∀ (K : Int -> Int -> Bool -> Option β), (gr N (n : Int) (w : Int) fun r12 r13 => iW N r12 r13 fun r14 => cond (!(r14.toList == (B l).toList)) (K 0 0 false) (K r12 r13 true)) = cond (nA (cx w n) n == l) (K (n : Int) (cx w n : Int) true) (K 0 0 false) := fun w hw K => by
   rw [tB N hN n w hn (gf hn hw), iB N hN n _ hn (rJ _ _), aG, aG]
   cases nA (cx w n) n == l <;> rfl
  cases hl0 : (l == [48]) with
  | true =>
   have e1 : ∀ K : Int -> Int -> Bool -> Option β, wz N (n : Int) (B l) K = cond (nA (cx 0 n) n == l) (K (n : Int) (cx 0 n : Int) true) (K 0 0 false) := fun K => by
    unfold wz P5
    obtain ⟨G, hG⟩ : ∃ G, N = G + 1 := ⟨N - 1, by omega⟩
    rw [h1in, aj5, ajY, aE, aj2 (by omega), ajY]
    have : ∀ (k0 : Bool -> Int -> Int -> Option β) (k1 : Int -> ByteArray -> Int -> Int -> Int -> Option β), jV N N (n : Int) (B l) 0 ByteArray.empty 0 0 0 k0 k1 = k1 (n : Int) (B l) 0 0 0 := fun k0 k1 => by
     rw [show jV (β := β) N N = jV N (G + 1) by rw [hG]]
     simp only [jV, Lk, Lg, aE, h48, hl0]
     rw [ajX (by omega : (0 : Int) <= (l.length : Int))]
     rfl
    rw [this]
    exact tail 0 (sa _) K
   have e2 : ∀ K : Int -> Int -> Bool -> Option β, nh N (n : Int) (B l) K = cond (nA (cx 0 n) n == l) (K (n : Int) (cx 0 n : Int) true) (K 0 0 false) := fun K => by
    unfold nh Dh
    rw [hbits, aj5, ajY, aE, aj2 (by omega), ajY, h48, hl0, aj5, ajY]
    exact tailI 0 (sa _) K
   cases hf : nA (cx 0 n) n == l with
   | true => exact ⟨_, _, true, AU hn (rJ _ _), fun K => by rw [e1, hf, ajZ], fun K => by rw [e2, hf, ajZ]⟩
   | false => exact ⟨0, 0, false, fg, fun K => by rw [e1, hf, ajY], fun K => by rw [e2, hf, ajY]⟩
  | false =>
   obtain ⟨h1, h2⟩ := rZ 43 l []
   simp only [aki, akE] at h2
   have hw0 : ∀ w, ko (qi n) (spl 43 [] l) 0 = some w -> w < 2 ^ 2 ^ n := fun w h => xN n hn _ 0 w h (sa _)
   have e1 : ∀ K : Int -> Int -> Bool -> Option β, wz N (n : Int) (B l) K = xL (ko (qs n) (spl 43 [] l) 0) (fun w => pU N (n : Int) (w : Int) fun r14 => qQ N (n : Int) r14 fun r15 => cond (!(r15.toList == (B l).toList)) (K 0 0 false) (K (n : Int) r14 true)) (K 0 0 false) := fun K => by
    unfold wz P5
    rw [h1in, aj5, ajY, aE, aj2 (by omega), ajY]
    exact wt N hN n hn l hlen hl0 (fun e0 e1 e2 => K e1 e2 e0) (fun e13_0 e13_1 e13_2 _ _ => pU N e13_0 e13_2 fun r14 => qQ N e13_0 r14 fun r15 => cond (!(r15.toList == e13_1.toList)) (K 0 0 false) (K e13_0 r14 true)) l [] [] N 0 rfl (by omega) (by simp) (by omega)
   have e2 : ∀ K : Int -> Int -> Bool -> Option β, nh N (n : Int) (B l) K = xL (ko (qi n) (spl 43 [] l) 0) (fun w => gr N (n : Int) (w : Int) fun r12 r13 => iW N r12 r13 fun r14 => cond (!(r14.toList == (B l).toList)) (K 0 0 false) (K r12 r13 true)) (K 0 0 false) := fun K => by
    unfold nh Dh strings_Split
    have hsep : aq [43] = ⟨#[43]⟩ := rfl
    rw [hbits, aj5, ajY, aE, aj2 (by omega), ajY, h48, hl0, akl, ajZ, hsep, ab (ajX (show (⟨#[43]⟩ : ByteArray).size = 1 from rfl)), ab (ajX (by omega)), vf, Lp]
    dsimp only
    rw [akx]
    exact wg N hN n hn (B l) (spl 43 [] l) (by omega) (fun p hp => by have := h2 p hp; omega) (fun e0 e1 e2 => K e1 e2 e0) (fun e0 _ _ e3 e4 => gr N e3 e4 fun r12 r13 => iW N r12 r13 fun r14 => cond (!(r14.toList == e0.toList)) (K 0 0 false) (K r12 r13 true)) (spl 43 [] l) [] N 0 rfl (by omega) (by omega)
   rcases uZ n hn (spl 43 [] l) 0 with hsame | ⟨hnone, p, hp, hb⟩
   ·rw [hsame] at e1
    cases hr : ko (qi n) (spl 43 [] l) 0 with
    | none => exact ⟨0, 0, false, fg, fun K => by rw [e1, hr]; rfl, fun K => by rw [e2, hr]; rfl⟩
    | some w =>
     rw [hr] at e1 e2
     simp only [xL] at e1 e2
     have hw := hw0 w hr
     cases hf : nA (cx w n) n == l with
     | true => exact ⟨_, _, true, AU hn (rJ _ _), fun K => by rw [e1, tail w hw, hf, ajZ], fun K => by rw [e2, tailI w hw, hf, ajZ]⟩
     | false => exact ⟨0, 0, false, fg, fun K => by rw [e1, tail w hw, hf, ajY], fun K => by rw [e2, tailI w hw, hf, ajY]⟩
   ·refine ⟨0, 0, false, fg, fun K => by rw [e1, hnone]; rfl, fun K => ?_⟩
    cases hr : ko (qi n) (spl 43 [] l) 0 with
    | none => rw [e2, hr]; rfl
    | some w =>
     rw [e2, hr]
     simp only [xL]
     have hf : (nA (cx w n) n == l) = false := by
      rw [beq_eq_false_iff_ne]
      intro e
      rcases Ap 43 33 l [] p hp hb with h | h
      ·cases h
      ·rw [<- e] at h; exact IH _ n hn h
     rw [tailI w (hw0 w hr), hf, ajY]
 ·refine ⟨0, 0, false, fg, fun K => ?_, fun K => ?_⟩
  ·unfold wz P5
   rw [h1in, aj5, ajY, aE, ajX (by omega), ajZ]
  ·unfold nh Dh
   rw [hbits, aj5, ajY, aE, ajX (by omega), ajZ]
def CI (o : Option (List (Nat × Nat))) (k1 : List (Nat × Nat) -> Option β) (k0 : Option β) : Option β := match o with
 | some o => k1 o
 | none => k0
def run (q : List UInt8 -> Option (Nat × Nat)) : List (List UInt8) -> List (Nat × Nat) -> Option (List (Nat × Nat))
 | [], out => some out
 | p :: ps, out => match q p with
  | some t => run q ps (out ++ [t])
  | none => none
theorem CZ (N : Nat) (a : Int) (q : List UInt8 -> Option (Nat × Nat)) (hq : ∀ p, p.length <= 1000 -> ∀ K : Int -> Int -> Bool -> Option β, oH N a (B p) K = ptK (q p) K) (l : List UInt8) (hl : l.length <= 200)
  (k0 : Bool -> List (Int × Int) -> Option β) (k1 : Int -> ByteArray -> List (Int × Int) -> Option β) : ∀ (rest pre acc : List UInt8) (F : Nat) (out : List (Nat × Nat)), pre ++ rest = l -> rest.length + 1 < F -> acc.length <= pre.length -> out.length <= pre.length ->
  pV N F a (B l) (B acc) (pre.length : Int) (tl out) k0 k1 = CI (run q (spl 124 acc rest) out) (fun o => k1 a (B l) (tl o)) (k0 false []) := by
 intro rest
 induction rest with
 | nil =>
  intro pre acc F out hp hF hacc hout
  obtain ⟨G, rfl⟩ : ∃ G, F = G + 1 + 1 := ⟨F - 2, by simp at hF; omega⟩
  have hlen : l.length = pre.length := by rw [<- hp]; simp
  rw [show pV (β := β) N (G + 1 + 1) = fun v0 v1 v2 v3 v4 k0 k1 => Ll N v0 v1 v2 v3 v4 (fun v0 v1 v2 v3 v4 => pV N (G + 1) v0 v1 v2 v3 v4 k0 k1) k0 k1 from rfl]
  simp only [Ll, Lh, aE]
  rw [ajX (by omega : (pre.length : Int) <= (l.length : Int)), ajZ, ajX (by omega : (l.length : Int) <= 200), ajZ, aj2 (by omega : ¬ (pre.length : Int) < (l.length : Int)), ajY, hq acc (by omega)]
  simp only [spl, run]
  cases hqa : q acc with
  | none => rfl
  | some t =>
   simp only [ptK, aj5, ajY, akH, aj4, aki]
   rw [ab (ajX (by rw [bE]; omega)), <- jI, aw _ (by omega)]
   simp only [pV, Ll, Lh, aE]
   rw [aj2 (by omega), ajY]
   rfl
 | cons b rest ih =>
  intro pre acc F out hp hF hacc hout
  simp only [aj4] at hF
  obtain ⟨G, rfl⟩ : ∃ G, F = G + 1 := ⟨F - 1, by omega⟩
  have hlen : l.length = pre.length + (rest.length + 1) := by rw [<- hp]; simp
  have hbt : bt (B l) (pre.length : Int) = (b.toNat : Int) := by rw [<- hp]; exact yT pre rest b
  have next := fun acc out h1 h2 => ih (pre ++ [b]) acc G out (by rw [<- hp]; simp) (by omega) h1 h2
  simp only [aj6, aj4, aki, akE] at next
  have hex : (l.take (pre.length + 1)).drop pre.length = [b] := by
   rw [<- hp, amt]
   simp
  simp only [pV, Ll, Lh, aE, hbt]
  rw [ajX (by omega : (pre.length : Int) <= (l.length : Int)), ajZ, ajX (by omega : (l.length : Int) <= 200), ajZ, ajX (by omega : (pre.length : Int) < (l.length : Int)), ajZ, ab (ajX (by omega)), ab rfl, aw _ (by omega), akc, akc, Lo, hex]
  by_cases h124 : b = 124
  ·subst h124
   rw [show ((((124 : UInt8).toNat : Nat) : Int) != 124) = false from rfl, ajY, hq acc (by omega)]
   simp only [spl, if_true, run]
   cases hqa : q acc with
   | none => rfl
   | some t =>
    simp only [ptK, aj5, ajY, akH, aj4, aki]
    rw [ab (ajX (by rw [bE]; omega)), <- jI]
    exact next [] (out ++ [t]) (by simp) (by simp; omega)
  ·have hne : ((b.toNat : Int) != 124) = true := by
    rw [bne_iff_ne]
    intro e
    apply h124
    apply amr.1
    show b.toNat = 124
    omega
   rw [hne, ajZ, ab (ajX (by omega)), ab (ajX (by omega)), ab (ajX (by omega)), ab (ajX (by omega)), cK]
   simp only [aE]
   rw [ab (ajX (by simp; omega)), spl, if_neg h124]
   exact next (acc ++ [b]) out (by simp; omega) (by omega)
section
variable (N : Nat) (hN : 1048576 < N) (a : Int) (ha : (decide (0 <= a) && decide (a <= 5)) = false)
include ha
theorem rE (m v : Int) (K : Bool -> Option β) : jK N a m v K = K false := by
 unfold jK VG
 rw [aX, ha]
 rfl
end
section
variable (N : Nat) (hN : 1048576 < N) (a : Int) (ha : (decide (0 <= a) && decide (a <= 5)) = false)
include ha
include hN
theorem mM (m v : Int) (K : ByteArray -> Option β) : ja N a m v K = K (B []) := by
 have e := fun m v (K : Bool -> Option β) => rE N a ha m v K
 obtain ⟨G, rfl⟩ : ∃ G, N = G + 1 := ⟨N - 1, by omega⟩
 unfold ja VH
 simp only [rH, QH, Lf, e, ajY]
 rw [beq_self_eq_true, ajZ]
 rfl
end
section
variable (N : Nat) (hN : 1048576 < N) (a : Int) (ha : (decide (0 <= a) && decide (a <= 5)) = false)
include ha
include hN
theorem nP (l : List UInt8) (hl : l.length <= 1000) (K : Int -> Int -> Bool -> Option β) : oH N a (B l) K = K 0 0 false := by
 have he : ByteArray.empty.toList = ([] : List UInt8) := aG []
 have hF := fun m v (K : ByteArray -> Option β) => mM N hN a ha m v K
 have hk1 : ∀ m v : Int, (cond ((B l).toList == ByteArray.empty.toList) (K 0 0 false) (ja N a m v fun r9 => cond (!(r9.toList == (B l).toList)) (K 0 0 false) (K m v true))) = K 0 0 false := fun m v => by
  rw [hF, aG, he, aG]
  cases l with
  | nil => rfl
  | cons b l => rfl
 unfold oH VI
 by_cases h1 : l = [49]
 ·obtain ⟨G, hG⟩ : ∃ G, N = G + 1 := ⟨N - 1, by omega⟩
  have hq : ((B l).toList == (aq [49]).toList) = true := by rw [aG, ci, aG, h1]; rfl
  rw [show l7 (β := β) N N = l7 N (G + 1) by rw [<- hG]]
  simp only [l7, FH, Dq, hq, aj5, ajY]
  cases decide ((0 : Int) < ((B l).size : Int)) <;> exact hk1 0 0
 ·have hq : ((B l).toList == (aq [49]).toList) = false := by
   rw [aG, ci, aG]
   exact beq_eq_false_iff_ne.2 h1
  have main : ∀ (rest pre : List UInt8) (F : Nat) (f : Bool), pre ++ rest = l -> rest.length < F ->
    l7 N F a (B l) f (pre.length : Int) 0 0 0 0 (fun e0 e1 e2 => K e1 e2 e0) (fun e0 e1 e2 e3 e4 e5 => cond (e1.toList == ByteArray.empty.toList) (K 0 0 false) (ja N e0 e4 e5 fun r9 => cond (!(r9.toList == e1.toList)) (K 0 0 false) (K e4 e5 true))) = K 0 0 false := by
   intro rest
   induction rest with
   | nil =>
    intro pre F f hp hF
    obtain ⟨G, rfl⟩ : ∃ G, F = G + 1 := ⟨F - 1, by simp at hF; omega⟩
    have hlen : l.length = pre.length := by rw [<- hp]; simp
    simp only [l7, FH, Dq, aE]
    rw [aj2 (by omega), ajY]
    exact hk1 0 0
   | cons b rest ih =>
    intro pre F f hp hF
    simp only [aj4] at hF
    obtain ⟨G, rfl⟩ : ∃ G, F = G + 1 := ⟨F - 1, by omega⟩
    have hlen : l.length = pre.length + (rest.length + 1) := by rw [<- hp]; simp
    have next := fun f => ih (pre ++ [b]) G f (by rw [<- hp]; simp) (by omega)
    simp only [aj6, aj4, aki, akE] at next
    simp only [l7, FH, Dq, aE, hq, aX, ha]
    rw [ajX (by omega : (pre.length : Int) < (l.length : Int)), ajZ, akl, ajZ, ab (ajX (by omega)), ab rfl, aw _ (by omega)]
    cases bt (B l) (pre.length : Int) == 33 with
    | true => rw [ajZ]; exact next true
    | false => rw [ajY, ab (ajX (by omega)), ab rfl, ajZ]
  exact main l [] N false rfl (by omega)
end
theorem Ns (N : Nat) (a : Int) (q : List UInt8 -> Option (Nat × Nat)) (hq : ∀ p, p.length <= 1000 -> ∀ K : Int -> Int -> Bool -> Option β, jP N a (B p) K = ptK (q p) K) (ps : List (List UInt8)) (hps : ps.length <= 1000) (hp1 : ∀ p ∈ ps, p.length <= 1000)
  (k0 : Bool -> List (Int × Int) -> Option β) (k1 : Int -> List (Int × Int) -> Option β) : ∀ (rest pre : List (List UInt8)) (F : Nat) (out : List (Nat × Nat)), pre ++ rest = ps -> rest.length < F -> out.length <= pre.length ->
  ni N F a (ps.length : Int) (pre.length : Int) (tl out) (ps.map B) k0 k1 = CI (run q rest out) (fun o => k1 a (tl o)) (k0 false []) := by
 intro rest
 induction rest with
 | nil =>
  intro pre F out hp hF hout
  obtain ⟨G, rfl⟩ : ∃ G, F = G + 1 := ⟨F - 1, by simp at hF; omega⟩
  have hlen : ps.length = pre.length := by rw [<- hp]; simp
  simp only [ni, Qr, H0]
  rw [aj2 (by omega), ajY]
  rfl
 | cons p rest ih =>
  intro pre F out hp hF hout
  simp only [aj4] at hF
  obtain ⟨G, rfl⟩ : ∃ G, F = G + 1 := ⟨F - 1, by omega⟩
  have hlen : ps.length = pre.length + (rest.length + 1) := by rw [<- hp]; simp
  have hrd : rd ByteArray.empty (ps.map B) (pre.length : Int) = B p := by
   rw [<- hp]
   simp [rd, amA]
  have next := fun out h => ih (pre ++ [p]) G out (by rw [<- hp]; simp) (by omega) h
  simp only [aj6, aj4, aki, akE] at next
  simp only [ni, Qr, H0, hrd, akx]
  rw [ajX (by omega : (pre.length : Int) < (ps.length : Int)), ajZ, ab (ajX (by omega)), ab rfl, hq p (hp1 p (by rw [<- hp]; simp)), aw _ (by omega)]
  simp only [run]
  cases hqa : q p with
  | none => rfl
  | some t =>
   simp only [ptK, aj5, ajY, akH, aj4, aki]
   rw [ab (ajX (by rw [bE]; omega)), <- jI]
   exact next (out ++ [t]) (by simp; omega)
theorem OK {q : List UInt8 -> Option (Nat × Nat)} {p : Nat × Nat -> Prop} (hq : ∀ l t, q l = some t -> p t) : ∀ (ps : List (List UInt8)) (out o : List (Nat × Nat)), run q ps out = some o -> (∀ t ∈ out, p t) -> (∀ t ∈ o, p t) /\ o.length = out.length + ps.length
 | [], out, o, h, ho => by cases h; exact ⟨ho, rfl⟩
 | l :: ps, out, o, h, ho => by
  unfold run at h
  cases hl : q l with
  | none => rw [hl] at h; cases h
  | some t =>
   rw [hl] at h
   obtain ⟨h1, h2⟩ := OK hq ps (out ++ [t]) o h fun x hx => by
    rcases akC.1 hx with hx | hx
    ·exact ho x hx
    ·simp only [akJ] at hx; rw [hx]; exact hq _ _ hl
   refine ⟨h1, ?_⟩
   rw [h2]
   simp
   omega
theorem tE (N : Nat) (hN : 1048576 < N) (n : Nat) (hn : n <= 5) (o : List (Nat × Nat)) (ho : o.length <= 1000) (hg : ∀ t ∈ o, qR n t) (K : Bool -> Option β) : pN N (n : Int) (tl o) K = K (decide ((o.length : Int) <= 40)) := by
 unfold pN PG pM HZ zj7 zb7 wv PA FG Pt
 rw [ajX (by omega : (n : Int) >= 0), ajZ, ajX (by omega : (n : Int) <= 5)]
 dsimp only
 rw [ajZ, bE]
 have main := fun (K : Int -> Option β) => a6 (fun F i => mO N (fun x0 x1 k => gP N x0 x1 (n : Int) k) F (tl o) (o.length : Int) (i : Int) (fun e => K e) (K (-1))) o.length (K (-1)) (fun F i hi => by
  obtain ⟨h1, h2, h3⟩ := hg o[i] (akn hi)
  simp only [mO, Qi, FF, bE, pw o i hi, gP, Vv]
  rw [ajX (by omega : (i : Int) < (o.length : Int)), ajZ, ab (ajX (by omega)), ab rfl, gG N n _ _ hn h2 h3, h1, aj5, ajY, aw i (by omega)]) (fun F => by
  simp only [mO, Qi, FF]
  rw [aj2 (by omega), ajY]) N 0 (by omega) (by omega)
 refine (main _).trans ?_
 rfl
theorem LA (N : Nat) (hN : 1048576 < N) (a : Int) (l : List UInt8) :
    ∃ (o : List (Nat × Nat)) (b : Bool), o.length <= 40 /\ (∀ n : Nat, a = n -> n <= 5 -> ∀ t ∈ o, qR n t) /\ (∀ K : List (Int × Int) -> Bool -> Option β, vQ N a (B l) K = K (tl o) b) /\ (∀ K : List (Int × Int) -> Bool -> Option β, lY N a (B l) K = K (tl o) b) := by
  have h48 : ((B l).toList == (aq [48]).toList) = (l == [48]) := by rw [aG, ci, aG]; rfl
  have hbits : ∀ K : Bool -> Option β, zj7 N a K = K (decide (0 <= a) && decide (a <= 5)) := fun K => by
    unfold zj7 zb7
    by_cases h : 0 <= a
    · rw [ajX (show a >= 0 from h), ajZ, aj9]
    · rw [aj2 (show ¬ a >= 0 from h)]; rfl
  cases hl0 : (l == [48]) with
  | true =>
    refine ⟨[], (decide (0 <= a) && decide (a <= 5)), by simp, by simp, fun K => ?_, fun K => ?_⟩
    · unfold vQ P6
      rw [h48, hl0, ajZ, aX]
      rfl
    · have hl := eq_of_beq hl0
      unfold lY yj
      rw [hbits, h48, hl0, aE, hl]
      cases (decide (0 <= a) && decide (a <= 5)) <;> rfl
  | false =>
    by_cases hlen : l.length <= 200
    · have hs : ∀ K : List (Int × Int) -> Bool -> Option β, vQ N a (B l) K = pV N N a (B l) (B []) (([] : List UInt8).length : Int) (tl []) (fun e0 e1 => K e1 e0) (fun e0 e1 e2 => cond (decide ((e1.size : Int) > 200)) (K [] false) (oI N e0 e2 fun r13 => cond (!r13) (K [] false) (K e2 true))) := fun K => by
        unfold vQ P6
        rw [h48, hl0]
        rfl
      cases hn : (decide (0 <= a) && decide (a <= 5)) with
      | false =>
        refine ⟨[], false, by simp, by simp, fun K => ?_, fun K => ?_⟩
        · rw [hs, CZ N a (fun _ => none) (fun p hp K => nP N hN a hn p hp K) l hlen _ _ l [] [] N [] rfl (by omega) (by simp) (by simp)]
          have : run (fun _ => none) (spl 124 [] l) [] = none := by
            have hne : spl 124 [] l ≠ [] := by
              cases l with
              | nil => simp [spl]
              | cons b l => unfold spl; split; · simp
                            · intro h
                              have key : ∀ (l acc : List UInt8), spl 124 acc l ≠ [] := by
                                intro l
                                induction l with
                                | nil => intro acc; simp [spl]
                                | cons b l ih => intro acc; unfold spl; split; · simp
                                                 · exact ih _
                              exact key _ _ h
            cases hsp : spl 124 [] l with
            | nil => exact absurd hsp hne
            | cons p ps => rfl
          rw [this]
          rfl
        · unfold lY yj
          rw [hbits, hn]
          rfl
      | true =>
        simp only [aj0, decide_eq_true_eq] at hn
        obtain ⟨n, rfl⟩ := akT hn.1
        have hn5 : n <= 5 := by omega
        obtain ⟨h1, h2⟩ := rZ 124 l []
        simp only [aki, akE] at h2
        have e1 : ∀ K : List (Int × Int) -> Bool -> Option β, vQ N (n : Int) (B l) K = CI (run (ptm n) (spl 124 [] l) []) (fun o => oI N (n : Int) (tl o) fun r13 => cond (!r13) (K [] false) (K (tl o) true)) (K [] false) := fun K => by
          rw [hs, CZ N n (ptm n) (fun p hp K => iN N hN n hn5 p hp K) l hlen _ _ l [] [] N [] rfl (by omega) (by simp) (by simp)]
          congr 1
          funext o
          rw [aE, aj2 (by omega), ajY]
        have e2 : ∀ K : List (Int × Int) -> Bool -> Option β, lY N (n : Int) (B l) K = CI (run (ptm n) (spl 124 [] l) []) (fun o => pN N (n : Int) (tl o) fun r11 => cond (!r11) (K [] false) (K (tl o) true)) (K [] false) := fun K => by
          unfold lY yj strings_Split
          have hsep : aq [124] = ⟨#[124]⟩ := rfl
          rw [hbits, ajX (by omega : (0 : Int) <= (n : Int)), ajX (by omega : (n : Int) <= 5), alo, aj5, ajY, aE, aj2 (by omega), ajY, h48, hl0, ajY, hsep, ab (ajX (show (⟨#[124]⟩ : ByteArray).size = 1 from rfl)), ab (ajX (by omega)), vf, Lp]
          dsimp only
          rw [akx]
          exact Ns N n (ptm n) (fun p hp K => iC N hN n hn5 p hp K) (spl 124 [] l) (by omega) (fun p hp => by have := h2 p hp; omega) (fun e0 e1 => K e1 e0) (fun e0 e1 => pN N e0 e1 fun r11 => cond (!r11) (K [] false) (K e1 true)) (spl 124 [] l) [] N [] rfl (by omega) (by simp)
        cases hr : run (ptm n) (spl 124 [] l) [] with
        | none => exact ⟨[], false, by simp, by simp, fun K => by rw [e1, hr]; rfl, fun K => by rw [e2, hr]; rfl⟩
        | some o =>
          obtain ⟨g1, g2⟩ := OK (p := qR n) (fun l t h => xF hn5 h) _ _ _ hr (by simp)
          simp only [aki, akE] at g2
          by_cases h40 : o.length <= 40
          · refine ⟨o, true, h40, fun m hm _ t ht => (show m = n by omega) ▸ g1 t ht, fun K => ?_, fun K => ?_⟩
            · rw [e1, hr]
              simp only [CI]
              rw [nQ N hN n hn5 o (by omega) g1, ajX (by omega)]
              rfl
            · rw [e2, hr]
              simp only [CI]
              rw [tE N hN n hn5 o (by omega) g1, ajX (by omega)]
              rfl
          · refine ⟨[], false, by simp, by simp, fun K => ?_, fun K => ?_⟩
            · rw [e1, hr]
              simp only [CI]
              rw [nQ N hN n hn5 o (by omega) g1, aj2 (by omega)]
              rfl
            · rw [e2, hr]
              simp only [CI]
              rw [tE N hN n hn5 o (by omega) g1, aj2 (by omega)]
              rfl
    · refine ⟨[], false, by simp, by simp, fun K => ?_, fun K => ?_⟩
      · unfold vQ P6
        rw [h48, hl0, ajY]
        obtain ⟨G, rfl⟩ : ∃ G, N = G + 1 := ⟨N - 1, by omega⟩
        simp only [pV, Ll, Lh, aE]
        rw [ajX (by omega : (0 : Int) <= (l.length : Int)), ajZ, aj2 (by omega : ¬ (l.length : Int) <= 200), ajY, ajX (by omega), ajZ]
        rfl
      · unfold lY yj
        rw [hbits, aE, ajX (by omega : (l.length : Int) > 200)]
        cases (decide (0 <= a) && decide (a <= 5)) <;> rfl
def hold (o : List (Nat × Nat)) (x : Nat) : Bool := o.any fun t => x &&& t.1 == t.2
theorem HA (g h : Nat -> Bool) : ∀ m, aQ g m ||| aQ h m = aQ (fun x => g x || h x) m
 | 0 => by simp [aQ]
 | m + 1 => by
  apply aky
  intro i
  rw [alj, br, br, br]
  cases decide (i < m + 1) <;> simp
theorem mN (N : Nat) (hN : 1048576 < N) (n : Nat) (hn : n <= 5) (o : List (Nat × Nat)) (ho : o.length <= 1000) (hg : ∀ t ∈ o, qR n t) (K : Int -> Int -> Bool -> Option β) : FI N (n : Int) (tl o) K = K (n : Int) (aQ (hold o) (2 ^ n) : Int) true := by
 have h1in : ∀ K : Bool -> Option β, bK N (n : Int) 0 5 K = K true := fun K => by
  rw [aX, ajX (by omega : (0 : Int) <= (n : Int)), ajX (by omega : (n : Int) <= 5)]
  rfl
 have hs := bd hn
 unfold FI aa2
 refine a6 (fun F i => vR N F (n : Int) (tl o) (aQ (hold (o.take i)) (2 ^ n) : Int) (i : Int) 0 0 (fun e0 e1 e2 => K e1 e2 e0) fun e0 e1 _ _ => bK N e0 0 5 fun r9 => cond (!r9) (K 0 0 false) (K e0 e1 true)) o.length _ (fun F i hi => ?_) (fun F => ?_) N 0 (by omega) (by omega) |> fun h => alh ?_ h
 ·have h0 : aQ (hold []) (2 ^ n) = 0 := by
   apply aky
   intro i
   rw [br]
   simp [hold]
  show _ = vR N N (n : Int) (tl o) (aQ (hold (o.take 0)) (2 ^ n) : Int) ((0 : Nat) : Int) 0 0 _ _
  rw [List.take_zero, h0]
  rfl
 ·simp only [vR, abj, VO, bE]
  obtain ⟨g1, g2, g3⟩ := hg o[i] (akn hi)
  rw [ajX (by omega : (i : Int) < (o.length : Int)), ajZ, ab (ajX (by omega)), ab rfl, pw o i hi, cc N n _ _ hn g2 g3, g1, aj5, ajY, ab (ajX (by omega)), ab rfl, gL N hN n _ _ hn g2, aw i (by omega)]
  have b1 : ∀ g, aQ g (2 ^ n) < 2 ^ 63 := fun g => aka (bU g _) (aj7 (by decide) (by omega))
  rw [bOr _ _ (b1 _) (b1 _), HA]
  have e : (fun x => hold (o.take i) x || (x &&& o[i].1 == o[i].2)) = hold (o.take (i + 1)) := by
   funext x
   unfold hold
   rw [alD, amF hi, Option.toList_some, List.any_append, List.any_cons, List.any_nil, alB]
  rw [e]
 ·simp only [vR, abj, VO, bE]
  rw [aj2 (by omega : ¬ (o.length : Int) < (o.length : Int)), ajY, h1in, aj5, ajY, akZ (aj8 _)]
theorem mK (N : Nat) (hN : 1048576 < N) (n : Nat) (hn : n <= 5) (o : List (Nat × Nat)) (ho : o.length <= 1000) (hg : ∀ t ∈ o, qR n t) (K : Int -> Int -> Bool -> Option β) : vI N (n : Int) (tl o) K = K (n : Int) (aQ (hold o) (2 ^ n) : Int) true := by
 have hbits : ∀ K : Bool -> Option β, zj7 N (n : Int) K = K true := fun K => by
  unfold zj7 zb7
  rw [ajX (by omega : (n : Int) >= 0), ajZ, ajX (by omega : (n : Int) <= 5)]
 have hs := bd hn
 unfold vI PH pM HZ
 rw [hbits, ajZ, sP N hN o ho _ (fun _ => false) (fun t ht k => by
  obtain ⟨g1, g2, g3⟩ := hg t ht
  unfold gP Vv
  rw [gG N n _ _ hn g2 g3, g1]
  rfl)]
 have h0 : (o.any fun _ => false) = false := by simp
 rw [h0, akl]
 dsimp only
 rw [aj5, ajY]
 unfold iX H1
 rw [b6 N (by omega) n hn _ (hold o) (fun x k hx => by
  unfold c8 Vy
  rw [sP N hN o ho _ (fun t => x &&& t.1 == t.2) (fun t ht k => by
   obtain ⟨g1, g2, g3⟩ := hg t ht
   unfold iS Vx Lj Vw
   rw [rI x (by omega) t.1 g2, cJ])]
  rfl)]
theorem Iw (N : Nat) (hN : 1048576 < N) (n : Nat) (hn : n <= 5) (l : List UInt8) :
  ∃ (n' w : Int) (b : Bool), Tb n' w b /\ (∀ K : Int -> Int -> Bool -> Option β, (vQ N (n : Int) (B l) fun r13 r14 => cond (!r14) (K 0 0 false) (FI N (n : Int) r13 fun r15 r16 r17 => K r15 r16 r17)) = K n' w b) /\
   (∀ K : Int -> Int -> Bool -> Option β, (lY N (n : Int) (B l) fun r13 r14 => cond (!r14) (K 0 0 false) (vI N (n : Int) r13 fun r15 r16 r17 => K r15 r16 r17)) = K n' w b) := by
 obtain ⟨o, b, ho, hg, e1, e2⟩ := LA (β := β) N hN n l
 have hg := hg n rfl hn
 cases b with
 | false => exact ⟨0, 0, false, fg, fun K => by rw [e1]; rfl, fun K => by rw [e2]; rfl⟩
 | true => exact ⟨_, _, true, AU hn (bU _ _), fun K => by rw [e1, aj5, ajY, mN N hN n hn o (by omega) hg], fun K => by rw [e2, aj5, ajY, mK N hN n hn o (by omega) hg]⟩
def ltr (n : Nat) : Bool := decide (97 <= n) && decide (n < 102)
def tt : Nat -> List UInt8 -> Nat -> Option (Tr × List UInt8)
 | 0, _, _ => none
 | _ + 1, [], _ => none
 | F + 1, c :: r, m =>
  cond (c.toNat == 48 || c.toNat == 49) (some (.node c.toNat 0 .nil .nil, r))
   (cond (ltr c.toNat && !m.testBit (c.toNat - 97)) (match tt F r (m ||| 2 ^ (c.toNat - 97)) with
    | some (A, r1) => match tt F r1 (m ||| 2 ^ (c.toNat - 97)) with
     | some (C, r2) => some (.node c.toNat 0 A C, r2)
     | none => none
    | none => none) none)
theorem ru (N n : Nat) (h1 : 97 <= n) (h2 : n < 102) (k : Int -> Int -> Option β) : vH N (n : Int) k = k ((n - 97 : Nat) : Int) n := by
 unfold vH aaQ
 have := cT (n - 97) (by omega)
 rw [show (n : Int) - 97 = ((n - 97 : Nat) : Int) by omega, this, sb _ (by omega)]
theorem dQ : ∀ m, m < 32 -> ∀ j, j < 5 -> m ||| 2 ^ j < 32 /\ (m.testBit j = true \/ iG (m ||| 2 ^ j) = iG m + 1) /\ iG m <= 5 := by decide +kernel
theorem mF : ∀ (F : Nat) (l : List UInt8) (m : Nat) (T : Tr) (r : List UInt8), m < 32 -> tt F l m = some (T, r) -> T.isNil = false /\ l = tx T ++ r /\ (tx T).length + 1 <= 2 ^ (6 - iG m) := by
 intro F
 induction F with
 | zero => intro l m T r _ h; cases h
 | succ F ih =>
  intro l m T r hm h
  cases l with
  | nil => cases h
  | cons c l =>
   have ho : iG m <= 5 := (dQ m hm 0 (by decide)).2.2
   simp only [tt] at h
   cases h1 : (c.toNat == 48 || c.toNat == 49) with
   | true =>
    rw [h1, ajZ] at h
    cases h
    refine ⟨rfl, by simp [tx], ?_⟩
    have : 2 ^ 1 <= 2 ^ (6 - iG m) := aj7 (by decide) (by omega)
    simpa [tx] using this
   | false =>
    rw [h1, ajY] at h
    cases h2 : (ltr c.toNat && !m.testBit (c.toNat - 97)) with
    | false => rw [h2] at h; cases h
    | true =>
     rw [h2, ajZ] at h
     simp only [ltr, aj0, decide_eq_true_eq, akm] at h2
     obtain ⟨m1, m2, _⟩ := dQ m hm (c.toNat - 97) (by omega)
     have m2 : iG (m ||| 2 ^ (c.toNat - 97)) = iG m + 1 := by
      rcases m2 with m2 | m2
      ·rw [h2.2] at m2; cases m2
      ·exact m2
     cases h4 : tt F l (m ||| 2 ^ (c.toNat - 97)) with
     | none => rw [h4] at h; cases h
     | some p =>
      obtain ⟨U, r1⟩ := p
      rw [h4] at h
      simp only at h
      cases h5 : tt F r1 (m ||| 2 ^ (c.toNat - 97)) with
      | none => rw [h5] at h; cases h
      | some q =>
       obtain ⟨V, r2⟩ := q
       rw [h5] at h
       cases h
       obtain ⟨_, k2, k3⟩ := ih _ _ _ _ m1 h4
       obtain ⟨_, k4, k5⟩ := ih _ _ _ _ m1 h5
       refine ⟨rfl, ?_, ?_⟩
       ·simp only [tx, akc, ame, ak4, akt]
        rw [<- k4, <- k2]
       ·rw [m2] at k3 k5
        have e : 2 ^ (6 - iG m) = 2 * 2 ^ (6 - (iG m + 1)) := by
         rw [show 6 - iG m = (6 - (iG m + 1)) + 1 by omega, Nat.pow_succ]; omega
        simp only [tx, aj4, aj6]
        omega
theorem Cv (N : Nat) : ∀ (F : Nat) (l : List UInt8) (m : Nat), l.length < F -> m < 32 -> ∀ k : Tr -> ByteArray -> Option β,
  nj N F (B l) (m : Int) k = match tt F l m with | some (T, r) => k T (B r) | none => k .nil (B []) := by
 intro F
 induction F with
 | zero => intro l m h; omega
 | succ F ih =>
  intro l m hF hm k
  cases l with
  | nil =>
   simp only [nj, Qs, H2, aG, d7, tt]
   rfl
  | cons c r =>
   simp only [aj4] at hF
   simp only [nj, Qs, H2, aG, d7, VY, Lq]
   simp only [aE]
   rw [show ((c :: r == []) : Bool) = false from rfl]
   simp only [ajY]
   rw [ab (ajX (by simp only [aj4]; omega)), ab (ajX (by simp only [aj4]; omega)), jv]
   have hn := Ir c
   simp only [tt]
   generalize c.toNat = n at hn ⊢
   have e48 : ((n : Int) == 48) = (n == 48) := cJ n 48
   have e49 : ((n : Int) == 49) = (n == 49) := cJ n 49
   rw [e48, e49]
   cases h1 : n == 48 with
   | true => rfl
   | false =>
    cases h2 : n == 49 with
    | true => rfl
    | false =>
     simp only [ajY, Bool.or_self]
     have el : (decide (97 <= n) && decide (n < 102)) = ltr n := rfl
     rw [el]
     cases h3 : ltr n with
     | false => rfl
     | true =>
      have h3' := h3
      simp only [ltr, aj0, decide_eq_true_eq] at h3'
      simp only [aj5, ajY, aj9]
      rw [ru N n h3'.1 h3'.2, ab (ajX (akj _)), mQ m _ (by omega), jY]
      cases h4 : m.testBit (n - 97) with
      | true => rfl
      | false =>
       obtain ⟨m1, _, _⟩ := dQ m hm (n - 97) (by omega)
       have hp : 2 ^ (n - 97) < 2 ^ 5 := akF (by decide) (by omega)
       simp only [ajY, akl, ajZ]
       rw [ru N n h3'.1 h3'.2, ab (ajX (akj _)), aM _ (by omega), bOr m _ (by omega) (by omega), ih r _ (by omega) m1]
       cases h5 : tt F r (m ||| 2 ^ (n - 97)) with
       | none => rfl
       | some p =>
        obtain ⟨A, r1⟩ := p
        obtain ⟨a1, a2, _⟩ := mF _ _ _ _ _ m1 h5
        have hl : r1.length < F := by rw [a2] at hF; simp at hF; omega
        simp only
        rw [a1, ajY, ih r1 _ hl m1]
        cases h6 : tt F r1 (m ||| 2 ^ (n - 97)) with
        | none => rfl
        | some q =>
         obtain ⟨C, r2⟩ := q
         obtain ⟨b1, _, _⟩ := mF _ _ _ _ _ m1 h6
         simp only
         rw [b1, ajY]
def jw (N : Nat) (l : List UInt8) : Bool := match tt N l 0 with | some (_, []) => true | _ => false
theorem NC (N : Nat) (l : List UInt8) (hl : l.length <= 1048576) : ∀ (F i m : Nat), l.length - i < F -> i <= l.length -> m < 32 -> ∀ k : Int -> Option β,
  Az N F (B l) (i : Int) (m : Int) k = match tt F (l.drop i) m with | some (_, r) => k ((l.length - r.length : Nat) : Int) | none => k (-1) := by
 intro F
 induction F with
 | zero => intro i m h; omega
 | succ F ih =>
  intro i m hF hi hm k
  simp only [Az, aev, aa3, aE]
  rcases akg i l.length with hlt | hge
  ·rw [aj2 (show ¬ (i : Int) >= (l.length : Int) by omega), Ln l i hlt, zb l i hlt]
   have hlen : (l.drop (i + 1)).length = l.length - (i + 1) := alH
   have g1 : decide ((0 : Int) <= (i : Int)) = true := ajX (by omega)
   have g2 : decide ((i : Int) < (l.length : Int)) = true := ajX (by omega)
   simp only [ajY, g1, g2, gd, ajZ]
   rw [show w64 ((i : Int) + 1) = ((i + 1 : Nat) : Int) by rw [bp] <;> omega]
   have leaf : (i + 1 : Nat) = l.length - (l.drop (i + 1)).length := by omega
   have hn := Ir l[i]
   simp only [tt]
   generalize l[i].toNat = n at hn ⊢
   have e48 : ((n : Int) == 48) = (n == 48) := cJ n 48
   have e49 : ((n : Int) == 49) = (n == 49) := cJ n 49
   rw [e48, e49]
   cases h1 : n == 48 with
   | true =>
    simp only [ajZ, amm]
    rw [<- leaf]
   | false =>
    cases h2 : n == 49 with
    | true =>
     simp only [ajZ, ajY, al5]
     rw [<- leaf]
    | false =>
     simp only [ajY, Bool.or_self]
     rw [show w64 (w64 (n : Int) - 97) = (n : Int) - 97 by rw [bp (x := (n : Int)) (by omega) (by omega), bp (by omega) (by omega)], aX]
     have el : (decide ((0 : Int) <= (n : Int) - 97) && decide ((n : Int) - 97 <= 4)) = ltr n := by
      unfold ltr
      congr 1
      ·by_cases h : 97 <= n
       ·rw [ajX h, ajX (by omega)]
       ·rw [aj2 h, aj2 (by omega)]
      ·by_cases h : n < 102
       ·rw [ajX h, ajX (by omega)]
       ·rw [aj2 h, aj2 (by omega)]
     rw [el]
     cases h3 : ltr n with
     | false => rfl
     | true =>
      have h3' := h3
      simp only [ltr, aj0, decide_eq_true_eq] at h3'
      simp only [aj5, ajY, aj9]
      rw [show (n : Int) - 97 = ((n - 97 : Nat) : Int) by omega, ajX (akj (n - 97)), mQ m _ (by omega), jY]
      simp only [ajZ]
      cases h4 : m.testBit (n - 97) with
      | true => rfl
      | false =>
       obtain ⟨m1, _, _⟩ := dQ m hm (n - 97) (by omega)
       have hp : 2 ^ (n - 97) < 2 ^ 5 := akF (by decide) (by omega)
       simp only [ajY, akl, ajZ]
       rw [aM _ (by omega), bOr m _ (by omega) (by omega), ih (i + 1) _ (by omega) (by omega) m1]
       cases h5 : tt F (l.drop (i + 1)) (m ||| 2 ^ (n - 97)) with
       | none => rfl
       | some p =>
        obtain ⟨A, r1⟩ := p
        obtain ⟨_, a2, _⟩ := mF _ _ _ _ _ m1 h5
        obtain ⟨s1, s2, s3, s4⟩ := qN a2 (by omega)
        simp only
        rw [aj2 (by omega), ajY, ih _ _ (by omega) s2 m1, s1]
        cases tt F r1 (m ||| 2 ^ (n - 97)) <;> rfl
  ·rw [ajX (show (i : Int) >= (l.length : Int) by omega), ajZ, alS hge]
   rfl
theorem tI (N : Nat) (l : List UInt8) (h : jw N l = true) : l.length <= 63 := by
 unfold jw at h
 split at h
 ·rename_i T hp
  obtain ⟨_, a2, a3⟩ := mF _ _ _ _ _ (by decide) hp
  have e : 2 ^ (6 - iG 0) = 64 := by decide
  rw [e] at a3
  rw [a2, akh]; omega
 ·cases h
theorem fN (N : Nat) (hN : 1048576 < N) (l : List UInt8) (hl : l.length <= 1048576) (k : Bool -> Option β) : DL N (B l) k = k (jw N l) := by
 unfold DL aa4
 rw [aE]
 by_cases h : l.length <= 63
 ·rw [ajX (show (l.length : Int) <= 63 by omega), ajZ]
  by_cases h0 : l.length = 0
  ·have : l = [] := akw h0
   subst this
   obtain ⟨M, rfl⟩ : ∃ M, N = M + 1 := ⟨N - 1, by omega⟩
   rfl
  ·rw [ajX (show (l.length : Int) > 0 by omega), ajZ]
   have := fun k => NC (β := β) N l hl N 0 0 (by omega) (by omega) (by decide) k
   simp only [akO, ali] at this
   unfold aew jw
   rw [this]
   cases hp : tt N l 0 with
   | none => exact congrArg k (beq_eq_false_iff_ne.2 (by omega))
   | some p =>
    obtain ⟨T, r⟩ := p
    obtain ⟨_, a2, _⟩ := mF _ _ _ _ _ (by decide) hp
    cases r with
    | nil => simp
    | cons c r =>
     simp only [aj4]
     congr 1
     refine beq_eq_false_iff_ne.2 ?_
     have : (tx T ++ c :: r).length = l.length := by rw [<- a2]
     simp at this
     omega
 ·rw [aj2 (show ¬ (l.length : Int) <= 63 by omega), ajY]
  cases ht : jw N l with
  | false => rfl
  | true => exact absurd (tI N l ht) h
def tz : Tr -> Prop
 | .nil => False
 | .node s b a c => b = 0 /\ ∃ n : Nat, s = n /\ (((n = 48 \/ n = 49) /\ a = .nil /\ c = .nil) \/ (97 <= n /\ n < 102 /\ tz a /\ tz c))
def hd : Tr -> Nat
 | .nil => 0
 | .node _ _ a c => if a.isNil then 0 else 1 + max (hd a) (hd c)
def ed (x : Nat) : Tr -> Nat
 | .nil => 0
 | .node s _ a c => if a.isNil then 0 else 1 + (if x.testBit (s.toNat - 97) then ed x c else ed x a)
theorem qg {T : Tr} (h : tz T) : T.isNil = false := by
 cases T with
 | nil => exact h.elim
 | node => rfl
def KA (x j : Nat) (b : Bool) : Nat := cond b (x ||| 2 ^ j) (x &&& (31 ^^^ 2 ^ j))
theorem KB : ∀ x, x < 32 -> ∀ j, j < 5 -> (KA x j true < 32 /\ (KA x j true).testBit j = true /\ KA x j false < 32 /\ (KA x j false).testBit j = false) /\ ∀ i, i < 5 -> i ≠ j -> (KA x j true).testBit i = x.testBit i /\ (KA x j false).testBit i = x.testBit i := by decide +kernel
theorem aem : ∀ (F : Nat) (l : List UInt8) (m : Nat) (T : Tr) (r : List UInt8), m < 32 -> tt F l m = some (T, r) -> tz T /\ hd T + iG m <= 5 /\
  ∀ x, x < 32 -> ∃ y, y < 32 /\ (∀ i, i < 5 -> m.testBit i = true -> y.testBit i = x.testBit i) /\ ed y T = hd T := by
 intro F
 induction F with
 | zero => intro l m T r _ h; cases h
 | succ F ih =>
  intro l m T r hm h
  cases l with
  | nil => cases h
  | cons c l =>
   have ho : iG m <= 5 := (dQ m hm 0 (by decide)).2.2
   simp only [tt] at h
   cases h1 : (c.toNat == 48 || c.toNat == 49) with
   | true =>
    rw [h1, ajZ] at h
    cases h
    simp only [akI, beq_iff_eq] at h1
    exact ⟨⟨rfl, c.toNat, rfl, .inl ⟨h1, rfl, rfl⟩⟩, by simpa [hd, Tr.isNil] using ho, fun x hx => ⟨x, hx, fun _ _ _ => rfl, rfl⟩⟩
   | false =>
    rw [h1, ajY] at h
    cases h2 : (ltr c.toNat && !m.testBit (c.toNat - 97)) with
    | false => rw [h2] at h; cases h
    | true =>
     rw [h2, ajZ] at h
     simp only [ltr, aj0, decide_eq_true_eq, akm] at h2
     obtain ⟨m1, m2, _⟩ := dQ m hm (c.toNat - 97) (by omega)
     have m2 : iG (m ||| 2 ^ (c.toNat - 97)) = iG m + 1 := by
      rcases m2 with m2 | m2
      ·rw [h2.2] at m2; cases m2
      ·exact m2
     cases h4 : tt F l (m ||| 2 ^ (c.toNat - 97)) with
     | none => rw [h4] at h; cases h
     | some p =>
      obtain ⟨U, r1⟩ := p
      rw [h4] at h
      simp only at h
      cases h5 : tt F r1 (m ||| 2 ^ (c.toNat - 97)) with
      | none => rw [h5] at h; cases h
      | some q =>
       obtain ⟨V, r2⟩ := q
       rw [h5] at h
       cases h
       obtain ⟨a1, a2, a3⟩ := ih _ _ _ _ m1 h4
       obtain ⟨b1, b2, b3⟩ := ih _ _ _ _ m1 h5
       have hU := qg a1
       have e : hd (.node (c.toNat : Int) 0 U V) = 1 + max (hd U) (hd V) := by simp only [hd]; rw [hU, if_neg (by decide)]
       refine ⟨⟨rfl, c.toNat, rfl, .inr ⟨h2.1.1, h2.1.2, a1, b1⟩⟩, by omega, fun x hx => ?_⟩
       have hj : c.toNat - 97 < 5 := by omega
       have hmj := h2.2
       have ea : ∀ y : Nat, ed y (.node (c.toNat : Int) 0 U V) = 1 + (if y.testBit (c.toNat - 97) then ed y V else ed y U) := fun y => by
        simp only [ed]; rw [hU, if_neg (by decide)]; rfl
       rw [e]
       generalize c.toNat - 97 = j at hj hmj a3 b3 ea
       obtain ⟨⟨s1, s2, s3, s4⟩, s5⟩ := KB x hx j hj
       have hself : (m ||| 2 ^ j).testBit j = true := by rw [alj, Nat.testBit_two_pow_self, al5]
       have hsub : ∀ i, m.testBit i = true -> (m ||| 2 ^ j).testBit i = true := fun i hi => by rw [alj, hi, amm]
       have hne : ∀ i, m.testBit i = true -> i ≠ j := fun i hi e => by rw [e, hmj] at hi; cases hi
       by_cases hle : hd U <= hd V
       ·obtain ⟨y, y1, y2, y3⟩ := b3 _ s1
        refine ⟨y, y1, fun i hi hmi => ?_, ?_⟩
        ·rw [y2 i hi (hsub i hmi)]
         exact (s5 i hi (hne i hmi)).1
        ·rw [ea, y2 j hj hself, s2, if_pos rfl, y3]; omega
       ·obtain ⟨y, y1, y2, y3⟩ := a3 _ s3
        refine ⟨y, y1, fun i hi hmi => ?_, ?_⟩
        ·rw [y2 i hi (hsub i hmi)]
         exact (s5 i hi (hne i hmi)).2
        ·rw [ea, y2 j hj hself, s4, if_neg (by decide), y3]; omega
def qp (n : Nat) : Tr -> Bool
 | .nil => true
 | .node s _ a c => if a.isNil then true else decide (s.toNat - 97 < n) && (qp n a && qp n c)
def tv (T : Tr) (x : Nat) : Bool := cM x T == 49
def okB (n : Nat) (b : UInt8) : Bool := !decide (97 <= b.toNat) || decide (b.toNat - 97 < n)
theorem C0 (b : Nat) (h : 97 <= b) (hb : b < 256) : w64 (w8 ((b : Int) - 97)) = ((b - 97 : Nat) : Int) := by
 rw [show (b : Int) - 97 = ((b - 97 : Nat) : Int) by omega, cT _ (by omega), bp (by omega) (by omega)]
theorem wL (p : UInt8 -> Bool) (l : List UInt8) : da (fun i => p (at8 l i)) l.length = l.all p := by
 rw [ald, aku]
 constructor
 ·intro h x hx
  obtain ⟨i, hi, rfl⟩ := al0.1 hx
  have := jd h i hi
  rw [oR l i hi] at this
  exact this
 ·intro h
  exact sM fun i hi => by
   show p (at8 l i) = true
   rw [oR l i hi]
   exact h _ (akn hi)
theorem yU (n : Nat) (h : n < 256) : (UInt8.ofNat n).toNat = n := by
 rw [alv]; exact alf h
theorem tQ (n : Nat) : ∀ T, tz T -> (tx T).all (okB n) = qp n T
 | .nil, h => h.elim
 | .node s b a c, h => by
  obtain ⟨rfl, m, rfl, h⟩ := h
  rcases h with ⟨h, rfl, rfl⟩ | ⟨h1, h2, ga, gc⟩
  ·rcases h with rfl | rfl <;> rfl
  ·have e : (UInt8.ofNat m).toNat = m := yU m (by omega)
   simp only [tx, qp, akc, akd, alw, okB, e, qg ga, tQ n a ga, tQ n c gc]
   rw [ajX h1, if_neg (by decide)]
   rfl
theorem ID {l r : List UInt8} {c : UInt8} {i : Nat} (h : l.drop i = c :: r) : i < l.length /\ bt (B l) (i : Int) = (c.toNat : Int) /\ l.drop (i + 1) = r := by
 have hi : i < l.length := by
  rcases akg i l.length with h1 | h1
  ·exact h1
  ·rw [alS h1] at h; cases h
 rw [zb l i hi] at h
 injection h with h1 h2
 exact ⟨hi, by rw [Ln l i hi, h1], h2⟩
theorem zC {l r : List UInt8} {n i : Nat} {a c : Tr} (hn : n < 256) (h : l.drop i = tx (.node (n : Int) 0 a c) ++ r) : i < l.length /\ bt (B l) (i : Int) = (n : Int) /\ l.drop (i + 1) = tx a ++ (tx c ++ r) := by
 simp only [tx, akc, ak4, akt] at h
 have := ID h
 rw [yU n hn] at this
 exact this
theorem wX {l m r : List UInt8} {i : Nat} (h : l.drop i = m ++ r) : l.drop (i + m.length) = r := by
 rw [<- ams, h]; simp
theorem JD (N : Nat) (l : List UInt8) (hl : l.length <= 1048576) : ∀ (F : Nat) (T : Tr) (i : Nat) (r : List UInt8), tz T -> l.drop i = tx T ++ r -> (tx T).length <= F -> ∀ k : Int -> Option β,
  wC N F (B l) (i : Int) k = k ((i + (tx T).length : Nat) : Int) := by
 intro F
 induction F with
 | zero =>
  intro T i r hg _ h
  cases T with
  | nil => exact hg.elim
  | node => simp [tx] at h
 | succ F ih =>
  intro T i r hg hd hF k
  cases T with
  | nil => exact hg.elim
  | node s b a c =>
   obtain ⟨rfl, n, rfl, h⟩ := hg
   have hn : n < 256 := by rcases h with ⟨h, _⟩ | ⟨_, h, _⟩ <;> omega
   obtain ⟨hi, hb, hr⟩ := zC hn hd
   simp only [wC, aex, aa5, hb, aE]
   have g1 : decide ((0 : Int) <= (i : Int)) = true := ajX (by omega)
   have g2 : decide ((i : Int) < (l.length : Int)) = true := ajX (by omega)
   simp only [g1, g2, gd, ajZ]
   rw [show w64 ((i : Int) + 1) = ((i + 1 : Nat) : Int) by rw [bp] <;> omega]
   have e48 : ((n : Int) == 48) = (n == 48) := cJ n 48
   have e49 : ((n : Int) == 49) = (n == 49) := cJ n 49
   rw [e48, e49]
   simp only [tx, aj4, aj6] at hF ⊢
   rcases h with ⟨h, rfl, rfl⟩ | ⟨h1, h2, ga, gc⟩
   ·rcases h with rfl | rfl <;> rfl
   ·rw [beq_eq_false_iff_ne.2 (by omega : n ≠ 48), beq_eq_false_iff_ne.2 (by omega : n ≠ 49), ajY, ajY, ih a (i + 1) _ ga hr (by omega), ih c _ r gc (wX hr) (by omega)]
    congr 2
    omega
theorem ND (N : Nat) (l : List UInt8) (hl : l.length <= 1048576) (hN : 1048576 < N) (x : Nat) (hx : x < 32) : ∀ (F : Nat) (T : Tr) (i c : Nat) (r : List UInt8), tz T -> l.drop i = tx T ++ r -> hd T < F -> hd T + c < 1000 ->
  ∃ p, p < l.length /\ bt (B l) (p : Int) = (cM x T : Int) /\ ∀ k0 : ByteArray -> Int -> Int -> Option β, AA N F (B l) (x : Int) (i : Int) (c : Int) k0 = k0 (B l) (p : Int) ((c + ed x T : Nat) : Int) := by
 intro F
 induction F with
 | zero => intro T i c r _ _ h; omega
 | succ F ih =>
  intro T i q r hg hdr hF hq
  cases T with
  | nil => exact hg.elim
  | node s b a c =>
   obtain ⟨rfl, n, rfl, h⟩ := hg
   have hn : n < 256 := by rcases h with ⟨h, _⟩ | ⟨_, h, _⟩ <;> omega
   obtain ⟨hi, hb, hr⟩ := zC hn hdr
   simp only [AA, aez, aa6, hb, aE]
   have g1 : decide ((0 : Int) <= (i : Int)) = true := ajX (by omega)
   have g2 : decide ((i : Int) < (l.length : Int)) = true := ajX (by omega)
   simp only [g1, g2, gd, ajZ]
   rw [show w64 ((i : Int) + 1) = ((i + 1 : Nat) : Int) by rw [bp] <;> omega, show w64 ((q : Int) + 1) = ((q + 1 : Nat) : Int) by rw [bp] <;> omega]
   have e48 : ((n : Int) != 48) = !(n == 48) := congrArg Bool.not (cJ n 48)
   have e49 : ((n : Int) != 49) = !(n == 49) := congrArg Bool.not (cJ n 49)
   rw [e48, e49]
   rcases h with ⟨h, rfl, rfl⟩ | ⟨h1, h2, ga, gc⟩
   ·refine ⟨i, hi, hb, fun k0 => ?_⟩
    rcases h with rfl | rfl <;> rfl
   ·have hna := qg ga
    simp only [hd] at hF hq
    rw [hna, if_neg (by decide)] at hF hq
    have ea : ed x (.node (n : Int) 0 a c) = 1 + (if x.testBit (n - 97) then ed x c else ed x a) := by
     simp only [ed]; rw [hna, if_neg (by decide)]; rfl
    have el : cM x (.node (n : Int) 0 a c) = (if x.testBit (n - 97) then cM x c else cM x a) := by
     simp only [cM]; rw [hna, if_neg (by decide)]; rfl
    rw [ea, el]
    have ew : w8 ((n : Int) - 97) = ((n - 97 : Nat) : Int) := by rw [show (n : Int) - 97 = ((n - 97 : Nat) : Int) by omega, cT _ (by omega)]
    simp only [beq_eq_false_iff_ne.2 (by omega : n ≠ 48), beq_eq_false_iff_ne.2 (by omega : n ≠ 49), akl, ajZ, ew, ajX (akj (n - 97)), mQ x (n - 97) (by omega), jY]
    cases hbit : x.testBit (n - 97) with
    | false =>
     obtain ⟨p, hp, hv, he⟩ := ih a (i + 1) (q + 1) _ ga hr (by omega) (by omega)
     refine ⟨p, hp, by rw [if_neg (by decide)]; exact hv, fun k0 => ?_⟩
     rw [ajY, he, if_neg (by decide)]
     congr 2
     omega
    | true =>
     obtain ⟨p, hp, hv, he⟩ := ih c (i + 1 + (tx a).length) (q + 1) r gc (wX hr) (by omega) (by omega)
     have hlen : (tx a).length <= N := by
      have := congrArg List.length hr
      rw [alH, aj6] at this
      omega
     refine ⟨p, hp, by rw [if_pos rfl]; exact hv, fun k0 => ?_⟩
     unfold aey
     rw [ajZ, JD N l hl N a (i + 1) _ ga hr hlen, he, if_pos rfl]
     congr 2
     omega
theorem tP (x : Nat) : ∀ T, tz T -> cM x T = 48 \/ cM x T = 49
 | .nil, h => h.elim
 | .node s b a c, h => by
  obtain ⟨rfl, m, rfl, h⟩ := h
  rcases h with ⟨h, rfl, rfl⟩ | ⟨h1, h2, ga, gc⟩
  ·rcases h with rfl | rfl
   ·exact .inl rfl
   ·exact .inr rfl
  ·have e1 := tP x a ga
   have e2 := tP x c gc
   simp only [cM]
   rw [qg ga, if_neg (by decide)]
   split
   ·exact e2
   ·exact e1
theorem NG (x : Nat) (T : Tr) (h : tz T) : w64 (w8 ((cM x T : Int) - 48)) = ((tv T x).toNat : Int) := by
 unfold tv
 rcases tP x T h with e | e <;> rw [e] <;> rfl
theorem fG (a b : Int) (l r : Tr) : Tr.isNil (.node a b l r) = false := rfl
theorem Ld (N : Nat) (n : Nat) : ∀ (F : Nat) (T : Tr), tz T -> hd T < F -> ∀ k : Bool -> Option β, pO N F T (n : Int) k = k (qp n T) := by
 intro F
 induction F with
 | zero => intro T _ h; omega
 | succ F ih =>
  intro T hg hF k
  cases T with
  | nil => exact hg.elim
  | node s b a c =>
   obtain ⟨rfl, m, rfl, h⟩ := hg
   rcases h with ⟨h, rfl, rfl⟩ | ⟨h1, h2, ga, gc⟩
   ·rcases h with rfl | rfl <;> rfl
   ·have hna := qg ga
    simp only [hd] at hF
    rw [hna, if_neg (by decide)] at hF
    simp only [pO, W8, PI, rF, Vz, fG, akl, Tr.l, Tr.r, Tr.a, hna]
    simp only [gd, ajZ, ajY, C0 m h1 (by omega)]
    rw [ih a ga (by omega)]
    simp only [qp, hna, akc]
    rw [if_neg (by decide)]
    by_cases hm : m - 97 < n
    ·rw [ajX (by omega : ((m - 97 : Nat) : Int) < (n : Int)), ajX hm, ajZ]
     cases hl : qp n a with
     | false => rfl
     | true => rw [ajZ, ih c gc (by omega)]; rfl
    ·rw [aj2 (by omega : ¬ ((m - 97 : Nat) : Int) < (n : Int)), aj2 hm]; rfl
theorem Mx (N x : Nat) (hx : x < 32) : ∀ (F : Nat) (T : Tr) (c : Nat), tz T -> hd T < F -> hd T + c < 1000 ->
  ∃ b : Int, ∃ a d : Tr, ∀ k0 : Tr -> Int -> Option β, Ax N F T (x : Int) (c : Int) k0 = k0 (.node (cM x T : Int) b a d) ((c + ed x T : Nat) : Int) := by
 intro F
 induction F with
 | zero => intro T c _ h; omega
 | succ F ih =>
  intro T q hg hF hq
  cases T with
  | nil => exact hg.elim
  | node s b a c =>
   obtain ⟨rfl, m, rfl, h⟩ := hg
   rcases h with ⟨h, rfl, rfl⟩ | ⟨h1, h2, ga, gc⟩
   ·exact ⟨0, .nil, .nil, fun k0 => by rcases h with rfl | rfl <;> rfl⟩
   ·have hna := qg ga
    simp only [hd] at hF hq
    rw [hna, if_neg (by decide)] at hF hq
    have ea : ed x (.node (m : Int) 0 a c) = 1 + (if x.testBit (m - 97) then ed x c else ed x a) := by
     simp only [ed]; rw [hna, if_neg (by decide)]; rfl
    have el : cM x (.node (m : Int) 0 a c) = (if x.testBit (m - 97) then cM x c else cM x a) := by
     simp only [cM]; rw [hna, if_neg (by decide)]; rfl
    simp only [Ax, aet, aaR, rF, Vz, fG, akl, Tr.l, Tr.r, Tr.a, hna]
    simp only [gd, ajZ, C0 m h1 (by omega), ajX (akj (m - 97)), mQ x (m - 97) (by omega), Mz, aw q (by omega)]
    rw [ea, el]
    cases hbit : x.testBit (m - 97) with
    | false =>
     obtain ⟨b', a', d', he⟩ := ih a (q + 1) ga (by omega) (by omega)
     refine ⟨b', a', d', fun k0 => ?_⟩
     rw [akl, ajZ, he, if_neg (by decide), if_neg (by decide)]
     congr 2
     omega
    | true =>
     obtain ⟨b', a', d', he⟩ := ih c (q + 1) gc (by omega) (by omega)
     refine ⟨b', a', d', fun k0 => ?_⟩
     rw [aj5, ajY, he, if_pos rfl, if_pos rfl]
     congr 2
     omega
theorem Ix (N : Nat) (hN : 1048576 < N) (n : Nat) (hn : n <= 5) (l : List UInt8) (hl : l.length <= 1048576) :
  ∃ (n' w : Int) (b : Bool), Tb n' w b /\ (∀ K : Int -> Int -> Bool -> Option β, AB N (B l) (n : Int) K = K n' w b) /\ (∀ K : Int -> Int -> Bool -> Option β, pP N (B l) (n : Int) K = K n' w b) := by
 have h1in : ∀ K : Bool -> Option β, bK N (n : Int) 0 5 K = K true := fun K => by
  rw [aX, ajX (by omega : (0 : Int) <= (n : Int)), ajX (by omega : (n : Int) <= 5)]
  rfl
 have hbits : ∀ K : Bool -> Option β, zj7 N (n : Int) K = K true := fun K => by
  unfold zj7 zb7
  rw [ajX (by omega : (n : Int) >= 0), ajZ, ajX (by omega : (n : Int) <= 5)]
 have hs := bd hn
 have hz : (0 : Int) <= ((2 ^ n : Nat) : Int) := akj _
 have hread := fun k => Cv (β := β) N N l 0 (by omega) (by decide) k
 simp only [akO] at hread
 cases ht : tt N l 0 with
 | none =>
  refine ⟨0, 0, false, fg, fun K => ?_, fun K => ?_⟩
  ·unfold AB P7
   rw [fN N hN l hl]
   unfold jw
   rw [ht]
   rfl
  ·unfold pP Dj vK Di vJ H3 Qt
   rw [hread, ht]
   rfl
 | some p =>
  obtain ⟨T, r⟩ := p
  obtain ⟨g1, g2, _⟩ := aem _ _ _ _ _ (by decide) ht
  obtain ⟨a1, a2, _⟩ := mF _ _ _ _ _ (by decide) ht
  have hr : ∀ K : Tr -> Bool -> Option β, vJ N (B l) K = K T (r == []) := fun K => by
   unfold vJ H3 Qt
   rw [hread, ht]
   simp only [a1, akl, ajZ, d7, aG]
  cases hre : r == [] with
  | false =>
   refine ⟨0, 0, false, fg, fun K => ?_, fun K => ?_⟩
   ·unfold AB P7
    rw [fN N hN l hl]
    unfold jw
    rw [ht]
    cases r with
    | nil => cases hre
    | cons c r => rfl
   ·unfold pP Dj vK Di
    rw [hr, hre]
    rfl
  | true =>
   have hre := eq_of_beq hre
   subst hre
   rw [akh] at a2
   have hit : jw N l = true := by unfold jw; rw [ht]
   have hlen := tI N l hit
   have eS : ∀ K : Int -> Int -> Bool -> Option β, AB N (B l) (n : Int) K = cond (qp n T) (K (n : Int) (aQ (tv T) (2 ^ n) : Int) true) (K 0 0 false) := fun K => by
    unfold AB P7
    rw [fN N hN l hl, hit, aj5, ajY, h1in, aj5, ajY]
    have fJ := fun (k1 : ByteArray -> Int -> Int -> Int -> Option β) => tT (fun F i => vS N F (B l) (n : Int) (i : Int) 0 0 (fun e0 e1 e2 => K e1 e2 e0) k1) (fun i => okB n (at8 l i)) l.length (K 0 0 false) (k1 (B l) (n : Int) 0 0) (fun F i hi => by
     simp only [vS, abk, VP, aE]
     have hb := (at8 l i).toNat_lt
     rw [ajX (by omega : (i : Int) < (l.length : Int)), ajZ, ab (ajX (by omega)), ab rfl, yS l i hi, ab (ajX (by omega)), ab rfl, aw i (by omega)]
     unfold okB
     by_cases h97 : 97 <= (at8 l i).toNat
     ·rw [ajX (by omega : ((at8 l i).toNat : Int) >= 97), ajZ, C0 _ h97 (by omega), ajX h97]
      by_cases hlt : (at8 l i).toNat - 97 < n
      ·rw [aj2 (by omega), ajX hlt]; rfl
      ·rw [ajX (by omega), aj2 hlt]; rfl
     ·rw [aj2 (by omega : ¬ ((at8 l i).toNat : Int) >= 97), ajY, aj2 h97]; rfl) (fun F => by
     simp only [vS, abk, VP, aE]
     rw [aj2 (by omega), ajY]) N (by omega)
    refine (fJ _).trans ?_
    rw [wL (okB n) l]
    have hall : l.all (okB n) = qp n T := by rw [<- tQ n T g1, <- a2]
    rw [hall]
    cases qp n T with
    | false => rfl
    | true =>
     rw [ajZ, ajZ]
     refine a6 (fun F x => vU N F (B l) (n : Int) (aQ (tv T) x : Int) (x : Int) 0 0 fun e0 e1 _ _ => K e0 e1 true) (2 ^ n) _ (fun F x hx => ?_) (fun F => ?_) N 0 (by omega) (by omega)
     ·simp only [vU, abl, VQ]
      rw [ab (ajX (by omega)), aM n (by omega), ajX (by omega : (x : Int) < ((2 ^ n : Nat) : Int)), ajZ]
      unfold FJ aa7
      obtain ⟨p, hp, hv, he⟩ := ND (β := β) N l hl hN x (by omega) N T 0 0 [] g1 (by rw [ali, akh]; exact a2) (by omega) (by omega)
      simp only [akO] at he
      rw [he, aE, ab (ajX (by omega)), ab (ajX (by omega)), hv, NG x T g1]
      dsimp only
      rw [ab (ajX (by omega)), aw x (by omega)]
      cases hx1 : tv T x with
      | true =>
       have e1 : ((true.toNat : Nat) : Int) = 1 := rfl
       rw [e1, iP _ x (by omega), kr hx1]
      | false =>
       have hb : aQ (tv T) x < 2 ^ 63 := aka (bU _ x) (aj7 (by decide) (by omega))
       have h0 : aW .i64 ((false.toNat : Nat) : Int) (x : Int) = ((0 : Nat) : Int) := by
        have := rY 0 x (by omega) (by omega)
        rw [alu] at this
        exact this
       rw [h0, bOr _ _ hb (by decide), Nat.or_zero, pG hx1]
     ·simp only [vU, abl, VQ]
      rw [ab (ajX (by omega)), aM n (by omega), aj2 (by omega : ¬ ((2 ^ n : Nat) : Int) < ((2 ^ n : Nat) : Int)), ajY]
   have eI : ∀ K : Int -> Int -> Bool -> Option β, pP N (B l) (n : Int) K = cond (qp n T) (K (n : Int) (aQ (tv T) (2 ^ n) : Int) true) (K 0 0 false) := fun K => by
    unfold pP Dj vK Di W9
    rw [hr]
    dsimp only
    rw [show (([] : List UInt8) == []) = true from rfl, aj5, ajY, hbits, aj5, ajY, Ld N n N T g1 (by omega)]
    cases qp n T with
    | false => rfl
    | true =>
     rw [aj5, ajY, ajZ, b6 N (by omega) n hn _ (tv T) (fun x k hx => by
      unfold dc aaT Qz aaS
      obtain ⟨b, a, d, he⟩ := Mx (β := β) N x (by omega) N T 0 g1 (by omega) (by omega)
      simp only [akO] at he
      rw [he]
      simp only [fG, akl, gd, ajZ, Tr.a, NG x T g1]
      cases tv T x <;> rfl)]
   cases hlt : qp n T with
   | true => exact ⟨_, _, true, AU hn (bU _ _), fun K => by rw [eS, hlt, ajZ], fun K => by rw [eI, hlt, ajZ]⟩
   | false => exact ⟨0, 0, false, fg, fun K => by rw [eS, hlt, ajY], fun K => by rw [eI, hlt, ajY]⟩
def dm (n : Nat) : Tr -> Bool
 | .nil => true
 | .node s _ a c => if a.isNil then cond (lt5 s.toNat) (decide (s.toNat - 97 < n)) true else dm n a && cond (s.toNat == 33) true (dm n c)
def ev (x : Nat) : Tr -> Bool
 | .nil => false
 | .node s _ a c =>
  if a.isNil then cond (lt5 s.toNat) (x.testBit (s.toNat - 97)) (s.toNat == 49)
  else cond (s.toNat == 33) (!ev x a) (cond (s.toNat == 38) (ev x a && ev x c) (cond (s.toNat == 124) (ev x a || ev x c) (ev x a != ev x c)))
def nG (l : List UInt8) : Bool := decide (l.length <= 60) && (match pt 1048577 l with | some (_, []) => true | _ => false)
theorem vd (N : Nat) (hN : 1048576 < N) (l : List UInt8) (k : Bool -> Option β) : wD N (B l) k = k (nG l) := pE N hN l k
theorem ad6 (N : Nat) (hN : 1048576 < N) (l : List UInt8) (h60 : l.length <= 60) : pt N l = pt 1048577 l := by
 cases h1 : pt N l with
 | some p =>
  obtain ⟨T, r⟩ := p
  obtain ⟨w1, w2⟩ := ki _ _ _ _ h1
  rw [w2, q9 T _ r w1]
  rw [w2] at h60; simp at h60; omega
 | none =>
  cases h2 : pt 1048577 l with
  | none => rfl
  | some p =>
   obtain ⟨T, r⟩ := p
   obtain ⟨w1, w2⟩ := ki _ _ _ _ h2
   rw [w2, q9 T _ r w1] at h1
   ·cases h1
   ·rw [w2] at h60; simp at h60; omega
theorem cX {T : Tr} (h : wf T) : T.isNil = false := by
 cases T with
 | nil => exact h.elim
 | node => rfl
def okF (n : Nat) (b : UInt8) : Bool := !(decide (97 <= b.toNat) && decide (b.toNat <= 101)) || decide (b.toNat - 97 < n)
theorem G6 (n m : Nat) (hm : m < 256) : okF n (UInt8.ofNat m) = cond (lt5 m) (decide (m - 97 < n)) true := by
 have e : (UInt8.ofNat m).toNat = m := yU m hm
 unfold okF lt5
 rw [e]
 by_cases h1 : 97 <= m
 ·by_cases h2 : m < 102
  ·rw [ajX h1, ajX h2, ajX (by omega : m <= 101)]; rfl
  ·rw [aj2 h2, aj2 (by omega : ¬ m <= 101), alE]; rfl
 ·rw [aj2 h1]; rfl
theorem jX {n : Nat} (h : bn n = true) : n = 38 \/ n = 124 \/ n = 94 := by
 simpa [bn] using h
theorem mz (n : Nat) : ∀ T, wf T -> (tx T).all (okF n) = dm n T
 | .nil, h => h.elim
 | .node s b a c, h => by
  obtain ⟨rfl, m, rfl, hm, h⟩ := h
  rcases h with ⟨h, rfl, rfl⟩ | ⟨rfl, ha, rfl⟩ | ⟨h, ha, hc⟩
  ·simp only [tx, dm, akc, akd, akh, al6, alA, G6 n m hm]
   rfl
  ·simp only [tx, dm, akd, akh, cX ha, mz n a ha]
   rw [if_neg (by decide)]
   have : okF n (UInt8.ofNat (Int.toNat ((33 : Nat) : Int))) = true := rfl
   rw [this]
   simp
  ·simp only [tx, dm, akc, akd, alw, cX ha, mz n a ha, mz n c hc, G6 n m hm]
   rw [if_neg (by decide)]
   rcases jX h with rfl | rfl | rfl <;> simp [lt5]
theorem ql : Tr.isNil .nil = true := rfl
theorem B9 {n : Nat} (h : lf n = true) : lt5 n = true \/ (lt5 n = false /\ (n = 48 \/ n = 49)) := by
 unfold lf at h
 cases h1 : lt5 n with
 | true => exact .inl rfl
 | false =>
  unfold lt5 at h1
  rw [h1] at h
  exact .inr ⟨rfl, by simpa using h⟩
theorem Ee (N : Nat) (hN : 1048576 < N) (l : List UInt8) (hl : l.length <= 60) (x : Nat) (hx : x < 32) : ∀ (F : Nat) (T : Tr) (i : Nat) (r : List UInt8), wf T -> l.drop i = tx T ++ r -> (tx T).length <= F -> i <= l.length -> ∀ k : Bool -> Option β,
  vV N F (B l) (i : Int) (x : Int) k = k (ev x T) := by
 intro F
 induction F with
 | zero => intro T i r h _ hF; have := O7 h; omega
 | succ F ih =>
  intro T i r h hd hF hi k
  cases T with
  | nil => exact h.elim
  | node a b A C =>
   obtain ⟨rfl, n, rfl, hn, h⟩ := h
   obtain ⟨hlt, hcn, hr⟩ := zC hn hd
   have hsub : (tx (.node n 0 A C)).length + r.length = l.length - i := by rw [<- aj6, <- hd, alH]
   simp only [tx, aj4, aj6] at hF hsub
   simp only [vV, aeB, aba, aE]
   rw [ab (ajX (by omega)), ab (ajX (by omega)), hcn]
   rw [show w64 ((i : Int) + 1) = ((i + 1 : Nat) : Int) by rw [bp] <;> omega]
   have g33 := cJ n 33; have g38 := cJ n 38; have g124 := cJ n 124; have g94 := cJ n 94; have g48 := cJ n 48; have g49 := cJ n 49
   simp only [alQ] at g33 g38 g124 g94 g48 g49
   rw [g33, g38, g124, g94, g48, g49]
   rcases h with ⟨h1, rfl, rfl⟩ | ⟨rfl, h1, rfl⟩ | ⟨h1, h2, h3⟩
   ·simp only [ev, ql, if_true, akc]
    rcases B9 h1 with h2 | ⟨h2, h3⟩
    ·have h2' := h2
     simp only [lt5, aj0, decide_eq_true_eq] at h2'
     rw [beq_eq_false_iff_ne.2 (show n ≠ 33 by omega), beq_eq_false_iff_ne.2 (show n ≠ 38 by omega), beq_eq_false_iff_ne.2 (show n ≠ 124 by omega), beq_eq_false_iff_ne.2 (show n ≠ 94 by omega), beq_eq_false_iff_ne.2 (show n ≠ 48 by omega), beq_eq_false_iff_ne.2 (show n ≠ 49 by omega)]
     have ew : w8 ((n : Int) - 97) = ((n - 97 : Nat) : Int) := by rw [show (n : Int) - 97 = ((n - 97 : Nat) : Int) by omega, cT _ (by omega)]
     simp only [ajY, h2, ajZ, ew]
     rw [ab (ajX (by omega)), ab (ajX (by omega)), ab (ajX (by omega)), mQ x _ (by omega), jY]
    ·rcases h3 with rfl | rfl <;> rfl
   ·have hr' : l.drop (i + 1) = tx A ++ r := by simpa [tx] using hr
    simp only [ev, cX h1]
    rw [if_neg (by decide)]
    refine (ih A (i + 1) r h1 hr' (by omega) (by omega) fun b => k (!b)).trans ?_
    rfl
   ·have hpt : pt N (l.drop (i + 1)) = some (A, tx C ++ r) := by rw [hr]; exact q9 A N _ h2 (by omega)
    obtain ⟨s1, s2, s3, s4⟩ := qN hr (by omega)
    have hend : ∀ k' : Int -> Option β, VX N (B l) ((i + 1 : Nat) : Int) k' = k' ((l.length - (tx C ++ r).length : Nat) : Int) := fun k' => by
     show oK N N (B l) _ _ = _
     rw [B7 N l (by omega) N (i + 1) (by omega) (by omega), hpt]
    have p1 := fun k' => ih A (i + 1) _ h2 hr (by omega) (by omega) k'
    have p2 := fun k' => ih C _ r h3 s1 (by omega) s2 k'
    simp only [ev, cX h2, akc]
    rw [if_neg (by decide)]
    rcases jX h1 with rfl | rfl | rfl
    ·refine (p1 _).trans ?_
     show cond (ev x A) _ _ = _
     rw [hend, p2]
     cases ev x A <;> rfl
    ·refine (p1 _).trans ?_
     show cond (ev x A) _ _ = _
     rw [hend, p2]
     cases ev x A <;> rfl
    ·refine (p1 _).trans ?_
     show VX N (B l) ((i + 1 : Nat) : Int) _ = _
     rw [hend, p2]
     cases ev x A <;> cases ev x C <;> rfl
theorem Jx (N : Nat) (a b : Int) (l r : Tr) (k : Bool -> Option β) : DB N (.node a b l r) k = k l.isNil := rfl
theorem jH (g : Nat -> Bool) (n : Nat) (hn : n <= 5) : aQ g (2 ^ n) < 2 ^ 63 := aka (bU g _) (aj7 (by decide) (by have := bd hn; omega))
theorem O2 (g : Nat -> Bool) (m : Nat) : aQ g m ^^^ (2 ^ m - 1) = aQ (fun x => !g x) m := by
 apply aky
 intro i
 rw [alP, br, br, Nat.testBit_two_pow_sub_one]
 cases decide (i < m) <;> simp
theorem O1 (g h : Nat -> Bool) (m : Nat) : aQ g m &&& aQ h m = aQ (fun x => g x && h x) m := by
 apply aky
 intro i
 rw [akX, br, br, br]
 cases decide (i < m) <;> simp
theorem O3 (g h : Nat -> Bool) (m : Nat) : aQ g m ^^^ aQ h m = aQ (fun x => g x != h x) m := by
 apply aky
 intro i
 rw [alP, br, br, br]
 cases decide (i < m) <;> simp
theorem wo (N : Nat) (hN : 1048576 < N) (n : Nat) (hn : n <= 5) : ∀ (F : Nat) (T : Tr), wf T -> (tx T).length <= F -> ∀ K : Int -> Int -> Bool -> Option β,
  pQ N F T (n : Int) K = cond (dm n T) (K (n : Int) (aQ (fun x => ev x T) (2 ^ n) : Int) true) (K 0 0 false) := by
 have hbits : ∀ K : Bool -> Option β, zj7 N (n : Int) K = K true := fun K => by
  unfold zj7 zb7
  rw [ajX (by omega : (n : Int) >= 0), ajZ, ajX (by omega : (n : Int) <= 5)]
 have hs := bd hn
 have hz : (0 : Int) <= ((2 ^ n : Nat) : Int) := akj _
 intro F
 induction F with
 | zero => intro T h hF; have := O7 h; omega
 | succ F ih =>
  intro T h hF K
  cases T with
  | nil => exact h.elim
  | node s b A C =>
   obtain ⟨rfl, m, rfl, hm, h⟩ := h
   simp only [tx, aj4, aj6] at hF
   simp only [pQ, Xb, PK, Jx, fG, akl, Tr.a, Tr.l, Tr.r]
   simp only [gd, ajZ]
   rcases h with ⟨h, rfl, rfl⟩ | ⟨rfl, ha, rfl⟩ | ⟨h, ha, hc⟩
   ·rw [ql, ajZ, jv]
    simp only [dm, ev, ql, if_true, akc]
    have e5 : (decide (97 <= m) && decide (m < 102)) = lt5 m := rfl
    rw [e5]
    rcases B9 h with h5 | ⟨h5, h4⟩
    ·have h5' := h5
     simp only [lt5, aj0, decide_eq_true_eq] at h5'
     simp only [h5, ajZ]
     rw [C0 m h5'.1 hm]
     unfold DC PJ
     rw [hbits, aj5, ajY, aj2 (by omega), ajY]
     by_cases hlt : m - 97 < n
     ·rw [aj2 (by omega), ajY, ajX hlt, ajZ]
      unfold pT VA
      rw [b6 N (by omega) n hn _ (fun x => x.testBit (m - 97)) (fun x k hx => by
       unfold zj0 zb0
       rw [ab (ajX (by omega)), mQ x _ (by omega), jY])]
     ·rw [ajX (by omega), ajZ, aj2 hlt, ajY]
    ·simp only [h5, ajY, ajZ]
     rw [b6 N (by omega) n hn _ (fun _ => m == 49) (fun x k hx => by
      unfold de aaU
      simp only [fG, akl, gd, ajZ, Tr.a]
      exact congrArg k (cJ m 49))]
   ·rw [cX ha, ajY, ih A ha (by omega)]
    simp only [dm, ev, cX ha]
    rw [if_neg (by decide)]
    cases hl : dm n A with
    | false => rfl
    | true =>
     rw [ajZ, aj5, ajY, show ((((33 : Nat) : Int)) == 33) = true from rfl, ajZ]
     unfold eF H6
     rw [bV N n _ hn, ab (ajX (by omega)), aM (2 ^ n) (by omega)]
     have hp : (2 : Nat) ^ 2 ^ n <= 2 ^ 32 := aj7 (by decide) hs
     have hp1 := sa (2 ^ n)
     rw [show (((2 ^ 2 ^ n : Nat) : Int) - 1) = ((2 ^ 2 ^ n - 1 : Nat) : Int) by omega, bp (by omega) (by omega), RN _ _ (jH _ n hn) (by omega), O2]
     simp
   ·rw [cX ha, ajY, ih A ha (by omega)]
    simp only [dm, ev, cX ha, akc]
    rw [if_neg (by decide)]
    have e33 : ((m : Int) == 33) = false := by rcases jX h with rfl | rfl | rfl <;> rfl
    have e33' : (m == 33) = false := by rcases jX h with rfl | rfl | rfl <;> rfl
    cases hl : dm n A with
    | false => rfl
    | true =>
     rw [ajZ, aj5, ajY, e33, ajY, ih C hc (by omega), e33', ajY, aj9]
     cases hl2 : dm n C with
     | false => rfl
     | true =>
      rw [ajZ, aj5, ajY, ajZ, bAnd _ _ (jH _ n hn) (jH _ n hn), bOr _ _ (jH _ n hn) (jH _ n hn), RN _ _ (jH _ n hn) (jH _ n hn), O1, HA, O3]
      rcases jX h with rfl | rfl | rfl <;> simp
theorem yC (N : Nat) (hN : 1048576 < N) (n : Nat) (hn : n <= 5) (l : List UInt8) :
  ∃ (n' w : Int) (b : Bool), (b = true -> ∃ T, wf T /\ l = tx T /\ l.length <= 60 /\ dm n T = true /\ n' = n /\ w = (aQ (fun x => ev x T) (2 ^ n) : Int)) /\ ((∃ T, wf T /\ l = tx T /\ l.length <= 60 /\ dm n T = true) -> b = true) /\ (∀ K : Int -> Int -> Bool -> Option β, vY N (B l) (n : Int) K = K n' w b) /\ (∀ K : Int -> Int -> Bool -> Option β, lZ N (B l) (n : Int) K = K n' w b) := by
 have h1in : ∀ K : Bool -> Option β, bK N (n : Int) 0 5 K = K true := fun K => by
  rw [aX, ajX (by omega : (0 : Int) <= (n : Int)), ajX (by omega : (n : Int) <= 5)]
  rfl
 have hbits : ∀ K : Bool -> Option β, zj7 N (n : Int) K = K true := fun K => by
  unfold zj7 zb7
  rw [ajX (by omega : (n : Int) >= 0), ajZ, ajX (by omega : (n : Int) <= 5)]
 have hs := bd hn
 have hz : (0 : Int) <= ((2 ^ n : Nat) : Int) := akj _
 have hform : ∀ K : Bool -> Option β, wD N (B l) K = K (nG l) := fun K => vd N hN l K
 have hread : ∀ K : Tr -> Bool -> Option β, l.length <= 60 -> vL N (B l) K = match pt 1048577 l with | some (T, r) => K T (r == []) | none => K .nil false := fun K h60 => by
  unfold vL H5 Xa
  rw [aE, aj2 (by omega), ajY, Cu N N l (by omega), ad6 N hN l h60]
  cases hp : pt 1048577 l with
  | none => rfl
  | some p =>
   obtain ⟨T, r⟩ := p
   have hw := cX (ki _ _ _ _ hp).1
   dsimp only
   rw [hw, akl, ajZ, aG, d7, aG]
 by_cases h60 : l.length <= 60
 ·cases hp : pt 1048577 l with
  | none =>
   refine ⟨0, 0, false, (fun h => by cases h), (fun ⟨T, hw, htx, _⟩ => ?_), fun K => ?_, fun K => ?_⟩
   ·rw [htx, <- akh (tx T), q9 T _ _ hw (by rw [<- htx]; omega)] at hp; cases hp
   ·unfold vY Li
    rw [hform]
    unfold nG
    rw [hp, alE]
    rfl
   ·unfold lZ yk
    rw [hread _ h60, hp]
    rfl
  | some p =>
   obtain ⟨T, r⟩ := p
   obtain ⟨hw, htx⟩ := ki _ _ _ _ hp
   cases r with
   | cons c r =>
    refine ⟨0, 0, false, (fun h => by cases h), (fun ⟨U, hu, hux, _⟩ => ?_), fun K => ?_, fun K => ?_⟩
    ·rw [hux, <- akh (tx U), q9 U _ _ hu (by rw [<- hux]; omega)] at hp; cases hp
    ·unfold vY Li
     rw [hform]
     unfold nG
     rw [hp, alE]
     rfl
    ·unfold lZ yk
     rw [hread _ h60, hp]
     rfl
   | nil =>
    rw [akh] at htx
    have eS : ∀ K : Int -> Int -> Bool -> Option β, vY N (B l) (n : Int) K = cond (dm n T) (K (n : Int) (aQ (fun x => ev x T) (2 ^ n) : Int) true) (K 0 0 false) := fun K => by
     unfold vY Li
     rw [hform]
     have hf : nG l = true := by unfold nG; rw [hp, ajX h60]; rfl
     rw [hf, aj5, ajY, h1in, aj5, ajY]
     have fJ := fun (k1 : ByteArray -> Int -> Int -> Int -> Option β) => tT (fun F i => vW N F (B l) (n : Int) (i : Int) 0 0 (fun e0 e1 e2 => K e1 e2 e0) k1) (fun i => okF n (at8 l i)) l.length (K 0 0 false) (k1 (B l) (n : Int) 0 0) (fun F i hi => by
      simp only [vW, abm, VR, aE]
      have hb := (at8 l i).toNat_lt
      rw [ajX (by omega : (i : Int) < (l.length : Int)), ajZ, ab (ajX (by omega)), ab rfl, yS l i hi, ab (ajX (by omega)), ab rfl, ab (ajX (by omega)), ab rfl, aw i (by omega)]
      unfold okF
      by_cases h97 : 97 <= (at8 l i).toNat
      ·rw [ajX (by omega : ((at8 l i).toNat : Int) >= 97), ajZ, C0 _ h97 (by omega), ajX h97]
       by_cases h101 : (at8 l i).toNat <= 101
       ·rw [ajX (by omega : ((at8 l i).toNat : Int) <= 101), ajZ, ajX h101]
        by_cases hlt : (at8 l i).toNat - 97 < n
        ·rw [aj2 (by omega), ajX hlt]; rfl
        ·rw [ajX (by omega), aj2 hlt]; rfl
       ·rw [aj2 (by omega : ¬ ((at8 l i).toNat : Int) <= 101), ajY, aj2 h101]; rfl
      ·rw [aj2 (by omega : ¬ ((at8 l i).toNat : Int) >= 97), ajY, aj2 h97]; rfl) (fun F => by
      simp only [vW, abm, VR, aE]
      rw [aj2 (by omega), ajY]) N (by omega)
     refine (fJ _).trans ?_
     rw [wL (okF n) l]
     have hall : l.all (okF n) = dm n T := by rw [<- mz n T hw, <- htx]
     rw [hall]
     cases dm n T with
     | false => rfl
     | true =>
      rw [ajZ, ajZ]
      refine a6 (fun F x => vX N F (B l) (n : Int) (aQ (fun x => ev x T) x : Int) (x : Int) 0 0 fun e0 e1 _ _ => K e0 e1 true) (2 ^ n) _ (fun F x hx => ?_) (fun F => ?_) N 0 (by omega) (by omega)
      ·simp only [vX, abn, VS]
       rw [ab (ajX (by omega)), aM n (by omega), ajX (by omega : (x : Int) < ((2 ^ n : Nat) : Int)), ajZ]
       have hv := fun k => Ee (β := β) N hN l h60 x (by omega) N T 0 [] hw (by rw [ali, akh]; exact htx) (by rw [<- htx]; omega) (by omega) k
       simp only [akO] at hv
       unfold aeC
       rw [hv, ab (ajX (by omega)), aw x (by omega), iP _ x (by omega)]
       cases hx1 : ev x T with
       | true => rw [ajZ, kr (g := fun x => ev x T) hx1]
       | false => rw [ajY, pG (g := fun x => ev x T) hx1]
      ·simp only [vX, abn, VS]
       rw [ab (ajX (by omega)), aM n (by omega), aj2 (by omega : ¬ ((2 ^ n : Nat) : Int) < ((2 ^ n : Nat) : Int)), ajY]
    have eI : ∀ K : Int -> Int -> Bool -> Option β, lZ N (B l) (n : Int) K = cond (dm n T) (K (n : Int) (aQ (fun x => ev x T) (2 ^ n) : Int) true) (K 0 0 false) := fun K => by
     unfold lZ yk Xc
     rw [hread _ h60, hp]
     dsimp only
     rw [show (([] : List UInt8) == []) = true from rfl, aj5, ajY, hbits, aj5, ajY, wo N hN n hn N T hw (by rw [<- htx]; omega)]
    cases hlt : dm n T with
    | true => exact ⟨_, _, true, fun _ => ⟨T, hw, htx, h60, hlt, rfl, rfl⟩, fun _ => rfl, fun K => by rw [eS, hlt, ajZ], fun K => by rw [eI, hlt, ajZ]⟩
    | false => exact ⟨0, 0, false, (fun h => by cases h), (fun ⟨U, hu, hux, _, hlu⟩ => by
     rw [hux, <- akh (tx U), q9 U _ _ hu (by rw [<- hux]; omega)] at hp
     cases hp; rw [hlt] at hlu; cases hlu), fun K => by rw [eS, hlt, ajY], fun K => by rw [eI, hlt, ajY]⟩
 ·refine ⟨0, 0, false, (fun h => by cases h), (fun ⟨U, _, _, h, _⟩ => absurd h h60), fun K => ?_, fun K => ?_⟩
  ·unfold vY Li
   rw [hform]
   unfold nG
   rw [aj2 h60]
   rfl
  ·unfold lZ yk vL H5
   rw [aE, ajX (by omega), ajZ]
   rfl
theorem yB (N : Nat) (hN : 1048576 < N) (n : Nat) (hn : n <= 5) (l : List UInt8) :
  ∃ (n' w : Int) (b : Bool), Tb n' w b /\ (∀ K : Int -> Int -> Bool -> Option β, vY N (B l) (n : Int) K = K n' w b) /\ (∀ K : Int -> Int -> Bool -> Option β, lZ N (B l) (n : Int) K = K n' w b) := by
 obtain ⟨n', w, b, h0, _, h1, h2⟩ := yC (β := β) N hN n hn l
 refine ⟨n', w, b, fun h => ?_, h1, h2⟩
 obtain ⟨T, _, _, _, _, rfl, rfl⟩ := h0 h
 exact ⟨n, _, rfl, rfl, hn, bU _ _⟩
theorem Iu (N : Nat) (hN : 1048576 < N) (a : List UInt8) (a1 : Int) (l : List UInt8) (hl : l.length <= 1048576) :
  ∃ (n' w : Int) (b : Bool), Tb n' w b /\ (∀ K : Int -> Int -> Bool -> Option β, vF N (B a) a1 (B l) K = K n' w b) /\ (∀ K : Int -> Int -> Bool -> Option β, vM N (B a) a1 (B l) K = K n' w b) := by
 by_cases h0 : 0 <= a1 /\ a1 <= 4
 ·obtain ⟨n, rfl⟩ := akT h0.1
  have hn : n <= 4 := by omega
  have h1in : ∀ K : Bool -> Option β, bK N (n : Int) 0 4 K = K true := fun K => by
   rw [aX, ajX (by omega : (0 : Int) <= (n : Int)), ajX (by omega : (n : Int) <= 4)]
   rfl
  unfold vF HF vM H7
  simp only [h1in, aj5, ajY, aj2 (by omega : ¬ (n : Int) < 0), aj2 (by omega : ¬ (n : Int) > 4)]
  cases (B a).toList == (aq [116, 97, 98, 108, 101]).toList with
  | true =>
   obtain ⟨n', w, b, e0, e1, e2⟩ := DO (β := β) N hN l
   simp only [ajZ, e1, e2]
   cases b with
   | false => exact ⟨0, 0, false, fg, fun K => rfl, fun K => rfl⟩
   | true =>
    cases hb : n' != (n : Int) with
    | true => exact ⟨0, 0, false, fg, fun K => rfl, fun K => rfl⟩
    | false => exact ⟨n', w, true, e0, fun K => rfl, fun K => rfl⟩
  | false =>
   simp only [ajY]
   cases (B a).toList == (aq [97, 110, 102]).toList with
   | true => exact Lm N hN n (by omega) l
   | false =>
    simp only [ajY]
    cases (B a).toList == (aq [115, 117, 109]).toList with
    | true => exact Iw N hN n (by omega) l
    | false =>
     simp only [ajY]
     cases (B a).toList == (aq [116, 114, 101, 101]).toList with
     | true => exact Ix N hN n (by omega) l hl
     | false =>
      simp only [ajY]
      cases (B a).toList == (aq [102, 111, 114, 109, 117, 108, 97]).toList with
      | true => exact yB N hN n (by omega) l
      | false => exact ⟨0, 0, false, fg, fun K => rfl, fun K => rfl⟩
 ·refine ⟨0, 0, false, fg, fun K => ?_, fun K => ?_⟩
  ·unfold vF HF
   have : (decide (0 <= a1) && decide (a1 <= 4)) = false := by
    rw [Bool.and_eq_false_iff, decide_eq_false_iff_not, decide_eq_false_iff_not]; omega
   rw [aX, this]
   rfl
  ·unfold vM H7
   by_cases h : a1 < 0
   ·rw [ajX h]; rfl
   ·rw [aj2 h, ajX (by omega : a1 > 4)]; rfl
end Go.Proofs.YtemihnclhcobnaaGreatDoor
