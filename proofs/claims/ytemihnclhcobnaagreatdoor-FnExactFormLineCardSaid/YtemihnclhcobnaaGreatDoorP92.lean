/- Plain laws of the texts. -/
import Derived.Test.YtemihnclhcobnaaGreatDoorP91
import Derived.Lib.Join
namespace Go.Proofs.YtemihnclhcobnaaGreatDoor
open Go.Rv
set_option linter.unusedSimpArgs false
set_option linter.unusedVariables false
variable {β : Type}
theorem fX (N : Nat) (hN : 1048576 < N) (n w : Nat) (hn : n ≤ 4) (hw : w < 2 ^ 2 ^ n) (K : List (Int × Int) → Option β) : ep N (n : Int) (w : Int) K = K (tl (prl n w (2 ^ n))) := by
 have hs : 2 ^ n ≤ 16 := (YE (by decide) hn : 2 ^ n ≤ 2 ^ 4)
 have hz0 : (0 : Int) ≤ ((2 ^ n : Nat) : Int) := Za _
 have h16 := Ag n hn
 unfold ep KV db CJ
 rw [ab (Yx (by omega)), aO n (by omega)]
 refine bc (fun F m => io N F ((2 ^ n : Nat) : Int) (m : Int) (n : Int) (w : Int) (tl (prl n w m)) fun e => K e) (2 ^ n) _ (fun F m hm => ?_) (fun F => ?_) N 0 (by omega) (by omega)
 ·simp only [io, Lz, Ey]
  rw [Yx (by omega : (m : Int) < ((2 ^ n : Nat) : Int)), YC, aB m (by omega)]
  have hl1 := eB n w m (by omega)
  refine (bc (fun H v => kV N H (m : Int) ((2 ^ n : Nat) : Int) (m : Int) ((m + 1 : Nat) : Int) (v : Int) (n : Int) (w : Int) (tl (prl n w m ++ prr n w m v)) fun e0 e1 e2 e3 e4 => io N F e0 (w64 (e1 + 1)) e2 e3 e4 fun e => K e) (m + 1) (io N F ((2 ^ n : Nat) : Int) ((m + 1 : Nat) : Int) (n : Int) (w : Int) (tl (prl n w (m + 1))) fun e => K e) (fun H v hv => ?_) (fun H => ?_) N 0 (by omega) (by omega) |> fun h => ZU (by rw [show prr n w m 0 = [] from rfl, YR]; rfl) h)
  ·have hl2 := pW n w m v
   simp only [kV, Ly, Ex]
   rw [Yx (by omega : (v : Int) < ((m + 1 : Nat) : Int)), YC, n0 v (by omega) m (by omega), FY N hN n w m v hn (by omega) (by omega) (by omega), aB v (by omega)]
   cases hc : (v &&& m == v) with
   | false => rw [YB, prr, hc, YZ, YB, YR]
   | true =>
    cases hp : prm n w m v with
    | false => rw [YC, YB, prr, hc, hp, aaE, YB, YR]
    | true =>
     rw [YC, YC, ab (Yx (by rw [aR, YF]; simp; omega)), prr, hc, hp, aax, YC, Zt, show tl (prl n w m ++ prr n w m v) ++ [((m : Int), (v : Int))] = tl ((prl n w m ++ prr n w m v) ++ [(m, v)]) from (lG _ (m, v)).symm, Zg]
  ·simp only [kV, Ly, Ex]
   rw [YD (by omega), YB, aB m (by omega)]
   rfl
 ·simp only [io, Lz, Ey]
  rw [YD (by omega : ¬ ((2 ^ n : Nat) : Int) < ((2 ^ n : Nat) : Int)), YB]
def ixI (r : List Nat) : List Int := r.map fun (i : Nat) => (i : Int)
theorem pO (r : List Nat) : (ixI r).length = r.length := by simp [ixI]
theorem Sj (r : List Nat) (i : Nat) (h : i < r.length) : rd 0 (ixI r) (i : Int) = (r[i] : Int) := by
 rw [JZ _ _ _ (by rw [pO]; exact h)]
 simp [ixI]
def wds (n : Nat) (o : List (Nat × Nat)) : List Int := (List.range o.length).map fun i => (wdO n o i : Int)
theorem xu (n : Nat) (o : List (Nat × Nat)) : (wds n o).length = o.length := by simp [wds]
theorem T1 (n : Nat) (o : List (Nat × Nat)) (i : Nat) (h : i < o.length) : rd 0 (wds n o) (i : Int) = (wdO n o i : Int) := by
 rw [JZ _ _ _ (by rw [xu]; exact h)]
 simp [wds]
theorem MY (wd : Nat → Nat) (T : Nat) : ∀ (l : List Nat) (k h : Nat) (r : List Nat), chs wd T l k h = some r → r.length ≤ k := by
 intro l
 induction l with
 | nil =>
  intro k h r e
  unfold chs at e
  cases h1 : k == 0 with
  | false => rw [h1] at e; cases e
  | true =>
   rw [h1, YC] at e
   cases h2 : h == T with
   | false => rw [h2] at e; cases e
   | true => rw [h2, YC, Yy] at e; subst e; exact YV _
 | cons t l ih =>
  intro k h r e
  cases k with
  | zero =>
   unfold chs at e
   dsimp only at e
   cases h2 : h == T with
   | false => rw [h2] at e; cases e
   | true => rw [h2, YC, Yy] at e; subst e; exact YV _
  | succ k =>
   unfold chs at e
   dsimp only at e
   cases h1 : decide (k + 1 ≤ l.length + 1) with
   | false => rw [h1] at e; cases e
   | true =>
    rw [h1, YC] at e
    cases h2 : (wd t ^^^ (wd t &&& h) == 0) with
    | true => rw [h2, YC] at e; exact ih (k + 1) h r e
    | false =>
     rw [h2, YB] at e
     cases h3 : chs wd T l k (h ||| wd t) with
     | some r' =>
      rw [h3, Yy] at e
      subst e
      have := ih k _ r' h3
      rw [YQ]; omega
     | none => rw [h3] at e; exact ih (k + 1) h r e
theorem CI (n : Nat) (hn : n ≤ 4) (o : List (Nat × Nat)) (i : Nat) : wdO n o i < 65536 := by
 have h1 := dO (fun x => x &&& (o.getD i (0, 0)).1 == (o.getD i (0, 0)).2) (2 ^ n)
 have h2 := Ag n hn
 unfold wdO
 omega
theorem tp (N : Nat) (hN : 1048576 < N) (n w : Nat) (hn : n ≤ 4) (hw : w < 65536) (o : List (Nat × Nat)) (hol : o.length ≤ 1000) : ∀ (k F i have_ : Nat), k ≤ 1000 → k < F → i ≤ o.length → have_ < 65536 →
  ∀ K : List Int → Bool → Option β, ec N F (wds n o) (w : Int) (have_ : Int) (i : Int) (k : Int) K = match chs (wdO n o) w (List.range' i (o.length - i)) k have_ with
   | some r => K (ixI r) true
   | none => K [] false := by
 intro k
 induction k with
 | zero =>
  intro F i have_ hk hF hi hh K
  obtain ⟨G, rfl⟩ : ∃ G, F = G + 1 := ⟨F - 1, by omega⟩
  have e : chs (wdO n o) w (List.range' i (o.length - i)) 0 have_ = cond (have_ == w) (some []) none := by
   cases List.range' i (o.length - i) <;> rfl
  rw [e]
  simp only [ec, LB, EB]
  rw [show (((0 : Nat) : Int) == 0) = true from rfl, YC, iO]
  cases have_ == w <;> rfl
 | succ k ih =>
  intro F i have_ hk100 hF hi hh K
  obtain ⟨G, rfl⟩ : ∃ G, F = G + 1 := ⟨F - 1, by omega⟩
  have hk : (((k + 1 : Nat) : Int) == 0) = false := beq_eq_false_iff_ne.2 (by omega)
  have loop : ∀ (d H j : Nat), j + d = o.length → d < H → ∀ K : List Int → Bool → Option β,
    l4 N (ec N G) H (wds n o) (w : Int) (have_ : Int) ((k + 1 : Nat) : Int) (j : Int) (fun e0 e1 => K e1 e0) (K [] false) = match chs (wdO n o) w (List.range' j d) (k + 1) have_ with
     | some r => K (ixI r) true
     | none => K [] false := by
   intro d
   induction d with
   | zero =>
    intro H j hd hH K
    obtain ⟨H, rfl⟩ : ∃ G, H = G + 1 := ⟨H - 1, by omega⟩
    simp only [l4, LA, EA, xu]
    rw [bW (by omega) (by omega), YD (by omega), YB]
    rfl
   | succ d ihd =>
    intro H j hd hH K
    obtain ⟨H, rfl⟩ : ∃ G, H = G + 1 := ⟨H - 1, by omega⟩
    have hj : j < o.length := by omega
    have e0 := ihd H (j + 1) (by omega) (by omega) K
    have hwj := CI n hn o j
    have ha : bits .andNot .i64 (wdO n o j : Int) (have_ : Int) = ((wdO n o j ^^^ (wdO n o j &&& have_) : Nat) : Int) := MT _ _ (by omega) (by omega)
    have hb : bits .or .i64 (have_ : Int) (wdO n o j : Int) = ((have_ ||| wdO n o j : Nat) : Int) := bOr _ _ (by omega) (by omega)
    have hor : have_ ||| wdO n o j < 2 ^ 16 := ZM (by omega) (by omega)
    have hk1 : w64 (((k + 1 : Nat) : Int) - 1) = (k : Int) := by rw [show ((k + 1 : Nat) : Int) - 1 = (k : Int) by omega]; exact bW (by omega) (by omega)
    have e2 := ih G (j + 1) (have_ ||| wdO n o j) (by omega) (by omega) (by omega) (by omega)
    rw [show o.length - (j + 1) = d by omega] at e2
    have hd2 : (decide ((j : Int) ≤ w64 ((o.length : Int) - ((k + 1 : Nat) : Int)))) = decide (k + 1 ≤ d + 1) := by
     rw [bW (by omega) (by omega)]
     apply decide_eq_decide.2
     omega
    have hch : chs (wdO n o) w (List.range' j (d + 1)) (k + 1) have_ = cond (decide (k + 1 ≤ d + 1)) (cond (wdO n o j ^^^ (wdO n o j &&& have_) == 0) (chs (wdO n o) w (List.range' (j + 1) d) (k + 1) have_) (match chs (wdO n o) w (List.range' (j + 1) d) k (have_ ||| wdO n o j) with
      | some r => some (j :: r)
      | none => chs (wdO n o) w (List.range' (j + 1) d) (k + 1) have_)) none := by
     rw [List.range'_succ]
     show cond (decide (k + 1 ≤ (List.range' (j + 1) d).length + 1)) _ none = _
     rw [List.length_range']
     all_goals rfl
    rw [hch]
    simp only [l4, LA, EA, xu, T1 n o j hj]
    rw [hd2]
    cases decide (k + 1 ≤ d + 1) with
    | false => rfl
    | true =>
     rw [YC, YC, ab (Yx (by omega)), ab (Yx (by omega)), ha, hb, hk1, aB j (by omega), ab (Yx (by omega)), ab (Yx (by omega)), e2, e0, show (((wdO n o j ^^^ (wdO n o j &&& have_) : Nat) : Int) == 0) = (wdO n o j ^^^ (wdO n o j &&& have_) == 0) from iO _ 0]
     cases h1 : (wdO n o j ^^^ (wdO n o j &&& have_) == 0) with
     | true => rw [YC, YC]
     | false =>
      rw [YB, YB]
      cases h2 : chs (wdO n o) w (List.range' (j + 1) d) k (have_ ||| wdO n o j) with
      | none => dsimp only; rw [YB]
      | some r1 =>
       have hr := MY _ _ _ _ _ r1 h2
       dsimp only
       rw [YC, ab (Yx (by rw [pO]; simp; omega))]
       rfl
  simp only [ec, LB, EB]
  rw [hk, YB]
  exact loop (o.length - i) N i (by omega) (by omega) K
theorem qT (N : Nat) (hN : 1048576 < N) (n w : Nat) (hn : n ≤ 4) (hw : w < 2 ^ 2 ^ n) (K : List (Int × Int) → Option β) : vv N (n : Int) (w : Int) K = K (tl (jf n w)) := by
 have hs : 2 ^ n ≤ 16 := (YE (by decide) hn : 2 ^ n ≤ 2 ^ 4)
 have hl := eB n w (2 ^ n) hs
 have hw6 := w63 hn hw
 have hg := jC n w hn
 unfold vv KY
 rw [fX N hN n w hn hw, aR]
 have h8 := V3 n w hn hw
 have hin := zB n w
 have hsum : jf n w = atO (prl n w (2 ^ n)) (lL n w 9 0) := rfl
 rw [hsum]
 have hdef : ∀ d k, lL n w (d + 1) k = match cvr (wdO n (prl n w (2 ^ n))) (List.range (prl n w (2 ^ n)).length) k w with
   | some r => r
   | none => lL n w d (k + 1) := fun d k => rfl
 have hlen0 : ∀ d k, (∀ i ∈ lL n w d k, i < (prl n w (2 ^ n)).length) := fun d k => (wD n w d k).1
 generalize prl n w (2 ^ n) = o at *
 generalize lL n w = L at *
 rw [ab (Yx (by omega)), ab (Yx (by omega)), ab (Yx (by omega)), Zb]
 have words : ∀ (d F i : Nat), i + d = o.length → d < F → ∀ k0 : List (Int × Int) → Int → Int → List Int → Option β, jc N F (tl o) (tl o) (o.length : Int) (i : Int) (n : Int) (w : Int) (((List.range i).map fun i => (wdO n o i : Int)) ++ List.replicate d 0) k0 = k0 (tl o) (n : Int) (w : Int) (wds n o) := by
  intro d
  induction d with
  | zero =>
   intro F i hi hF k0
   obtain ⟨G, rfl⟩ : ∃ G, F = G + 1 := ⟨F - 1, by omega⟩
   simp only [jc, LC, EC]
   rw [YD (by omega), YB, List.replicate_zero, YR, show i = o.length by omega]
   rfl
  | succ d ih =>
   intro F i hi hF k0
   obtain ⟨G, rfl⟩ : ∃ G, F = G + 1 := ⟨F - 1, by omega⟩
   have hlt : i < o.length := by omega
   obtain ⟨g1, g2, g3⟩ := hg o[i] (YS hlt)
   have hsumof : ∀ K : Int → Int → Option β, fy N (n : Int) ([] ++ [((o[i].1 : Int), (o[i].2 : Int))]) K = K (n : Int) (wdO n o i : Int) := fun K => by
    unfold fy Ez wdO
    rw [dA o i hlt, show ([] ++ [((o[i].1 : Int), (o[i].2 : Int))]) = tl [o[i]] from rfl]
    rw [ez N (by omega) n (by omega) _ (fun x => x &&& o[i].1 == o[i].2) (fun x k hx => by
     unfold il P7
     rw [yy N hN [o[i]] (by simp) _ (fun t => x &&& t.1 == t.2) (fun t ht k => by
      rw [ZG.1 ht]
      unfold zj2 zb2 zj1 zb1
      rw [fE x (by omega) _ g2, iO])]
     simp)]
   simp only [jc, LC, EC, aR, hU o i hlt]
   rw [Yx (by omega : (i : Int) < (o.length : Int)), YC, ab (Yx (by omega)), ab rfl, hsumof, ab (Yx (by omega)), ab (Yx (by simp; omega)), aB i (by omega), aaB]
   have hwr := KG ((List.range i).map fun i => (wdO n o i : Int)) 0 (wdO n o i : Int) (List.replicate d 0)
   rw [Zm, aaI] at hwr
   rw [hwr]
   have e : ((List.range i).map fun i => (wdO n o i : Int)) ++ (wdO n o i : Int) :: List.replicate d 0 = ((List.range (i + 1)).map fun i => (wdO n o i : Int)) ++ List.replicate d 0 := by
    rw [Z1, Z0, Zg]; rfl
   rw [e]
   exact ih G (i + 1) (by omega) (by omega) k0
 refine ZU (words o.length N 0 (by omega) (by omega) _) ?_
 rw [aR, show w64 ((o.length : Int) + 1) = ((o.length + 1 : Nat) : Int) from aB _ (by omega)]
 have out : ∀ r : List Nat, (∀ i ∈ r, i < o.length) → r.length ≤ 1000 → ∀ k0 : List (Int × Int) → Option β, ip N N (tl o) ((ixI r).length : Int) 0 [] (ixI r) k0 = k0 (tl (atO o r)) := by
  intro r hr hrl k0
  rw [pO]
  refine bc (fun F i => ip N F (tl o) (r.length : Int) (i : Int) (tl (atO o (r.take i))) (ixI r) k0) r.length _ (fun F i hi => ?_) (fun F => ?_) N 0 (by omega) (by omega)
  ·have hri := hr r[i] (YS hi)
   simp only [ip, LD, ED, aR, pO, Sj r i hi, hU o r[i] hri]
   have e : atO o (r.take (i + 1)) = atO o (r.take i) ++ [o[r[i]]] := by
    unfold atO
    rw [aaq, abb hi, Option.toList_some, Z0, Zh, dA o _ hri]
    rfl
   have hal : (atO o (r.take i)).length = i := by unfold atO; rw [Zm, ZH]; omega
   rw [Yx (by omega : (i : Int) < (r.length : Int)), YC, ab (Yx (by omega)), ab rfl, ab (Yx (by omega)), ab (Yx (by omega)), ab (Yx (by rw [hal]; simp; omega)), aB i (by omega), e, lG, Zt]
  ·simp only [ip, LD, ED]
   rw [YD (by omega), YB, Z6]
 have loop : ∀ (d F k : Nat), k + d = 9 → d < F → (∀ j, j < k → cvr (wdO n o) (List.range o.length) j w = none) → ∀ (k0 : List (Int × Int) → Option β) (k1 : Option β), kW N F (tl o) ((o.length + 1 : Nat) : Int) (k : Int) (n : Int) (w : Int) (wds n o) k0 k1 = k0 (tl (atO o (L d k))) := by
  intro d
  induction d with
  | zero =>
   intro F k hk hF hno k0 k1
   exact absurd (hno 8 (by omega)) h8
  | succ d ih =>
   intro F k hk hF hno k0 k1
   obtain ⟨G, rfl⟩ : ∃ G, F = G + 1 := ⟨F - 1, by omega⟩
   have hkL : k ≤ o.length := by
    rcases YM o.length k with h | h
    ·cases hc : cvr (wdO n o) (List.range o.length) 8 w with
     | none => exact absurd hc h8
     | some r =>
      obtain ⟨a1, a2, a3, a4⟩ := eF _ _ _ _ r hc
      rw [aaI] at a2
      exact absurd (hno o.length h) (qz _ _ _ w r a1 a2 a4)
    ·exact h
   have e1 := fun K => tp (β := β) N hN n w hn hw6 o (by omega) k N 0 0 (by omega) (by omega) (by omega) (by omega) K
   rw [aaU, ← List.range_eq_range', Ba _ _ _ hin k hno] at e1
   simp only [kW, Rk, KX]
   rw [Yx (by omega : (k : Int) < ((o.length + 1 : Nat) : Int)), YC]
   unfold Rj
   refine (e1 _).trans ?_
   rw [hdef]
   cases hc : cvr (wdO n o) (List.range o.length) k w with
   | some r =>
    obtain ⟨a1, a2, a3, a4⟩ := eF _ _ _ _ r hc
    dsimp only
    rw [YC]
    exact out r (fun i hi => Zo.1 (a1 i hi)) (by omega) _
   | none =>
    dsimp only
    rw [YB, aB k (by omega)]
    exact ih G (k + 1) (by omega) (by omega) (fun j hj => by
     rcases YM j k with h | h
     ·exact hno j h
     ·have : j = k := by omega
      subst this
      exact hc) k0 k1
 exact loop 9 N 0 rfl (by omega) (fun j hj => absurd hj (Zz _)) _ _
end Go.Proofs.YtemihnclhcobnaaGreatDoor
namespace Go.Proofs.YtemihnclhcobnaaGreatDoor
open Go.Rv
set_option linter.unusedSimpArgs false
set_option linter.unusedVariables false
variable {β : Type}
def m3 (o : List (Nat × Nat)) (i : Nat) : List (Nat × Nat) := o.take i ++ o.drop (i + 1)
theorem yW (n : Nat) (o : List (Nat × Nat)) (i x : Nat) (hx : x < 2 ^ n) : hold (m3 o i) x = true ↔ ∃ j, j < o.length ∧ j ≠ i ∧ (wdO n o j).testBit x = true := by
 unfold hold m3
 rw [List.any_eq_true]
 constructor
 ·rintro ⟨t, ht, hc⟩
  rcases Zl.1 ht with h | h
  ·obtain ⟨j, hj, e⟩ := List.mem_take_iff_getElem.1 h
   have hj2 : j < o.length := by omega
   refine ⟨j, hj2, by omega, ?_⟩
   rw [nR, dA o j hj2, Yx hx, YI, e]
   exact hc
  ·obtain ⟨j, hj, e⟩ := List.mem_drop_iff_getElem.1 h
   refine ⟨i + 1 + j, by omega, by omega, ?_⟩
   rw [nR, dA o _ (by omega), Yx hx, YI, e]
   exact hc
 ·rintro ⟨j, hj, hne, hb⟩
  rw [nR, dA o j hj, Yx hx, YI] at hb
  refine ⟨o[j], Zl.2 ?_, hb⟩
  rcases YM j i with h | h
  ·exact Or.inl (List.mem_take_iff_getElem.2 ⟨j, by omega, rfl⟩)
  ·refine Or.inr (List.mem_drop_iff_getElem.2 ⟨j - (i + 1), by omega, ?_⟩)
   congr 1
   omega
def mw (n : Nat) (o : List (Nat × Nat)) (i : Nat) : Nat → Nat → Nat → Nat
 | 0, _, W => W
 | d + 1, k, W => mw n o i d (k + 1) (cond (k != i) (W - (W &&& wdO n o k)) W)
theorem DO (n : Nat) (o : List (Nat × Nat)) (i : Nat) : ∀ d k W, mw n o i d k W ≤ W
 | 0, _, W => YG _
 | d + 1, k, W => by
  have h := DO n o i d (k + 1) (cond (k != i) (W - (W &&& wdO n o k)) W)
  refine Zd h ?_
  cases k != i
  ·exact YG _
  ·exact Nat.sub_le _ _
theorem rg (n : Nat) (o : List (Nat × Nat)) (i x : Nat) : ∀ d k W, (mw n o i d k W).testBit x = true ↔ W.testBit x = true ∧ ∀ j, k ≤ j → j < k + d → j ≠ i → (wdO n o j).testBit x = false
 | 0, k, W => ⟨(fun h => ⟨h, fun j h1 h2 => by omega⟩), fun h => h.1⟩
 | d + 1, k, W => by
  show (mw n o i d (k + 1) (cond (k != i) (W - (W &&& wdO n o k)) W)).testBit x = true ↔ _
  rw [rg n o i x d (k + 1)]
  by_cases hk : k = i
  ·rw [show (k != i) = false by simp [hk], YB]
   constructor
   ·rintro ⟨h1, h2⟩
    exact ⟨h1, fun j a b c => h2 j (by omega) (by omega) c⟩
   ·rintro ⟨h1, h2⟩
    exact ⟨h1, fun j a b c => h2 j (by omega) (by omega) c⟩
  ·rw [show (k != i) = true by simp [hk], YC, eJ, Yz, YT]
   constructor
   ·rintro ⟨⟨h1, h3⟩, h2⟩
    refine ⟨h1, fun j a b c => ?_⟩
    rcases YM k j with h | h
    ·exact h2 j h (by omega) c
    ·have : j = k := by omega
     rw [this]; exact h3
   ·rintro ⟨h1, h2⟩
    exact ⟨⟨h1, h2 k (YG _) (by omega) hk⟩, fun j a b c => h2 j (by omega) (by omega) c⟩
def IJ (n w i : Nat) : Bool := aZ (hold (m3 (prl n w (2 ^ n)) i)) (2 ^ n) != w
theorem M1 (n w : Nat) (hn : n ≤ 4) (hw : w < 2 ^ 2 ^ n) (i : Nat) (hi : i < (prl n w (2 ^ n)).length) : decide (mw n (prl n w (2 ^ n)) i (prl n w (2 ^ n)).length 0 (wdO n (prl n w (2 ^ n)) i) > 0) = IJ n w i := by
 have hin := zB n w
 have hfor := uQ n w hn hw
 unfold IJ
 generalize prl n w (2 ^ n) = o at *
 have key : (0 < mw n o i o.length 0 (wdO n o i)) ↔ aZ (hold (m3 o i)) (2 ^ n) ≠ w := by
  constructor
  ·intro hpos e
   have : ∃ x, (mw n o i o.length 0 (wdO n o i)).testBit x = true := by
    apply Classical.byContradiction
    intro hno
    have : mw n o i o.length 0 (wdO n o i) = 0 := ij.2 fun x => by
     cases hb : (mw n o i o.length 0 (wdO n o i)).testBit x with
     | false => rfl
     | true => exact absurd ⟨x, hb⟩ hno
    omega
   obtain ⟨x, hx⟩ := this
   obtain ⟨h1, h2⟩ := (rg n o i x _ _ _).1 hx
   have hwx := hin i (Zo.2 hi) x h1
   have hx2 := cY hw hwx
   rw [← e, d8, Yx hx2, YI, yW n o i x hx2] at hwx
   obtain ⟨j, hj, hne, hb⟩ := hwx
   rw [h2 j (YV _) (by omega) hne] at hb
   cases hb
  ·intro hne
   apply Nat.pos_of_ne_zero
   intro h0
   apply hne
   refine Zp fun x => ?_
   rw [d8]
   rcases YM x (2 ^ n) with hx2 | hx2
   ·rw [Yx hx2, YI, ZZ, yW n o i x hx2]
    constructor
    ·rintro ⟨j, hj, _, hb⟩
     exact hin j (Zo.2 hj) x hb
    ·intro hwx
     obtain ⟨j, hj, hb⟩ := hfor x hwx
     have hj2 := Zo.1 hj
     have hb2 := hb x rfl hwx
     by_cases hji : j = i
     ·subst hji
      apply Classical.byContradiction
      intro hno
      have : (mw n o j o.length 0 (wdO n o j)).testBit x = true := (rg n o j x _ _ _).2 ⟨hb2, fun j' _ h2 h3 => by
       cases hc : (wdO n o j').testBit x with
       | false => rfl
       | true => exact absurd ⟨j', by omega, h3, hc⟩ hno⟩
      rw [h0, Zq] at this
      cases this
     ·exact ⟨j, hj2, hji, hb2⟩
   ·rw [YD (by omega), YZ]
    cases hb : w.testBit x with
    | false => rfl
    | true => have := cY hw hb; omega
 cases he : (aZ (hold (m3 o i)) (2 ^ n) != w) with
 | true => exact Yx (key.2 (by simpa using he))
 | false =>
  apply YD
  intro h
  have := key.1 h
  simp at he
  exact this he
def esl (n w : Nat) : Nat → List (Nat × Nat)
 | 0 => []
 | i + 1 => esl n w i ++ cond (IJ n w i) [(prl n w (2 ^ n)).getD i (0, 0)] []
theorem na (n w : Nat) : ∀ i, (esl n w i).length ≤ i
 | 0 => YG _
 | i + 1 => by
  have := na n w i
  rw [esl, YF]
  cases IJ n w i <;> simp <;> omega
theorem wu (N : Nat) (hN : 1048576 < N) (n : Nat) (hn : n ≤ 4) (o : List (Nat × Nat)) (ho : o.length ≤ 1000) (hg : Ts n o) (K : Int → Int → Option β) : fy N (n : Int) (tl o) K = K (n : Int) (aZ (hold o) (2 ^ n) : Int) := by
 have hs : 2 ^ n ≤ 16 := (YE (by decide) hn : 2 ^ n ≤ 2 ^ 4)
 unfold fy Ez
 rw [ez N (by omega) n (by omega) _ (hold o) (fun x k hx => by
  unfold il P7
  rw [yy N hN o ho _ (fun t => x &&& t.1 == t.2) (fun t ht k => by
   obtain ⟨g1, g2, g3⟩ := hg t ht
   unfold zj2 zb2 zj1 zb1
   rw [fE x (by omega) t.1 g2, iO])]
  rfl)]
theorem O6 (o : List (Nat × Nat)) (i : Nat) : (tl o).take i = tl (o.take i) := by simp [tl, List.map_take]
theorem O5 (o : List (Nat × Nat)) (i : Nat) : (tl o).drop i = tl (o.drop i) := by simp [tl, List.map_drop]
theorem Tq (o p : List (Nat × Nat)) : tl o ++ tl p = tl (o ++ p) := by simp [tl]
theorem og (N : Nat) (hN : 1048576 < N) (n w : Nat) (hn : n ≤ 4) (hw : w < 2 ^ 2 ^ n) (K : List (Int × Int) → Bool → Option β) : vA N (n : Int) (w : Int) K = K (tl (esl n w (prl n w (2 ^ n)).length)) true := by
 have hs : 2 ^ n ≤ 16 := (YE (by decide) hn : 2 ^ n ≤ 2 ^ 4)
 have hl := eB n w (2 ^ n) hs
 have hw6 := w63 hn hw
 have hg := jC n w hn
 have hel := na n w
 have hes : ∀ i, esl n w (i + 1) = esl n w i ++ cond (aZ (hold (m3 (prl n w (2 ^ n)) i)) (2 ^ n) != w) [(prl n w (2 ^ n)).getD i (0, 0)] [] := fun i => rfl
 unfold vA KZ
 rw [bH N _ _ (by omega), tt (by omega) hw, YP, YB, fX N hN n w hn hw, aR]
 generalize prl n w (2 ^ n) = o at *
 refine bc (fun F i => l5 N F (tl o) (tl o) (o.length : Int) (i : Int) (n : Int) (w : Int) (tl (esl n w i)) fun e => K e true) o.length _ (fun F i hi => ?_) (fun F => ?_) N 0 (by omega) (by omega)
 ·have hb : Ts n (m3 o i) := fun t ht => by
   unfold m3 at ht
   rcases Zl.1 ht with h | h
   ·exact hg t (Zy h)
   ·exact hg t (List.mem_of_mem_drop h)
  have hbl : (m3 o i).length ≤ 1000 := by unfold m3; rw [YF, ZH, List.length_drop]; omega
  have hei := hel i
  simp only [l5, LE, EE, aR, hU o i hi, aB i (show i < 9223372036854775807 by omega), Zb]
  rw [Yx (by omega : (i : Int) < (o.length : Int)), YC, ab (Yx (by omega)), ab rfl, ab (Yx (by omega)), ab (Yx (by omega)), ab (Yx (by omega)), ab (Yx (by omega)), Z4, O6, ZL (show (tl o).length ≤ o.length by rw [aR]; omega), O5]
  unfold aX
  rw [ab (Yx (by rw [aR, ZH]; omega))]
  dsimp only
  rw [aR, aR, ab (Yx (by rw [ZH, List.length_drop]; omega)), Tq, show o.take i ++ o.drop (i + 1) = m3 o i from rfl, wu N hN n hn _ hbl hb, beq_self_eq_true, YI, iO, hes i]
  cases hc : (aZ (hold (m3 o i)) (2 ^ n) == w) with
  | true =>
   rw [show (aZ (hold (m3 o i)) (2 ^ n) != w) = false by rw [bne, hc]; rfl, YP, YB, YB, YR]
  | false =>
   rw [show (aZ (hold (m3 o i)) (2 ^ n) != w) = true by rw [bne, hc]; rfl, Zx, YC, YC, ab (Yx (by simp; omega)), dA o i hi, lG, Zt]
 ·simp only [l5, LE, EE]
  rw [YD (by omega), YB]
theorem oN (N : Nat) (hN : 1048576 < N) (n w : Nat) (hn : n ≤ 4) (hw : w < 2 ^ 2 ^ n) (K : List (Int × Int) → Bool → Option β) : Hr N (n : Int) (w : Int) K = K (tl (esl n w (prl n w (2 ^ n)).length)) true := by
 have hs : 2 ^ n ≤ 16 := (YE (by decide) hn : 2 ^ n ≤ 2 ^ 4)
 have hl := eB n w (2 ^ n) hs
 have hw6 := w63 hn hw
 have hg := jC n w hn
 have hel := na n w
 have hess := M1 n w hn hw
 have hes : ∀ i, esl n w (i + 1) = esl n w i ++ cond (IJ n w i) [(prl n w (2 ^ n)).getD i (0, 0)] [] := fun i => rfl
 unfold Hr Ue
 rw [bm, tt (by omega) hw, YP, YB, ge N hN n w hn hw]
 generalize prl n w (2 ^ n) = o at *
 have e1 : ∀ j, j < o.length → ∀ K : Int → Option β, jg N (n : Int) ((rd (0, 0) (tl o) (j : Int)).1) ((rd (0, 0) (tl o) (j : Int)).2) K = K (wdO n o j : Int) := fun j hj K => by
  obtain ⟨g1, g2, g3⟩ := hg o[j] (YS hj)
  unfold wdO
  rw [hU o j hj, dA o j hj]
  exact f8 (β := β) N hN n o[j].1 o[j].2 (by omega) g2 K
 refine bc (fun F i => sY N F (i : Int) (n : Int) (w : Int) (tl (esl n w i)) (tl o) fun e => K e true) o.length _ (fun F i hi => ?_) (fun F => ?_) N 0 (by omega) (by omega)
 ·have hei := hel i
  have inner : ∀ (d H k W : Nat), k + d = o.length → d < H → W < 65536 → ∀ k0 : Int → Int → Int → Int → List (Int × Int) → List (Int × Int) → Option β, sX N H (i : Int) (W : Int) (k : Int) (n : Int) (w : Int) (tl (esl n w i)) (tl o) k0 = k0 (i : Int) (mw n o i d k W : Int) (n : Int) (w : Int) (tl (esl n w i)) (tl o) := by
   intro d
   induction d with
   | zero =>
    intro H k W hk hH hW k0
    obtain ⟨H, rfl⟩ : ∃ G, H = G + 1 := ⟨H - 1, by omega⟩
    simp only [sX, UC, Qh, aR]
    rw [YD (by omega), YB]
    rfl
   | succ d ih =>
    intro H k W hk hH hW k0
    obtain ⟨H, rfl⟩ : ∃ G, H = G + 1 := ⟨H - 1, by omega⟩
    have hwk := CI n hn o k
    have hle : W &&& wdO n o k ≤ W := Z9
    simp only [sX, UC, Qh, aR]
    rw [Yx (by omega : (k : Int) < (o.length : Int)), YC, aB k (by omega)]
    show _ = k0 (i : Int) (mw n o i d (k + 1) (cond (k != i) (W - (W &&& wdO n o k)) W) : Int) (n : Int) (w : Int) (tl (esl n w i)) (tl o)
    by_cases hki : k = i
    ·rw [show ((k : Int) != (i : Int)) = false by simp [hki], show (k != i) = false by simp [hki], YB, YB]
     exact ih H (k + 1) W (by omega) (by omega) hW k0
    ·rw [show ((k : Int) != (i : Int)) = true by simp only [aa3, ne_eq]; omega, show (k != i) = true by simp [hki], YC, YC, ab (Yx (by omega)), ab rfl, e1 k (by omega), bAnd _ _ (by omega) (by omega), show w64 ((W : Int) - ((W &&& wdO n o k : Nat) : Int)) = ((W - (W &&& wdO n o k) : Nat) : Int) by rw [bW (by omega) (by omega)]; omega]
     exact ih H (k + 1) _ (by omega) (by omega) (by omega) k0
  have hwi := CI n hn o i
  have hml := DO n o i o.length 0 (wdO n o i)
  simp only [sY, UD, Qi, aR]
  rw [Yx (by omega : (i : Int) < (o.length : Int)), YC, ab (Yx (by omega)), ab rfl, e1 i hi]
  refine (inner o.length N 0 (wdO n o i) (by omega) (by omega) hwi _).trans ?_
  rw [hes i, ← hess i hi, aB i (by omega)]
  by_cases hp : mw n o i o.length 0 (wdO n o i) > 0
  ·rw [Yx (by omega : ((mw n o i o.length 0 (wdO n o i) : Nat) : Int) > 0), Yx hp, YC, YC, ab (Yx (by omega)), aR, ab (Yx (by omega)), hU o i hi, ab (Yx (by rw [aR]; simp; omega)), dA o i hi, lG, Zt]
  ·rw [YD (by omega : ¬ ((mw n o i o.length 0 (wdO n o i) : Nat) : Int) > 0), YD hp, YB, YB, YR]
 ·simp only [sY, UD, Qi, aR]
  rw [YD (by omega), YB]
end Go.Proofs.YtemihnclhcobnaaGreatDoor
namespace Go.Proofs.YtemihnclhcobnaaGreatDoor
open Go.Rv
set_option linter.unusedSimpArgs false
set_option linter.unusedVariables false
variable {β : Type}
theorem DL (n w : Nat) : ∀ d k, (lL n w d k).length ≤ k + d - 1
 | 0, k => YV _
 | d + 1, k => by
  unfold lL
  cases h : cvr (wdO n (prl n w (2 ^ n))) (List.range (prl n w (2 ^ n)).length) k w with
  | some r =>
   have h3 := (eF _ _ _ _ r h).2.2.1
   show r.length ≤ _
   omega
  | none =>
   have := DL n w d (k + 1)
   show (lL n w d (k + 1)).length ≤ _
   omega
theorem ig (n w : Nat) : (jf n w).length ≤ 8 := by
 unfold jf
 rw [Zm]
 exact DL n w 9 0
theorem eK (n w : Nat) (hn : n ≤ 4) : Ts n (jf n w) := by
 intro t ht
 unfold jf at ht
 obtain ⟨i, hi, rfl⟩ := YY.1 ht
 have hlt := (wD n w 9 0).1 i hi
 rw [dA _ i hlt]
 exact jC n w hn _ (YS hlt)
theorem qU (N : Nat) (hN : 1048576 < N) (n : Nat) (hn : n ≤ 4) (o : List (Nat × Nat)) (ho : o.length ≤ 8) (hg : Ts n o) (K : ByteArray → Option β) : vE N (n : Int) (tl o) K = K (B (qP n o)) := by
 unfold vE Lb qP
 rw [aR, show ((o.length : Int) == 0) = (o.length == 0) from iO o.length 0]
 cases hc : (o.length == 0) with
 | true => rw [YC, YC, et]; rfl
 | false =>
  rw [YB, YB, show aj [124] = B [124] from et _, g8 N hN n (by omega) o (by omega) (fun t ht => ⟨(hg t ht).2.1, (hg t ht).2.2, (nj hn (hg t ht)).2.1⟩) 124]
theorem yJ (n w : Nat) (hn : n ≤ 5) : (qD w n).length ≤ 200 := by
 have h := yw n hn (dQ w n).testBit (2 ^ n) (YG _)
 unfold qD
 cases (lJ n (dQ w n).testBit (2 ^ n) == []) with
 | true => exact (by decide : 1 ≤ 200)
 | false => exact h
theorem Kv (N : Nat) (ws : List (List UInt8)) (hl : ws.length ≤ 100) (hj : (Lib.join ws [32]).length ≤ 100000) (k0 : ByteArray → List ByteArray → Option β) : vK N (ws.map B) k0 = k0 (B (Lib.join ws [32])) (ws.map B) := by
 unfold vK Ln strings_Join
 rw [show aj [32] = B [32] from et _, Nf, ab (Yx (by rw [Zm]; omega)), ab (Yx (by rw [be]; omega))]
def jv (b f : Bool) (A S P E T F : List UInt8) : List (List UInt8) := cond b (cond f [[102, 111, 114, 109, 115], [97, 110, 102], A, [115, 117, 109], S, [112, 114, 105, 109, 101, 115], P, [101, 115, 115, 101, 110, 116, 105, 97, 108], E, [116, 114, 101, 101], T, [102, 111, 114, 109, 117, 108, 97], F, [102, 114, 101, 101]] [[102, 111, 114, 109, 115], [97, 110, 102], A, [115, 117, 109], S, [112, 114, 105, 109, 101, 115], P, [101, 115, 115, 101, 110, 116, 105, 97, 108], E, [116, 114, 101, 101], T, [102, 111, 114, 109, 117, 108, 97], F]) (cond f [[102, 111, 114, 109, 115], [97, 110, 102], A, [115, 117, 109], S, [112, 114, 105, 109, 101, 115], P, [101, 115, 115, 101, 110, 116, 105, 97, 108], E, [116, 114, 101, 101], T, [102, 114, 101, 101]] [[102, 111, 114, 109, 115], [97, 110, 102], A, [115, 117, 109], S, [112, 114, 105, 109, 101, 115], P, [101, 115, 115, 101, 110, 116, 105, 97, 108], E, [116, 114, 101, 101], T])
def um (n w : Nat) : Bool := ((rows (hzl n (jf n w) (2 ^ n))).length : Int) == 0
theorem lB (b f : Bool) {A S P E T F : List UInt8} (hA : A.length ≤ 200) (hS : S.length ≤ 100) (hP : P.length ≤ 20) (hE : E.length ≤ 20) (hT : T.length ≤ 31) (hF : F.length ≤ 1000) : (jv b f A S P E T F).length ≤ 100 ∧ (Lib.join (jv b f A S P E T F) [32]).length ≤ 100000 := by
 cases b <;> cases f <;> simp [jv, Lib.join, List.intercalate] <;> omega
theorem pC (N : Nat) (hN : 1048576 < N) (n w : Nat) (hn : n ≤ 4) (hw : w < 2 ^ 2 ^ n) (K : ByteArray → Option β) : nU N (n : Int) (w : Int) K = K (B (Lib.join (jv (decide (n ≤ 3)) (um n w) (qD w n) (qP n (jf n w)) (Lib.itoa ((prl n w (2 ^ n)).length : Int)) (Lib.itoa ((esl n w (prl n w (2 ^ n)).length).length : Int)) (ji N n w) (fmF (szT n) n N w)) [32])) := by
 have hs : 2 ^ n ≤ 16 := (YE (by decide) hn : 2 ^ n ≤ 2 ^ 4)
 have hl := eB n w (2 ^ n) hs
 have hel := na n w (prl n w (2 ^ n)).length
 have hw6 := w63 hn hw
 have hA := yJ n w (by omega)
 have hS := yS hn (eK n w hn) (ig n w)
 have hP := (nr ((prl n w (2 ^ n)).length : Int) (by unfold mu; omega)).1
 have hE := (nr ((esl n w (prl n w (2 ^ n)).length).length : Int) (by unfold mu; omega)).1
 have hT := t7 N n w
 have hF : (cond (decide (n ≤ 3)) (fmF (szT n) n N w) []).length ≤ 1000 := by
  by_cases h3 : n ≤ 3
  ·rw [Yx h3]; exact pJ (xn h3) N w
  ·rw [YD h3]; exact YV _
 have hfree := fun K => lK (β := β) N hN n hn (jf n w) (by have := ig n w; omega) (eK n w hn) K
 unfold nU Ay el sR
 rw [bH N _ _ (by omega), tt (by omega) hw, YC, Yx (by omega : (n : Int) ≤ 4)]
 dsimp only
 rw [YP, YB, qT N hN n w hn hw, og N hN n w hn hw, oe N (by omega) _ _ (by omega), oh N hN n w (by omega) (by omega), qU N hN n hn _ (ig n w) (eK n w hn), fX N hN n w hn hw, aR, aR, bT N _ (by unfold mu; omega), bT N _ (by unfold mu; omega)]
 unfold mb Ax
 rw [ab (Yx (by simp))]
 dsimp only
 rw [(lN N hN n w (by omega) hw).2]
 unfold um
 by_cases h3 : n ≤ 3
 ·rw [Yx h3, YC] at hF
  rw [Yx h3, YC, YC, ab (Yx (by simp)), hfree]
  unfold vJ EQ mb Ax
  have tx := fun f k0 => Kv (β := β) N (jv true f (qD w n) (qP n (jf n w)) (Lib.itoa ((prl n w (2 ^ n)).length : Int)) (Lib.itoa ((esl n w (prl n w (2 ^ n)).length).length : Int)) (ji N n w) (fmF (szT n) n N w)) (lB true f hA hS hP hE hT hF).1 (lB true f hA hS hP hE hT hF).2 k0
  cases ((rows (hzl n (jf n w) (2 ^ n))).length : Int) == 0 with
  | true => rw [YC, ab (Yx (by simp))]; exact tx true _
  | false => rw [YB]; exact tx false _
 ·rw [YD h3, YB] at hF
  rw [YD h3, YB, YB, hfree]
  unfold vJ EQ mb Ax
  have tx := fun f k0 => Kv (β := β) N (jv false f (qD w n) (qP n (jf n w)) (Lib.itoa ((prl n w (2 ^ n)).length : Int)) (Lib.itoa ((esl n w (prl n w (2 ^ n)).length).length : Int)) (ji N n w) []) (lB false f hA hS hP hE hT hF).1 (lB false f hA hS hP hE hT hF).2 k0
  cases ((rows (hzl n (jf n w) (2 ^ n))).length : Int) == 0 with
  | true => rw [YC, ab (Yx (by simp))]; exact tx true _
  | false => rw [YB]; exact tx false _
theorem pG (N : Nat) (hN : 1048576 < N) (n w : Nat) (hn : n ≤ 4) (hw : w < 2 ^ 2 ^ n) (K : ByteArray → Option β) : nS N (n : Int) (w : Int) K = K (B (Lib.join (jv (decide (n ≤ 3)) (um n w) (qD w n) (qP n (jf n w)) (Lib.itoa ((prl n w (2 ^ n)).length : Int)) (Lib.itoa ((esl n w (prl n w (2 ^ n)).length).length : Int)) (ji N n w) (fmF (szT n) n N w)) [32])) := by
 have hs : 2 ^ n ≤ 16 := (YE (by decide) hn : 2 ^ n ≤ 2 ^ 4)
 have hl := eB n w (2 ^ n) hs
 have hel := na n w (prl n w (2 ^ n)).length
 have hw6 := w63 hn hw
 have hA := yJ n w (by omega)
 have hS := yS hn (eK n w hn) (ig n w)
 have hP := (nr ((prl n w (2 ^ n)).length : Int) (by unfold mu; omega)).1
 have hE := (nr ((esl n w (prl n w (2 ^ n)).length).length : Int) (by unfold mu; omega)).1
 have hT := t7 N n w
 obtain ⟨b, hmin⟩ := nM (β := β) N hN n w hn hw
 have hfree : ∀ K : Bool → Option β, vu N (n : Int) (tl (jf n w)) K = K (um n w) := fun K => by
  unfold vu KQ um
  rw [oQ N hN n hn (jf n w) (by have := ig n w; omega) (eK n w hn)]
  rfl
 unfold nS At
 rw [bm, tt (by omega) hw, YP, YB, YD (by omega : ¬ (n : Int) > 4), YB, hmin]
 unfold LR Ud AC KR
 rw [bm, tt (by omega) hw, YP, YB, ge N hN n w hn hw]
 dsimp only
 rw [oN N hN n w hn hw, oM N (by omega), oO N hN n w (by omega) (by omega), aR, aR]
 simp only [oP N hN n hn _ (ig n w) (eK n w hn), fM N (by omega) ((prl n w (2 ^ n)).length : Int) (by unfold mu; omega), fM N (by omega) ((esl n w (prl n w (2 ^ n)).length).length : Int) (by unfold mu; omega), hfree, et, bX, be]
 have hF : n ≤ 3 → (fmF (szT n) n N w).length ≤ 1000 := fun h3 => pJ (xn h3) N w
 have hsm := fun K => (lN (β := β) N hN n w (by omega) hw).1 K
 generalize fmF (szT n) n N w = F at *
 generalize qD w n = A at *
 generalize qP n (jf n w) = S at *
 generalize Lib.itoa ((prl n w (2 ^ n)).length : Int) = P at *
 generalize Lib.itoa ((esl n w (prl n w (2 ^ n)).length).length : Int) = E at *
 generalize ji N n w = T at *
 generalize um n w = f at *
 repeat rw [ab (Yx (by simp; omega))]
 by_cases h3 : n ≤ 3
 ·have hF := hF h3
  rw [Yx (by omega : (n : Int) ≤ 3), YC, hsm, Yx h3, YC]
  simp only [bX, be]
  repeat rw [ab (Yx (by simp; omega))]
  cases f with
  | true =>
   simp only [YC, bX, be]
   try rw [ab (Yx (by simp; omega))]
   congr 2
   simp [jv, Lib.join, List.intercalate]
  | false =>
   simp only [YB, bX, be, ← tQ]
   try rw [ab (Yx (by simp; omega))]
   congr 2
   simp [jv, Lib.join, List.intercalate]
 ·rw [YD (by omega : ¬ (n : Int) ≤ 3), YB, YD h3]
  cases f with
  | true =>
   simp only [YC, bX, be]
   try rw [ab (Yx (by simp; omega))]
   congr 2
   simp [jv, Lib.join, List.intercalate]
  | false =>
   simp only [YB, bX, be, ← tQ]
   try rw [ab (Yx (by simp; omega))]
   congr 2
   simp [jv, Lib.join, List.intercalate]
theorem wB (N : Nat) (hN : 1048576 < N) (a0 a1 : Int) (h0 : -9223372036854775808 ≤ a0 ∧ a0 ≤ 9223372036854775807) (h1 : -9223372036854775808 ≤ a1 ∧ a1 ≤ 9223372036854775807) (k : Bool → Option β) : cA N a0 a1 k = k true := by
 have fin : ∀ s : ByteArray, cond (!(s.toList == s.toList)) (k false) (k true) = k true := fun s => by rw [beq_self_eq_true]; rfl
 have jj : ∃ s : ByteArray, (∀ K : ByteArray → Option β, nS N a0 a1 K = K s) ∧ (∀ K : ByteArray → Option β, nU N a0 a1 K = K s) := by
  cases hS : isT a0 a1 with
  | false =>
   refine ⟨ByteArray.empty, fun K => ?_, fun K => ?_⟩
   ·unfold nS At; rw [bm, hS]; rfl
   ·unfold nU Ay el sR; rw [bH N a0 a1 (by omega), hS]; rfl
  | true =>
   obtain ⟨n, w, rfl, rfl, hn, hw, -⟩ := pN hS
   by_cases h4 : n ≤ 4
   ·exact ⟨_, fun K => pG N hN n w h4 hw K, fun K => pC N hN n w h4 hw K⟩
   ·refine ⟨ByteArray.empty, fun K => ?_, fun K => ?_⟩
    ·unfold nS At; rw [bm, hS, YP, YB, Yx (by omega : (n : Int) > 4)]; rfl
    ·unfold nU Ay el sR; rw [bH N _ _ (by omega), hS, YC, YD (by omega : ¬ (n : Int) ≤ 4)]; rfl
 obtain ⟨s, e1, e2⟩ := jj
 unfold cA b5 LP T6
 refine (e1 _).trans ((e2 _).trans ?_)
 exact fin s
end Go.Proofs.YtemihnclhcobnaaGreatDoor
