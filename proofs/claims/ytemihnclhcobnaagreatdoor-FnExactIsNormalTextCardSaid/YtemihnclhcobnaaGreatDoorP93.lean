/- Plain laws of the texts. -/
import Derived.Test.YtemihnclhcobnaaGreatDoorP92
namespace Go.Proofs.YtemihnclhcobnaaGreatDoor
open Go.Rv
set_option linter.unusedSimpArgs false
set_option linter.unusedVariables false
variable {β : Type}
theorem iF : ∀ x a b : Nat, (a - (a &&& b)).testBit x = (a.testBit x && !b.testBit x)
 | 0, a, b => by
  have h1 : (a &&& b) % 2 = 1 ↔ a % 2 = 1 /\ b % 2 = 1 := Nat.and_mod_two_eq_one
  have h2 : a &&& b <= a := alO
  rw [amk, amk, amk]
  have e : (a - (a &&& b)) % 2 = 1 ↔ a % 2 = 1 /\ ¬ b % 2 = 1 := by omega
  rw [ald]
  simp only [decide_eq_true_eq, aj0, akm, decide_eq_false_iff_not]
  exact e
 | x + 1, a, b => by
  have h1 : (a &&& b) % 2 = 1 ↔ a % 2 = 1 /\ b % 2 = 1 := Nat.and_mod_two_eq_one
  have h2 : (a &&& b) / 2 = a / 2 &&& b / 2 := Nat.and_div_two
  have h3 : a / 2 &&& b / 2 <= a / 2 := alO
  rw [amj, amj, amj, <- iF x (a / 2) (b / 2)]
  congr 1
  omega
theorem mG {a : Nat} : a = 0 ↔ ∀ x, a.testBit x = false := ⟨fun h x => by rw [h, akQ], fun h => aky fun x => by rw [h x, akQ]⟩
section
variable (wd : Nat -> Nat) (T : Nat)
def cvr : List Nat -> Nat -> Nat -> Option (List Nat)
 | [], _, left => cond (left == 0) (some []) none
 | t :: l, k, left => cond (left == 0) (some []) (match k with
  | 0 => none
  | k + 1 => cond (wd t &&& left == 0) (cvr l (k + 1) left) (match cvr l k (left - (left &&& wd t)) with
   | some r => some (t :: r)
   | none => cvr l (k + 1) left))
def chs : List Nat -> Nat -> Nat -> Option (List Nat)
 | [], k, have_ => cond (k == 0) (cond (have_ == T) (some []) none) none
 | t :: l, k, have_ => match k with
  | 0 => cond (have_ == T) (some []) none
  | k + 1 => cond (decide (k + 1 <= l.length + 1)) (cond (wd t ^^^ (wd t &&& have_) == 0) (chs l (k + 1) have_) (match chs l k (have_ ||| wd t) with
   | some r => some (t :: r)
   | none => chs l (k + 1) have_)) none
def Cov (s : List Nat) (left : Nat) : Prop := ∀ x, left.testBit x = true -> ∃ t ∈ s, (wd t).testBit x = true
theorem gU (l : List Nat) (k : Nat) : cvr wd l k 0 = some [] := by cases l <;> rfl
theorem BL (l : List Nat) (left : Nat) (h : left ≠ 0) : cvr wd l 0 left = none := by
 have : (left == 0) = false := by simpa using h
 cases l <;> unfold cvr <;> rw [this] <;> rfl
theorem oU (t : Nat) (l : List Nat) (k left : Nat) (h : left ≠ 0) : cvr wd (t :: l) (k + 1) left = cond (wd t &&& left == 0) (cvr wd l (k + 1) left) (match cvr wd l k (left - (left &&& wd t)) with
      | some r => some (t :: r)
      | none => cvr wd l (k + 1) left) := by
  have : (left == 0) = false := by simpa using h
  rw [cvr, this, ajY]
theorem GJ (k left : Nat) (h : left ≠ 0) : cvr wd [] k left = none := by
 have : (left == 0) = false := by simpa using h
 rw [cvr, this, ajY]
theorem eV : ∀ (l : List Nat) (k left : Nat) (r : List Nat), cvr wd l k left = some r -> (∀ t ∈ r, t ∈ l) /\ r.length <= l.length /\ r.length <= k /\ Cov wd r left := by
 intro l
 induction l with
 | nil =>
  intro k left r h
  by_cases h0 : left = 0
  ·subst h0
   rw [gU, aj1] at h
   subst h
   exact ⟨fun t h => h, aj8 _, aks _, fun x hx => by rw [akQ] at hx; cases hx⟩
  ·rw [GJ wd k left h0] at h; cases h
 | cons t l ih =>
  intro k left r h
  by_cases h0 : left = 0
  ·subst h0
   rw [gU, aj1] at h
   subst h
   exact ⟨(fun t h => by cases h), aks _, aks _, fun x hx => by rw [akQ] at hx; cases hx⟩
  ·cases k with
   | zero => rw [BL wd _ _ h0] at h; cases h
   | succ k =>
    rw [oU wd t l k left h0] at h
    have skip : cvr wd l (k + 1) left = some r -> (∀ x ∈ r, x ∈ t :: l) /\ r.length <= (t :: l).length /\ r.length <= k + 1 /\ Cov wd r left := fun h => by
     obtain ⟨h1, h2, h3, h4⟩ := ih (k + 1) left r h
     exact ⟨fun x hx => ake _ (h1 x hx), by rw [aj4]; omega, h3, h4⟩
    cases hc : (wd t &&& left == 0) with
    | true => rw [hc, ajZ] at h; exact skip h
    | false =>
     rw [hc, ajY] at h
     cases hr : cvr wd l k (left - (left &&& wd t)) with
     | none => rw [hr] at h; exact skip h
     | some r' =>
      rw [hr, aj1] at h
      subst h
      obtain ⟨h1, h2, h3, h4⟩ := ih k _ r' hr
      refine ⟨fun x hx => ?_, by rw [aj4, aj4]; omega, by rw [aj4]; omega, fun x hx => ?_⟩
      ·rcases akf.1 hx with rfl | hx
       ·exact ako
       ·exact ake _ (h1 x hx)
      ·cases hb : (wd t).testBit x with
       | true => exact ⟨t, ako, hb⟩
       | false =>
        obtain ⟨u, hu, hux⟩ := h4 x (by rw [iF, hx, hb]; rfl)
        exact ⟨u, ake _ hu, hux⟩
theorem sW : ∀ (l : List Nat) (k left : Nat) (s : List Nat), (∀ t ∈ s, t ∈ l) -> s.length <= k -> Cov wd s left -> cvr wd l k left ≠ none := by
 intro l
 induction l with
 | nil =>
  intro k left s hs hk hc h
  by_cases h0 : left = 0
  ·subst h0; rw [gU] at h; cases h
  ·apply h0
   rw [mG]
   intro x
   cases hx : left.testBit x with
   | false => rfl
   | true =>
    obtain ⟨t, ht, _⟩ := hc x hx
    cases hs t ht
 | cons t l ih =>
  intro k left s hs hk hc h
  by_cases h0 : left = 0
  ·subst h0; rw [gU] at h; cases h
  ·have hne : s ≠ [] := by
    rintro rfl
    apply h0
    rw [mG]
    intro x
    cases hx : left.testBit x with
    | false => rfl
    | true =>
     obtain ⟨t, ht, _⟩ := hc x hx
     cases ht
   have hpos : 0 < s.length := List.length_pos_iff.2 hne
   obtain ⟨k, rfl⟩ : ∃ k', k = k' + 1 := ⟨k - 1, by omega⟩
   rw [oU wd t l k left h0] at h
   have memf : ∀ u ∈ s.filter (· != t), u ∈ l := fun u hu => by
    rw [amp] at hu
    rcases akf.1 (hs u hu.1) with rfl | h
    ·simp at hu
    ·exact h
   have skip : (∀ x, left.testBit x = true -> (wd t).testBit x = false) \/ t ∉ s -> cvr wd l (k + 1) left = none -> False := fun hh h => by
    rcases hh with hh | hh
    ·refine ih (k + 1) left (s.filter (· != t)) memf (akz (List.length_filter_le _ _) hk) (fun x hx => ?_) h
     obtain ⟨u, hu, hux⟩ := hc x hx
     refine ⟨u, amp.2 ⟨hu, ?_⟩, hux⟩
     have : u ≠ t := by rintro rfl; rw [hh x hx] at hux; cases hux
     simpa using this
    ·refine ih (k + 1) left s (fun u hu => ?_) hk hc h
     rcases akf.1 (hs u hu) with rfl | h
     ·exact absurd hu hh
     ·exact h
   cases hb : (wd t &&& left == 0) with
   | true =>
    rw [hb, ajZ] at h
    refine skip (Or.inl fun x hx => ?_) h
    have h1 := (mG.1 (eq_of_beq hb)) x
    rw [akX, hx, alA] at h1
    exact h1
   | false =>
    rw [hb, ajY] at h
    cases hr : cvr wd l k (left - (left &&& wd t)) with
    | some r => rw [hr] at h; cases h
    | none =>
     rw [hr] at h
     by_cases hm : t ∈ s
     ·refine ih k _ (s.filter (· != t)) memf ?_ (fun x hx => ?_) hr
      ·have : (s.filter (· != t)).length < s.length := by
        rw [List.length_filter_lt_length_iff_exists]
        exact ⟨t, hm, by simp⟩
       omega
      ·rw [iF, aj0, akm] at hx
       obtain ⟨u, hu, hux⟩ := hc x hx.1
       refine ⟨u, amp.2 ⟨hu, ?_⟩, hux⟩
       have : u ≠ t := by rintro rfl; rw [hx.2] at hux; cases hux
       simpa using this
     ·exact skip (Or.inr hm) h
theorem RS : ∀ (l : List Nat) (k have_ left : Nat), (∀ t ∈ l, ∀ x, (wd t).testBit x = true -> T.testBit x = true) -> (∀ x, have_.testBit x = true -> T.testBit x = true) -> (∀ x, left.testBit x = (T.testBit x && !have_.testBit x)) ->
  (∀ s : List Nat, (∀ t ∈ s, t ∈ l) -> s.length < k -> ¬ Cov wd s left) -> chs wd T l k have_ = cvr wd l k left := by
 have hz : ∀ (have_ left : Nat), (∀ x, have_.testBit x = true -> T.testBit x = true) -> (∀ x, left.testBit x = (T.testBit x && !have_.testBit x)) -> (have_ == T) = (left == 0) := fun have_ left h1 h2 => by
  have : have_ = T ↔ left = 0 := by
   rw [mG]
   constructor
   ·rintro rfl x
    rw [h2]; cases have_.testBit x <;> rfl
   ·intro h
    refine aky fun x => ?_
    have h3 := h x
    rw [h2] at h3
    have h4 := h1 x
    revert h3 h4
    cases T.testBit x <;> cases have_.testBit x <;> simp
  by_cases h : have_ = T
  ·rw [show (have_ == T) = true by simp [h], show (left == 0) = true by simp [this.1 h]]
  ·rw [show (have_ == T) = false by simp [h], show (left == 0) = false by simpa using fun h' => h (this.2 h')]
 intro l
 induction l with
 | nil =>
  intro k have_ left _ h1 h2 hm
  unfold chs cvr
  rw [hz have_ left h1 h2]
  cases k with
  | zero => rfl
  | succ k =>
   have h0 : left ≠ 0 := fun h0 => hm [] (fun t h => h) (Nat.zero_lt_succ k) (fun x hx => by rw [h0, akQ] at hx; cases hx)
   rw [show (left == 0) = false by simpa using h0]
   rfl
 | cons t l ih =>
  intro k have_ left hw h1 h2 hm
  cases k with
  | zero =>
   unfold chs cvr
   rw [hz have_ left h1 h2]
  | succ k =>
   have h0 : left ≠ 0 := fun h0 => hm [] (fun t h => by cases h) (Nat.zero_lt_succ k) (fun x hx => by rw [h0, akQ] at hx; cases hx)
   have hlow : ¬ (k + 1 <= l.length + 1) -> cvr wd (t :: l) (k + 1) left = none := fun hlt => by
    cases hr : cvr wd (t :: l) (k + 1) left with
    | none => rfl
    | some r =>
     obtain ⟨a1, a2, a3, a4⟩ := eV wd _ _ _ r hr
     rw [aj4] at a2
     exact absurd a4 (hm r a1 (by omega))
   unfold chs
   dsimp only
   by_cases hlt : k + 1 <= l.length + 1
   ·rw [ajX hlt, ajZ, oU wd t l k left h0]
    have hc : (wd t ^^^ (wd t &&& have_) == 0) = (wd t &&& left == 0) := by
     have : wd t ^^^ (wd t &&& have_) = wd t &&& left := by
      refine aky fun x => ?_
      have h3 := hw t ako x
      rw [alP, akX, akX, h2]
      revert h3
      cases (wd t).testBit x <;> cases T.testBit x <;> cases have_.testBit x <;> simp
     rw [this]
    rw [hc]
    have i1 : chs wd T l (k + 1) have_ = cvr wd l (k + 1) left := ih (k + 1) have_ left (fun u hu => hw u (ake _ hu)) h1 h2 (fun s hs hl => hm s (fun u hu => ake _ (hs u hu)) hl)
    have i2 : chs wd T l k (have_ ||| wd t) = cvr wd l k (left - (left &&& wd t)) := ih k _ _ (fun u hu => hw u (ake _ hu)) (fun x hx => by
      rw [alj, akI] at hx
      exact hx.elim (h1 x) (hw t ako x)) (fun x => by
      rw [iF, h2, alj]
      cases T.testBit x <;> cases have_.testBit x <;> cases (wd t).testBit x <;> rfl) (fun s hs hl hcv => by
      refine hm (t :: s) (fun u hu => ?_) (by rw [aj4]; omega) (fun x hx => ?_)
      ·rcases akf.1 hu with rfl | hu
       ·exact ako
       ·exact ake _ (hs u hu)
      ·cases hb : (wd t).testBit x with
       | true => exact ⟨t, ako, hb⟩
       | false =>
        obtain ⟨u, hu, hux⟩ := hcv x (by rw [iF, hx, hb]; rfl)
        exact ⟨u, ake _ hu, hux⟩)
    rw [i1, i2]
   ·rw [aj2 hlt, ajY, hlow hlt]
theorem D5 (l : List Nat) (hw : ∀ t ∈ l, ∀ x, (wd t).testBit x = true -> T.testBit x = true) (k : Nat) (h : ∀ j, j < k -> cvr wd l j T = none) : chs wd T l k 0 = cvr wd l k T :=
 RS wd T l k 0 T hw (fun x hx => by rw [akQ] at hx; cases hx) (fun x => by rw [akQ, akl, alA]) (fun s hs hl hc => sW wd l s.length T s hs (aj8 _) hc (h s.length hl))
theorem xE (P : Nat -> Nat -> Prop) (l : List Nat) : ∀ J : Nat, ∃ s : List Nat, (∀ t ∈ s, t ∈ l) /\ s.length <= J /\ ∀ j, j < J -> (∃ t ∈ l, P j t) -> ∃ t ∈ s, P j t
 | 0 => ⟨[], (fun t h => by cases h), aj8 _, fun j h => absurd h (akW _)⟩
 | J + 1 => by
  obtain ⟨s, h1, h2, h3⟩ := xE P l J
  by_cases hj : ∃ t ∈ l, P J t
  ·obtain ⟨t, ht, hp⟩ := hj
   refine ⟨t :: s, fun u hu => ?_, by rw [aj4]; omega, fun j hj he => ?_⟩
   ·rcases akf.1 hu with rfl | hu
    ·exact ht
    ·exact h1 u hu
   ·rcases akg j J with h | h
    ·obtain ⟨u, hu, hpu⟩ := h3 j h he
     exact ⟨u, ake _ hu, hpu⟩
    ·have : j = J := by omega
     subst this
     exact ⟨t, ako, hp⟩
  ·refine ⟨s, h1, by omega, fun j hj' he => ?_⟩
   rcases akg j J with h | h
   ·exact h3 j h he
   ·have : j = J := by omega
    subst this
    exact absurd he hj
end
def wdO (n : Nat) (o : List (Nat × Nat)) (i : Nat) : Nat := aQ (fun x => x &&& (o.getD i (0, 0)).1 == (o.getD i (0, 0)).2) (2 ^ n)
theorem HE (n : Nat) (o : List (Nat × Nat)) (i x : Nat) : (wdO n o i).testBit x = (decide (x < 2 ^ n) && (x &&& (o.getD i (0, 0)).1 == (o.getD i (0, 0)).2)) := br _ _ _
theorem nE (o : List (Nat × Nat)) (i : Nat) (h : i < o.length) : o.getD i (0, 0) = o[i] := by simp [List.getD, h]
theorem pr1 : ∀ n : Nat, n <= 4 -> ∀ x : Nat, x < 2 ^ n -> (x &&& (2 ^ n - 1) == x) = true /\ ∀ z : Nat, z < 2 ^ n -> (z &&& (2 ^ n - 1) == x) = (z == x) := by decide +kernel
theorem pr2 : ∀ n : Nat, n <= 4 -> ∀ x : Nat, x < 2 ^ n -> x ^^^ 1 < 2 ^ n -> ((x &&& (2 ^ n - 2)) &&& (2 ^ n - 2) == (x &&& (2 ^ n - 2))) = true /\ ∀ z : Nat, z < 2 ^ n -> (z &&& (2 ^ n - 2) == (x &&& (2 ^ n - 2))) = (z == x || z == x ^^^ 1) := by decide +kernel
theorem pr3 : ∀ x : Nat, x < 16 -> ∀ z : Nat, z < 16 -> (z / 2 == x / 2) = (z == x || z == x ^^^ 1) := by decide +kernel
theorem eY {n w x : Nat} (hw : w < 2 ^ 2 ^ n) (h : w.testBit x = true) : x < 2 ^ n := by
 rcases akg x (2 ^ n) with h1 | h1
 ·exact h1
 ·have : w < 2 ^ x := aka hw (aj7 (by decide) h1)
  rw [alW this] at h
  cases h
theorem Nr {n w m v : Nat} (hv : v < 2 ^ n) (hm : (v &&& m == v) = true) (h : ∀ z, z < 2 ^ n -> (z &&& m == v) = true -> w.testBit z = true) : imp n w m v = true := by
 unfold imp
 rw [aj0, akm]
 constructor
 ·cases ha : cA (fun x => (x &&& m == v) && !w.testBit x) (2 ^ n) with
  | false => rfl
  | true =>
   obtain ⟨z, hz, hb⟩ := dk.1 ha
   rw [aj0, akm] at hb
   rw [h z hz hb.1] at hb
   cases hb.2
 ·exact dk.2 ⟨v, hv, by rw [hm, h v hv hm]; rfl⟩
theorem JQ (n w : Nat) (hn : n <= 4) (hw : w < 2 ^ 2 ^ n) (x : Nat) (hx : w.testBit x = true) : ∃ i ∈ List.range (prl n w (2 ^ n)).length, ∀ z, z / 2 = x / 2 -> w.testBit z = true -> (wdO n (prl n w (2 ^ n)) i).testBit z = true := by
 have hs : 2 ^ n <= 16 := (aj7 (by decide) hn : 2 ^ n <= 2 ^ 4)
 have hx2 := eY hw hx
 have key : ∀ m v : Nat, m < 2 ^ n -> v < 2 ^ n -> (v &&& m == v) = true -> (∀ z, z < 2 ^ n -> (z &&& m == v) = true -> w.testBit z = true) -> (∀ z, z / 2 = x / 2 -> w.testBit z = true -> (z &&& m == v) = true) -> ∃ i ∈ List.range (prl n w (2 ^ n)).length, ∀ z, z / 2 = x / 2 -> w.testBit z = true -> (wdO n (prl n w (2 ^ n)) i).testBit z = true := by
  intro m v hm hv hmv h1 h2
  obtain ⟨m', v', g1, g2, g3, g4⟩ := Yw n w hn _ m v (Nat.lt_succ_self m) hm hmv (Nr hv hmv h1)
  have hle : v' <= m' := by rw [<- eq_of_beq g2]; exact alI
  have hmem : (m', v') ∈ prl n w (2 ^ n) := (rW n w _ _).2 ⟨m', g1, v', by omega, g2, g3, rfl⟩
  obtain ⟨i, hi, he⟩ := List.getElem_of_mem hmem
  refine ⟨i, akU.2 hi, fun z hz hb => ?_⟩
  have hz2 := eY hw hb
  rw [HE, nE _ i hi, he, ajX hz2, aj9]
  dsimp only
  rw [g4 z (by omega) (eq_of_beq (h2 z hz hb)), beq_self_eq_true]
 cases hy : w.testBit (x ^^^ 1) with
 | true =>
  have hy2 := eY hw hy
  obtain ⟨p1, p2⟩ := pr2 n hn x hx2 hy2
  have hle : x &&& (2 ^ n - 2) <= x := alO
  have hpos : 0 < 2 ^ n := akK n
  refine key (2 ^ n - 2) (x &&& (2 ^ n - 2)) (by omega) (by omega) p1 (fun z hz h => ?_) (fun z hz hb => ?_)
  ·rw [p2 z hz, akI, beq_iff_eq, beq_iff_eq] at h
   rcases h with rfl | rfl
   ·exact hx
   ·exact hy
  ·have hz2 := eY hw hb
   rw [p2 z hz2, <- pr3 x (by omega) z (by omega)]
   exact beq_iff_eq.2 hz
 | false =>
  obtain ⟨p1, p2⟩ := pr1 n hn x hx2
  have hpos : 0 < 2 ^ n := akK n
  refine key (2 ^ n - 1) x (by omega) hx2 p1 (fun z hz h => ?_) (fun z hz hb => ?_)
  ·rw [p2 z hz, beq_iff_eq] at h
   rw [h]; exact hx
  ·have hz2 := eY hw hb
   rw [p2 z hz2]
   have h3 := pr3 x (by omega) z (by omega)
   rw [beq_iff_eq.2 hz] at h3
   have h4 := h3.symm
   rw [akI, beq_iff_eq, beq_iff_eq] at h4
   rcases h4 with rfl | rfl
   ·exact beq_iff_eq.2 rfl
   ·rw [hy] at hb; cases hb
theorem adm (n w : Nat) (hn : n <= 4) (hw : w < 2 ^ 2 ^ n) : cvr (wdO n (prl n w (2 ^ n))) (List.range (prl n w (2 ^ n)).length) 8 w ≠ none := by
 have hs : 2 ^ n <= 16 := (aj7 (by decide) hn : 2 ^ n <= 2 ^ 4)
 obtain ⟨s, h1, h2, h3⟩ := xE (fun j i => ∀ z, z / 2 = j -> w.testBit z = true -> (wdO n (prl n w (2 ^ n)) i).testBit z = true) (List.range (prl n w (2 ^ n)).length) 8
 refine sW _ _ 8 w s h1 h2 fun x hx => ?_
 have hx2 := eY hw hx
 obtain ⟨i, hi, hp⟩ := h3 (x / 2) (by omega) (JQ n w hn hw x hx)
 exact ⟨i, hi, hp x rfl hx⟩
theorem N8 (n w : Nat) : ∀ i ∈ List.range (prl n w (2 ^ n)).length, ∀ x, (wdO n (prl n w (2 ^ n)) i).testBit x = true -> w.testBit x = true := by
 intro i hi x hx
 have hi2 := akU.1 hi
 rw [HE, nE _ i hi2, aj0, decide_eq_true_eq] at hx
 obtain ⟨m, h1, v, h2, h3, h4, h5⟩ := (rW n w _ _).1 (akn hi2)
 rw [h5] at hx
 unfold prm imp at h4
 rw [aj0, aj0, akm] at h4
 have h6 := h4.1.1
 cases hb : w.testBit x with
 | true => rfl
 | false =>
  have : cA (fun x => (x &&& m == v) && !w.testBit x) (2 ^ n) = true := dk.2 ⟨x, hx.1, by rw [hb]; dsimp only at hx; rw [hx.2]; rfl⟩
  rw [this] at h6
  cases h6
def mL (n w : Nat) : Nat -> Nat -> List Nat
 | 0, _ => []
 | d + 1, k => match cvr (wdO n (prl n w (2 ^ n))) (List.range (prl n w (2 ^ n)).length) k w with
  | some r => r
  | none => mL n w d (k + 1)
theorem zz (n w : Nat) : ∀ d k, (∀ i ∈ mL n w d k, i < (prl n w (2 ^ n)).length) /\ (mL n w d k).length <= k + d
 | 0, k => ⟨(fun i h => by cases h), aks _⟩
 | d + 1, k => by
  unfold mL
  cases h : cvr (wdO n (prl n w (2 ^ n))) (List.range (prl n w (2 ^ n)).length) k w with
  | some r =>
   obtain ⟨h1, h2, h3, h4⟩ := eV _ _ _ _ r h
   exact ⟨fun i hi => akU.1 (h1 i hi), by dsimp only; omega⟩
  | none =>
   obtain ⟨h1, h2⟩ := zz n w d (k + 1)
   exact ⟨h1, by dsimp only; omega⟩
def C1 (n w : Nat) : List (Nat × Nat) := (mL n w 9 0).map fun i => (prl n w (2 ^ n)).getD i (0, 0)
theorem Pa (n w m v : Nat) (hv : v < 2 ^ n) (hm : (v &&& m == v) = true) : (aQ (fun x => x &&& m == v) (2 ^ n) &&& w == aQ (fun x => x &&& m == v) (2 ^ n)) = imp n w m v := by
 cases hi : imp n w m v with
 | true =>
  rw [beq_iff_eq]
  refine aky fun x => ?_
  rw [akX, br]
  cases hx : (decide (x < 2 ^ n) && (x &&& m == v)) with
  | false => rw [akv]
  | true =>
   rw [aj9]
   rw [aj0, decide_eq_true_eq] at hx
   unfold imp at hi
   rw [aj0, akm] at hi
   cases hb : w.testBit x with
   | true => rfl
   | false =>
    have : cA (fun x => (x &&& m == v) && !w.testBit x) (2 ^ n) = true := dk.2 ⟨x, hx.1, by rw [hb, hx.2]; rfl⟩
    rw [this] at hi
    cases hi.1
 | false =>
  rw [beq_eq_false_iff_ne]
  intro e
  have : imp n w m v = true := Nr hv hm fun z hz hc => by
   have h : (aQ (fun x => x &&& m == v) (2 ^ n) &&& w).testBit z = (aQ (fun x => x &&& m == v) (2 ^ n)).testBit z := by rw [e]
   rw [akX, br, ajX hz, aj9, hc, aj9] at h
   exact h
  rw [this] at hi
  cases hi
theorem w63 {n w : Nat} (hn : n <= 4) (hw : w < 2 ^ 2 ^ n) : w < 65536 := by have := C3 n hn; omega
theorem kp (N : Nat) (hN : 1048576 < N) (n w m v : Nat) (hn : n <= 4) (hw : w < 2 ^ 2 ^ n) (hm : m < 32) (hv : v < 2 ^ n) (hmv : (v &&& m == v) = true) (K : Bool -> Option β) : rx N (n : Int) (w : Int) (m : Int) (v : Int) K = K (imp n w m v) := by
 have h1 := bU (fun x => x &&& m == v) (2 ^ n)
 have h2 := C3 n hn
 have h3 := w63 hn hw
 unfold rx Pg
 rw [gL N hN n m v (by omega) hm, bAnd _ _ (by omega) (by omega), cJ, Pa n w m v hv hmv]
theorem G5 : ∀ m : Nat, m < 32 -> ∀ i : Nat, i < 5 -> (m.testBit i = true -> off m i = m - 2 ^ i /\ 2 ^ i <= m) /\ off m i = m - (m &&& 2 ^ i) /\ (((m &&& 2 ^ i : Nat) : Int) != 0) = m.testBit i /\ off m i <= m := by decide +kernel
theorem Ao (N : Nat) (hN : 1048576 < N) (n w m v : Nat) (hn : n <= 4) (hw : w < 2 ^ 2 ^ n) (hm : m < 2 ^ n) (hv : v <= m) (hmv : (v &&& m == v) = true) (K : Bool -> Option β) : ry N (n : Int) (w : Int) (m : Int) (v : Int) K = K (prm n w m v) := by
 have hs : 2 ^ n <= 16 := (aj7 (by decide) hn : 2 ^ n <= 2 ^ 4)
 unfold ry Ph prm
 rw [kp N hN n w m v hn hw (by omega) (by omega) hmv]
 cases imp n w m v with
 | false => rfl
 | true =>
  rw [aj5, ajY, aj9]
  have key : ∀ (d i F : Nat), n - i = d -> i <= n -> d < F -> cA (fun i => m.testBit i && imp n w (off m i) (off v i)) i = false -> m4 N F (i : Int) (n : Int) (w : Int) (m : Int) (v : Int) (fun e => K e) (K true) = K (!cA (fun i => m.testBit i && imp n w (off m i) (off v i)) n) := by
   intro d
   induction d with
   | zero =>
    intro i F hd hi hF ha
    obtain ⟨G, rfl⟩ : ∃ G, F = G + 1 := ⟨F - 1, by omega⟩
    simp only [m4, Qc, HH]
    rw [aj2 (by omega), ajY]
    have e : i = n := by omega
    subst e
    rw [ha]
    rfl
   | succ d ih =>
    intro i F hd hi hF ha
    obtain ⟨G, rfl⟩ : ∃ G, F = G + 1 := ⟨F - 1, by omega⟩
    obtain ⟨c1, c2, c3, c4⟩ := G5 m (by omega) i (by omega)
    obtain ⟨d1, d2, d3, d4⟩ := G5 v (by omega) i (by omega)
    have hb : 2 ^ i <= 16 := (aj7 (by decide) (by omega : i <= 4) : 2 ^ i <= 2 ^ 4)
    have hand : bits .and .i64 (m : Int) (aW .i64 1 (i : Int)) = ((m &&& 2 ^ i : Nat) : Int) := by rw [aM i (by omega), bAnd _ _ (by omega) (by omega)]
    have hv2 : bits .and .i64 (v : Int) (aW .i64 1 (i : Int)) = ((v &&& 2 ^ i : Nat) : Int) := by rw [aM i (by omega), bAnd _ _ (by omega) (by omega)]
    have hle : v &&& 2 ^ i <= v := alO
    have next := ih (i + 1) G (by omega) (by omega) (by omega)
    simp only [m4, Qc, HH]
    rw [ajX (by omega : (i : Int) < (n : Int)), ajZ, ab (ajX (by omega)), hand, c3, aw i (by omega)]
    cases hb : m.testBit i with
    | false => exact next (by rw [cA, ha, hb]; rfl)
    | true =>
     obtain ⟨c5, c6⟩ := c1 hb
     have hz : (0 : Int) <= ((2 ^ i : Nat) : Int) := akj _
     have e3 : w64 ((m : Int) - aW .i64 1 (i : Int)) = (off m i : Int) := by rw [c5, aM i (by omega), show (m : Int) - ((2 ^ i : Nat) : Int) = ((m - 2 ^ i : Nat) : Int) from (Int.ofNat_sub c6).symm, bp (by omega) (by omega)]
     have e4 : w64 ((v : Int) - ((v &&& 2 ^ i : Nat) : Int)) = (off v i : Int) := by rw [d2, show (v : Int) - ((v &&& 2 ^ i : Nat) : Int) = ((v - (v &&& 2 ^ i) : Nat) : Int) from (Int.ofNat_sub hle).symm, bp (by omega) (by omega)]
     have h4 := NW i (by omega) m (by omega) v (by omega)
     rw [hmv, aj5, ak7] at h4
     rw [ajZ, e3, hv2, e4, kp N hN n w _ _ hn hw (by omega) (by omega) h4]
     cases hp : imp n w (off m i) (off v i) with
     | false => exact next (by rw [cA, ha, hb, hp]; rfl)
     | true =>
      have : cA (fun i => m.testBit i && imp n w (off m i) (off v i)) n = true := dk.2 ⟨i, by omega, by rw [hb, hp]; rfl⟩
      rw [this]
      rfl
  exact key n 0 N (by omega) (by omega) (by omega) rfl
theorem wu (N : Nat) (hN : 1048576 < N) (n w : Nat) (hn : n <= 4) (hw : w < 2 ^ 2 ^ n) (K : List (Int × Int) -> Option β) : vG N (n : Int) (w : Int) K = K (tl (prl n w (2 ^ n))) := by
 have hs : 2 ^ n <= 16 := (aj7 (by decide) hn : 2 ^ n <= 2 ^ 4)
 have hz0 : (0 : Int) <= ((2 ^ n : Nat) : Int) := akj _
 unfold vG Pi
 refine a6 (fun F m => iR N F (m : Int) (n : Int) (w : Int) (tl (prl n w m)) fun e => K e) (2 ^ n) _ (fun F m hm => ?_) (fun F => ?_) N 0 (by omega) (by omega)
 ·simp only [iR, Qe, HJ]
  rw [ab (ajX (by omega)), aM n (by omega), ajX (by omega : (m : Int) < ((2 ^ n : Nat) : Int)), ajZ]
  have hl1 := pv n w m (by omega)
  refine (a6 (fun H v => lS N H (m : Int) (v : Int) (n : Int) (w : Int) (tl (prl n w m ++ prr n w m v)) fun e0 e1 e2 e3 => iR N F (w64 (e0 + 1)) e1 e2 e3 fun e => K e) (m + 1) (iR N F ((m + 1 : Nat) : Int) (n : Int) (w : Int) (tl (prl n w (m + 1))) fun e => K e) (fun H v hv => ?_) (fun H => ?_) N 0 (by omega) (by omega) |> fun h => alh (by rw [show prr n w m 0 = [] from rfl, akh]; rfl) h)
  ·have hl2 := rX n w m v
   simp only [lS, Qd, HI]
   rw [ajX (by omega : (v : Int) <= (m : Int)), ajZ, DT v (by omega) m (by omega), aw v (by omega)]
   cases hc : (v &&& m == v) with
   | false => rw [ajY, prr, hc, akv, ajY, akh]
   | true =>
    rw [ajZ, Ao N hN n w m v hn hw hm (by omega) hc]
    cases hp : prm n w m v with
    | false => rw [ajY, prr, hc, hp, alE, ajY, akh]
    | true =>
     rw [ajZ, ab (ajX (by rw [bE, aj6]; simp; omega)), prr, hc, hp, alo, ajZ, akH, show tl (prl n w m ++ prr n w m v) ++ [((m : Int), (v : Int))] = tl ((prl n w m ++ prr n w m v) ++ [(m, v)]) from (jI _ (m, v)).symm, akt]
  ·simp only [lS, Qd, HI]
   rw [aj2 (by omega), ajY, aw m (by omega)]
   rfl
 ·simp only [iR, Qe, HJ]
  rw [ab (ajX (by omega)), aM n (by omega), aj2 (by omega : ¬ ((2 ^ n : Nat) : Int) < ((2 ^ n : Nat) : Int)), ajY]
def atO (o : List (Nat × Nat)) (r : List Nat) : List (Nat × Nat) := r.map fun i => o.getD i (0, 0)
theorem Am (N : Nat) (hN : 1048576 < N) (n w : Nat) (hn : n <= 4) (o : List (Nat × Nat)) (ho : Ts n o) (hol : o.length <= 1000) : ∀ (k F i left : Nat), k <= 100 -> k < F -> i <= o.length -> left < 2 ^ 63 ->
  ∀ K : List (Int × Int) -> Bool -> Option β, eD N F (n : Int) (w : Int) (tl o) (i : Int) (left : Int) (k : Int) K = match cvr (wdO n o) (List.range' i (o.length - i)) k left with
   | some r => K (tl (atO o r)) true
   | none => K [] false := by
 intro k
 induction k with
 | zero =>
  intro F i left hk100 hF hi hleft K
  obtain ⟨G, rfl⟩ : ∃ G, F = G + 1 := ⟨F - 1, by omega⟩
  by_cases hl : left = 0
  ·subst hl
   rw [gU]
   simp only [eD, Dv, yi]
   rfl
  ·rw [BL _ _ _ hl]
   simp only [eD, Dv, yi]
   rw [show ((left : Int) == 0) = false by rw [beq_eq_false_iff_ne]; omega]
   rfl
 | succ k ih =>
  intro F i left hk100 hF hi hleft K
  obtain ⟨G, rfl⟩ : ∃ G, F = G + 1 := ⟨F - 1, by omega⟩
  by_cases hl : left = 0
  ·subst hl
   rw [gU]
   simp only [eD, Dv, yi]
   rfl
  ·have hlf : ((left : Int) == 0) = false := by rw [beq_eq_false_iff_ne]; omega
   have hk : (((k + 1 : Nat) : Int) == 0) = false := beq_eq_false_iff_ne.2 (by omega)
   have loop : ∀ (d H j : Nat), j + d = o.length -> d < H -> ∀ K : List (Int × Int) -> Bool -> Option β,
     m5 N (eD N G) H (tl o) (left : Int) ((k + 1 : Nat) : Int) (j : Int) (n : Int) (w : Int) (fun e0 e1 => K e1 e0) (K [] false) = match cvr (wdO n o) (List.range' j d) (k + 1) left with
      | some r => K (tl (atO o r)) true
      | none => K [] false := by
    intro d
    induction d with
    | zero =>
     intro H j hd hH K
     obtain ⟨H, rfl⟩ : ∃ G, H = G + 1 := ⟨H - 1, by omega⟩
     rw [show List.range' j 0 = [] from rfl, GJ _ _ _ hl]
     simp only [m5, Qf, HK, bE]
     rw [aj2 (by omega), ajY]
    | succ d ihd =>
     intro H j hd hH K
     obtain ⟨H, rfl⟩ : ∃ G, H = G + 1 := ⟨H - 1, by omega⟩
     have hj : j < o.length := by omega
     obtain ⟨g1, g2, g3⟩ := ho o[j] (akn hj)
     have hwb : wdO n o j < 2 ^ 63 := by have h1 := bU (fun x => x &&& (o.getD j (0, 0)).1 == (o.getD j (0, 0)).2) (2 ^ n); have h2 := C3 n hn; unfold wdO; omega
     have e1 : ∀ K : Int -> Option β, oJ N (n : Int) (o[j].1 : Int) (o[j].2 : Int) K = K (wdO n o j : Int) := fun K => by
      unfold wdO
      rw [nE o j hj]
      exact gL (β := β) N hN n o[j].1 o[j].2 (by omega) g2 K
     generalize hW : wdO n o j = W at hwb e1
     have e0 := ihd H (j + 1) (by omega) (by omega) K
     have hle : left &&& W <= left := alO
     have ha : bits .and .i64 (W : Int) (left : Int) = ((W &&& left : Nat) : Int) := bAnd _ _ hwb hleft
     have hb : bits .and .i64 (left : Int) (W : Int) = ((left &&& W : Nat) : Int) := bAnd _ _ hleft hwb
     have hsub : w64 ((left : Int) - ((left &&& W : Nat) : Int)) = ((left - (left &&& W) : Nat) : Int) := by
      rw [show (left : Int) - ((left &&& W : Nat) : Int) = ((left - (left &&& W) : Nat) : Int) by omega, bp (by omega) (by omega)]
     have hk1 : w64 (((k + 1 : Nat) : Int) - 1) = (k : Int) := by rw [show ((k + 1 : Nat) : Int) - 1 = (k : Int) by omega]; exact bp (by omega) (by omega)
     have e2 := ih G (j + 1) (left - (left &&& W)) (by omega) (by omega) (by omega) (by omega)
     rw [show o.length - (j + 1) = d by omega] at e2
     rw [List.range'_succ, oU _ _ _ _ _ hl, hW]
     simp only [m5, Qf, HK, bE, pw o j hj]
     rw [ajX (by omega : (j : Int) < (o.length : Int)), ajZ, ab (ajX (by omega)), ab rfl, e1, ha, hb, hsub, hk1, aw j (by omega), e2, e0, show (((W &&& left : Nat) : Int) == 0) = (W &&& left == 0) from cJ _ 0]
     cases h1 : (W &&& left == 0) with
     | true => rw [ajZ, ajZ]
     | false =>
      rw [ajY, ajY]
      cases h2 : cvr (wdO n o) (List.range' (j + 1) d) k (left - (left &&& W)) with
      | none => dsimp only; rw [ajY]
      | some r1 =>
       have hr := (eV _ _ _ _ r1 h2).2.2.1
       dsimp only
       rw [ajZ, ab (ajX (by omega)), ab rfl, ab (ajX (by rw [bE]; unfold atO; simp; omega))]
       have ea : atO o (j :: r1) = o[j] :: atO o r1 := by unfold atO; rw [akD, nE o j hj]
       show _ = K (tl (atO o (j :: r1))) true
       rw [ea]
       rfl
   simp only [eD, Dv, yi]
   rw [hlf, hk, ajY, ajY]
   exact loop (o.length - i) N i (by omega) (by omega) K
theorem pF (N : Nat) (hN : 1048576 < N) (n w : Nat) (hn : n <= 4) (hw : w < 2 ^ 2 ^ n) : ∃ b : Bool, ∀ K : List (Int × Int) -> Bool -> Option β, yl N (n : Int) (w : Int) K = K (tl (C1 n w)) b := by
 have hs : 2 ^ n <= 16 := (aj7 (by decide) hn : 2 ^ n <= 2 ^ 4)
 have hl := pv n w (2 ^ n) hs
 have hw6 := w63 hn hw
 unfold yl Pj
 have loop : ∀ (d F k : Nat), k + d = 9 -> d < F -> ∃ b : Bool, ∀ K : List (Int × Int) -> Bool -> Option β, lT N F (k : Int) (n : Int) (w : Int) (tl (prl n w (2 ^ n))) (fun e0 e1 => K e1 e0) (K [] false) = K (tl (atO (prl n w (2 ^ n)) (mL n w d k))) b := by
  intro d
  induction d with
  | zero =>
   intro F k hd hF
   obtain ⟨G, rfl⟩ : ∃ G, F = G + 1 := ⟨F - 1, by omega⟩
   refine ⟨false, fun K => ?_⟩
   simp only [lT, Im, Df]
   rw [aj2 (by omega), ajY]
   rfl
  | succ d ih =>
   intro F k hd hF
   obtain ⟨G, rfl⟩ : ∃ G, F = G + 1 := ⟨F - 1, by omega⟩
   have e2 := fun K => Am (β := β) N hN n w hn (prl n w (2 ^ n)) (uO n w hn) (by omega) k N 0 w (by omega) (by omega) (by omega) (by omega) K
   rw [amn, <- List.range_eq_range'] at e2
   obtain ⟨b, e3⟩ := ih G (k + 1) (by omega) (by omega)
   cases hc : cvr (wdO n (prl n w (2 ^ n))) (List.range (prl n w (2 ^ n)).length) k w with
   | some r =>
    refine ⟨true, fun K => ?_⟩
    simp only [lT, Im, Df]
    rw [ajX (by omega : (k : Int) <= 8), ajZ]
    refine (e2 _).trans ?_
    rw [hc, mL, hc]
    rfl
   | none =>
    refine ⟨b, fun K => ?_⟩
    simp only [lT, Im, Df]
    rw [ajX (by omega : (k : Int) <= 8), ajZ]
    refine (e2 _).trans ?_
    rw [hc, mL, hc]
    dsimp only
    rw [ajY, aw k (by omega), e3]
 obtain ⟨b, e⟩ := loop 9 N 0 rfl (by omega)
 refine ⟨b, fun K => ?_⟩
 rw [bv, B4 (by omega) hw, aj5, ajY, aj2 (by omega), ajY, wu N hN n w hn hw]
 exact e K
set_option linter.unusedSectionVars false
section
variable (N : Nat) (hN : 1048576 < N) {n : Nat} (hn : n <= 3) {T : List Int} (hT : wb n T) {w : Nat} (hw : w < 2 ^ 2 ^ n) (g : Nat -> List UInt8) (hg : ∀ x, (g x).length <= 1000)
include hN hn hT hw hg
theorem qX (o : Bool) (self : Int -> Int -> List Int -> (ByteArray -> Option β) -> Option β) (hs : ∀ x, x < 2 ^ 2 ^ n -> 1 <= gt T x -> gt T x < gt T w -> ∀ K, self (n : Int) (x : Int) T K = K (B (g x))) (x2 x3 : Int) (x9 : List Int) (k0 : ByteArray -> Option β) (k1 : List Int -> Int -> Int -> Int -> Int -> List Int -> Option β) :
  ∀ (d F i : Nat), i + d = 2 ^ 2 ^ n -> d < F -> i7 N self F T (cond o 38 124) x2 x3 T (T.length : Int) (i : Int) (n : Int) (w : Int) x9 k0 k1 =
   match bH T o w (2 ^ 2 ^ n) d i with
   | some (a, b) => k0 (B (cond o 38 124 :: g a ++ g b))
   | none => k1 T x2 x3 (n : Int) (w : Int) x9
 | d, 0, _, _, h => absurd h (akW _)
 | 0, F + 1, i, hi, _ => by
  have hL := hT.len
  obtain rfl : i = 2 ^ 2 ^ n := by omega
  show DH N self T (cond o 38 124) x2 x3 T (T.length : Int) _ (n : Int) (w : Int) x9 _ k0 k1 = _
  unfold DH Ij
  rw [aj2 (by omega)]
  rfl
 | d + 1, F + 1, i, hi, hF => by
  have hL := hT.len
  have hlw := hT.le w
  have hL2 : 2 ^ 2 ^ n <= 256 := by
   obtain rfl | rfl | rfl | rfl : n = 0 \/ n = 1 \/ n = 2 \/ n = 3 := by omega
   all_goals decide
  have ih := qX o self hs x2 x3 x9 k0 k1 d F (i + 1) (by omega) (by omega)
  show DH N self T (cond o 38 124) x2 x3 T (T.length : Int) (i : Int) (n : Int) (w : Int) x9 _ k0 k1 = _
  unfold DH Ij
  rw [ajX (by omega : (i : Int) < (T.length : Int)), ajZ, ab (ajX (by omega)), ab rfl, ab (ajX (by omega)), ab (ajX (by omega)), kl, kl, aw i (by omega)]
  have hp : bH T o w (2 ^ 2 ^ n) (d + 1) i = cond (decide (1 <= gt T i) && decide (gt T i < gt T w)) (match dp T o w i (2 ^ 2 ^ n) 0 with | some b => some (i, b) | none => bH T o w (2 ^ 2 ^ n) d (i + 1)) (bH T o w (2 ^ 2 ^ n) d (i + 1)) := rfl
  rw [hp]
  by_cases e0 : 1 <= gt T i
  ·rw [aj2 (by omega : ¬ gt T i < 1), ajY, ajX e0, aj9]
   by_cases e1 : gt T i < gt T w
   ·rw [aj2 (by omega : ¬ gt T i >= gt T w), ajY, ajX e1, ajZ]
    have hb := qY N hN hn hT hw (by omega : i < 2 ^ 2 ^ n) g hg e0 e1 o self hs x2 x3 T (T.length : Int) (i : Int) x9 k0 (fun e0 e1 e2 e3 e4 e5 e6 e7 e8 e9 => i7 N self F e0 e1 e2 e3 e4 e5 (w64 (e6 + 1)) e7 e8 e9 k0 k1) (2 ^ 2 ^ n) N 0 (by omega) (by omega)
    refine alh hb ?_
    cases dp T o w i (2 ^ 2 ^ n) 0 with
    | some b => rfl
    | none =>
     show i7 N self F T (cond o 38 124) x2 x3 T (T.length : Int) (w64 ((i : Int) + 1)) (n : Int) (w : Int) x9 k0 k1 = _
     rw [aw i (by omega)]
     exact ih
   ·rw [ajX (by omega : gt T i >= gt T w), ajZ, aj2 e1, ajY]
    exact ih
  ·rw [ajX (by omega : gt T i < 1), ajZ, aj2 e0, akv, ajY]
   exact ih
theorem B3 (self : Int -> Int -> List Int -> (ByteArray -> Option β) -> Option β) (hs : ∀ x, x < 2 ^ 2 ^ n -> 1 <= gt T x -> gt T x < gt T w -> ∀ K, self (n : Int) (x : Int) T K = K (B (g x))) (k0 : ByteArray -> Option β) (k1 : Option β) :
  gx N self N T 2 0 (n : Int) (w : Int) [38, 124] k0 k1 =
   match bH T true w (2 ^ 2 ^ n) (2 ^ 2 ^ n) 0 with
   | some (a, b) => k0 (B (38 :: g a ++ g b))
   | none => match bH T false w (2 ^ 2 ^ n) (2 ^ 2 ^ n) 0 with
    | some (a, b) => k0 (B (124 :: g a ++ g b))
    | none => k1 := by
 obtain ⟨M, rfl⟩ : ∃ M, N = M + 3 := ⟨N - 3, by omega⟩
 have hL2 : 2 ^ 2 ^ n <= 256 := by
  obtain rfl | rfl | rfl | rfl : n = 0 \/ n = 1 \/ n = 2 \/ n = 3 := by omega
  all_goals decide
 have ha := fun o x3 k0 (k1 : List Int -> Int -> Int -> Int -> Int -> List Int -> Option β) => qX (M + 3) hN hn hT hw g hg o self hs 2 x3 [38, 124] k0 k1 (2 ^ 2 ^ n) (M + 3) 0 (by omega) (by omega)
 show DI (M + 3) self T 2 0 (n : Int) (w : Int) [38, 124] (fun v0 v1 v2 v3 v4 v5 => gx (M + 3) self (M + 2) v0 v1 v2 v3 v4 v5 k0 k1) k0 k1 = _
 unfold DI Ik
 refine alh (ha true 0 _ _) ?_
 cases bH T true w (2 ^ 2 ^ n) (2 ^ 2 ^ n) 0 with
 | some p => rfl
 | none =>
  show DI (M + 3) self T 2 1 (n : Int) (w : Int) [38, 124] (fun v0 v1 v2 v3 v4 v5 => gx (M + 3) self (M + 1) v0 v1 v2 v3 v4 v5 k0 k1) k0 k1 = _
  unfold DI Ik
  refine alh (ha false 1 _ _) ?_
  cases bH T false w (2 ^ 2 ^ n) (2 ^ 2 ^ n) 0 with
  | some p => rfl
  | none => rfl
end
theorem vD : ∀ n, n <= 3 -> ∀ w, w < 2 ^ 2 ^ n -> w ^^^ (2 ^ 2 ^ n - 1) = full n - w /\ w <= full n /\ full n < 256 := by decide +kernel
theorem xj (N : Nat) {n w : Nat} (hn : n <= 3) (hw : w < 2 ^ 2 ^ n) (K : Int -> Int -> Option β) : eF N (n : Int) (w : Int) K = K (n : Int) ((full n - w : Nat) : Int) := by
 obtain ⟨h1, h2, h3⟩ := vD n hn w hw
 have hs : 2 ^ n <= 8 := (aj7 (by decide) hn : 2 ^ n <= 2 ^ 3)
 have hfu : full n = 2 ^ 2 ^ n - 1 := rfl
 have hp : 0 < 2 ^ 2 ^ n := akK _
 have hz : (0 : Int) <= ((2 ^ n : Nat) : Int) := akj _
 unfold eF H6
 rw [bV N n _ (by omega), ab (ajX (by omega)), aM (2 ^ n) (by omega), show w64 (((2 ^ 2 ^ n : Nat) : Int) - 1) = ((2 ^ 2 ^ n - 1 : Nat) : Int) by rw [bp (by omega) (by omega)]; omega, RN w _ (by omega) (by omega), h1]
theorem Jw (N : Nat) (hN : 64 < N) {n i : Nat} (hn : n <= 3) (hi : i < n) (K : Int -> Int -> Option β) : pT N (n : Int) (i : Int) K = K (n : Int) (vw n i : Int) := by
 have hs : 2 ^ n <= 8 := (aj7 (by decide) hn : 2 ^ n <= 2 ^ 3)
 unfold pT VA
 rw [b6 N hN n (by omega) _ (fun x => x.testBit i) (fun x k hx => by
  unfold zj0 zb0
  rw [ab (ajX (by omega)), gz x i (by omega)]
  cases x.testBit i <;> rfl), FD n hn i hi]
theorem YI (i : Nat) (h : i < 3) : aq (([] : List Int) ++ [w8 (97 + w8 (i : Int))]) = B [UInt8.ofNat (97 + i)] := by
 obtain rfl | rfl | rfl : i = 0 \/ i = 1 \/ i = 2 := by omega
 all_goals rfl
theorem B2 (N : Nat) (hN : 1048576 < N) {n : Nat} (hn : n <= 3) {w : Nat} (hw : w < 2 ^ 2 ^ n) (T : List Int) (k0 : ByteArray -> Option β) (k1 : List Int -> Int -> Int -> Option β) :
  ∀ (d F i : Nat), i + d = n -> d < F -> l5 N F T (n : Int) (i : Int) (n : Int) (w : Int) k0 k1 = match qo n w d i with
   | some s => k0 (B s)
   | none => k1 T (n : Int) (w : Int)
 | d, 0, _, _, h => absurd h (akW _)
 | 0, F + 1, i, hi, _ => by
  obtain rfl : i = n := by omega
  show DF N T (i : Int) (i : Int) (i : Int) (w : Int) _ k0 k1 = _
  unfold DF Ih
  rw [aj2 (by omega)]
  rfl
 | d + 1, F + 1, i, hi, hF => by
  have ih := B2 N hN hn hw T k0 k1 d F (i + 1) (by omega) (by omega)
  have hv := HD n hn i (by omega)
  show DF N T (n : Int) (i : Int) (n : Int) (w : Int) _ k0 k1 = _
  unfold DF Ih
  rw [ajX (by omega : (i : Int) < (n : Int)), ajZ, Jw N (by omega) hn (by omega), xj N hn (by omega), YI i (by omega), aw i (by omega), show aq [33] = B [33] from rfl, gs2 _ _ (by simp), cK, beq_self_eq_true, aj9, aj9, cJ, cJ]
  have hl : qo n w (d + 1) i = cond (w == vw n i) (some [UInt8.ofNat (97 + i)]) (cond (w == full n - vw n i) (some [33, UInt8.ofNat (97 + i)]) (qo n w d (i + 1))) := rfl
  rw [hl]
  cases w == vw n i with
  | true => rfl
  | false =>
   rw [ajY, ajY]
   cases w == full n - vw n i with
   | true => rfl
   | false => exact ih
theorem RQ (x : Nat) : bw 0 x = 0 := by unfold bw; rw [akQ]; rfl
theorem RP : ∀ n, n <= 3 -> bw (full n) 0 = 1 := by decide +kernel
theorem Ec (N : Nat) {n w : Nat} (hn : n <= 3) (hw : w < 2 ^ 2 ^ n) (K : Bool -> Option β) : nm N (n : Int) (w : Int) K = K (w == 0 || w == full n) := by
 obtain ⟨h1, h2, h3⟩ := vD n hn w hw
 unfold nm PY
 rw [xj N hn hw, show ((w : Int) == 0) = (w == 0) from cJ w 0, show (((full n - w : Nat) : Int) == 0) = (w == full n) by
  rw [show (((full n - w : Nat) : Int) == 0) = (full n - w == 0) from cJ _ 0, ald, beq_iff_eq, beq_iff_eq]; omega]
 cases w == 0 <;> rfl
theorem tF {N : Nat} (hN : 1048576 < N) {n : Nat} (hn : n <= 3) {T : List Int} (hT : wb n T) : ∀ (F w : Nat), w < 2 ^ 2 ^ n -> gt T w < F -> ∀ K : ByteArray -> Option β, cZ N F (n : Int) (w : Int) T K = K (B (fmF T n F w))
 | 0, w, _, h, _ => by have := hT.le w; have := hT.len; omega
 | F + 1, w, hw, hF, K => by
  have hL := hT.len
  obtain ⟨h1, h2, h3⟩ := vD n hn w hw
  have hs : ∀ x, x < 2 ^ 2 ^ n -> 1 <= gt T x -> gt T x < gt T w -> ∀ K : ByteArray -> Option β, cZ N F (n : Int) (x : Int) T K = K (B (fmF T n F x)) := fun x hx _ h2 K => tF hN hn hT F x hx (by omega) K
  show QE N (cZ N F) (n : Int) (w : Int) T K = _
  unfold QE PZ fmF
  rw [Ec N hn hw]
  cases h0 : w == 0 with
  | true =>
   have : w = 0 := by simpa using h0
   subst this
   rw [amm, ajZ, ajZ]
   have ha := cm (β := β) N 0 0 (n : Int) (by omega) fun r5 => fQ N r5 K
   refine alh ha ?_
   rw [RQ, dy N _ (by unfold Nt; omega)]
   have hi : Lib.itoa ((0 : Nat) : Int) = [48] := tK false
   rw [hi]
  | false =>
   rw [ak7, ajY]
   cases h1 : w == full n with
   | true =>
    have : w = full n := by simpa using h1
    subst this
    rw [ajZ, ajZ]
    have ha := cm (β := β) N (full n) 0 (n : Int) (by omega) fun r5 => fQ N r5 K
    refine alh ha ?_
    rw [RP n hn, dy N _ (by unfold Nt; omega)]
    have hi : Lib.itoa ((1 : Nat) : Int) = [49] := tK true
    rw [hi]
   | false =>
    rw [ajY, ajY, ab (ajX (by omega)), ab (ajX (by omega)), kl]
    have ho := B3 N hN hn hT hw (fmF T n F) (GM hT F) (cZ N F) hs (fun e => K e) (K ByteArray.empty)
    have tail : gx N (cZ N F) N T 2 0 (n : Int) (w : Int) [38, 124] (fun e => K e) (K ByteArray.empty) = K (B (match bH T true w (2 ^ 2 ^ n) (2 ^ 2 ^ n) 0 with
     | some (a, b) => 38 :: fmF T n F a ++ fmF T n F b
     | none => match bH T false w (2 ^ 2 ^ n) (2 ^ 2 ^ n) 0 with
      | some (a, b) => 124 :: fmF T n F a ++ fmF T n F b
      | none => [])) := by
     refine alh ho ?_
     cases bH T true w (2 ^ 2 ^ n) (2 ^ 2 ^ n) 0 with
     | some p => rfl
     | none =>
      cases bH T false w (2 ^ 2 ^ n) (2 ^ 2 ^ n) 0 with
      | some p => rfl
      | none => rfl
    by_cases e1 : gt T w = 1
    ·rw [show (gt T w == 1) = true by simp [e1], ajZ, ajX e1, ajZ]
     refine alh (B2 N hN hn hw T (fun e => K e) _ n N 0 (by omega) (by omega)) ?_
     cases qo n w n 0 with
     | some s => rfl
     | none => exact tail
    ·rw [show (gt T w == 1) = false by simp [e1], ajY, aj2 e1, ajY]
     exact tail
theorem wa (N : Nat) (hN : 1048576 < N) (n w : Nat) (hn : n <= 5) (hw : w < 2 ^ 2 ^ n) : (∀ K : ByteArray -> Bool -> Option β, yo N (n : Int) (w : Int) K = cond (decide (n <= 3)) (K (B (fmF (szT n) n N w)) true) (K (B []) false)) /\ (∀ K : ByteArray -> Bool -> Option β, yw N (n : Int) (w : Int) K = cond (decide (n <= 3)) (K (B (fmF (szT n) n N w)) true) (K (B []) false)) := by
 have hs : 2 ^ n <= 32 := (aj7 (by decide) hn : 2 ^ n <= 2 ^ 5)
 have hw32 : w < 2 ^ 32 := aka hw (aj7 (by decide) hs)
 constructor
 ·intro K
  unfold yo Pu
  rw [bv, B4 hn hw, aj5, ajY]
  by_cases h3 : n <= 3
  ·have hT := O0 h3
   have hl := hT.le w
   rw [aj2 (by omega : ¬ (n : Int) > 3), ajY, ajX h3, ajZ]
   unfold mY W7
   rw [ab (ajX (by omega)), ab (ajX (by omega)), akc]
   exact ve hN h3 hT N w hw (by omega) _
  ·rw [ajX (by omega : (n : Int) > 3), ajZ, aj2 h3, ajY, d7]
 ·intro K
  unfold yw P0 gu Dk
  rw [bZ N _ _ (by omega), B4 hn hw, ajZ]
  by_cases h3 : n <= 3
  ·have hT := O0 h3
   have hl := hT.le w
   rw [ajX (by omega : (n : Int) <= 3)]
   dsimp only
   rw [aj5, ajY, ajX h3, ajZ]
   unfold jt Xi
   rw [ab (ajX (by omega)), ab (ajX (by omega)), akc]
   exact tF hN h3 hT N w hw (by omega) _
  ·rw [aj2 (by omega : ¬ (n : Int) <= 3)]
   dsimp only
   rw [akl, ajZ, aj2 h3, ajY, d7]
theorem wj (N : Nat) (hN : 1048576 < N) (n w : Nat) (hn : n <= 4) (hw : w < 2 ^ 2 ^ n) (K : List (Int × Int) -> Option β) : pR N (n : Int) (w : Int) K = K (tl (prl n w (2 ^ n))) := by
 have hs : 2 ^ n <= 16 := (aj7 (by decide) hn : 2 ^ n <= 2 ^ 4)
 have hz0 : (0 : Int) <= ((2 ^ n : Nat) : Int) := akj _
 have h16 := C3 n hn
 unfold pR PN zj2 zb2
 rw [ab (ajX (by omega)), aM n (by omega)]
 refine a6 (fun F m => iY N F ((2 ^ n : Nat) : Int) (m : Int) (n : Int) (w : Int) (tl (prl n w m)) fun e => K e) (2 ^ n) _ (fun F m hm => ?_) (fun F => ?_) N 0 (by omega) (by omega)
 ·simp only [iY, Qx, Ib]
  rw [ajX (by omega : (m : Int) < ((2 ^ n : Nat) : Int)), ajZ, aw m (by omega)]
  have hl1 := pv n w m (by omega)
  refine (a6 (fun H v => l0 N H (m : Int) ((2 ^ n : Nat) : Int) (m : Int) ((m + 1 : Nat) : Int) (v : Int) (n : Int) (w : Int) (tl (prl n w m ++ prr n w m v)) fun e0 e1 e2 e3 e4 => iY N F e0 (w64 (e1 + 1)) e2 e3 e4 fun e => K e) (m + 1) (iY N F ((2 ^ n : Nat) : Int) ((m + 1 : Nat) : Int) (n : Int) (w : Int) (tl (prl n w (m + 1))) fun e => K e) (fun H v hv => ?_) (fun H => ?_) N 0 (by omega) (by omega) |> fun h => alh (by rw [show prr n w m 0 = [] from rfl, akh]; rfl) h)
  ·have hl2 := rX n w m v
   simp only [l0, Qw, Ia]
   rw [ajX (by omega : (v : Int) < ((m + 1 : Nat) : Int)), ajZ, p6 v (by omega) m (by omega), Jy N hN n w m v hn (by omega) (by omega) (by omega), aw v (by omega)]
   cases hc : (v &&& m == v) with
   | false => rw [ajY, prr, hc, akv, ajY, akh]
   | true =>
    cases hp : prm n w m v with
    | false => rw [ajZ, ajY, prr, hc, hp, alE, ajY, akh]
    | true =>
     rw [ajZ, ajZ, ab (ajX (by rw [bE, aj6]; simp; omega)), prr, hc, hp, alo, ajZ, akH, show tl (prl n w m ++ prr n w m v) ++ [((m : Int), (v : Int))] = tl ((prl n w m ++ prr n w m v) ++ [(m, v)]) from (jI _ (m, v)).symm, akt]
  ·simp only [l0, Qw, Ia]
   rw [aj2 (by omega), ajY, aw m (by omega)]
   rfl
 ·simp only [iY, Qx, Ib]
  rw [aj2 (by omega : ¬ ((2 ^ n : Nat) : Int) < ((2 ^ n : Nat) : Int)), ajY]
def ixI (r : List Nat) : List Int := r.map fun (i : Nat) => (i : Int)
theorem rN (r : List Nat) : (ixI r).length = r.length := by simp [ixI]
theorem YF (r : List Nat) (i : Nat) (h : i < r.length) : rd 0 (ixI r) (i : Int) = (r[i] : Int) := by
 rw [Of _ _ _ (by rw [rN]; exact h)]
 simp [ixI]
def wds (n : Nat) (o : List (Nat × Nat)) : List Int := (List.range o.length).map fun i => (wdO n o i : Int)
theorem Av (n : Nat) (o : List (Nat × Nat)) : (wds n o).length = o.length := by simp [wds]
theorem aaP (n : Nat) (o : List (Nat × Nat)) (i : Nat) (h : i < o.length) : rd 0 (wds n o) (i : Int) = (wdO n o i : Int) := by
 rw [Of _ _ _ (by rw [Av]; exact h)]
 simp [wds]
theorem RT (wd : Nat -> Nat) (T : Nat) : ∀ (l : List Nat) (k h : Nat) (r : List Nat), chs wd T l k h = some r -> r.length <= k := by
 intro l
 induction l with
 | nil =>
  intro k h r e
  unfold chs at e
  cases h1 : k == 0 with
  | false => rw [h1] at e; cases e
  | true =>
   rw [h1, ajZ] at e
   cases h2 : h == T with
   | false => rw [h2] at e; cases e
   | true => rw [h2, ajZ, aj1] at e; subst e; exact aks _
 | cons t l ih =>
  intro k h r e
  cases k with
  | zero =>
   unfold chs at e
   dsimp only at e
   cases h2 : h == T with
   | false => rw [h2] at e; cases e
   | true => rw [h2, ajZ, aj1] at e; subst e; exact aks _
  | succ k =>
   unfold chs at e
   dsimp only at e
   cases h1 : decide (k + 1 <= l.length + 1) with
   | false => rw [h1] at e; cases e
   | true =>
    rw [h1, ajZ] at e
    cases h2 : (wd t ^^^ (wd t &&& h) == 0) with
    | true => rw [h2, ajZ] at e; exact ih (k + 1) h r e
    | false =>
     rw [h2, ajY] at e
     cases h3 : chs wd T l k (h ||| wd t) with
     | some r' =>
      rw [h3, aj1] at e
      subst e
      have := ih k _ r' h3
      rw [aj4]; omega
     | none => rw [h3] at e; exact ih (k + 1) h r e
theorem aaO (n : Nat) (hn : n <= 4) (o : List (Nat × Nat)) (i : Nat) : wdO n o i < 65536 := by
 have h1 := bU (fun x => x &&& (o.getD i (0, 0)).1 == (o.getD i (0, 0)).2) (2 ^ n)
 have h2 := C3 n hn
 unfold wdO
 omega
theorem wh (N : Nat) (hN : 1048576 < N) (n w : Nat) (hn : n <= 4) (hw : w < 65536) (o : List (Nat × Nat)) (hol : o.length <= 1000) : ∀ (k F i have_ : Nat), k <= 1000 -> k < F -> i <= o.length -> have_ < 65536 ->
  ∀ K : List Int -> Bool -> Option β, eG N F (wds n o) (w : Int) (have_ : Int) (i : Int) (k : Int) K = match chs (wdO n o) w (List.range' i (o.length - i)) k have_ with
   | some r => K (ixI r) true
   | none => K [] false := by
 intro k
 induction k with
 | zero =>
  intro F i have_ hk hF hi hh K
  obtain ⟨G, rfl⟩ : ∃ G, F = G + 1 := ⟨F - 1, by omega⟩
  have e : chs (wdO n o) w (List.range' i (o.length - i)) 0 have_ = cond (have_ == w) (some []) none := by
   cases List.range' i (o.length - i) <;> rfl
  rw [e]
  simp only [eG, QA, Id]
  rw [show (((0 : Nat) : Int) == 0) = true from rfl, ajZ, cJ]
  cases have_ == w <;> rfl
 | succ k ih =>
  intro F i have_ hk100 hF hi hh K
  obtain ⟨G, rfl⟩ : ∃ G, F = G + 1 := ⟨F - 1, by omega⟩
  have hk : (((k + 1 : Nat) : Int) == 0) = false := beq_eq_false_iff_ne.2 (by omega)
  have loop : ∀ (d H j : Nat), j + d = o.length -> d < H -> ∀ K : List Int -> Bool -> Option β,
    nl N (eG N G) H (wds n o) (w : Int) (have_ : Int) ((k + 1 : Nat) : Int) (j : Int) (fun e0 e1 => K e1 e0) (K [] false) = match chs (wdO n o) w (List.range' j d) (k + 1) have_ with
     | some r => K (ixI r) true
     | none => K [] false := by
   intro d
   induction d with
   | zero =>
    intro H j hd hH K
    obtain ⟨H, rfl⟩ : ∃ G, H = G + 1 := ⟨H - 1, by omega⟩
    simp only [nl, Qy, Ic, Av]
    rw [bp (by omega) (by omega), aj2 (by omega), ajY]
    rfl
   | succ d ihd =>
    intro H j hd hH K
    obtain ⟨H, rfl⟩ : ∃ G, H = G + 1 := ⟨H - 1, by omega⟩
    have hj : j < o.length := by omega
    have e0 := ihd H (j + 1) (by omega) (by omega) K
    have hwj := aaO n hn o j
    have ha : bits .andNot .i64 (wdO n o j : Int) (have_ : Int) = ((wdO n o j ^^^ (wdO n o j &&& have_) : Nat) : Int) := RM _ _ (by omega) (by omega)
    have hb : bits .or .i64 (have_ : Int) (wdO n o j : Int) = ((have_ ||| wdO n o j : Nat) : Int) := bOr _ _ (by omega) (by omega)
    have hor : have_ ||| wdO n o j < 2 ^ 16 := akL (by omega) (by omega)
    have hk1 : w64 (((k + 1 : Nat) : Int) - 1) = (k : Int) := by rw [show ((k + 1 : Nat) : Int) - 1 = (k : Int) by omega]; exact bp (by omega) (by omega)
    have e2 := ih G (j + 1) (have_ ||| wdO n o j) (by omega) (by omega) (by omega) (by omega)
    rw [show o.length - (j + 1) = d by omega] at e2
    have hd2 : (decide ((j : Int) <= w64 ((o.length : Int) - ((k + 1 : Nat) : Int)))) = decide (k + 1 <= d + 1) := by
     rw [bp (by omega) (by omega)]
     apply decide_eq_decide.2
     omega
    have hch : chs (wdO n o) w (List.range' j (d + 1)) (k + 1) have_ = cond (decide (k + 1 <= d + 1)) (cond (wdO n o j ^^^ (wdO n o j &&& have_) == 0) (chs (wdO n o) w (List.range' (j + 1) d) (k + 1) have_) (match chs (wdO n o) w (List.range' (j + 1) d) k (have_ ||| wdO n o j) with
      | some r => some (j :: r)
      | none => chs (wdO n o) w (List.range' (j + 1) d) (k + 1) have_)) none := by
     rw [List.range'_succ]
     show cond (decide (k + 1 <= (List.range' (j + 1) d).length + 1)) _ none = _
     rw [List.length_range']
     all_goals rfl
    rw [hch]
    simp only [nl, Qy, Ic, Av, aaP n o j hj]
    rw [hd2]
    cases decide (k + 1 <= d + 1) with
    | false => rfl
    | true =>
     rw [ajZ, ajZ, ab (ajX (by omega)), ab (ajX (by omega)), ha, hb, hk1, aw j (by omega), ab (ajX (by omega)), ab (ajX (by omega)), e2, e0, show (((wdO n o j ^^^ (wdO n o j &&& have_) : Nat) : Int) == 0) = (wdO n o j ^^^ (wdO n o j &&& have_) == 0) from cJ _ 0]
     cases h1 : (wdO n o j ^^^ (wdO n o j &&& have_) == 0) with
     | true => rw [ajZ, ajZ]
     | false =>
      rw [ajY, ajY]
      cases h2 : chs (wdO n o) w (List.range' (j + 1) d) k (have_ ||| wdO n o j) with
      | none => dsimp only; rw [ajY]
      | some r1 =>
       have hr := RT _ _ _ _ _ r1 h2
       dsimp only
       rw [ajZ, ab (ajX (by rw [rN]; simp; omega))]
       rfl
  simp only [eG, QA, Id]
  rw [hk, ajY]
  exact loop (o.length - i) N i (by omega) (by omega) K
theorem tC (N : Nat) (hN : 1048576 < N) (n w : Nat) (hn : n <= 4) (hw : w < 2 ^ 2 ^ n) (K : List (Int × Int) -> Option β) : yr N (n : Int) (w : Int) K = K (tl (C1 n w)) := by
 have hs : 2 ^ n <= 16 := (aj7 (by decide) hn : 2 ^ n <= 2 ^ 4)
 have hl := pv n w (2 ^ n) hs
 have hw6 := w63 hn hw
 have hg := uO n w hn
 unfold yr PP
 rw [wj N hN n w hn hw, bE]
 have h8 := adm n w hn hw
 have hin := N8 n w
 have hsum : C1 n w = atO (prl n w (2 ^ n)) (mL n w 9 0) := rfl
 rw [hsum]
 have hdef : ∀ d k, mL n w (d + 1) k = match cvr (wdO n (prl n w (2 ^ n))) (List.range (prl n w (2 ^ n)).length) k w with
   | some r => r
   | none => mL n w d (k + 1) := fun d k => rfl
 have hlen0 : ∀ d k, (∀ i ∈ mL n w d k, i < (prl n w (2 ^ n)).length) := fun d k => (zz n w d k).1
 generalize prl n w (2 ^ n) = o at *
 generalize mL n w = L at *
 rw [ab (ajX (by omega)), ab (ajX (by omega)), ab (ajX (by omega)), akc]
 have words : ∀ (d F i : Nat), i + d = o.length -> d < F -> ∀ k0 : List (Int × Int) -> Int -> Int -> List Int -> Option β, jS N F (tl o) (tl o) (o.length : Int) (i : Int) (n : Int) (w : Int) (((List.range i).map fun i => (wdO n o i : Int)) ++ List.replicate d 0) k0 = k0 (tl o) (n : Int) (w : Int) (wds n o) := by
  intro d
  induction d with
  | zero =>
   intro F i hi hF k0
   obtain ⟨G, rfl⟩ : ∃ G, F = G + 1 := ⟨F - 1, by omega⟩
   simp only [jS, QB, Ie]
   rw [aj2 (by omega), ajY, al4, akh, show i = o.length by omega]
   rfl
  | succ d ih =>
   intro F i hi hF k0
   obtain ⟨G, rfl⟩ : ∃ G, F = G + 1 := ⟨F - 1, by omega⟩
   have hlt : i < o.length := by omega
   obtain ⟨g1, g2, g3⟩ := hg o[i] (akn hlt)
   have hsumof : ∀ K : Int -> Int -> Option β, iX N (n : Int) ([] ++ [((o[i].1 : Int), (o[i].2 : Int))]) K = K (n : Int) (wdO n o i : Int) := fun K => by
    unfold iX H1 wdO
    rw [nE o i hlt, show ([] ++ [((o[i].1 : Int), (o[i].2 : Int))]) = tl [o[i]] from rfl]
    rw [b6 N (by omega) n (by omega) _ (fun x => x &&& o[i].1 == o[i].2) (fun x k hx => by
     unfold c8 Vy
     rw [sP N hN [o[i]] (by simp) _ (fun t => x &&& t.1 == t.2) (fun t ht k => by
      rw [akJ.1 ht]
      unfold iS Vx Lj Vw
      rw [rI x (by omega) _ g2, cJ])]
     simp)]
   simp only [jS, QB, Ie, bE, pw o i hlt]
   rw [ajX (by omega : (i : Int) < (o.length : Int)), ajZ, ab (ajX (by omega)), ab rfl, hsumof, ab (ajX (by omega)), ab (ajX (by simp; omega)), aw i (by omega), alL]
   have hwr := FE ((List.range i).map fun i => (wdO n o i : Int)) 0 (wdO n o i : Int) (List.replicate d 0)
   rw [akx, amb] at hwr
   rw [hwr]
   have e : ((List.range i).map fun i => (wdO n o i : Int)) ++ (wdO n o i : Int) :: List.replicate d 0 = ((List.range (i + 1)).map fun i => (wdO n o i : Int)) ++ List.replicate d 0 := by
    rw [ak9, alx, akt]; rfl
   rw [e]
   exact ih G (i + 1) (by omega) (by omega) k0
 refine alh (words o.length N 0 (by omega) (by omega) _) ?_
 rw [bE, show w64 ((o.length : Int) + 1) = ((o.length + 1 : Nat) : Int) from aw _ (by omega)]
 have out : ∀ r : List Nat, (∀ i ∈ r, i < o.length) -> r.length <= 1000 -> ∀ k0 : List (Int × Int) -> Option β, iZ N N (tl o) ((ixI r).length : Int) 0 [] (ixI r) k0 = k0 (tl (atO o r)) := by
  intro r hr hrl k0
  rw [rN]
  refine a6 (fun F i => iZ N F (tl o) (r.length : Int) (i : Int) (tl (atO o (r.take i))) (ixI r) k0) r.length _ (fun F i hi => ?_) (fun F => ?_) N 0 (by omega) (by omega)
  ·have hri := hr r[i] (akn hi)
   simp only [iZ, QC, If, bE, rN, YF r i hi, pw o r[i] hri]
   have e : atO o (r.take (i + 1)) = atO o (r.take i) ++ [o[r[i]]] := by
    unfold atO
    rw [alD, amF hi, Option.toList_some, alx, akD, nE o _ hri]
    rfl
   have hal : (atO o (r.take i)).length = i := by unfold atO; rw [akx, alp]; omega
   rw [ajX (by omega : (i : Int) < (r.length : Int)), ajZ, ab (ajX (by omega)), ab rfl, ab (ajX (by omega)), ab (ajX (by omega)), ab (ajX (by rw [hal]; simp; omega)), aw i (by omega), e, jI, akH]
  ·simp only [iZ, QC, If]
   rw [aj2 (by omega), ajY, alr]
 have loop : ∀ (d F k : Nat), k + d = 9 -> d < F -> (∀ j, j < k -> cvr (wdO n o) (List.range o.length) j w = none) -> ∀ (k0 : List (Int × Int) -> Option β) (k1 : Option β), l3 N F (tl o) ((o.length + 1 : Nat) : Int) (k : Int) (n : Int) (w : Int) (wds n o) k0 k1 = k0 (tl (atO o (L d k))) := by
  intro d
  induction d with
  | zero =>
   intro F k hk hF hno k0 k1
   exact absurd (hno 8 (by omega)) h8
  | succ d ih =>
   intro F k hk hF hno k0 k1
   obtain ⟨G, rfl⟩ : ∃ G, F = G + 1 := ⟨F - 1, by omega⟩
   have hkL : k <= o.length := by
    rcases akg o.length k with h | h
    ·cases hc : cvr (wdO n o) (List.range o.length) 8 w with
     | none => exact absurd hc h8
     | some r =>
      obtain ⟨a1, a2, a3, a4⟩ := eV _ _ _ _ r hc
      rw [amb] at a2
      exact absurd (hno o.length h) (sW _ _ _ w r a1 a2 a4)
    ·exact h
   have e1 := fun K => wh (β := β) N hN n w hn hw6 o (by omega) k N 0 0 (by omega) (by omega) (by omega) (by omega) K
   rw [amn, <- List.range_eq_range', D5 _ _ _ hin k hno] at e1
   simp only [l3, Xe, PO]
   rw [ajX (by omega : (k : Int) < ((o.length + 1 : Nat) : Int)), ajZ]
   unfold Xd
   refine (e1 _).trans ?_
   rw [hdef]
   cases hc : cvr (wdO n o) (List.range o.length) k w with
   | some r =>
    obtain ⟨a1, a2, a3, a4⟩ := eV _ _ _ _ r hc
    dsimp only
    rw [ajZ]
    exact out r (fun i hi => akU.1 (a1 i hi)) (by omega) _
   | none =>
    dsimp only
    rw [ajY, aw k (by omega)]
    exact ih G (k + 1) (by omega) (by omega) (fun j hj => by
     rcases akg j k with h | h
     ·exact hno j h
     ·have : j = k := by omega
      subst this
      exact hc) k0 k1
 exact loop 9 N 0 rfl (by omega) (fun j hj => absurd hj (akW _)) _ _
theorem GY (n w : Nat) : ∀ d k, (mL n w d k).length <= k + d - 1
 | 0, k => aks _
 | d + 1, k => by
  unfold mL
  cases h : cvr (wdO n (prl n w (2 ^ n))) (List.range (prl n w (2 ^ n)).length) k w with
  | some r =>
   have h3 := (eV _ _ _ _ r h).2.2.1
   show r.length <= _
   omega
  | none =>
   have := GY n w d (k + 1)
   show (mL n w d (k + 1)).length <= _
   omega
theorem C2 (n w : Nat) : (C1 n w).length <= 8 := by
 unfold C1
 rw [akx]
 exact GY n w 9 0
theorem yc (n w : Nat) (hn : n <= 4) : Ts n (C1 n w) := by
 intro t ht
 unfold C1 at ht
 obtain ⟨i, hi, rfl⟩ := akq.1 ht
 have hlt := (zz n w 9 0).1 i hi
 rw [nE _ i hlt]
 exact uO n w hn _ (akn hlt)
theorem tD (N : Nat) (hN : 1048576 < N) (n : Nat) (hn : n <= 4) (o : List (Nat × Nat)) (ho : o.length <= 8) (hg : Ts n o) (K : ByteArray -> Option β) : yt N (n : Int) (tl o) K = K (B (Nh n o)) := by
 unfold yt PQ Nh
 rw [bE, show ((o.length : Int) == 0) = (o.length == 0) from cJ o.length 0]
 cases hc : (o.length == 0) with
 | true => rw [ajZ, ajZ, ci]; rfl
 | false =>
  rw [ajY, ajY, show aq [124] = B [124] from ci _, iD N hN n (by omega) o (by omega) (fun t ht => ⟨(hg t ht).2.1, (hg t ht).2.2, (pa hn (hg t ht)).2.1⟩) 124]
theorem DP (N : Nat) (hN : 1048576 < N) (a : List UInt8) (a1 a2 : Int) (h2 : a2 < 9223372036854775808) :
  ∃ (s : List UInt8) (b : Bool), (∀ K : ByteArray -> Bool -> Option β, yp N (B a) a1 a2 K = K (B s) b) /\ (∀ K : ByteArray -> Bool -> Option β, yx N (B a) a1 a2 K = K (B s) b) := by
 unfold yp Pv yx P1 gu Dk
 cases ht : isT a1 a2 with
 | false => exact ⟨[], false, fun K => by rw [bv, ht, d7]; rfl, fun K => by rw [bZ N _ _ h2, ht, d7]; rfl⟩
 | true =>
  simp only [bv, bZ N _ _ h2, ht, aj5, ajY, ajZ]
  obtain ⟨n, w, rfl, rfl, hn, hw, hw2⟩ := zv ht
  by_cases h4 : n <= 4
  ·simp only [aj2 (by omega : ¬ (n : Int) > 4), ajX (by omega : (n : Int) <= 4), aj5, ajY]
   cases (B a).toList == (aq [116, 97, 98, 108, 101]).toList with
   | true =>
    simp only [ajZ]
    exact ⟨_, true, fun K => nO N n w (by omega) hn hw _, fun K => fE N n w (by omega) hn hw _⟩
   | false =>
    simp only [ajY]
    cases (B a).toList == (aq [97, 110, 102]).toList with
    | true =>
     simp only [ajZ]
     exact ⟨_, true, fun K => iM N hN n w hn hw _, fun K => iB N hN n w hn hw _⟩
    | false =>
     simp only [ajY]
     cases (B a).toList == (aq [115, 117, 109]).toList with
     | true =>
      simp only [ajZ]
      obtain ⟨b, e⟩ := pF (β := β) N hN n w h4 hw
      refine ⟨Nh n (C1 n w), true, fun K => (e _).trans ?_, fun K => (tC N hN n w h4 hw _).trans ?_⟩
      ·exact qK N hN n h4 _ (C2 n w) (yc n w h4) _
      ·exact tD N hN n h4 _ (C2 n w) (yc n w h4) _
     | false =>
      simp only [ajY]
      cases (B a).toList == (aq [116, 114, 101, 101]).toList with
      | true =>
       simp only [ajZ]
       exact ⟨_, _, fun K => qJ N (by omega) _ _ _, fun K => qk N (by omega) _ _ h2 _⟩
      | false =>
       simp only [ajY]
       cases (B a).toList == (aq [102, 111, 114, 109, 117, 108, 97]).toList with
       | true =>
        simp only [ajZ]
        obtain ⟨e1, e2⟩ := wa (β := β) N hN n w hn hw
        cases hd : decide (n <= 3) with
        | true => exact ⟨_, true, fun K => by rw [e1, hd]; rfl, fun K => by rw [e2, hd]; rfl⟩
        | false => exact ⟨_, false, fun K => by rw [e1, hd]; rfl, fun K => by rw [e2, hd]; rfl⟩
       | false => exact ⟨[], false, fun K => by rw [d7]; rfl, fun K => by rw [d7]; rfl⟩
  ·simp only [ajX (by omega : (n : Int) > 4), aj2 (by omega : ¬ (n : Int) <= 4), akl, ajZ]
   exact ⟨[], false, fun K => by rw [d7], fun K => by rw [d7]⟩
theorem yz (N : Nat) (hN : 1048576 < N) (a c : List UInt8) (a1 : Int) (l : List UInt8) (hl : l.length <= 1048576) :
  ∃ (s : List UInt8) (b : Bool), (∀ K : ByteArray -> Bool -> Option β, yq N (B a) (B c) a1 (B l) K = K (B s) b) /\ (∀ K : ByteArray -> Bool -> Option β, yy N (B a) (B c) a1 (B l) K = K (B s) b) := by
 obtain ⟨n', w, b, hT, e1, e2⟩ := Iu (β := β) N hN a a1 l hl
 unfold yq Pw yy P2
 cases b with
 | false => exact ⟨[], false, fun K => by rw [e1, d7]; rfl, fun K => by rw [e2, d7]; rfl⟩
 | true =>
  obtain ⟨n, v, rfl, rfl, hn, hv⟩ := hT rfl
  have hs : 2 ^ n <= 32 := (aj7 (by decide) hn : 2 ^ n <= 2 ^ 5)
  have hv32 : v < 2 ^ 32 := aka hv (aj7 (by decide) hs)
  obtain ⟨s, b, f1, f2⟩ := DP (β := β) N hN c (n : Int) (v : Int) (by omega)
  exact ⟨s, b, fun K => by rw [e1, aj5, ajY, f1], fun K => by rw [e2, aj5, ajY, f2]⟩
theorem qn (N : Nat) (hN : 1048576 < N) (a : ByteArray) (a1 : Int) (s : ByteArray) (ha : (a.size : Int) <= 9223372036854775807) (h1 : -9223372036854775808 <= a1 /\ a1 <= 9223372036854775807) (hs : (s.size : Int) <= 9223372036854775807) (k : Bool -> Option β) :
  b9 N a a1 s k = k true := by
 unfold b9 bQ
 by_cases h : (a.size : Int) > 1048576
 ·rw [ajX h, ajZ]
 rw [aj2 h, ajY]
 by_cases h : (s.size : Int) > 1048576
 ·rw [ajX h, ajZ]
 rw [aj2 h, ajY, <- pW a, <- pW s]
 have hl : s.data.toList.length <= 1048576 := by
  have : s.size = s.data.toList.length := by rw [<- aE, pW]
  omega
 obtain ⟨t, b, e1, e2⟩ := yz (β := β) N hN a.data.toList a.data.toList a1 s.data.toList hl
 unfold DA Px DJ P3
 refine (e1 _).trans ?_
 cases b with
 | false =>
  refine (e2 _).trans ?_
  rfl
 | true =>
  refine (e2 _).trans ?_
  simp only [ajZ, beq_self_eq_true, aj5, ajY]
end Go.Proofs.YtemihnclhcobnaaGreatDoor
