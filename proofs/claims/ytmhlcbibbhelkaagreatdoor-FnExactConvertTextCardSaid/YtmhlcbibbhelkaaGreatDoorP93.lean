/- Plain laws of the texts. -/
import Derived.Test.YtmhlcbibbhelkaaGreatDoorP92
namespace Go.Proofs.YtmhlcbibbhelkaaGreatDoor
open Go.Rv
set_option linter.unusedSimpArgs false
set_option linter.unusedVariables false
variable {β : Type}
theorem g6 : ∀ x a b : Nat, (a - (a &&& b)).testBit x = (a.testBit x && !b.testBit x)
 | 0, a, b => by
  have h1 : (a &&& b) % 2 = 1 ↔ a % 2 = 1 ∧ b % 2 = 1 := Nat.and_mod_two_eq_one
  have h2 : a &&& b ≤ a := aiL
  rw [ajh, ajh, ajh]
  have e : (a - (a &&& b)) % 2 = 1 ↔ a % 2 = 1 ∧ ¬ b % 2 = 1 := by omega
  rw [aic]
  simp only [decide_eq_true_eq, agZ, ahl, decide_eq_false_iff_not]
  exact e
 | x + 1, a, b => by
  have h1 : (a &&& b) % 2 = 1 ↔ a % 2 = 1 ∧ b % 2 = 1 := Nat.and_mod_two_eq_one
  have h2 : (a &&& b) / 2 = a / 2 &&& b / 2 := Nat.and_div_two
  have h3 : a / 2 &&& b / 2 ≤ a / 2 := aiL
  rw [ajg, ajg, ajg, ← g6 x (a / 2) (b / 2)]
  congr 1
  omega
theorem lO {a : Nat} : a = 0 ↔ ∀ x, a.testBit x = false := ⟨fun h x => by rw [h, ahP], fun h => ahx fun x => by rw [h x, ahP]⟩
section
variable (wd : Nat → Nat) (T : Nat)
def cvr : List Nat → Nat → Nat → Option (List Nat)
 | [], _, left => cond (left == 0) (some []) none
 | t :: l, k, left => cond (left == 0) (some []) (match k with
  | 0 => none
  | k + 1 => cond (wd t &&& left == 0) (cvr l (k + 1) left) (match cvr l k (left - (left &&& wd t)) with
   | some r => some (t :: r)
   | none => cvr l (k + 1) left))
def chs : List Nat → Nat → Nat → Option (List Nat)
 | [], k, have_ => cond (k == 0) (cond (have_ == T) (some []) none) none
 | t :: l, k, have_ => match k with
  | 0 => cond (have_ == T) (some []) none
  | k + 1 => cond (decide (k + 1 ≤ l.length + 1)) (cond (wd t ^^^ (wd t &&& have_) == 0) (chs l (k + 1) have_) (match chs l k (have_ ||| wd t) with
   | some r => some (t :: r)
   | none => chs l (k + 1) have_)) none
def Cov (s : List Nat) (left : Nat) : Prop := ∀ x, left.testBit x = true → ∃ t ∈ s, (wd t).testBit x = true
theorem gO (l : List Nat) (k : Nat) : cvr wd l k 0 = some [] := by cases l <;> rfl
theorem A8 (l : List Nat) (left : Nat) (h : left ≠ 0) : cvr wd l 0 left = none := by
 have : (left == 0) = false := by simpa using h
 cases l <;> unfold cvr <;> rw [this] <;> rfl
theorem oX (t : Nat) (l : List Nat) (k left : Nat) (h : left ≠ 0) : cvr wd (t :: l) (k + 1) left = cond (wd t &&& left == 0) (cvr wd l (k + 1) left) (match cvr wd l k (left - (left &&& wd t)) with
      | some r => some (t :: r)
      | none => cvr wd l (k + 1) left) := by
  have : (left == 0) = false := by simpa using h
  rw [cvr, this, agX]
theorem Ft (k left : Nat) (h : left ≠ 0) : cvr wd [] k left = none := by
 have : (left == 0) = false := by simpa using h
 rw [cvr, this, agX]
theorem eW : ∀ (l : List Nat) (k left : Nat) (r : List Nat), cvr wd l k left = some r → (∀ t ∈ r, t ∈ l) ∧ r.length ≤ l.length ∧ r.length ≤ k ∧ Cov wd r left := by
 intro l
 induction l with
 | nil =>
  intro k left r h
  by_cases h0 : left = 0
  ·subst h0
   rw [gO, ag0] at h
   subst h
   exact ⟨fun t h => h, ag7 _, ahr _, fun x hx => by rw [ahP] at hx; cases hx⟩
  ·rw [Ft wd k left h0] at h; cases h
 | cons t l ih =>
  intro k left r h
  by_cases h0 : left = 0
  ·subst h0
   rw [gO, ag0] at h
   subst h
   exact ⟨(fun t h => by cases h), ahr _, ahr _, fun x hx => by rw [ahP] at hx; cases hx⟩
  ·cases k with
   | zero => rw [A8 wd _ _ h0] at h; cases h
   | succ k =>
    rw [oX wd t l k left h0] at h
    have skip : cvr wd l (k + 1) left = some r → (∀ x ∈ r, x ∈ t :: l) ∧ r.length ≤ (t :: l).length ∧ r.length ≤ k + 1 ∧ Cov wd r left := fun h => by
     obtain ⟨h1, h2, h3, h4⟩ := ih (k + 1) left r h
     exact ⟨fun x hx => ahd _ (h1 x hx), by rw [ag3]; omega, h3, h4⟩
    cases hc : (wd t &&& left == 0) with
    | true => rw [hc, agY] at h; exact skip h
    | false =>
     rw [hc, agX] at h
     cases hr : cvr wd l k (left - (left &&& wd t)) with
     | none => rw [hr] at h; exact skip h
     | some r' =>
      rw [hr, ag0] at h
      subst h
      obtain ⟨h1, h2, h3, h4⟩ := ih k _ r' hr
      refine ⟨fun x hx => ?_, by rw [ag3, ag3]; omega, by rw [ag3]; omega, fun x hx => ?_⟩
      ·rcases ahe.1 hx with rfl | hx
       ·exact ahn
       ·exact ahd _ (h1 x hx)
      ·cases hb : (wd t).testBit x with
       | true => exact ⟨t, ahn, hb⟩
       | false =>
        obtain ⟨u, hu, hux⟩ := h4 x (by rw [g6, hx, hb]; rfl)
        exact ⟨u, ahd _ hu, hux⟩
theorem sE : ∀ (l : List Nat) (k left : Nat) (s : List Nat), (∀ t ∈ s, t ∈ l) → s.length ≤ k → Cov wd s left → cvr wd l k left ≠ none := by
 intro l
 induction l with
 | nil =>
  intro k left s hs hk hc h
  by_cases h0 : left = 0
  ·subst h0; rw [gO] at h; cases h
  ·apply h0
   rw [lO]
   intro x
   cases hx : left.testBit x with
   | false => rfl
   | true =>
    obtain ⟨t, ht, _⟩ := hc x hx
    cases hs t ht
 | cons t l ih =>
  intro k left s hs hk hc h
  by_cases h0 : left = 0
  ·subst h0; rw [gO] at h; cases h
  ·have hne : s ≠ [] := by
    rintro rfl
    apply h0
    rw [lO]
    intro x
    cases hx : left.testBit x with
    | false => rfl
    | true =>
     obtain ⟨t, ht, _⟩ := hc x hx
     cases ht
   have hpos : 0 < s.length := List.length_pos_iff.2 hne
   obtain ⟨k, rfl⟩ : ∃ k', k = k' + 1 := ⟨k - 1, by omega⟩
   rw [oX wd t l k left h0] at h
   have memf : ∀ u ∈ s.filter (· != t), u ∈ l := fun u hu => by
    rw [ajm] at hu
    rcases ahe.1 (hs u hu.1) with rfl | h
    ·simp at hu
    ·exact h
   have skip : (∀ x, left.testBit x = true → (wd t).testBit x = false) ∨ t ∉ s → cvr wd l (k + 1) left = none → False := fun hh h => by
    rcases hh with hh | hh
    ·refine ih (k + 1) left (s.filter (· != t)) memf (ahy (List.length_filter_le _ _) hk) (fun x hx => ?_) h
     obtain ⟨u, hu, hux⟩ := hc x hx
     refine ⟨u, ajm.2 ⟨hu, ?_⟩, hux⟩
     have : u ≠ t := by rintro rfl; rw [hh x hx] at hux; cases hux
     simpa using this
    ·refine ih (k + 1) left s (fun u hu => ?_) hk hc h
     rcases ahe.1 (hs u hu) with rfl | h
     ·exact absurd hu hh
     ·exact h
   cases hb : (wd t &&& left == 0) with
   | true =>
    rw [hb, agY] at h
    refine skip (Or.inl fun x hx => ?_) h
    have h1 := (lO.1 (eq_of_beq hb)) x
    rw [ahW, hx, aix] at h1
    exact h1
   | false =>
    rw [hb, agX] at h
    cases hr : cvr wd l k (left - (left &&& wd t)) with
    | some r => rw [hr] at h; cases h
    | none =>
     rw [hr] at h
     by_cases hm : t ∈ s
     ·refine ih k _ (s.filter (· != t)) memf ?_ (fun x hx => ?_) hr
      ·have : (s.filter (· != t)).length < s.length := by
        rw [List.length_filter_lt_length_iff_exists]
        exact ⟨t, hm, by simp⟩
       omega
      ·rw [g6, agZ, ahl] at hx
       obtain ⟨u, hu, hux⟩ := hc x hx.1
       refine ⟨u, ajm.2 ⟨hu, ?_⟩, hux⟩
       have : u ≠ t := by rintro rfl; rw [hx.2] at hux; cases hux
       simpa using this
     ·exact skip (Or.inr hm) h
theorem QA : ∀ (l : List Nat) (k have_ left : Nat), (∀ t ∈ l, ∀ x, (wd t).testBit x = true → T.testBit x = true) → (∀ x, have_.testBit x = true → T.testBit x = true) → (∀ x, left.testBit x = (T.testBit x && !have_.testBit x)) →
  (∀ s : List Nat, (∀ t ∈ s, t ∈ l) → s.length < k → ¬ Cov wd s left) → chs wd T l k have_ = cvr wd l k left := by
 have hz : ∀ (have_ left : Nat), (∀ x, have_.testBit x = true → T.testBit x = true) → (∀ x, left.testBit x = (T.testBit x && !have_.testBit x)) → (have_ == T) = (left == 0) := fun have_ left h1 h2 => by
  have : have_ = T ↔ left = 0 := by
   rw [lO]
   constructor
   ·rintro rfl x
    rw [h2]; cases have_.testBit x <;> rfl
   ·intro h
    refine ahx fun x => ?_
    have h3 := h x
    rw [h2] at h3
    have h4 := h1 x
    revert h3 h4
    cases T.testBit x <;> cases have_.testBit x <;> simp
  by_cases h : have_ = T
  ·rw [show (have_ == T) = true by simp [h], show (left == 0) = true by simp [this.1 h]]
  ·rw [show (have_ == T) = false by simp [h], show (left == 0) = false by simpa using fun h' => h (this.2 h')]
 intro l
 induction l with
 | nil =>
  intro k have_ left _ h1 h2 hm
  unfold chs cvr
  rw [hz have_ left h1 h2]
  cases k with
  | zero => rfl
  | succ k =>
   have h0 : left ≠ 0 := fun h0 => hm [] (fun t h => h) (Nat.zero_lt_succ k) (fun x hx => by rw [h0, ahP] at hx; cases hx)
   rw [show (left == 0) = false by simpa using h0]
   rfl
 | cons t l ih =>
  intro k have_ left hw h1 h2 hm
  cases k with
  | zero =>
   unfold chs cvr
   rw [hz have_ left h1 h2]
  | succ k =>
   have h0 : left ≠ 0 := fun h0 => hm [] (fun t h => by cases h) (Nat.zero_lt_succ k) (fun x hx => by rw [h0, ahP] at hx; cases hx)
   have hlow : ¬ (k + 1 ≤ l.length + 1) → cvr wd (t :: l) (k + 1) left = none := fun hlt => by
    cases hr : cvr wd (t :: l) (k + 1) left with
    | none => rfl
    | some r =>
     obtain ⟨a1, a2, a3, a4⟩ := eW wd _ _ _ r hr
     rw [ag3] at a2
     exact absurd a4 (hm r a1 (by omega))
   unfold chs
   dsimp only
   by_cases hlt : k + 1 ≤ l.length + 1
   ·rw [agW hlt, agY, oX wd t l k left h0]
    have hc : (wd t ^^^ (wd t &&& have_) == 0) = (wd t &&& left == 0) := by
     have : wd t ^^^ (wd t &&& have_) = wd t &&& left := by
      refine ahx fun x => ?_
      have h3 := hw t ahn x
      rw [aiM, ahW, ahW, h2]
      revert h3
      cases (wd t).testBit x <;> cases T.testBit x <;> cases have_.testBit x <;> simp
     rw [this]
    rw [hc]
    have i1 : chs wd T l (k + 1) have_ = cvr wd l (k + 1) left := ih (k + 1) have_ left (fun u hu => hw u (ahd _ hu)) h1 h2 (fun s hs hl => hm s (fun u hu => ahd _ (hs u hu)) hl)
    have i2 : chs wd T l k (have_ ||| wd t) = cvr wd l k (left - (left &&& wd t)) := ih k _ _ (fun u hu => hw u (ahd _ hu)) (fun x hx => by
      rw [aii, ahH] at hx
      exact hx.elim (h1 x) (hw t ahn x)) (fun x => by
      rw [g6, h2, aii]
      cases T.testBit x <;> cases have_.testBit x <;> cases (wd t).testBit x <;> rfl) (fun s hs hl hcv => by
      refine hm (t :: s) (fun u hu => ?_) (by rw [ag3]; omega) (fun x hx => ?_)
      ·rcases ahe.1 hu with rfl | hu
       ·exact ahn
       ·exact ahd _ (hs u hu)
      ·cases hb : (wd t).testBit x with
       | true => exact ⟨t, ahn, hb⟩
       | false =>
        obtain ⟨u, hu, hux⟩ := hcv x (by rw [g6, hx, hb]; rfl)
        exact ⟨u, ahd _ hu, hux⟩)
    rw [i1, i2]
   ·rw [ag1 hlt, agX, hlow hlt]
theorem Dp (l : List Nat) (hw : ∀ t ∈ l, ∀ x, (wd t).testBit x = true → T.testBit x = true) (k : Nat) (h : ∀ j, j < k → cvr wd l j T = none) : chs wd T l k 0 = cvr wd l k T :=
 QA wd T l k 0 T hw (fun x hx => by rw [ahP] at hx; cases hx) (fun x => by rw [ahP, ahk, aix]) (fun s hs hl hc => sE wd l s.length T s hs (ag7 _) hc (h s.length hl))
theorem wJ (P : Nat → Nat → Prop) (l : List Nat) : ∀ J : Nat, ∃ s : List Nat, (∀ t ∈ s, t ∈ l) ∧ s.length ≤ J ∧ ∀ j, j < J → (∃ t ∈ l, P j t) → ∃ t ∈ s, P j t
 | 0 => ⟨[], (fun t h => by cases h), ag7 _, fun j h => absurd h (ahV _)⟩
 | J + 1 => by
  obtain ⟨s, h1, h2, h3⟩ := wJ P l J
  by_cases hj : ∃ t ∈ l, P J t
  ·obtain ⟨t, ht, hp⟩ := hj
   refine ⟨t :: s, fun u hu => ?_, by rw [ag3]; omega, fun j hj he => ?_⟩
   ·rcases ahe.1 hu with rfl | hu
    ·exact ht
    ·exact h1 u hu
   ·rcases ahf j J with h | h
    ·obtain ⟨u, hu, hpu⟩ := h3 j h he
     exact ⟨u, ahd _ hu, hpu⟩
    ·have : j = J := by omega
     subst this
     exact ⟨t, ahn, hp⟩
  ·refine ⟨s, h1, by omega, fun j hj' he => ?_⟩
   rcases ahf j J with h | h
   ·exact h3 j h he
   ·have : j = J := by omega
    subst this
    exact absurd he hj
end
def wdO (n : Nat) (o : List (Nat × Nat)) (i : Nat) : Nat := aQ (fun x => x &&& (o.getD i (0, 0)).1 == (o.getD i (0, 0)).2) (2 ^ n)
theorem Gn (n : Nat) (o : List (Nat × Nat)) (i x : Nat) : (wdO n o i).testBit x = (decide (x < 2 ^ n) && (x &&& (o.getD i (0, 0)).1 == (o.getD i (0, 0)).2)) := br _ _ _
theorem mO (o : List (Nat × Nat)) (i : Nat) (h : i < o.length) : o.getD i (0, 0) = o[i] := by simp [List.getD, h]
theorem pr1 : ∀ n : Nat, n ≤ 4 → ∀ x : Nat, x < 2 ^ n → (x &&& (2 ^ n - 1) == x) = true ∧ ∀ z : Nat, z < 2 ^ n → (z &&& (2 ^ n - 1) == x) = (z == x) := by decide +kernel
theorem pr2 : ∀ n : Nat, n ≤ 4 → ∀ x : Nat, x < 2 ^ n → x ^^^ 1 < 2 ^ n → ((x &&& (2 ^ n - 2)) &&& (2 ^ n - 2) == (x &&& (2 ^ n - 2))) = true ∧ ∀ z : Nat, z < 2 ^ n → (z &&& (2 ^ n - 2) == (x &&& (2 ^ n - 2))) = (z == x || z == x ^^^ 1) := by decide +kernel
theorem pr3 : ∀ x : Nat, x < 16 → ∀ z : Nat, z < 16 → (z / 2 == x / 2) = (z == x || z == x ^^^ 1) := by decide +kernel
theorem fb {n w x : Nat} (hw : w < 2 ^ 2 ^ n) (h : w.testBit x = true) : x < 2 ^ n := by
 rcases ahf x (2 ^ n) with h1 | h1
 ·exact h1
 ·have : w < 2 ^ x := ag9 hw (ag6 (by decide) h1)
  rw [aiT this] at h
  cases h
theorem L3 {n w m v : Nat} (hv : v < 2 ^ n) (hm : (v &&& m == v) = true) (h : ∀ z, z < 2 ^ n → (z &&& m == v) = true → w.testBit z = true) : imp n w m v = true := by
 unfold imp
 rw [agZ, ahl]
 constructor
 ·cases ha : cA (fun x => (x &&& m == v) && !w.testBit x) (2 ^ n) with
  | false => rfl
  | true =>
   obtain ⟨z, hz, hb⟩ := dl.1 ha
   rw [agZ, ahl] at hb
   rw [h z hz hb.1] at hb
   cases hb.2
 ·exact dl.2 ⟨v, hv, by rw [hm, h v hv hm]; rfl⟩
theorem H4 (n w : Nat) (hn : n ≤ 4) (hw : w < 2 ^ 2 ^ n) (x : Nat) (hx : w.testBit x = true) : ∃ i ∈ List.range (prl n w (2 ^ n)).length, ∀ z, z / 2 = x / 2 → w.testBit z = true → (wdO n (prl n w (2 ^ n)) i).testBit z = true := by
 have hs : 2 ^ n ≤ 16 := (ag6 (by decide) hn : 2 ^ n ≤ 2 ^ 4)
 have hx2 := fb hw hx
 have key : ∀ m v : Nat, m < 2 ^ n → v < 2 ^ n → (v &&& m == v) = true → (∀ z, z < 2 ^ n → (z &&& m == v) = true → w.testBit z = true) → (∀ z, z / 2 = x / 2 → w.testBit z = true → (z &&& m == v) = true) → ∃ i ∈ List.range (prl n w (2 ^ n)).length, ∀ z, z / 2 = x / 2 → w.testBit z = true → (wdO n (prl n w (2 ^ n)) i).testBit z = true := by
  intro m v hm hv hmv h1 h2
  obtain ⟨m', v', g1, g2, g3, g4⟩ := VE n w hn _ m v (Nat.lt_succ_self m) hm hmv (L3 hv hmv h1)
  have hle : v' ≤ m' := by rw [← eq_of_beq g2]; exact aiF
  have hmem : (m', v') ∈ prl n w (2 ^ n) := (sb n w _ _).2 ⟨m', g1, v', by omega, g2, g3, rfl⟩
  obtain ⟨i, hi, he⟩ := List.getElem_of_mem hmem
  refine ⟨i, ahT.2 hi, fun z hz hb => ?_⟩
  have hz2 := fb hw hb
  rw [Gn, mO _ i hi, he, agW hz2, ag8]
  dsimp only
  rw [g4 z (by omega) (eq_of_beq (h2 z hz hb)), beq_self_eq_true]
 cases hy : w.testBit (x ^^^ 1) with
 | true =>
  have hy2 := fb hw hy
  obtain ⟨p1, p2⟩ := pr2 n hn x hx2 hy2
  have hle : x &&& (2 ^ n - 2) ≤ x := aiL
  have hpos : 0 < 2 ^ n := ahJ n
  refine key (2 ^ n - 2) (x &&& (2 ^ n - 2)) (by omega) (by omega) p1 (fun z hz h => ?_) (fun z hz hb => ?_)
  ·rw [p2 z hz, ahH, beq_iff_eq, beq_iff_eq] at h
   rcases h with rfl | rfl
   ·exact hx
   ·exact hy
  ·have hz2 := fb hw hb
   rw [p2 z hz2, ← pr3 x (by omega) z (by omega)]
   exact beq_iff_eq.2 hz
 | false =>
  obtain ⟨p1, p2⟩ := pr1 n hn x hx2
  have hpos : 0 < 2 ^ n := ahJ n
  refine key (2 ^ n - 1) x (by omega) hx2 p1 (fun z hz h => ?_) (fun z hz hb => ?_)
  ·rw [p2 z hz, beq_iff_eq] at h
   rw [h]; exact hx
  ·have hz2 := fb hw hb
   rw [p2 z hz2]
   have h3 := pr3 x (by omega) z (by omega)
   rw [beq_iff_eq.2 hz] at h3
   have h4 := h3.symm
   rw [ahH, beq_iff_eq, beq_iff_eq] at h4
   rcases h4 with rfl | rfl
   ·exact beq_iff_eq.2 rfl
   ·rw [hy] at hb; cases hb
theorem abM (n w : Nat) (hn : n ≤ 4) (hw : w < 2 ^ 2 ^ n) : cvr (wdO n (prl n w (2 ^ n))) (List.range (prl n w (2 ^ n)).length) 8 w ≠ none := by
 have hs : 2 ^ n ≤ 16 := (ag6 (by decide) hn : 2 ^ n ≤ 2 ^ 4)
 obtain ⟨s, h1, h2, h3⟩ := wJ (fun j i => ∀ z, z / 2 = j → w.testBit z = true → (wdO n (prl n w (2 ^ n)) i).testBit z = true) (List.range (prl n w (2 ^ n)).length) 8
 refine sE _ _ 8 w s h1 h2 fun x hx => ?_
 have hx2 := fb hw hx
 obtain ⟨i, hi, hp⟩ := h3 (x / 2) (by omega) (H4 n w hn hw x hx)
 exact ⟨i, hi, hp x rfl hx⟩
theorem MC (n w : Nat) : ∀ i ∈ List.range (prl n w (2 ^ n)).length, ∀ x, (wdO n (prl n w (2 ^ n)) i).testBit x = true → w.testBit x = true := by
 intro i hi x hx
 have hi2 := ahT.1 hi
 rw [Gn, mO _ i hi2, agZ, decide_eq_true_eq] at hx
 obtain ⟨m, h1, v, h2, h3, h4, h5⟩ := (sb n w _ _).1 (ahm hi2)
 rw [h5] at hx
 unfold prm imp at h4
 rw [agZ, agZ, ahl] at h4
 have h6 := h4.1.1
 cases hb : w.testBit x with
 | true => rfl
 | false =>
  have : cA (fun x => (x &&& m == v) && !w.testBit x) (2 ^ n) = true := dl.2 ⟨x, hx.1, by rw [hb]; dsimp only at hx; rw [hx.2]; rfl⟩
  rw [this] at h6
  cases h6
def lT (n w : Nat) : Nat → Nat → List Nat
 | 0, _ => []
 | d + 1, k => match cvr (wdO n (prl n w (2 ^ n))) (List.range (prl n w (2 ^ n)).length) k w with
  | some r => r
  | none => lT n w d (k + 1)
theorem yE (n w : Nat) : ∀ d k, (∀ i ∈ lT n w d k, i < (prl n w (2 ^ n)).length) ∧ (lT n w d k).length ≤ k + d
 | 0, k => ⟨(fun i h => by cases h), ahr _⟩
 | d + 1, k => by
  unfold lT
  cases h : cvr (wdO n (prl n w (2 ^ n))) (List.range (prl n w (2 ^ n)).length) k w with
  | some r =>
   obtain ⟨h1, h2, h3, h4⟩ := eW _ _ _ _ r h
   exact ⟨fun i hi => ahT.1 (h1 i hi), by dsimp only; omega⟩
  | none =>
   obtain ⟨h1, h2⟩ := yE n w d (k + 1)
   exact ⟨h1, by dsimp only; omega⟩
def Cm (n w : Nat) : List (Nat × Nat) := (lT n w 9 0).map fun i => (prl n w (2 ^ n)).getD i (0, 0)
theorem Oe (n w m v : Nat) (hv : v < 2 ^ n) (hm : (v &&& m == v) = true) : (aQ (fun x => x &&& m == v) (2 ^ n) &&& w == aQ (fun x => x &&& m == v) (2 ^ n)) = imp n w m v := by
 cases hi : imp n w m v with
 | true =>
  rw [beq_iff_eq]
  refine ahx fun x => ?_
  rw [ahW, br]
  cases hx : (decide (x < 2 ^ n) && (x &&& m == v)) with
  | false => rw [ahu]
  | true =>
   rw [ag8]
   rw [agZ, decide_eq_true_eq] at hx
   unfold imp at hi
   rw [agZ, ahl] at hi
   cases hb : w.testBit x with
   | true => rfl
   | false =>
    have : cA (fun x => (x &&& m == v) && !w.testBit x) (2 ^ n) = true := dl.2 ⟨x, hx.1, by rw [hb, hx.2]; rfl⟩
    rw [this] at hi
    cases hi.1
 | false =>
  rw [beq_eq_false_iff_ne]
  intro e
  have : imp n w m v = true := L3 hv hm fun z hz hc => by
   have h : (aQ (fun x => x &&& m == v) (2 ^ n) &&& w).testBit z = (aQ (fun x => x &&& m == v) (2 ^ n)).testBit z := by rw [e]
   rw [ahW, br, agW hz, ag8, hc, ag8] at h
   exact h
  rw [this] at hi
  cases hi
theorem w63 {n w : Nat} (hn : n ≤ 4) (hw : w < 2 ^ 2 ^ n) : w < 65536 := by have := Cp n hn; omega
theorem jX (N : Nat) (hN : 1048576 < N) (n w m v : Nat) (hn : n ≤ 4) (hw : w < 2 ^ 2 ^ n) (hm : m < 32) (hv : v < 2 ^ n) (hmv : (v &&& m == v) = true) (K : Bool → Option β) : rB N (n : Int) (w : Int) (m : Int) (v : Int) K = K (imp n w m v) := by
 have h1 := bT (fun x => x &&& m == v) (2 ^ n)
 have h2 := Cp n hn
 have h3 := w63 hn hw
 unfold rB Ok
 rw [gH N hN n m v (by omega) hm, bAnd _ _ (by omega) (by omega), cJ, Oe n w m v hv hmv]
theorem FN : ∀ m : Nat, m < 32 → ∀ i : Nat, i < 5 → (m.testBit i = true → off m i = m - 2 ^ i ∧ 2 ^ i ≤ m) ∧ off m i = m - (m &&& 2 ^ i) ∧ (((m &&& 2 ^ i : Nat) : Int) != 0) = m.testBit i ∧ off m i ≤ m := by decide +kernel
theorem Ab (N : Nat) (hN : 1048576 < N) (n w m v : Nat) (hn : n ≤ 4) (hw : w < 2 ^ 2 ^ n) (hm : m < 2 ^ n) (hv : v ≤ m) (hmv : (v &&& m == v) = true) (K : Bool → Option β) : rC N (n : Int) (w : Int) (m : Int) (v : Int) K = K (prm n w m v) := by
 have hs : 2 ^ n ≤ 16 := (ag6 (by decide) hn : 2 ^ n ≤ 2 ^ 4)
 unfold rC Ol prm
 rw [jX N hN n w m v hn hw (by omega) (by omega) hmv]
 cases imp n w m v with
 | false => rfl
 | true =>
  rw [ag5, agX, ag8]
  have key : ∀ (d i F : Nat), n - i = d → i ≤ n → d < F → cA (fun i => m.testBit i && imp n w (off m i) (off v i)) i = false → mc N F (i : Int) (n : Int) (w : Int) (m : Int) (v : Int) (fun e => K e) (K true) = K (!cA (fun i => m.testBit i && imp n w (off m i) (off v i)) n) := by
   intro d
   induction d with
   | zero =>
    intro i F hd hi hF ha
    obtain ⟨G, rfl⟩ : ∃ G, F = G + 1 := ⟨F - 1, by omega⟩
    simp only [mc, Pg, Gr]
    rw [ag1 (by omega), agX]
    have e : i = n := by omega
    subst e
    rw [ha]
    rfl
   | succ d ih =>
    intro i F hd hi hF ha
    obtain ⟨G, rfl⟩ : ∃ G, F = G + 1 := ⟨F - 1, by omega⟩
    obtain ⟨c1, c2, c3, c4⟩ := FN m (by omega) i (by omega)
    obtain ⟨d1, d2, d3, d4⟩ := FN v (by omega) i (by omega)
    have hb : 2 ^ i ≤ 16 := (ag6 (by decide) (by omega : i ≤ 4) : 2 ^ i ≤ 2 ^ 4)
    have hand : bits .and .i64 (m : Int) (aW .i64 1 (i : Int)) = ((m &&& 2 ^ i : Nat) : Int) := by rw [aM i (by omega), bAnd _ _ (by omega) (by omega)]
    have hv2 : bits .and .i64 (v : Int) (aW .i64 1 (i : Int)) = ((v &&& 2 ^ i : Nat) : Int) := by rw [aM i (by omega), bAnd _ _ (by omega) (by omega)]
    have hle : v &&& 2 ^ i ≤ v := aiL
    have next := ih (i + 1) G (by omega) (by omega) (by omega)
    simp only [mc, Pg, Gr]
    rw [agW (by omega : (i : Int) < (n : Int)), agY, ab (agW (by omega)), hand, c3, aw i (by omega)]
    cases hb : m.testBit i with
    | false => exact next (by rw [cA, ha, hb]; rfl)
    | true =>
     obtain ⟨c5, c6⟩ := c1 hb
     have hz : (0 : Int) ≤ ((2 ^ i : Nat) : Int) := ahi _
     have e3 : w64 ((m : Int) - aW .i64 1 (i : Int)) = (off m i : Int) := by rw [c5, aM i (by omega), show (m : Int) - ((2 ^ i : Nat) : Int) = ((m - 2 ^ i : Nat) : Int) from (Int.ofNat_sub c6).symm, bp (by omega) (by omega)]
     have e4 : w64 ((v : Int) - ((v &&& 2 ^ i : Nat) : Int)) = (off v i : Int) := by rw [d2, show (v : Int) - ((v &&& 2 ^ i : Nat) : Int) = ((v - (v &&& 2 ^ i) : Nat) : Int) from (Int.ofNat_sub hle).symm, bp (by omega) (by omega)]
     have h4 := My i (by omega) m (by omega) v (by omega)
     rw [hmv, ag5, ah6] at h4
     rw [agY, e3, hv2, e4, jX N hN n w _ _ hn hw (by omega) (by omega) h4]
     cases hp : imp n w (off m i) (off v i) with
     | false => exact next (by rw [cA, ha, hb, hp]; rfl)
     | true =>
      have : cA (fun i => m.testBit i && imp n w (off m i) (off v i)) n = true := dl.2 ⟨i, by omega, by rw [hb, hp]; rfl⟩
      rw [this]
      rfl
  exact key n 0 N (by omega) (by omega) (by omega) rfl
theorem vp (N : Nat) (hN : 1048576 < N) (n w : Nat) (hn : n ≤ 4) (hw : w < 2 ^ 2 ^ n) (K : List (Int × Int) → Option β) : uH N (n : Int) (w : Int) K = K (tl (prl n w (2 ^ n))) := by
 have hs : 2 ^ n ≤ 16 := (ag6 (by decide) hn : 2 ^ n ≤ 2 ^ 4)
 have hz0 : (0 : Int) ≤ ((2 ^ n : Nat) : Int) := ahi _
 unfold uH Om
 refine a6 (fun F m => ii N F (m : Int) (n : Int) (w : Int) (tl (prl n w m)) fun e => K e) (2 ^ n) _ (fun F m hm => ?_) (fun F => ?_) N 0 (by omega) (by omega)
 ·simp only [ii, Pi, Gt]
  rw [ab (agW (by omega)), aM n (by omega), agW (by omega : (m : Int) < ((2 ^ n : Nat) : Int)), agY]
  have hl1 := pD n w m (by omega)
  refine (a6 (fun H v => kk N H (m : Int) (v : Int) (n : Int) (w : Int) (tl (prl n w m ++ prr n w m v)) fun e0 e1 e2 e3 => ii N F (w64 (e0 + 1)) e1 e2 e3 fun e => K e) (m + 1) (ii N F ((m + 1 : Nat) : Int) (n : Int) (w : Int) (tl (prl n w (m + 1))) fun e => K e) (fun H v hv => ?_) (fun H => ?_) N 0 (by omega) (by omega) |> fun h => aig (by rw [show prr n w m 0 = [] from rfl, ahg]; rfl) h)
  ·have hl2 := sd n w m v
   simp only [kk, Ph, Gs]
   rw [agW (by omega : (v : Int) ≤ (m : Int)), agY, Dd v (by omega) m (by omega), aw v (by omega)]
   cases hc : (v &&& m == v) with
   | false => rw [agX, prr, hc, ahu, agX, ahg]
   | true =>
    rw [agY, Ab N hN n w m v hn hw hm (by omega) hc]
    cases hp : prm n w m v with
    | false => rw [agX, prr, hc, hp, aiB, agX, ahg]
    | true =>
     rw [agY, ab (agW (by rw [bE, ag4]; simp; omega)), prr, hc, hp, aim, agY, ahG, show tl (prl n w m ++ prr n w m v) ++ [((m : Int), (v : Int))] = tl ((prl n w m ++ prr n w m v) ++ [(m, v)]) from (jj _ (m, v)).symm, ahs]
  ·simp only [kk, Ph, Gs]
   rw [ag1 (by omega), agX, aw m (by omega)]
   rfl
 ·simp only [ii, Pi, Gt]
  rw [ab (agW (by omega)), aM n (by omega), ag1 (by omega : ¬ ((2 ^ n : Nat) : Int) < ((2 ^ n : Nat) : Int)), agX]
def atO (o : List (Nat × Nat)) (r : List Nat) : List (Nat × Nat) := r.map fun i => o.getD i (0, 0)
theorem z8 (N : Nat) (hN : 1048576 < N) (n w : Nat) (hn : n ≤ 4) (o : List (Nat × Nat)) (ho : Ts n o) (hol : o.length ≤ 1000) : ∀ (k F i left : Nat), k ≤ 100 → k < F → i ≤ o.length → left < 2 ^ 63 →
  ∀ K : List (Int × Int) → Bool → Option β, eD N F (n : Int) (w : Int) (tl o) (i : Int) (left : Int) (k : Int) K = match cvr (wdO n o) (List.range' i (o.length - i)) k left with
   | some r => K (tl (atO o r)) true
   | none => K [] false := by
 intro k
 induction k with
 | zero =>
  intro F i left hk100 hF hi hleft K
  obtain ⟨G, rfl⟩ : ∃ G, F = G + 1 := ⟨F - 1, by omega⟩
  by_cases hl : left = 0
  ·subst hl
   rw [gO]
   simp only [eD, CS, xk]
   rfl
  ·rw [A8 _ _ _ hl]
   simp only [eD, CS, xk]
   rw [show ((left : Int) == 0) = false by rw [beq_eq_false_iff_ne]; omega]
   rfl
 | succ k ih =>
  intro F i left hk100 hF hi hleft K
  obtain ⟨G, rfl⟩ : ∃ G, F = G + 1 := ⟨F - 1, by omega⟩
  by_cases hl : left = 0
  ·subst hl
   rw [gO]
   simp only [eD, CS, xk]
   rfl
  ·have hlf : ((left : Int) == 0) = false := by rw [beq_eq_false_iff_ne]; omega
   have hk : (((k + 1 : Nat) : Int) == 0) = false := beq_eq_false_iff_ne.2 (by omega)
   have loop : ∀ (d H j : Nat), j + d = o.length → d < H → ∀ K : List (Int × Int) → Bool → Option β,
     me N (eD N G) H (tl o) (left : Int) ((k + 1 : Nat) : Int) (j : Int) (n : Int) (w : Int) (fun e0 e1 => K e1 e0) (K [] false) = match cvr (wdO n o) (List.range' j d) (k + 1) left with
      | some r => K (tl (atO o r)) true
      | none => K [] false := by
    intro d
    induction d with
    | zero =>
     intro H j hd hH K
     obtain ⟨H, rfl⟩ : ∃ G, H = G + 1 := ⟨H - 1, by omega⟩
     rw [show List.range' j 0 = [] from rfl, Ft _ _ _ hl]
     simp only [me, Pj, Gu, bE]
     rw [ag1 (by omega), agX]
    | succ d ihd =>
     intro H j hd hH K
     obtain ⟨H, rfl⟩ : ∃ G, H = G + 1 := ⟨H - 1, by omega⟩
     have hj : j < o.length := by omega
     obtain ⟨g1, g2, g3⟩ := ho o[j] (ahm hj)
     have hwb : wdO n o j < 2 ^ 63 := by have h1 := bT (fun x => x &&& (o.getD j (0, 0)).1 == (o.getD j (0, 0)).2) (2 ^ n); have h2 := Cp n hn; unfold wdO; omega
     have e1 : ∀ K : Int → Option β, oN N (n : Int) (o[j].1 : Int) (o[j].2 : Int) K = K (wdO n o j : Int) := fun K => by
      unfold wdO
      rw [mO o j hj]
      exact gH (β := β) N hN n o[j].1 o[j].2 (by omega) g2 K
     generalize hW : wdO n o j = W at hwb e1
     have e0 := ihd H (j + 1) (by omega) (by omega) K
     have hle : left &&& W ≤ left := aiL
     have ha : bits .and .i64 (W : Int) (left : Int) = ((W &&& left : Nat) : Int) := bAnd _ _ hwb hleft
     have hb : bits .and .i64 (left : Int) (W : Int) = ((left &&& W : Nat) : Int) := bAnd _ _ hleft hwb
     have hsub : w64 ((left : Int) - ((left &&& W : Nat) : Int)) = ((left - (left &&& W) : Nat) : Int) := by
      rw [show (left : Int) - ((left &&& W : Nat) : Int) = ((left - (left &&& W) : Nat) : Int) by omega, bp (by omega) (by omega)]
     have hk1 : w64 (((k + 1 : Nat) : Int) - 1) = (k : Int) := by rw [show ((k + 1 : Nat) : Int) - 1 = (k : Int) by omega]; exact bp (by omega) (by omega)
     have e2 := ih G (j + 1) (left - (left &&& W)) (by omega) (by omega) (by omega) (by omega)
     rw [show o.length - (j + 1) = d by omega] at e2
     rw [List.range'_succ, oX _ _ _ _ _ hl, hW]
     simp only [me, Pj, Gu, bE, pE o j hj]
     rw [agW (by omega : (j : Int) < (o.length : Int)), agY, ab (agW (by omega)), ab rfl, e1, ha, hb, hsub, hk1, aw j (by omega), e2, e0, show (((W &&& left : Nat) : Int) == 0) = (W &&& left == 0) from cJ _ 0]
     cases h1 : (W &&& left == 0) with
     | true => rw [agY, agY]
     | false =>
      rw [agX, agX]
      cases h2 : cvr (wdO n o) (List.range' (j + 1) d) k (left - (left &&& W)) with
      | none => dsimp only; rw [agX]
      | some r1 =>
       have hr := (eW _ _ _ _ r1 h2).2.2.1
       dsimp only
       rw [agY, ab (agW (by omega)), ab rfl, ab (agW (by rw [bE]; unfold atO; simp; omega))]
       have ea : atO o (j :: r1) = o[j] :: atO o r1 := by unfold atO; rw [ahC, mO o j hj]
       show _ = K (tl (atO o (j :: r1))) true
       rw [ea]
       rfl
   simp only [eD, CS, xk]
   rw [hlf, hk, agX, agX]
   exact loop (o.length - i) N i (by omega) (by omega) K
theorem pN (N : Nat) (hN : 1048576 < N) (n w : Nat) (hn : n ≤ 4) (hw : w < 2 ^ 2 ^ n) : ∃ b : Bool, ∀ K : List (Int × Int) → Bool → Option β, xn N (n : Int) (w : Int) K = K (tl (Cm n w)) b := by
 have hs : 2 ^ n ≤ 16 := (ag6 (by decide) hn : 2 ^ n ≤ 2 ^ 4)
 have hl := pD n w (2 ^ n) hs
 have hw6 := w63 hn hw
 unfold xn On
 have loop : ∀ (d F k : Nat), k + d = 9 → d < F → ∃ b : Bool, ∀ K : List (Int × Int) → Bool → Option β, kl N F (k : Int) (n : Int) (w : Int) (tl (prl n w (2 ^ n))) (fun e0 e1 => K e1 e0) (K [] false) = K (tl (atO (prl n w (2 ^ n)) (lT n w d k))) b := by
  intro d
  induction d with
  | zero =>
   intro F k hd hF
   obtain ⟨G, rfl⟩ : ∃ G, F = G + 1 := ⟨F - 1, by omega⟩
   refine ⟨false, fun K => ?_⟩
   simp only [kl, G8, CC]
   rw [ag1 (by omega), agX]
   rfl
  | succ d ih =>
   intro F k hd hF
   obtain ⟨G, rfl⟩ : ∃ G, F = G + 1 := ⟨F - 1, by omega⟩
   have e2 := fun K => z8 (β := β) N hN n w hn (prl n w (2 ^ n)) (tY n w hn) (by omega) k N 0 w (by omega) (by omega) (by omega) (by omega) K
   rw [ajk, ← List.range_eq_range'] at e2
   obtain ⟨b, e3⟩ := ih G (k + 1) (by omega) (by omega)
   cases hc : cvr (wdO n (prl n w (2 ^ n))) (List.range (prl n w (2 ^ n)).length) k w with
   | some r =>
    refine ⟨true, fun K => ?_⟩
    simp only [kl, G8, CC]
    rw [agW (by omega : (k : Int) ≤ 8), agY]
    refine (e2 _).trans ?_
    rw [hc, lT, hc]
    rfl
   | none =>
    refine ⟨b, fun K => ?_⟩
    simp only [kl, G8, CC]
    rw [agW (by omega : (k : Int) ≤ 8), agY]
    refine (e2 _).trans ?_
    rw [hc, lT, hc]
    dsimp only
    rw [agX, aw k (by omega), e3]
 obtain ⟨b, e⟩ := loop 9 N 0 rfl (by omega)
 refine ⟨b, fun K => ?_⟩
 rw [bv, Bq (by omega) hw, ag5, agX, ag1 (by omega), agX, vp N hN n w hn hw]
 exact e K
set_option linter.unusedSectionVars false
section
variable (N : Nat) (hN : 1048576 < N) {n : Nat} (hn : n ≤ 3) {T : List Int} (hT : u6 n T) {w : Nat} (hw : w < 2 ^ 2 ^ n) (g : Nat → List UInt8) (hg : ∀ x, (g x).length ≤ 1000)
include hN hn hT hw hg
theorem q6 (o : Bool) (self : Int → Int → List Int → (ByteArray → Option β) → Option β) (hs : ∀ x, x < 2 ^ 2 ^ n → 1 ≤ gt T x → gt T x < gt T w → ∀ K, self (n : Int) (x : Int) T K = K (B (g x))) (x2 x3 : Int) (x9 : List Int) (k0 : ByteArray → Option β) (k1 : List Int → Int → Int → Int → Int → List Int → Option β) :
  ∀ (d F i : Nat), i + d = 2 ^ 2 ^ n → d < F → iv N self F T (cond o 38 124) x2 x3 T (T.length : Int) (i : Int) (n : Int) (w : Int) x9 k0 k1 =
   match bH T o w (2 ^ 2 ^ n) d i with
   | some (a, b) => k0 (B (cond o 38 124 :: g a ++ g b))
   | none => k1 T x2 x3 (n : Int) (w : Int) x9
 | d, 0, _, _, h => absurd h (ahV _)
 | 0, F + 1, i, hi, _ => by
  have hL := hT.len
  obtain rfl : i = 2 ^ 2 ^ n := by omega
  show C3 N self T (cond o 38 124) x2 x3 T (T.length : Int) _ (n : Int) (w : Int) x9 _ k0 k1 = _
  unfold C3 G5
  rw [ag1 (by omega)]
  rfl
 | d + 1, F + 1, i, hi, hF => by
  have hL := hT.len
  have hlw := hT.le w
  have hL2 : 2 ^ 2 ^ n ≤ 256 := by
   obtain rfl | rfl | rfl | rfl : n = 0 ∨ n = 1 ∨ n = 2 ∨ n = 3 := by omega
   all_goals decide
  have ih := q6 o self hs x2 x3 x9 k0 k1 d F (i + 1) (by omega) (by omega)
  show C3 N self T (cond o 38 124) x2 x3 T (T.length : Int) (i : Int) (n : Int) (w : Int) x9 _ k0 k1 = _
  unfold C3 G5
  rw [agW (by omega : (i : Int) < (T.length : Int)), agY, ab (agW (by omega)), ab rfl, ab (agW (by omega)), ab (agW (by omega)), jU, jU, aw i (by omega)]
  have hp : bH T o w (2 ^ 2 ^ n) (d + 1) i = cond (decide (1 ≤ gt T i) && decide (gt T i < gt T w)) (match dp T o w i (2 ^ 2 ^ n) 0 with | some b => some (i, b) | none => bH T o w (2 ^ 2 ^ n) d (i + 1)) (bH T o w (2 ^ 2 ^ n) d (i + 1)) := rfl
  rw [hp]
  by_cases e0 : 1 ≤ gt T i
  ·rw [ag1 (by omega : ¬ gt T i < 1), agX, agW e0, ag8]
   by_cases e1 : gt T i < gt T w
   ·rw [ag1 (by omega : ¬ gt T i ≥ gt T w), agX, agW e1, agY]
    have hb := q7 N hN hn hT hw (by omega : i < 2 ^ 2 ^ n) g hg e0 e1 o self hs x2 x3 T (T.length : Int) (i : Int) x9 k0 (fun e0 e1 e2 e3 e4 e5 e6 e7 e8 e9 => iv N self F e0 e1 e2 e3 e4 e5 (w64 (e6 + 1)) e7 e8 e9 k0 k1) (2 ^ 2 ^ n) N 0 (by omega) (by omega)
    refine aig hb ?_
    cases dp T o w i (2 ^ 2 ^ n) 0 with
    | some b => rfl
    | none =>
     show iv N self F T (cond o 38 124) x2 x3 T (T.length : Int) (w64 ((i : Int) + 1)) (n : Int) (w : Int) x9 k0 k1 = _
     rw [aw i (by omega)]
     exact ih
   ·rw [agW (by omega : gt T i ≥ gt T w), agY, ag1 e1, agX]
    exact ih
  ·rw [agW (by omega : gt T i < 1), agY, ag1 e0, ahu, agX]
   exact ih
theorem Bp (self : Int → Int → List Int → (ByteArray → Option β) → Option β) (hs : ∀ x, x < 2 ^ 2 ^ n → 1 ≤ gt T x → gt T x < gt T w → ∀ K, self (n : Int) (x : Int) T K = K (B (g x))) (k0 : ByteArray → Option β) (k1 : Option β) :
  gr N self N T 2 0 (n : Int) (w : Int) [38, 124] k0 k1 =
   match bH T true w (2 ^ 2 ^ n) (2 ^ 2 ^ n) 0 with
   | some (a, b) => k0 (B (38 :: g a ++ g b))
   | none => match bH T false w (2 ^ 2 ^ n) (2 ^ 2 ^ n) 0 with
    | some (a, b) => k0 (B (124 :: g a ++ g b))
    | none => k1 := by
 obtain ⟨M, rfl⟩ : ∃ M, N = M + 3 := ⟨N - 3, by omega⟩
 have hL2 : 2 ^ 2 ^ n ≤ 256 := by
  obtain rfl | rfl | rfl | rfl : n = 0 ∨ n = 1 ∨ n = 2 ∨ n = 3 := by omega
  all_goals decide
 have ha := fun o x3 k0 (k1 : List Int → Int → Int → Int → Int → List Int → Option β) => q6 (M + 3) hN hn hT hw g hg o self hs 2 x3 [38, 124] k0 k1 (2 ^ 2 ^ n) (M + 3) 0 (by omega) (by omega)
 show C4 (M + 3) self T 2 0 (n : Int) (w : Int) [38, 124] (fun v0 v1 v2 v3 v4 v5 => gr (M + 3) self (M + 2) v0 v1 v2 v3 v4 v5 k0 k1) k0 k1 = _
 unfold C4 G6
 refine aig (ha true 0 _ _) ?_
 cases bH T true w (2 ^ 2 ^ n) (2 ^ 2 ^ n) 0 with
 | some p => rfl
 | none =>
  show C4 (M + 3) self T 2 1 (n : Int) (w : Int) [38, 124] (fun v0 v1 v2 v3 v4 v5 => gr (M + 3) self (M + 1) v0 v1 v2 v3 v4 v5 k0 k1) k0 k1 = _
  unfold C4 G6
  refine aig (ha false 1 _ _) ?_
  cases bH T false w (2 ^ 2 ^ n) (2 ^ 2 ^ n) 0 with
  | some p => rfl
  | none => rfl
end
theorem uE : ∀ n, n ≤ 3 → ∀ w, w < 2 ^ 2 ^ n → w ^^^ (2 ^ 2 ^ n - 1) = full n - w ∧ w ≤ full n ∧ full n < 256 := by decide +kernel
theorem wl (N : Nat) {n w : Nat} (hn : n ≤ 3) (hw : w < 2 ^ 2 ^ n) (K : Int → Int → Option β) : eF N (n : Int) (w : Int) K = K (n : Int) ((full n - w : Nat) : Int) := by
 obtain ⟨h1, h2, h3⟩ := uE n hn w hw
 have hs : 2 ^ n ≤ 8 := (ag6 (by decide) hn : 2 ^ n ≤ 2 ^ 3)
 have hfu : full n = 2 ^ 2 ^ n - 1 := rfl
 have hp : 0 < 2 ^ 2 ^ n := ahJ _
 have hz : (0 : Int) ≤ ((2 ^ n : Nat) : Int) := ahi _
 unfold eF GQ
 rw [bV N n _ (by omega), ab (agW (by omega)), aM (2 ^ n) (by omega), show w64 (((2 ^ 2 ^ n : Nat) : Int) - 1) = ((2 ^ 2 ^ n - 1 : Nat) : Int) by rw [bp (by omega) (by omega)]; omega, Qv w _ (by omega) (by omega), h1]
theorem HL (N : Nat) (hN : 64 < N) {n i : Nat} (hn : n ≤ 3) (hi : i < n) (K : Int → Int → Option β) : p7 N (n : Int) (i : Int) K = K (n : Int) (vw n i : Int) := by
 have hs : 2 ^ n ≤ 8 := (ag6 (by decide) hn : 2 ^ n ≤ 2 ^ 3)
 unfold p7 Sc
 rw [b6 N hN n (by omega) _ (fun x => x.testBit i) (fun x k hx => by
  unfold zj0 zb0
  rw [ab (agW (by omega)), gv x i (by omega)]
  cases x.testBit i <;> rfl), Ek n hn i hi]
theorem VQ (i : Nat) (h : i < 3) : aq (([] : List Int) ++ [w8 (97 + w8 (i : Int))]) = B [UInt8.ofNat (97 + i)] := by
 obtain rfl | rfl | rfl : i = 0 ∨ i = 1 ∨ i = 2 := by omega
 all_goals rfl
theorem Bo (N : Nat) (hN : 1048576 < N) {n : Nat} (hn : n ≤ 3) {w : Nat} (hw : w < 2 ^ 2 ^ n) (T : List Int) (k0 : ByteArray → Option β) (k1 : List Int → Int → Int → Option β) :
  ∀ (d F i : Nat), i + d = n → d < F → kw N F T (n : Int) (i : Int) (n : Int) (w : Int) k0 k1 = match qu n w d i with
   | some s => k0 (B s)
   | none => k1 T (n : Int) (w : Int)
 | d, 0, _, _, h => absurd h (ahV _)
 | 0, F + 1, i, hi, _ => by
  obtain rfl : i = n := by omega
  show C1 N T (i : Int) (i : Int) (i : Int) (w : Int) _ k0 k1 = _
  unfold C1 G3
  rw [ag1 (by omega)]
  rfl
 | d + 1, F + 1, i, hi, hF => by
  have ih := Bo N hN hn hw T k0 k1 d F (i + 1) (by omega) (by omega)
  have hv := Gm n hn i (by omega)
  show C1 N T (n : Int) (i : Int) (n : Int) (w : Int) _ k0 k1 = _
  unfold C1 G3
  rw [agW (by omega : (i : Int) < (n : Int)), agY, HL N (by omega) hn (by omega), wl N hn (by omega), VQ i (by omega), aw i (by omega), show aq [33] = B [33] from rfl, gs2 _ _ (by simp), cK, beq_self_eq_true, ag8, ag8, cJ, cJ]
  have hl : qu n w (d + 1) i = cond (w == vw n i) (some [UInt8.ofNat (97 + i)]) (cond (w == full n - vw n i) (some [33, UInt8.ofNat (97 + i)]) (qu n w d (i + 1))) := rfl
  rw [hl]
  cases w == vw n i with
  | true => rfl
  | false =>
   rw [agX, agX]
   cases w == full n - vw n i with
   | true => rfl
   | false => exact ih
theorem Qy (x : Nat) : bw 0 x = 0 := by unfold bw; rw [ahP]; rfl
theorem Qx : ∀ n, n ≤ 3 → bw (full n) 0 = 1 := by decide +kernel
theorem Dw (N : Nat) {n w : Nat} (hn : n ≤ 3) (hw : w < 2 ^ 2 ^ n) (K : Bool → Option β) : my N (n : Int) (w : Int) K = K (w == 0 || w == full n) := by
 obtain ⟨h1, h2, h3⟩ := uE n hn w hw
 unfold my O3
 rw [wl N hn hw, show ((w : Int) == 0) = (w == 0) from cJ w 0, show (((full n - w : Nat) : Int) == 0) = (w == full n) by
  rw [show (((full n - w : Nat) : Int) == 0) = (full n - w == 0) from cJ _ 0, aic, beq_iff_eq, beq_iff_eq]; omega]
 cases w == 0 <;> rfl
theorem tc {N : Nat} (hN : 1048576 < N) {n : Nat} (hn : n ≤ 3) {T : List Int} (hT : u6 n T) : ∀ (F w : Nat), w < 2 ^ 2 ^ n → gt T w < F → ∀ K : ByteArray → Option β, c7 N F (n : Int) (w : Int) T K = K (B (fmF T n F w))
 | 0, w, _, h, _ => by have := hT.le w; have := hT.len; omega
 | F + 1, w, hw, hF, K => by
  have hL := hT.len
  obtain ⟨h1, h2, h3⟩ := uE n hn w hw
  have hs : ∀ x, x < 2 ^ 2 ^ n → 1 ≤ gt T x → gt T x < gt T w → ∀ K : ByteArray → Option β, c7 N F (n : Int) (x : Int) T K = K (B (fmF T n F x)) := fun x hx _ h2 K => tc hN hn hT F x hx (by omega) K
  show PI N (c7 N F) (n : Int) (w : Int) T K = _
  unfold PI O4 fmF
  rw [Dw N hn hw]
  cases h0 : w == 0 with
  | true =>
   have : w = 0 := by simpa using h0
   subst this
   rw [ajj, agY, agY]
   have ha := cl (β := β) N 0 0 (n : Int) (by omega) fun r5 => fI N r5 K
   refine aig ha ?_
   rw [Qy, dy N _ (by unfold L5; omega)]
   have hi : Lib.itoa ((0 : Nat) : Int) = [48] := th false
   rw [hi]
  | false =>
   rw [ah6, agX]
   cases h1 : w == full n with
   | true =>
    have : w = full n := by simpa using h1
    subst this
    rw [agY, agY]
    have ha := cl (β := β) N (full n) 0 (n : Int) (by omega) fun r5 => fI N r5 K
    refine aig ha ?_
    rw [Qx n hn, dy N _ (by unfold L5; omega)]
    have hi : Lib.itoa ((1 : Nat) : Int) = [49] := th true
    rw [hi]
   | false =>
    rw [agX, agX, ab (agW (by omega)), ab (agW (by omega)), jU]
    have ho := Bp N hN hn hT hw (fmF T n F) (Fw hT F) (c7 N F) hs (fun e => K e) (K ByteArray.empty)
    have tail : gr N (c7 N F) N T 2 0 (n : Int) (w : Int) [38, 124] (fun e => K e) (K ByteArray.empty) = K (B (match bH T true w (2 ^ 2 ^ n) (2 ^ 2 ^ n) 0 with
     | some (a, b) => 38 :: fmF T n F a ++ fmF T n F b
     | none => match bH T false w (2 ^ 2 ^ n) (2 ^ 2 ^ n) 0 with
      | some (a, b) => 124 :: fmF T n F a ++ fmF T n F b
      | none => [])) := by
     refine aig ho ?_
     cases bH T true w (2 ^ 2 ^ n) (2 ^ 2 ^ n) 0 with
     | some p => rfl
     | none =>
      cases bH T false w (2 ^ 2 ^ n) (2 ^ 2 ^ n) 0 with
      | some p => rfl
      | none => rfl
    by_cases e1 : gt T w = 1
    ·rw [show (gt T w == 1) = true by simp [e1], agY, agW e1, agY]
     refine aig (Bo N hN hn hw T (fun e => K e) _ n N 0 (by omega) (by omega)) ?_
     cases qu n w n 0 with
     | some s => rfl
     | none => exact tail
    ·rw [show (gt T w == 1) = false by simp [e1], agX, ag1 e1, agX]
     exact tail
theorem u5 (N : Nat) (hN : 1048576 < N) (n w : Nat) (hn : n ≤ 5) (hw : w < 2 ^ 2 ^ n) : (∀ K : ByteArray → Bool → Option β, xq N (n : Int) (w : Int) K = cond (decide (n ≤ 3)) (K (B (fmF (szT n) n N w)) true) (K (B []) false)) ∧ (∀ K : ByteArray → Bool → Option β, xy N (n : Int) (w : Int) K = cond (decide (n ≤ 3)) (K (B (fmF (szT n) n N w)) true) (K (B []) false)) := by
 have hs : 2 ^ n ≤ 32 := (ag6 (by decide) hn : 2 ^ n ≤ 2 ^ 5)
 have hw32 : w < 2 ^ 32 := ag9 hw (ag6 (by decide) hs)
 constructor
 ·intro K
  unfold xq OB
  rw [bv, Bq hn hw, ag5, agX]
  by_cases h3 : n ≤ 3
  ·have hT := N4 h3
   have hl := hT.le w
   rw [ag1 (by omega : ¬ (n : Int) > 3), agX, agW h3, agY]
   unfold l8 Tx
   rw [ab (agW (by omega)), ab (agW (by omega)), ahb]
   exact um hN h3 hT N w hw (by omega) _
  ·rw [agW (by omega : (n : Int) > 3), agY, ag1 h3, agX, d7]
 ·intro K
  unfold xy O5 gj CH
  rw [bZ N _ _ (by omega), Bq hn hw, agY]
  by_cases h3 : n ≤ 3
  ·have hT := N4 h3
   have hl := hT.le w
   rw [agW (by omega : (n : Int) ≤ 3)]
   dsimp only
   rw [ag5, agX, agW h3, agY]
   unfold iW TJ
   rw [ab (agW (by omega)), ab (agW (by omega)), ahb]
   exact tc hN h3 hT N w hw (by omega) _
  ·rw [ag1 (by omega : ¬ (n : Int) ≤ 3)]
   dsimp only
   rw [ahk, agY, ag1 h3, agX, d7]
theorem vf (N : Nat) (hN : 1048576 < N) (n w : Nat) (hn : n ≤ 4) (hw : w < 2 ^ 2 ^ n) (K : List (Int × Int) → Option β) : pZ N (n : Int) (w : Int) K = K (tl (prl n w (2 ^ n))) := by
 have hs : 2 ^ n ≤ 16 := (ag6 (by decide) hn : 2 ^ n ≤ 2 ^ 4)
 have hz0 : (0 : Int) ≤ ((2 ^ n : Nat) : Int) := ahi _
 have h16 := Cp n hn
 unfold pZ OT zj2 zb2
 rw [ab (agW (by omega)), aM n (by omega)]
 refine a6 (fun F m => iq N F ((2 ^ n : Nat) : Int) (m : Int) (n : Int) (w : Int) (tl (prl n w m)) fun e => K e) (2 ^ n) _ (fun F m hm => ?_) (fun F => ?_) N 0 (by omega) (by omega)
 ·simp only [iq, PB, GW]
  rw [agW (by omega : (m : Int) < ((2 ^ n : Nat) : Int)), agY, aw m (by omega)]
  have hl1 := pD n w m (by omega)
  refine (a6 (fun H v => kt N H (m : Int) ((2 ^ n : Nat) : Int) (m : Int) ((m + 1 : Nat) : Int) (v : Int) (n : Int) (w : Int) (tl (prl n w m ++ prr n w m v)) fun e0 e1 e2 e3 e4 => iq N F e0 (w64 (e1 + 1)) e2 e3 e4 fun e => K e) (m + 1) (iq N F ((2 ^ n : Nat) : Int) ((m + 1 : Nat) : Int) (n : Int) (w : Int) (tl (prl n w (m + 1))) fun e => K e) (fun H v hv => ?_) (fun H => ?_) N 0 (by omega) (by omega) |> fun h => aig (by rw [show prr n w m 0 = [] from rfl, ahg]; rfl) h)
  ·have hl2 := sd n w m v
   simp only [kt, PA, GV]
   rw [agW (by omega : (v : Int) < ((m + 1 : Nat) : Int)), agY, qc v (by omega) m (by omega), HN N hN n w m v hn (by omega) (by omega) (by omega), aw v (by omega)]
   cases hc : (v &&& m == v) with
   | false => rw [agX, prr, hc, ahu, agX, ahg]
   | true =>
    cases hp : prm n w m v with
    | false => rw [agY, agX, prr, hc, hp, aiB, agX, ahg]
    | true =>
     rw [agY, agY, ab (agW (by rw [bE, ag4]; simp; omega)), prr, hc, hp, aim, agY, ahG, show tl (prl n w m ++ prr n w m v) ++ [((m : Int), (v : Int))] = tl ((prl n w m ++ prr n w m v) ++ [(m, v)]) from (jj _ (m, v)).symm, ahs]
  ·simp only [kt, PA, GV]
   rw [ag1 (by omega), agX, aw m (by omega)]
   rfl
 ·simp only [iq, PB, GW]
  rw [ag1 (by omega : ¬ ((2 ^ n : Nat) : Int) < ((2 ^ n : Nat) : Int)), agX]
def ixI (r : List Nat) : List Int := r.map fun (i : Nat) => (i : Int)
theorem rS (r : List Nat) : (ixI r).length = r.length := by simp [ixI]
theorem VN (r : List Nat) (i : Nat) (h : i < r.length) : rd 0 (ixI r) (i : Int) = (r[i] : Int) := by
 rw [MJ _ _ _ (by rw [rS]; exact h)]
 simp [ixI]
def wds (n : Nat) (o : List (Nat × Nat)) : List Int := (List.range o.length).map fun i => (wdO n o i : Int)
theorem Ai (n : Nat) (o : List (Nat × Nat)) : (wds n o).length = o.length := by simp [wds]
theorem ZM (n : Nat) (o : List (Nat × Nat)) (i : Nat) (h : i < o.length) : rd 0 (wds n o) (i : Int) = (wdO n o i : Int) := by
 rw [MJ _ _ _ (by rw [Ai]; exact h)]
 simp [wds]
theorem QB (wd : Nat → Nat) (T : Nat) : ∀ (l : List Nat) (k h : Nat) (r : List Nat), chs wd T l k h = some r → r.length ≤ k := by
 intro l
 induction l with
 | nil =>
  intro k h r e
  unfold chs at e
  cases h1 : k == 0 with
  | false => rw [h1] at e; cases e
  | true =>
   rw [h1, agY] at e
   cases h2 : h == T with
   | false => rw [h2] at e; cases e
   | true => rw [h2, agY, ag0] at e; subst e; exact ahr _
 | cons t l ih =>
  intro k h r e
  cases k with
  | zero =>
   unfold chs at e
   dsimp only at e
   cases h2 : h == T with
   | false => rw [h2] at e; cases e
   | true => rw [h2, agY, ag0] at e; subst e; exact ahr _
  | succ k =>
   unfold chs at e
   dsimp only at e
   cases h1 : decide (k + 1 ≤ l.length + 1) with
   | false => rw [h1] at e; cases e
   | true =>
    rw [h1, agY] at e
    cases h2 : (wd t ^^^ (wd t &&& h) == 0) with
    | true => rw [h2, agY] at e; exact ih (k + 1) h r e
    | false =>
     rw [h2, agX] at e
     cases h3 : chs wd T l k (h ||| wd t) with
     | some r' =>
      rw [h3, ag0] at e
      subst e
      have := ih k _ r' h3
      rw [ag3]; omega
     | none => rw [h3] at e; exact ih (k + 1) h r e
theorem ZL (n : Nat) (hn : n ≤ 4) (o : List (Nat × Nat)) (i : Nat) : wdO n o i < 65536 := by
 have h1 := bT (fun x => x &&& (o.getD i (0, 0)).1 == (o.getD i (0, 0)).2) (2 ^ n)
 have h2 := Cp n hn
 unfold wdO
 omega
theorem vd (N : Nat) (hN : 1048576 < N) (n w : Nat) (hn : n ≤ 4) (hw : w < 65536) (o : List (Nat × Nat)) (hol : o.length ≤ 1000) : ∀ (k F i have_ : Nat), k ≤ 1000 → k < F → i ≤ o.length → have_ < 65536 →
  ∀ K : List Int → Bool → Option β, eG N F (wds n o) (w : Int) (have_ : Int) (i : Int) (k : Int) K = match chs (wdO n o) w (List.range' i (o.length - i)) k have_ with
   | some r => K (ixI r) true
   | none => K [] false := by
 intro k
 induction k with
 | zero =>
  intro F i have_ hk hF hi hh K
  obtain ⟨G, rfl⟩ : ∃ G, F = G + 1 := ⟨F - 1, by omega⟩
  have e : chs (wdO n o) w (List.range' i (o.length - i)) 0 have_ = cond (have_ == w) (some []) none := by
   cases List.range' i (o.length - i) <;> rfl
  rw [e]
  simp only [eG, PE, GY]
  rw [show (((0 : Nat) : Int) == 0) = true from rfl, agY, cJ]
  cases have_ == w <;> rfl
 | succ k ih =>
  intro F i have_ hk100 hF hi hh K
  obtain ⟨G, rfl⟩ : ∃ G, F = G + 1 := ⟨F - 1, by omega⟩
  have hk : (((k + 1 : Nat) : Int) == 0) = false := beq_eq_false_iff_ne.2 (by omega)
  have loop : ∀ (d H j : Nat), j + d = o.length → d < H → ∀ K : List Int → Bool → Option β,
    mw N (eG N G) H (wds n o) (w : Int) (have_ : Int) ((k + 1 : Nat) : Int) (j : Int) (fun e0 e1 => K e1 e0) (K [] false) = match chs (wdO n o) w (List.range' j d) (k + 1) have_ with
     | some r => K (ixI r) true
     | none => K [] false := by
   intro d
   induction d with
   | zero =>
    intro H j hd hH K
    obtain ⟨H, rfl⟩ : ∃ G, H = G + 1 := ⟨H - 1, by omega⟩
    simp only [mw, PC, GX, Ai]
    rw [bp (by omega) (by omega), ag1 (by omega), agX]
    rfl
   | succ d ihd =>
    intro H j hd hH K
    obtain ⟨H, rfl⟩ : ∃ G, H = G + 1 := ⟨H - 1, by omega⟩
    have hj : j < o.length := by omega
    have e0 := ihd H (j + 1) (by omega) (by omega) K
    have hwj := ZL n hn o j
    have ha : bits .andNot .i64 (wdO n o j : Int) (have_ : Int) = ((wdO n o j ^^^ (wdO n o j &&& have_) : Nat) : Int) := Qu _ _ (by omega) (by omega)
    have hb : bits .or .i64 (have_ : Int) (wdO n o j : Int) = ((have_ ||| wdO n o j : Nat) : Int) := bOr _ _ (by omega) (by omega)
    have hor : have_ ||| wdO n o j < 2 ^ 16 := ahK (by omega) (by omega)
    have hk1 : w64 (((k + 1 : Nat) : Int) - 1) = (k : Int) := by rw [show ((k + 1 : Nat) : Int) - 1 = (k : Int) by omega]; exact bp (by omega) (by omega)
    have e2 := ih G (j + 1) (have_ ||| wdO n o j) (by omega) (by omega) (by omega) (by omega)
    rw [show o.length - (j + 1) = d by omega] at e2
    have hd2 : (decide ((j : Int) ≤ w64 ((o.length : Int) - ((k + 1 : Nat) : Int)))) = decide (k + 1 ≤ d + 1) := by
     rw [bp (by omega) (by omega)]
     apply decide_eq_decide.2
     omega
    have hch : chs (wdO n o) w (List.range' j (d + 1)) (k + 1) have_ = cond (decide (k + 1 ≤ d + 1)) (cond (wdO n o j ^^^ (wdO n o j &&& have_) == 0) (chs (wdO n o) w (List.range' (j + 1) d) (k + 1) have_) (match chs (wdO n o) w (List.range' (j + 1) d) k (have_ ||| wdO n o j) with
      | some r => some (j :: r)
      | none => chs (wdO n o) w (List.range' (j + 1) d) (k + 1) have_)) none := by
     rw [List.range'_succ]
     show cond (decide (k + 1 ≤ (List.range' (j + 1) d).length + 1)) _ none = _
     rw [List.length_range']
     all_goals rfl
    rw [hch]
    simp only [mw, PC, GX, Ai, ZM n o j hj]
    rw [hd2]
    cases decide (k + 1 ≤ d + 1) with
    | false => rfl
    | true =>
     rw [agY, agY, ab (agW (by omega)), ab (agW (by omega)), ha, hb, hk1, aw j (by omega), ab (agW (by omega)), ab (agW (by omega)), e2, e0, show (((wdO n o j ^^^ (wdO n o j &&& have_) : Nat) : Int) == 0) = (wdO n o j ^^^ (wdO n o j &&& have_) == 0) from cJ _ 0]
     cases h1 : (wdO n o j ^^^ (wdO n o j &&& have_) == 0) with
     | true => rw [agY, agY]
     | false =>
      rw [agX, agX]
      cases h2 : chs (wdO n o) w (List.range' (j + 1) d) k (have_ ||| wdO n o j) with
      | none => dsimp only; rw [agX]
      | some r1 =>
       have hr := QB _ _ _ _ _ r1 h2
       dsimp only
       rw [agY, ab (agW (by rw [rS]; simp; omega))]
       rfl
  simp only [eG, PE, GY]
  rw [hk, agX]
  exact loop (o.length - i) N i (by omega) (by omega) K
theorem sY (N : Nat) (hN : 1048576 < N) (n w : Nat) (hn : n ≤ 4) (hw : w < 2 ^ 2 ^ n) (K : List (Int × Int) → Option β) : xu N (n : Int) (w : Int) K = K (tl (Cm n w)) := by
 have hs : 2 ^ n ≤ 16 := (ag6 (by decide) hn : 2 ^ n ≤ 2 ^ 4)
 have hl := pD n w (2 ^ n) hs
 have hw6 := w63 hn hw
 have hg := tY n w hn
 unfold xu OV
 rw [vf N hN n w hn hw, bE]
 have h8 := abM n w hn hw
 have hin := MC n w
 have hsum : Cm n w = atO (prl n w (2 ^ n)) (lT n w 9 0) := rfl
 rw [hsum]
 have hdef : ∀ d k, lT n w (d + 1) k = match cvr (wdO n (prl n w (2 ^ n))) (List.range (prl n w (2 ^ n)).length) k w with
   | some r => r
   | none => lT n w d (k + 1) := fun d k => rfl
 have hlen0 : ∀ d k, (∀ i ∈ lT n w d k, i < (prl n w (2 ^ n)).length) := fun d k => (yE n w d k).1
 generalize prl n w (2 ^ n) = o at *
 generalize lT n w = L at *
 rw [ab (agW (by omega)), ab (agW (by omega)), ab (agW (by omega)), ahb]
 have words : ∀ (d F i : Nat), i + d = o.length → d < F → ∀ k0 : List (Int × Int) → Int → Int → List Int → Option β, ju N F (tl o) (tl o) (o.length : Int) (i : Int) (n : Int) (w : Int) (((List.range i).map fun i => (wdO n o i : Int)) ++ List.replicate d 0) k0 = k0 (tl o) (n : Int) (w : Int) (wds n o) := by
  intro d
  induction d with
  | zero =>
   intro F i hi hF k0
   obtain ⟨G, rfl⟩ : ∃ G, F = G + 1 := ⟨F - 1, by omega⟩
   simp only [ju, PF, GZ]
   rw [ag1 (by omega), agX, ai1, ahg, show i = o.length by omega]
   rfl
  | succ d ih =>
   intro F i hi hF k0
   obtain ⟨G, rfl⟩ : ∃ G, F = G + 1 := ⟨F - 1, by omega⟩
   have hlt : i < o.length := by omega
   obtain ⟨g1, g2, g3⟩ := hg o[i] (ahm hlt)
   have hsumof : ∀ K : Int → Int → Option β, ip N (n : Int) ([] ++ [((o[i].1 : Int), (o[i].2 : Int))]) K = K (n : Int) (wdO n o i : Int) := fun K => by
    unfold ip GL wdO
    rw [mO o i hlt, show ([] ++ [((o[i].1 : Int), (o[i].2 : Int))]) = tl [o[i]] from rfl]
    rw [b6 N (by omega) n (by omega) _ (fun x => x &&& o[i].1 == o[i].2) (fun x k hx => by
     unfold da Sa
     rw [sw N hN [o[i]] (by simp) _ (fun t => x &&& t.1 == t.2) (fun t ht k => by
      rw [ahI.1 ht]
      unfold ij R9 Jv R8
      rw [rN x (by omega) _ g2, cJ])]
     simp)]
   simp only [ju, PF, GZ, bE, pE o i hlt]
   rw [agW (by omega : (i : Int) < (o.length : Int)), agY, ab (agW (by omega)), ab rfl, hsumof, ab (agW (by omega)), ab (agW (by simp; omega)), aw i (by omega), aiI]
   have hwr := El ((List.range i).map fun i => (wdO n o i : Int)) 0 (wdO n o i : Int) (List.replicate d 0)
   rw [ahw, ai8] at hwr
   rw [hwr]
   have e : ((List.range i).map fun i => (wdO n o i : Int)) ++ (wdO n o i : Int) :: List.replicate d 0 = ((List.range (i + 1)).map fun i => (wdO n o i : Int)) ++ List.replicate d 0 := by
    rw [ah8, aiu, ahs]; rfl
   rw [e]
   exact ih G (i + 1) (by omega) (by omega) k0
 refine aig (words o.length N 0 (by omega) (by omega) _) ?_
 rw [bE, show w64 ((o.length : Int) + 1) = ((o.length + 1 : Nat) : Int) from aw _ (by omega)]
 have out : ∀ r : List Nat, (∀ i ∈ r, i < o.length) → r.length ≤ 1000 → ∀ k0 : List (Int × Int) → Option β, ir N N (tl o) ((ixI r).length : Int) 0 [] (ixI r) k0 = k0 (tl (atO o r)) := by
  intro r hr hrl k0
  rw [rS]
  refine a6 (fun F i => ir N F (tl o) (r.length : Int) (i : Int) (tl (atO o (r.take i))) (ixI r) k0) r.length _ (fun F i hi => ?_) (fun F => ?_) N 0 (by omega) (by omega)
  ·have hri := hr r[i] (ahm hi)
   simp only [ir, PG, G0, bE, rS, VN r i hi, pE o r[i] hri]
   have e : atO o (r.take (i + 1)) = atO o (r.take i) ++ [o[r[i]]] := by
    unfold atO
    rw [aiA, ajC hi, Option.toList_some, aiu, ahC, mO o _ hri]
    rfl
   have hal : (atO o (r.take i)).length = i := by unfold atO; rw [ahw, ain]; omega
   rw [agW (by omega : (i : Int) < (r.length : Int)), agY, ab (agW (by omega)), ab rfl, ab (agW (by omega)), ab (agW (by omega)), ab (agW (by rw [hal]; simp; omega)), aw i (by omega), e, jj, ahG]
  ·simp only [ir, PG, G0]
   rw [ag1 (by omega), agX, aip]
 have loop : ∀ (d F k : Nat), k + d = 9 → d < F → (∀ j, j < k → cvr (wdO n o) (List.range o.length) j w = none) → ∀ (k0 : List (Int × Int) → Option β) (k1 : Option β), ku N F (tl o) ((o.length + 1 : Nat) : Int) (k : Int) (n : Int) (w : Int) (wds n o) k0 k1 = k0 (tl (atO o (L d k))) := by
  intro d
  induction d with
  | zero =>
   intro F k hk hF hno k0 k1
   exact absurd (hno 8 (by omega)) h8
  | succ d ih =>
   intro F k hk hF hno k0 k1
   obtain ⟨G, rfl⟩ : ∃ G, F = G + 1 := ⟨F - 1, by omega⟩
   have hkL : k ≤ o.length := by
    rcases ahf o.length k with h | h
    ·cases hc : cvr (wdO n o) (List.range o.length) 8 w with
     | none => exact absurd hc h8
     | some r =>
      obtain ⟨a1, a2, a3, a4⟩ := eW _ _ _ _ r hc
      rw [ai8] at a2
      exact absurd (hno o.length h) (sE _ _ _ w r a1 a2 a4)
    ·exact h
   have e1 := fun K => vd (β := β) N hN n w hn hw6 o (by omega) k N 0 0 (by omega) (by omega) (by omega) (by omega) K
   rw [ajk, ← List.range_eq_range', Dp _ _ _ hin k hno] at e1
   simp only [ku, TE, OU]
   rw [agW (by omega : (k : Int) < ((o.length + 1 : Nat) : Int)), agY]
   unfold TD
   refine (e1 _).trans ?_
   rw [hdef]
   cases hc : cvr (wdO n o) (List.range o.length) k w with
   | some r =>
    obtain ⟨a1, a2, a3, a4⟩ := eW _ _ _ _ r hc
    dsimp only
    rw [agY]
    exact out r (fun i hi => ahT.1 (a1 i hi)) (by omega) _
   | none =>
    dsimp only
    rw [agX, aw k (by omega)]
    exact ih G (k + 1) (by omega) (by omega) (fun j hj => by
     rcases ahf j k with h | h
     ·exact hno j h
     ·have : j = k := by omega
      subst this
      exact hc) k0 k1
 exact loop 9 N 0 rfl (by omega) (fun j hj => absurd hj (ahV _)) _ _
theorem FH (n w : Nat) : ∀ d k, (lT n w d k).length ≤ k + d - 1
 | 0, k => ahr _
 | d + 1, k => by
  unfold lT
  cases h : cvr (wdO n (prl n w (2 ^ n))) (List.range (prl n w (2 ^ n)).length) k w with
  | some r =>
   have h3 := (eW _ _ _ _ r h).2.2.1
   show r.length ≤ _
   omega
  | none =>
   have := FH n w d (k + 1)
   show (lT n w d (k + 1)).length ≤ _
   omega
theorem Cn (n w : Nat) : (Cm n w).length ≤ 8 := by
 unfold Cm
 rw [ahw]
 exact FH n w 9 0
theorem xe (n w : Nat) (hn : n ≤ 4) : Ts n (Cm n w) := by
 intro t ht
 unfold Cm at ht
 obtain ⟨i, hi, rfl⟩ := ahp.1 ht
 have hlt := (yE n w 9 0).1 i hi
 rw [mO _ i hlt]
 exact tY n w hn _ (ahm hlt)
theorem sZ (N : Nat) (hN : 1048576 < N) (n : Nat) (hn : n ≤ 4) (o : List (Nat × Nat)) (ho : o.length ≤ 8) (hg : Ts n o) (K : ByteArray → Option β) : xv N (n : Int) (tl o) K = K (B (LU n o)) := by
 unfold xv OW LU
 rw [bE, show ((o.length : Int) == 0) = (o.length == 0) from cJ o.length 0]
 cases hc : (o.length == 0) with
 | true => rw [agY, agY, cg]; rfl
 | false =>
  rw [agX, agX, show aq [124] = B [124] from cg _, gZ N hN n (by omega) o (by omega) (fun t ht => ⟨(hg t ht).2.1, (hg t ht).2.2, (pj hn (hg t ht)).2.1⟩) 124]
theorem C9 (N : Nat) (hN : 1048576 < N) (a : List UInt8) (a1 a2 : Int) (h2 : a2 < 9223372036854775808) :
  ∃ (s : List UInt8) (b : Bool), (∀ K : ByteArray → Bool → Option β, xr N (B a) a1 a2 K = K (B s) b) ∧ (∀ K : ByteArray → Bool → Option β, xz N (B a) a1 a2 K = K (B s) b) := by
 unfold xr OC xz O6 gj CH
 cases ht : isT a1 a2 with
 | false => exact ⟨[], false, fun K => by rw [bv, ht, d7]; rfl, fun K => by rw [bZ N _ _ h2, ht, d7]; rfl⟩
 | true =>
  simp only [bv, bZ N _ _ h2, ht, ag5, agX, agY]
  obtain ⟨n, w, rfl, rfl, hn, hw, hw2⟩ := yA ht
  by_cases h4 : n ≤ 4
  ·simp only [ag1 (by omega : ¬ (n : Int) > 4), agW (by omega : (n : Int) ≤ 4), ag5, agX]
   cases (B a).toList == (aq [116, 97, 98, 108, 101]).toList with
   | true =>
    simp only [agY]
    exact ⟨_, true, fun K => mY N n w (by omega) hn hw _, fun K => fv N n w (by omega) hn hw _⟩
   | false =>
    simp only [agX]
    cases (B a).toList == (aq [97, 110, 102]).toList with
    | true =>
     simp only [agY]
     exact ⟨_, true, fun K => hZ N hN n w hn hw _, fun K => gX N hN n w hn hw _⟩
    | false =>
     simp only [agX]
     cases (B a).toList == (aq [115, 117, 109]).toList with
     | true =>
      simp only [agY]
      obtain ⟨b, e⟩ := pN (β := β) N hN n w h4 hw
      refine ⟨LU n (Cm n w), true, fun K => (e _).trans ?_, fun K => (sY N hN n w h4 hw _).trans ?_⟩
      ·exact qP N hN n h4 _ (Cn n w) (xe n w h4) _
      ·exact sZ N hN n h4 _ (Cn n w) (xe n w h4) _
     | false =>
      simp only [agX]
      cases (B a).toList == (aq [116, 114, 101, 101]).toList with
      | true =>
       simp only [agY]
       exact ⟨_, _, fun K => qO N (by omega) _ _ _, fun K => qq N (by omega) _ _ h2 _⟩
      | false =>
       simp only [agX]
       cases (B a).toList == (aq [102, 111, 114, 109, 117, 108, 97]).toList with
       | true =>
        simp only [agY]
        obtain ⟨e1, e2⟩ := u5 (β := β) N hN n w hn hw
        cases hd : decide (n ≤ 3) with
        | true => exact ⟨_, true, fun K => by rw [e1, hd]; rfl, fun K => by rw [e2, hd]; rfl⟩
        | false => exact ⟨_, false, fun K => by rw [e1, hd]; rfl, fun K => by rw [e2, hd]; rfl⟩
       | false => exact ⟨[], false, fun K => by rw [d7]; rfl, fun K => by rw [d7]; rfl⟩
  ·simp only [agW (by omega : (n : Int) > 4), ag1 (by omega : ¬ (n : Int) ≤ 4), ahk, agY]
   exact ⟨[], false, fun K => by rw [d7], fun K => by rw [d7]⟩
theorem xB (N : Nat) (hN : 1048576 < N) (a c : List UInt8) (a1 : Int) (l : List UInt8) (hl : l.length ≤ 1048576) :
  ∃ (s : List UInt8) (b : Bool), (∀ K : ByteArray → Bool → Option β, xt N (B a) (B c) a1 (B l) K = K (B s) b) ∧ (∀ K : ByteArray → Bool → Option β, xA N (B a) (B c) a1 (B l) K = K (B s) b) := by
 obtain ⟨n', w, b, hT, e1, e2⟩ := Hg (β := β) N hN a a1 l hl
 unfold xt OD xA O7
 cases b with
 | false => exact ⟨[], false, fun K => by rw [e1, d7]; rfl, fun K => by rw [e2, d7]; rfl⟩
 | true =>
  obtain ⟨n, v, rfl, rfl, hn, hv⟩ := hT rfl
  have hs : 2 ^ n ≤ 32 := (ag6 (by decide) hn : 2 ^ n ≤ 2 ^ 5)
  have hv32 : v < 2 ^ 32 := ag9 hv (ag6 (by decide) hs)
  obtain ⟨s, b, f1, f2⟩ := C9 (β := β) N hN c (n : Int) (v : Int) (by omega)
  exact ⟨s, b, fun K => by rw [e1, ag5, agX, f1], fun K => by rw [e2, ag5, agX, f2]⟩
theorem rH (N : Nat) (hN : 1048576 < N) (a c : ByteArray) (a1 : Int) (s : ByteArray) (ha : (a.size : Int) ≤ 9223372036854775807) (hc : (c.size : Int) ≤ 9223372036854775807) (h1 : -9223372036854775808 ≤ a1 ∧ a1 ≤ 9223372036854775807) (hs : (s.size : Int) ≤ 9223372036854775807) (k : Bool → Option β) :
  cm N a c a1 s k = k true := by
 unfold cm bU
 by_cases h : (a.size : Int) > 1048576
 ·rw [agW h, agY]
 rw [ag1 h, agX]
 by_cases h : (c.size : Int) > 1048576
 ·rw [agW h, agY]
 rw [ag1 h, agX]
 by_cases h : (s.size : Int) > 1048576
 ·rw [agW h, agY]
 rw [ag1 h, agX, ← mz a, ← mz c, ← mz s]
 have hl : s.data.toList.length ≤ 1048576 := by
  have : s.size = s.data.toList.length := by rw [← aE, mz]
  omega
 obtain ⟨t, b, e1, e2⟩ := xB (β := β) N hN a.data.toList c.data.toList a1 s.data.toList hl
 refine (e1 _).trans ((e2 _).trans ?_)
 rw [beq_self_eq_true, beq_self_eq_true]
 rfl
end Go.Proofs.YtmhlcbibbhelkaaGreatDoor
