/- Plain law: the program's sizes of formulas are the reference's. -/
import Derived.Test.YtmhlcbibbhelkaaDoorSizN
namespace Go.Proofs.YtmhlcbibbhelkaaDoor
set_option linter.unusedVariables false
set_option linter.unusedSimpArgs false
/-! ### Rounds as lists of words -/
def allS (s : Nat) (ws : List Nat) (st : SS) : SS := ws.foldl (fun st w => takeS w s st) st
def allZ (fu s : Nat) (ws : List Nat) (st : SZ) : SZ := ws.foldl (fun st w => takeZ fu w s st) st
def prs (fs gs : List Nat) : List Nat := fs.flatMap fun f => gs.flatMap fun g => [f &&& g, f ||| g]
theorem gst_all (f s : Nat) : ∀ (gs : List Nat) (st : SS), gst f s gs st = allS s (gs.flatMap fun g => [f &&& g, f ||| g]) st
  | [], _ => rfl
  | g :: gs, st => by
    show gst f s gs (takeS (f ||| g) s (takeS (f &&& g) s st)) = _
    rw [gst_all f s gs]
    rfl
theorem allS_app (s : Nat) (a b : List Nat) (st : SS) : allS s (a ++ b) st = allS s b (allS s a st) := List.foldl_append
theorem allZ_app (fu s : Nat) (a b : List Nat) (st : SZ) : allZ fu s (a ++ b) st = allZ fu s b (allZ fu s a st) := List.foldl_append
theorem fst_all (s : Nat) (gs : List Nat) : ∀ (fs : List Nat) (st : SS), fst_ s fs gs st = allS s (prs fs gs) st
  | [], _ => rfl
  | f :: fs, st => by
    show fst_ s fs gs (gst f s gs st) = _
    rw [fst_all s gs fs, gst_all]
    unfold prs
    rw [List.flatMap_cons, allS_app]
theorem zg_all (fu f s : Nat) : ∀ (gs : List Nat) (st : SZ), zg fu f s gs st = allZ fu s (gs.flatMap fun g => [f &&& g, f ||| g]) st
  | [], _ => rfl
  | g :: gs, st => by
    show zg fu f s gs (takeZ fu (f ||| g) s (takeZ fu (f &&& g) s st)) = _
    rw [zg_all fu f s gs]
    rfl
theorem zf_all (fu s : Nat) (gs : List Nat) : ∀ (fs : List Nat) (st : SZ), zf fu s fs gs st = allZ fu s (prs fs gs) st
  | [], _ => rfl
  | f :: fs, st => by
    show zf fu s fs gs (zg fu f s gs st) = _
    rw [zf_all fu s gs fs, zg_all]
    unfold prs
    rw [List.flatMap_cons, allZ_app]
theorem allS_other (s : Nat) (j : Nat) (h : j ≠ s) : ∀ (ws : List Nat) (st : SS), (allS s ws st).2.getD j [] = st.2.getD j []
  | [], _ => rfl
  | w :: ws, st => by
    show (allS s ws (takeS w s st)).2.getD j [] = _
    rw [allS_other s j h ws, take_other w s st j h]
/-- The words of a round. -/
def wordsR (s : Nat) (bys : List (List Nat)) (k : Nat) : List Nat := (List.range k).flatMap fun i => prs (bys.getD (i + 1) []) (bys.getD (s - (i + 1)) [])
theorem ast_all (s : Nat) (st : SS) : ∀ k, k < s → ast s st k = allS s (wordsR s st.2 k) st
  | 0, _ => rfl
  | k + 1, hk => by
    have ih := ast_all s st k (by omega)
    rw [ast_succ, fst_all, ih, allS_other s (k + 1) (by omega), allS_other s (s - (k + 1)) (by omega)]
    unfold wordsR
    rw [List.range_succ, List.flatMap_append, allS_app]
    simp
theorem za_all (fu s : Nat) (bys : List (List Nat)) (st : SZ) : ∀ k, za fu s bys st k = allZ fu s (wordsR s bys k) st
  | 0 => rfl
  | k + 1 => by
    rw [za_succ, zf_all, za_all fu s bys st k]
    unfold wordsR
    rw [List.range_succ, List.flatMap_append, allZ_app]
    simp
/-! ### What a round leaves -/
def gt (l : List Int) (i : Nat) : Int := l.getD i 0
theorem getD_set {l : List Int} {x y : Nat} {v : Int} (hx : x < l.length) : gt (l.set x v) y = if x = y then v else gt l y := by
  unfold gt
  by_cases e : x = y
  · subst e; simp [List.getD, hx]
  · simp [List.getD, e]
theorem allS_os (s : Nat) : ∀ (ws : List Nat) (st : SS), (∀ w ∈ ws, w < st.1.length) → (allS s ws st).1.length = st.1.length ∧
    ∀ y, gt (allS s ws st).1 y = if gt st.1 y < 0 ∧ y ∈ ws then (s : Int) else gt st.1 y
  | [], st, _ => ⟨rfl, fun y => by simp [allS]⟩
  | w :: ws, st, h => by
    have hw := h w (List.mem_cons_self ..)
    have hl := (take_len w s st).1
    obtain ⟨h1, h2⟩ := allS_os s ws (takeS w s st) (fun x hx => by rw [hl]; exact h x (List.mem_cons_of_mem _ hx))
    refine ⟨h1.trans hl, fun y => ?_⟩
    show gt (allS s ws (takeS w s st)).1 y = _
    rw [h2 y]
    have hy : gt (takeS w s st).1 y = if gt st.1 w < 0 ∧ w = y then (s : Int) else gt st.1 y := by
      unfold takeS
      by_cases hn : gt st.1 w < 0
      · rw [show decide (st.1.getD w 0 < 0) = true from decide_eq_true hn, cond_true]
        show gt (st.1.set w (s : Int)) y = _
        rw [getD_set hw]
        simp [hn]
      · rw [show decide (st.1.getD w 0 < 0) = false from decide_eq_false hn, cond_false]
        simp [hn]
    rw [hy]
    by_cases e : w = y
    · subst e
      by_cases hn : gt st.1 w < 0
      · have : ¬ (s : Int) < 0 := by omega
        simp [hn, this]
      · simp [hn]
    · have e' : ¬ y = w := fun x => e x.symm
      simp [e, e']
theorem allS_row (s : Nat) : ∀ (ws : List Nat) (st : SS), (∀ w ∈ ws, w < st.1.length) → s < st.2.length → ∀ y, y ∈ (allS s ws st).2.getD s [] ↔ y ∈ st.2.getD s [] ∨ (gt st.1 y < 0 ∧ y ∈ ws)
  | [], st, _, _, y => by simp [allS]
  | w :: ws, st, h, hs, y => by
    have hw := h w (List.mem_cons_self ..)
    have hl := take_len w s st
    show y ∈ (allS s ws (takeS w s st)).2.getD s [] ↔ _
    rw [allS_row s ws (takeS w s st) (fun x hx => by rw [hl.1]; exact h x (List.mem_cons_of_mem _ hx)) (by rw [hl.2]; exact hs)]
    unfold takeS
    by_cases hn : gt st.1 w < 0
    · rw [show decide (st.1.getD w 0 < 0) = true from decide_eq_true hn, cond_true]
      show y ∈ (st.2.set s (st.2.getD s [] ++ [w])).getD s [] ∨ gt (st.1.set w (s : Int)) y < 0 ∧ y ∈ ws ↔ _
      rw [getD_set hw, show (st.2.set s (st.2.getD s [] ++ [w])).getD s [] = st.2.getD s [] ++ [w] by simp [List.getD, hs]]
      by_cases e : w = y
      · subst e
        simp [hn]
      · have e' : ¬ y = w := fun x => e x.symm
        simp [e, e']
    · rw [show decide (st.1.getD w 0 < 0) = false from decide_eq_false hn, cond_false]
      constructor
      · rintro (h1 | h1)
        · exact .inl h1
        · exact .inr ⟨h1.1, List.mem_cons_of_mem _ h1.2⟩
      · rintro (h1 | ⟨h1, h2⟩)
        · exact .inl h1
        · rcases List.mem_cons.1 h2 with rfl | h2
          · exact absurd h1 hn
          · exact .inr ⟨h1, h2⟩
theorem allZ_os (fu s : Nat) (hs : 0 < s) : ∀ (ws : List Nat) (st : SZ), (∀ w ∈ ws, w < st.1.length) → (allZ fu s ws st).1.length = st.1.length ∧
    (∀ y, gt (allZ fu s ws st).1 y = if (gt st.1 y = 0 ∧ 0 < y ∧ y < fu) ∧ y ∈ ws then (s : Int) else gt st.1 y) ∧
    ∀ y, y ∈ (allZ fu s ws st).2.1 ↔ y ∈ st.2.1 ∨ ((gt st.1 y = 0 ∧ 0 < y ∧ y < fu) ∧ y ∈ ws)
  | [], st, _ => ⟨rfl, fun y => by simp [allZ], fun y => by simp [allZ]⟩
  | w :: ws, st, h => by
    have hw := h w (List.mem_cons_self ..)
    by_cases hn : gt st.1 w = 0 ∧ 0 < w ∧ w < fu
    · have e0 := takeZ_yes (s := s) hn.1 hn.2.1 hn.2.2
      obtain ⟨h1, h2, h3⟩ := allZ_os fu s hs ws (takeZ fu w s st) (fun x hx => by rw [e0]; show x < (st.1.set w _).length; rw [List.length_set]; exact h x (List.mem_cons_of_mem _ hx))
      have hy : ∀ y, gt (takeZ fu w s st).1 y = if w = y then (s : Int) else gt st.1 y := fun y => by rw [e0]; exact getD_set hw
      have hm : (takeZ fu w s st).2.1 = st.2.1 ++ [w] := by rw [e0]
      have hsz : ¬ (s : Int) = 0 := by omega
      refine ⟨h1.trans (by rw [e0]; exact List.length_set ..), fun y => ?_, fun y => ?_⟩
      · show gt (allZ fu s ws (takeZ fu w s st)).1 y = _
        rw [h2 y, hy]
        by_cases e : w = y
        · subst e; simp [hn, hsz]
        · have e' : ¬ y = w := fun x => e x.symm
          simp [e, e']
      · show y ∈ (allZ fu s ws (takeZ fu w s st)).2.1 ↔ _
        rw [h3 y, hm, hy]
        by_cases e : w = y
        · subst e; simp [hn]
        · have e' : ¬ y = w := fun x => e x.symm
          simp [e, e']
    · have e0 := takeZ_no (s := s) hn
      obtain ⟨h1, h2, h3⟩ := allZ_os fu s hs ws (takeZ fu w s st) (fun x hx => by rw [e0]; exact h x (List.mem_cons_of_mem _ hx))
      rw [e0] at h1 h2 h3
      have key : ∀ y, ((gt st.1 y = 0 ∧ 0 < y ∧ y < fu) ∧ y ∈ w :: ws) ↔ ((gt st.1 y = 0 ∧ 0 < y ∧ y < fu) ∧ y ∈ ws) := fun y => by
        constructor
        · rintro ⟨a, b⟩
          rcases List.mem_cons.1 b with rfl | b
          · exact absurd a hn
          · exact ⟨a, b⟩
        · rintro ⟨a, b⟩; exact ⟨a, List.mem_cons_of_mem _ b⟩
      refine ⟨?_, fun y => ?_, fun y => ?_⟩
      · show (allZ fu s ws (takeZ fu w s st)).1.length = _
        rw [e0]; exact h1
      · show gt (allZ fu s ws (takeZ fu w s st)).1 y = _
        rw [e0, h2 y]
        simp only [key y]
      · show y ∈ (allZ fu s ws (takeZ fu w s st)).2.1 ↔ _
        rw [e0, h3 y, key y]
/-! ### The same rounds -/
theorem mem_prs {y : Nat} {fs gs : List Nat} : y ∈ prs fs gs ↔ ∃ f ∈ fs, ∃ g ∈ gs, y = f &&& g ∨ y = f ||| g := by
  unfold prs
  simp only [List.mem_flatMap, List.mem_cons, List.not_mem_nil, or_false]
theorem mem_words {y s k : Nat} {bys : List (List Nat)} : y ∈ wordsR s bys k ↔ ∃ i, i < k ∧ ∃ f ∈ bys.getD (i + 1) [], ∃ g ∈ bys.getD (s - (i + 1)) [], y = f &&& g ∨ y = f ||| g := by
  unfold wordsR
  simp only [List.mem_flatMap, List.mem_range, mem_prs]
theorem words_same {y s : Nat} {bys byz : List (List Nat)} (hs : 2 ≤ s) (h : ∀ i y, i < s → (y ∈ bys.getD i [] ↔ y ∈ byz.getD i [])) (hl : bys.length = s) :
    y ∈ wordsR s (bys ++ [[]]) (s / 2) ↔ y ∈ wordsR s byz (s - 1) := by
  rw [mem_words, mem_words]
  constructor
  · rintro ⟨i, hi, f, hf, g, hg, e⟩
    rw [getD_app (by omega)] at hf hg
    exact ⟨i, by omega, f, (h _ _ (by omega)).1 hf, g, (h _ _ (by omega)).1 hg, e⟩
  · rintro ⟨i, hi, f, hf, g, hg, e⟩
    by_cases h2 : i < s / 2
    · exact ⟨i, h2, f, by rw [getD_app (by omega)]; exact (h _ _ (by omega)).2 hf, g, by rw [getD_app (by omega)]; exact (h _ _ (by omega)).2 hg, e⟩
    · refine ⟨s - (i + 1) - 1, by omega, g, ?_, f, ?_, ?_⟩
      · rw [getD_app (by omega), show s - (i + 1) - 1 + 1 = s - (i + 1) by omega]
        exact (h _ _ (by omega)).2 hg
      · rw [getD_app (by omega), show s - (s - (i + 1) - 1 + 1) = i + 1 by omega]
        exact (h _ _ (by omega)).2 hf
      · rw [Nat.and_comm g f, Nat.or_comm g f]; exact e
/-- Both states before a round. -/
structure Lock (L s : Nat) (os : List Int) (bys : List (List Nat)) (oz : List Int) (byz : List (List Nat)) (left : Int) : Prop where
  l1 : os.length = L
  l2 : oz.length = L
  neg1 : ∀ y, gt os y < 0 → gt os y = -1
  c0 : gt os 0 = 0
  cf : gt os (L - 1) = 0
  val : ∀ y, gt oz y = if gt os y < 0 then 0 else gt os y
  pos : ∀ y, 0 < y → y < L - 1 → gt os y ≠ 0
  rows : ∀ i y, i < s → (y ∈ bys.getD i [] ↔ y ∈ byz.getD i [])
  b1 : bys.length = s
  b2 : byz.length = s
  left : left + 2 = zero oz
  good : Good L (os, bys)
  wd : Words L byz
theorem countP_add {α : Type} (p q r : α → Bool) : ∀ l : List α, (∀ y ∈ l, p y = (q y || r y)) → (∀ y ∈ l, (q y && r y) = false) → l.countP p = l.countP q + l.countP r
  | [], _, _ => rfl
  | a :: l, h1, h2 => by
    have ih := countP_add p q r l (fun y hy => h1 y (List.mem_cons_of_mem _ hy)) (fun y hy => h2 y (List.mem_cons_of_mem _ hy))
    have e1 := h1 a (List.mem_cons_self ..)
    have e2 := h2 a (List.mem_cons_self ..)
    rw [List.countP_cons, List.countP_cons, List.countP_cons, ih, e1]
    cases hq : q a <;> cases hr : r a <;> simp [hq, hr] at e2 ⊢ <;> omega
theorem gt_list (l : List Int) : l = (List.range l.length).map (gt l) := by
  apply List.ext_getElem
  · simp
  · intro i h1 h2
    simp [gt, List.getD, h1]
theorem count_gt (p : Int → Bool) (l : List Int) : l.countP p = (List.range l.length).countP (fun y => p (gt l y)) := by
  conv => lhs; rw [gt_list l]
  rw [List.countP_map]
  rfl
theorem two_ends : ∀ n, n ≤ 3 → (List.range (2 ^ 2 ^ n)).countP (fun y => y == 0 || y == 2 ^ 2 ^ n - 1) = 2 := by decide +kernel
section
variable {n L s : Nat} {os oz : List Int} {bys byz : List (List Nat)} {left : Int}
theorem Lock.count (hn : n ≤ 3) (hL : L = 2 ^ 2 ^ n) (h : Lock L s os bys oz byz left) : left = neg os := by
  have e : zero oz = neg os + 2 := by
    unfold zero neg
    rw [count_gt, count_gt, h.l1, h.l2]
    rw [countP_add (fun y => decide (gt oz y = 0)) (fun y => decide (gt os y < 0)) (fun y => y == 0 || y == L - 1)]
    · rw [hL, two_ends n hn]
    · intro y hy
      have hyl := List.mem_range.1 hy
      rw [h.val y]
      by_cases h1 : gt os y < 0
      · simp [h1]
      · by_cases h2 : y = 0
        · subst h2; simp [h.c0]
        · by_cases h3 : y = L - 1
          · subst h3; simp [h.cf]
          · have := h.pos y (by omega) (by omega)
            simp [h1, h2, h3, this]
    · intro y hy
      by_cases h2 : y = 0
      · subst h2; simp [h.c0]
      · by_cases h3 : y = L - 1
        · subst h3; simp [h.cf]
        · simp [h2, h3]
  have := h.left
  omega
theorem contains_neg (h : ∀ y, gt os y < 0 → gt os y = -1) : os.contains (-1) = decide (0 < neg os) := by
  rw [Bool.eq_iff_iff]
  simp only [List.contains_iff_mem, decide_eq_true_eq]
  unfold neg
  rw [List.countP_pos_iff]
  constructor
  · intro hm
    exact ⟨-1, hm, by simp⟩
  · rintro ⟨x, hx, hlt⟩
    have hlt' : x < 0 := by simpa using hlt
    obtain ⟨i, hi, rfl⟩ := List.mem_iff_getElem.1 hx
    have e : gt os i = os[i] := by simp [gt, List.getD, hi]
    have := h i (by rw [e]; exact hlt')
    rw [e] at this
    rw [← this]
    exact List.getElem_mem hi
theorem Lock.step (hn : n ≤ 3) (hL : L = 2 ^ 2 ^ n) (hs : 2 ≤ s) (h : Lock L s os bys oz byz left) :
    Lock L (s + 1) (ast s (os, bys ++ [[]]) (s / 2)).1 (ast s (os, bys ++ [[]]) (s / 2)).2 (za (L - 1) s byz (oz, [], left) (s - 1)).1 (byz ++ [(za (L - 1) s byz (oz, [], left) (s - 1)).2.1]) (za (L - 1) s byz (oz, [], left) (s - 1)).2.2 := by
  have hg0 := h.good.snoc
  have hk := keeps_a hL (s := s) hg0 (s / 2) (Nat.le_refl _)
  have hz0 : GoodZ L (oz, ([] : List Nat), left) := ⟨h.l2, by simp; rw [← h.l2]; exact List.countP_le_length, by simp, h.left⟩
  have hz := good_za hL (fu := L - 1) (by omega : 0 < s) h.wd hz0 (s - 1)
  have hwl : ∀ w ∈ wordsR s (bys ++ [[]]) (s / 2), w < L := fun w hw => by
    obtain ⟨i, hi, f, hf, g, hg, e⟩ := mem_words.1 hw
    have h1 := (hg0.row (i + 1)).2 f hf
    have h2 := (hg0.row (s - (i + 1))).2 g hg
    rcases e with rfl | rfl
    · rw [hL] at h2 ⊢; exact Nat.and_lt_two_pow _ h2
    · rw [hL] at h1 h2 ⊢; exact Nat.or_lt_two_pow h1 h2
  have hww := fun y => words_same (y := y) hs h.rows h.b1
  have hwz : ∀ w ∈ wordsR s byz (s - 1), w < L := fun w hw => hwl w ((hww w).2 hw)
  have eA := ast_all s (os, bys ++ [[]]) (s / 2) (by omega)
  have eZ := za_all (L - 1) s byz (oz, [], left) (s - 1)
  have hb1 : (bys ++ [[]]).length = s + 1 := by rw [List.length_append, h.b1]; rfl
  obtain ⟨o1, o2⟩ := allS_os s (wordsR s (bys ++ [[]]) (s / 2)) (os, bys ++ [[]]) (fun w hw => by show w < os.length; rw [h.l1]; exact hwl w hw)
  have o3 := allS_row s (wordsR s (bys ++ [[]]) (s / 2)) (os, bys ++ [[]]) (fun w hw => by show w < os.length; rw [h.l1]; exact hwl w hw) (by show s < (bys ++ [[]]).length; omega)
  obtain ⟨z1, z2, z3⟩ := allZ_os (L - 1) s (by omega) (wordsR s byz (s - 1)) (oz, [], left) (fun w hw => by show w < oz.length; rw [h.l2]; exact hwz w hw)
  rw [← eA] at o1 o2 o3
  rw [← eZ] at z1 z2 z3
  have free : ∀ y, (gt oz y = 0 ∧ 0 < y ∧ y < L - 1) ↔ gt os y < 0 := fun y => by
    rw [h.val y]
    constructor
    · rintro ⟨a, b, c⟩
      by_cases e : gt os y < 0
      · exact e
      · rw [if_neg e] at a
        exact absurd a (h.pos y b c)
    · intro e
      rw [if_pos e]
      refine ⟨rfl, ?_, ?_⟩
      · rcases Nat.eq_zero_or_pos y with rfl | h1
        · rw [h.c0] at e; omega
        · exact h1
      · rcases Nat.lt_or_ge y (L - 1) with h1 | h1
        · exact h1
        · rcases Nat.eq_or_lt_of_le h1 with h1 | h1
          · rw [← h1, h.cf] at e; omega
          · have : gt os y = 0 := by unfold gt; exact getD_past (by rw [h.l1]; omega)
            omega
  refine ⟨o1.trans h.l1, z1.trans h.l2, fun y hy => ?_, ?_, ?_, fun y => ?_, fun y hy1 hy2 => ?_, fun i y hi => ?_, hk.len.trans hb1, by rw [List.length_append, h.b2]; rfl, hz.left, hk.good, fun l hl => ?_⟩
  · rw [o2 y] at hy ⊢
    by_cases e : gt os y < 0 ∧ y ∈ wordsR s (bys ++ [[]]) (s / 2)
    · rw [if_pos e] at hy; omega
    · rw [if_neg e] at hy ⊢; exact h.neg1 y hy
  · rw [o2, if_neg (by show ¬ (gt os 0 < 0 ∧ _); rw [h.c0]; omega)]; exact h.c0
  · rw [o2, if_neg (by show ¬ (gt os (L - 1) < 0 ∧ _); rw [h.cf]; omega)]; exact h.cf
  · rw [o2 y, z2 y]
    show (if (gt oz y = 0 ∧ 0 < y ∧ y < L - 1) ∧ _ then (s : Int) else gt oz y) = _
    by_cases e : gt os y < 0 ∧ y ∈ wordsR s (bys ++ [[]]) (s / 2)
    · rw [if_pos ⟨(free y).2 e.1, (hww y).1 e.2⟩]
      show (s : Int) = if (if gt os y < 0 ∧ y ∈ _ then (s : Int) else gt os y) < 0 then 0 else if gt os y < 0 ∧ y ∈ _ then (s : Int) else gt os y
      rw [if_pos e, if_neg (by omega)]
    · rw [if_neg (fun x => e ⟨(free y).1 x.1, (hww y).2 x.2⟩)]
      show gt oz y = if (if gt os y < 0 ∧ y ∈ _ then (s : Int) else gt os y) < 0 then 0 else if gt os y < 0 ∧ y ∈ _ then (s : Int) else gt os y
      rw [if_neg e]
      exact h.val y
  · rw [o2 y]
    by_cases e : gt os y < 0 ∧ y ∈ wordsR s (bys ++ [[]]) (s / 2)
    · rw [if_pos e]; omega
    · rw [if_neg e]; exact h.pos y hy1 hy2
  · by_cases e : i < s
    · rw [hk.other i (by omega), getD_app (by rw [h.b1]; exact e), getD_app (by rw [h.b2]; exact e)]
      exact h.rows i y e
    · obtain rfl : i = s := by omega
      rw [o3 y]
      have e1 : (bys ++ [[]]).getD i [] = [] := by simp [List.getD, h.b1]
      have e2 : (byz ++ [(za (L - 1) i byz (oz, [], left) (i - 1)).2.1]).getD i [] = (za (L - 1) i byz (oz, [], left) (i - 1)).2.1 := by simp [List.getD, h.b2]
      rw [e2, z3 y]
      show y ∈ (bys ++ [[]]).getD i [] ∨ _ ↔ _
      rw [e1]
      constructor
      · rintro (a | ⟨a, b⟩)
        · simp at a
        · exact .inr ⟨(free y).2 a, (hww y).1 b⟩
      · rintro (a | ⟨a, b⟩)
        · simp at a
        · exact .inr ⟨(free y).1 a, (hww y).2 b⟩
  · rcases List.mem_append.1 hl with h1 | h1
    · exact h.wd l h1
    · simp only [List.mem_cons, List.not_mem_nil, or_false] at h1
      subst h1
      exact ⟨by have := hz.row; omega, hz.words⟩
theorem lock_outer (hn : n ≤ 3) (hL : L = 2 ^ 2 ^ n) : ∀ (F s : Nat) (os oz : List Int) (bys byz : List (List Nat)) (left : Int), 2 ≤ s → Lock L s os bys oz byz left → outer F s (os, bys) = outerZ (L - 1) F s oz byz left
  | 0, _, _, _, _, _, _, _, _ => rfl
  | F + 1, s, os, oz, bys, byz, left, hs, h => by
    unfold outer outerZ
    have hc := h.count hn hL
    have e : (decide (left > 0)) = os.contains (-1) := by
      rw [contains_neg h.neg1, hc]
      by_cases h1 : 0 < neg os
      · rw [decide_eq_true (by omega), decide_eq_true h1]
      · rw [decide_eq_false (by omega), decide_eq_false h1]
    rw [e]
    show cond (os.contains (-1)) _ _ = _
    cases hb : os.contains (-1) with
    | true =>
      rw [cond_true, cond_true]
      exact lock_outer hn hL F (s + 1) _ _ _ _ _ (by omega) (h.step hn hL hs)
    | false =>
      rw [cond_false, cond_false]
      rw [contains_neg h.neg1] at hb
      have h0 : neg os = 0 := by have := of_decide_eq_false hb; omega
      congr 1
      rw [gt_list os, gt_list oz, h.l1, h.l2]
      apply List.map_congr_left
      intro y hy
      rw [h.val y, if_neg]
      intro hlt
      have : 0 < neg os := by
        unfold neg
        rw [List.countP_pos_iff]
        have hy' : y < os.length := by rw [h.l1]; exact List.mem_range.1 hy
        exact ⟨os[y], List.getElem_mem hy', by have e : gt os y = os[y] := by simp [gt, List.getD, hy']
                                               rw [← e]; simpa using hlt⟩
      omega
end
end Go.Proofs.YtmhlcbibbhelkaaDoor
