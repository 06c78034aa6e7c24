/- Negations pushed to the letters. -/
import Derived.Test.YtfdggelojmofmaaP42
namespace Go.Proofs.Ytfdggelojmofmaa
open Go.Rv
variable {β : Type}
def oth (n : Nat) : Nat := cond (n == 38) 124 (cond (n == 124) 38 (cond (n == 48) 49 (cond (n == 49) 48 n)))
def lt5 (n : Nat) : Bool := decide (97 ≤ n) && decide (n < 102)
def pu : Tr → Bool → Tr
  | .nil, _ => .nil
  | .node a b l r, neg =>
    cond (a == 33) (pu l (!neg))
      (cond (lt5 a.toNat) (cond neg (.node 33 0 (.node a b l r) .nil) (.node a b l r))
        (cond l.isNil (cond neg (.node (oth a.toNat) 0 .nil .nil) (.node a b l r))
          (cond (a == 94) (.node 94 0 (pu l neg) (pu r false))
            (cond neg (.node (oth a.toNat) 0 (pu l neg) (pu r neg)) (.node a 0 (pu l neg) (pu r neg))))))

theorem isNil_node (a b : Int) (l r : Tr) : Tr.isNil (.node a b l r) = false := rfl
theorem isNil_nil : Tr.isNil .nil = true := rfl
theorem wf_nonnil {T : Tr} (h : wf T) : T.isNil = false := by
  cases T with
  | nil => exact h.elim
  | node => rfl
theorem bn_cases {n : Nat} (h : bn n = true) : n = 38 ∨ n = 124 ∨ n = 94 := by
  simpa [bn] using h
theorem lf_cases {n : Nat} (h : lf n = true) : lt5 n = true ∨ (lt5 n = false ∧ (n = 48 ∨ n = 49)) := by
  unfold lf at h
  cases h1 : lt5 n with
  | true => exact .inl rfl
  | false =>
    unfold lt5 at h1
    rw [h1] at h
    exact .inr ⟨rfl, by simpa using h⟩
theorem lt5_33 {n : Nat} (h : lt5 n = true) : ((n : Int) == 33) = false := by
  simp only [lt5, Bool.and_eq_true, decide_eq_true_eq] at h
  exact beq_eq_false_iff_ne.2 (by omega)

theorem pu_wf : ∀ (T : Tr) (neg : Bool), wf T → wf (pu T neg) ∧ (tx (pu T neg)).length ≤ 2 * (tx T).length := by
  intro T
  induction T with
  | nil => intro neg h; exact h.elim
  | node a b l r ihl ihr =>
    intro neg h
    have h0 := h
    obtain ⟨rfl, n, rfl, hn, h⟩ := h
    rcases h with ⟨h1, rfl, rfl⟩ | ⟨rfl, h1, rfl⟩ | ⟨h1, h2, h3⟩
    · rcases lf_cases h1 with h2 | ⟨h2, h3⟩
      · simp only [pu, lt5_33 h2, cond_false, Int.toNat_natCast, h2, cond_true]
        cases neg with
        | true => exact ⟨⟨rfl, 33, rfl, by decide, .inr (.inl ⟨rfl, h0, rfl⟩)⟩, by simp [tx]⟩
        | false => exact ⟨h0, by simp [tx]⟩
      · have e : ((n : Int) == 33) = false := by rcases h3 with rfl | rfl <;> rfl
        simp only [pu, e, cond_false, Int.toNat_natCast, h2, isNil_nil, cond_true]
        cases neg with
        | true => exact ⟨⟨rfl, oth n, rfl, by rcases h3 with rfl | rfl <;> decide, .inl ⟨by rcases h3 with rfl | rfl <;> rfl, rfl, rfl⟩⟩, by simp [tx]⟩
        | false => exact ⟨h0, by simp [tx]⟩
    · simp only [pu, show (((33 : Nat) : Int) == 33) = true from rfl, cond_true]
      obtain ⟨k1, k2⟩ := ihl (!neg) h1
      exact ⟨k1, by simp only [tx, List.length_cons, List.length_append]; omega⟩
    · have e : ((n : Int) == 33) = false := by rcases bn_cases h1 with rfl | rfl | rfl <;> rfl
      have e2 : lt5 n = false := by rcases bn_cases h1 with rfl | rfl | rfl <;> rfl
      obtain ⟨k1, k2⟩ := ihl neg h2
      obtain ⟨k3, k4⟩ := ihr neg h3
      obtain ⟨k5, k6⟩ := ihr false h3
      simp only [pu, e, cond_false, Int.toNat_natCast, e2, wf_nonnil h2]
      cases e3 : ((n : Int) == 94) with
      | true =>
        simp only [cond_true]
        exact ⟨⟨rfl, 94, rfl, by decide, .inr (.inr ⟨rfl, k1, k5⟩)⟩, by simp only [tx, List.length_cons, List.length_append]; omega⟩
      | false =>
        have hb : bn (oth n) = true ∧ oth n < 256 := by
          rcases bn_cases h1 with rfl | rfl | rfl
          · exact ⟨rfl, by decide⟩
          · exact ⟨rfl, by decide⟩
          · cases e3
        cases neg with
        | true => exact ⟨⟨rfl, oth n, rfl, hb.2, .inr (.inr ⟨hb.1, k1, k3⟩)⟩, by simp only [cond_false, cond_true, tx, List.length_cons, List.length_append]; omega⟩
        | false => exact ⟨⟨rfl, n, rfl, hn, .inr (.inr ⟨h1, k1, k3⟩)⟩, by simp only [cond_false, tx, List.length_cons, List.length_append]; omega⟩

theorem impl_other_eq (N n : Nat) (k : Int → Option β) : impl_other N (n : Int) k = k (oth n : Int) := by
  simp only [impl_other, oth]
  have g38 := natb n 38; have g124 := natb n 124; have g48 := natb n 48; have g49 := natb n 49
  simp only [Int.cast_ofNat_Int] at g38 g124 g48 g49
  rw [g38, g124, g48, g49]
  cases n == 38 <;> cases n == 124 <;> cases n == 48 <;> cases n == 49 <;> rfl

theorem isLeaf_eq (N : Nat) (a b : Int) (l r : Tr) (k : Bool → Option β) : impl_part_isLeaf N (.node a b l r) k = k l.isNil := rfl

theorem push_eq (N : Nat) : ∀ (F : Nat) (T : Tr) (neg : Bool), wf T → (tx T).length ≤ F → ∀ k : Tr → Option β, impl_part_push_f N F T neg k = k (pu T neg) := by
  intro F
  induction F with
  | zero => intro T neg h hF; have := tx_pos h; omega
  | succ F ih =>
    intro T neg h hF k
    cases T with
    | nil => exact h.elim
    | node a b l r =>
      have h0 := h
      obtain ⟨rfl, n, rfl, hn, h⟩ := h
      simp only [tx, List.length_cons, List.length_append] at hF
      simp only [impl_part_push_f, impl_part_push_b, isNil_node, Tr.a, Tr.l, Tr.r, Bool.not_false, gd, cond_true, isLetter_nat, isLeaf_eq, impl_other_eq]
      rcases h with ⟨h1, rfl, rfl⟩ | ⟨rfl, h1, rfl⟩ | ⟨h1, h2, h3⟩
      · rcases lf_cases h1 with h2 | ⟨h2, h3⟩
        · have h2' := h2
          simp only [lt5] at h2'
          simp only [pu, lt5_33 h2, cond_false, Int.toNat_natCast, h2, h2', cond_true, isNil_nil]
          cases neg <;> rfl
        · have e : ((n : Int) == 33) = false := by rcases h3 with rfl | rfl <;> rfl
          have h2' := h2
          simp only [lt5] at h2'
          simp only [pu, e, cond_false, Int.toNat_natCast, h2, h2', isNil_nil, cond_true]
          cases neg <;> rfl
      · simp only [pu, show (((33 : Nat) : Int) == 33) = true from rfl, cond_true]
        exact ih l (!neg) h1 (by omega) _
      · have e : ((n : Int) == 33) = false := by rcases bn_cases h1 with rfl | rfl | rfl <;> rfl
        have e2 : lt5 n = false := by rcases bn_cases h1 with rfl | rfl | rfl <;> rfl
        have e2' := e2
        simp only [lt5] at e2'
        simp only [pu, e, cond_false, Int.toNat_natCast, e2, e2', wf_nonnil h2]
        have p1 := fun k' => ih l neg h2 (by omega) k'
        have p2 := fun k' => ih r neg h3 (by omega) k'
        have p3 := fun k' => ih r false h3 (by omega) k'
        cases e3 : ((n : Int) == 94) with
        | true => simp only [cond_true]; rw [p1]; rw [p3]
        | false =>
          simp only [cond_false]
          cases neg with
          | true => simp only [cond_true]; rw [p1]; rw [p2]
          | false => simp only [cond_false]; rw [p1]; rw [p2]

theorem text_eq (N : Nat) : ∀ (F : Nat) (T : Tr), wf T → (tx T).length ≤ F → (tx T).length ≤ 1048576 → ∀ k : ByteArray → Option β, impl_part_text_f N F T k = k (B (tx T)) := by
  intro F
  induction F with
  | zero => intro T h hF; have := tx_pos h; omega
  | succ F ih =>
    intro T h hF hb k
    cases T with
    | nil => exact h.elim
    | node a b l r =>
      obtain ⟨rfl, n, rfl, hn, h⟩ := h
      simp only [tx, List.length_cons, List.length_append] at hF hb
      simp only [impl_part_text_f, impl_part_text_b, isNil_node, Tr.a, Tr.l, Tr.r, Bool.not_false, gd, cond_true, B_one]
      rcases h with ⟨h1, rfl, rfl⟩ | ⟨rfl, h1, rfl⟩ | ⟨h1, h2, h3⟩
      · simp [isNil_nil, tx]
      · rw [wf_nonnil h1]
        simp only [Bool.not_false, cond_true, isNil_nil, Bool.not_true, cond_false]
        rw [ih l h1 (by omega) (by omega)]
        simp only [B_size, B_app]
        rw [decide_eq_true (by simp; omega)]
        simp [tx]
      · rw [wf_nonnil h2, wf_nonnil h3]
        simp only [Bool.not_false, cond_true]
        rw [ih l h2 (by omega) (by omega)]
        simp only [B_size, B_app]
        rw [decide_eq_true (by simp; omega)]
        simp only [cond_true]
        rw [ih r h3 (by omega) (by omega)]
        simp only [B_size, B_app]
        rw [decide_eq_true (by simp; omega)]
        simp [tx]

/-- The reference's pushing, by places. -/
theorem l5Push_eq (N : Nat) (hN : 1048576 < N) (l : List UInt8) (hl : l.length ≤ 60) : ∀ (F : Nat) (T : Tr) (i : Nat) (r : List UInt8) (neg : Bool), wf T → l.drop i = tx T ++ r → (tx T).length ≤ F → i ≤ l.length → ∀ k : ByteArray → Option β,
    spec_l5Push_f N F (B l) (i : Int) neg k = k (B (tx (pu T neg))) := by
  intro F
  induction F with
  | zero => intro T i r neg h _ hF; have := tx_pos h; omega
  | succ F ih =>
    intro T i r neg h hd hF hi k
    obtain ⟨_, hlen⟩ := pu_wf T neg h
    cases T with
    | nil => exact h.elim
    | node a b A C =>
      have h0 := h
      obtain ⟨rfl, n, rfl, hn, h⟩ := h
      have hlt : i < l.length := by
        rcases Nat.lt_or_ge i l.length with h | h
        · exact h
        · rw [List.drop_eq_nil_of_le h] at hd; simp [tx] at hd
      have hat := hd
      rw [drop_at l i hlt] at hat
      simp only [tx, Int.toNat_natCast, List.cons_append, List.append_assoc, List.cons.injEq] at hat
      obtain ⟨hc, hr⟩ := hat
      have hcn : l[i].toNat = n := by rw [hc]; simp; omega
      have hsub : (tx (.node n 0 A C)).length + r.length = l.length - i := by rw [← List.length_append, ← hd, List.length_drop]
      simp only [tx, List.length_cons, List.length_append] at hF hsub
      simp only [spec_l5Push_f, spec_l5Push_b, B_size]
      rw [gd_true (decide_eq_true (by omega)), gd_true (decide_eq_true (by omega)), B_bt l i hlt, hcn]
      rw [show w64 ((i : Int) + 1) = ((i + 1 : Nat) : Int) by rw [w64_id] <;> omega]
      rcases h with ⟨h1, rfl, rfl⟩ | ⟨rfl, h1, rfl⟩ | ⟨h1, h2, h3⟩
      · have hx : (B l).extract (Int.toNat (i : Int)) (Int.toNat ((i + 1 : Nat) : Int)) = B [UInt8.ofNat n] := by
          rw [B_ext]
          congr 1
          rw [Int.toNat_natCast, Int.toNat_natCast, List.take_add_one, List.drop_append_of_le_length (by simp; omega)]
          simp [hlt, hc]
        rw [hx]
        have g33 := natb n 33; have g38 := natb n 38; have g124 := natb n 124; have g94 := natb n 94; have g48 := natb n 48; have g49 := natb n 49
        simp only [Int.cast_ofNat_Int] at g33 g38 g124 g94 g48 g49
        rw [g33, g38, g124, g94, g48, g49]
        rcases lf_cases h1 with h2 | ⟨h2, h3⟩
        · have h2' := h2
          simp only [lt5, Bool.and_eq_true, decide_eq_true_eq] at h2'
          rw [beq_eq_false_iff_ne.2 (show n ≠ 33 by omega), beq_eq_false_iff_ne.2 (show n ≠ 38 by omega), beq_eq_false_iff_ne.2 (show n ≠ 124 by omega), beq_eq_false_iff_ne.2 (show n ≠ 94 by omega), beq_eq_false_iff_ne.2 (show n ≠ 48 by omega), beq_eq_false_iff_ne.2 (show n ≠ 49 by omega)]
          simp only [cond_false, pu, lt5_33 h2, Int.toNat_natCast, h2, cond_true]
          have q1 : decide ((0 : Int) ≤ ((i + 1 : Nat) : Int)) = true := decide_eq_true (by omega)
          have q2 : decide (((i + 1 : Nat) : Int) ≤ (l.length : Int)) = true := decide_eq_true (by omega)
          have q3 : decide ((0 : Int) ≤ (i : Int)) = true := decide_eq_true (by omega)
          have q4 : decide ((i : Int) ≤ ((i + 1 : Nat) : Int)) = true := decide_eq_true (by omega)
          simp only [q1, q2, q3, q4, gd, cond_true]
          cases neg with
          | true => simp [B_strOf, B_size, B_app, tx]
          | false => simp [tx]
        · rcases h3 with rfl | rfl <;> cases neg <;> rfl
      · simp only [show (((33 : Nat) : Int) == 33) = true from rfl, cond_true, pu]
        refine ih A (i + 1) r (!neg) h1 ?_ (by omega) (by omega) k
        simpa [tx] using hr
      · have hr' : l.drop (i + 1) = tx A ++ (tx C ++ r) := by simpa using hr
        have hpt : pt N (l.drop (i + 1)) = some (A, tx C ++ r) := by rw [hr']; exact pt_tx A N _ h2 (by omega)
        obtain ⟨s1, s2, s3, s4⟩ := suffix_at hr' (by omega)
        have hend : ∀ k' : Int → Option β, spec_l5End N (B l) ((i + 1 : Nat) : Int) k' = k' ((l.length - (tx C ++ r).length : Nat) : Int) := fun k' => by
          show spec_l5End_f N N (B l) _ _ = _
          rw [l5End_eq N l (by omega) N (i + 1) (by omega) (by omega), hpt]
        have p1 := fun (neg : Bool) k' => ih A (i + 1) _ neg h2 hr' (by omega) (by omega) k'
        have p2 := fun (neg : Bool) k' => ih C _ r neg h3 s1 (by omega) s2 k'
        have b1 := fun neg => (pu_wf A neg h2).2
        have b2 := fun neg => (pu_wf C neg h3).2
        have e : ((n : Int) == 33) = false := by rcases bn_cases h1 with rfl | rfl | rfl <;> rfl
        have e2 : lt5 n = false := by rcases bn_cases h1 with rfl | rfl | rfl <;> rfl
        simp only [pu, e, cond_false, Int.toNat_natCast, e2, wf_nonnil h2]
        have bt1 := b1 true; have bf1 := b1 false; have bt2 := b2 true; have bf2 := b2 false
        have two : ∀ (d : Int) (x y : Bool), (spec_l5Push_f N F (B l) ((i + 1 : Nat) : Int) x fun r5 => cond (decide ((strOf [d]).size + r5.size ≤ 9223372036854775807)) (spec_l5End N (B l) ((i + 1 : Nat) : Int) fun r6 => spec_l5Push_f N F (B l) r6 y fun r7 =>
            cond (decide ((strOf [d] ++ r5).size + r7.size ≤ 9223372036854775807)) (k (strOf [d] ++ r5 ++ r7)) none) none) = k (B (UInt8.ofNat d.toNat :: (tx (pu A x) ++ tx (pu C y)))) := by
          intro d x y
          have b1 := b1 x; have b2 := b2 y
          rw [p1 x]
          rw [hend, p2 y]
          simp only [B_strOf, B_size, B_app, List.map_cons, List.map_nil, List.length_cons, List.length_nil, List.cons_append, List.nil_append]
          rw [decide_eq_true (by omega), decide_eq_true (by omega)]
          rfl
        rcases bn_cases h1 with rfl | rfl | rfl
        · cases neg
          · exact two 38 false false
          · exact two 124 true true
        · cases neg
          · exact two 124 false false
          · exact two 38 true true
        · exact two 94 neg false

/-- The answer. -/
def pushed (l : List UInt8) : Option (List UInt8) :=
  cond (decide (l.length ≤ 60)) (match pt 1048577 l with
    | some (T, []) => cond (decide ((tx (pu T false)).length ≤ 60)) (some (tx (pu T false))) none
    | _ => none) none
def ansP (o : Option (List UInt8)) (k : ByteArray → Bool → Option β) : Option β := match o with
  | some t => k (B t) true
  | none => k (B []) false
theorem pt_fuel (N : Nat) (hN : 1048576 < N) (l : List UInt8) (h60 : l.length ≤ 60) : pt N l = pt 1048577 l := by
  cases h1 : pt N l with
  | some p =>
    obtain ⟨T, r⟩ := p
    obtain ⟨w1, w2⟩ := pt_wf _ _ _ _ h1
    rw [w2, pt_tx T _ r w1]
    rw [w2] at h60; simp at h60; omega
  | none =>
    cases h2 : pt 1048577 l with
    | none => rfl
    | some p =>
      obtain ⟨T, r⟩ := p
      obtain ⟨w1, w2⟩ := pt_wf _ _ _ _ h2
      rw [w2, pt_tx T _ r w1] at h1
      · cases h1
      · rw [w2] at h60; simp at h60; omega

theorem spec_PushNegations_eq (N : Nat) (hN : 1048576 < N) (l : List UInt8) (k : ByteArray → Bool → Option β) : spec_PushNegations N (B l) k = ansP (pushed l) k := by
  unfold spec_PushNegations pushed
  rw [spec_IsFormula_eq N hN]
  by_cases h60 : l.length ≤ 60
  · rw [decide_eq_true h60]
    simp only [Bool.true_and, cond_true]
    cases hp : pt 1048577 l with
    | none => rfl
    | some p =>
      obtain ⟨T, r⟩ := p
      obtain ⟨w1, w2⟩ := pt_wf _ _ _ _ hp
      cases r with
      | cons c r => rfl
      | nil =>
        simp only [Bool.not_true, cond_false]
        rw [List.append_nil] at w2
        obtain ⟨v1, v2⟩ := pu_wf T false w1
        have hlT : (tx T).length = l.length := by rw [← w2]
        simp only [spec_l5Push]
        rw [show (0 : Int) = ((0 : Nat) : Int) from rfl, l5Push_eq N hN l h60 N T 0 [] false w1 (by simpa using w2) (by omega) (by omega), spec_IsFormula_eq N hN]
        have : pt 1048577 (tx (pu T false)) = some (pu T false, []) := by
          have := pt_tx (pu T false) 1048577 [] v1 (by omega)
          rwa [List.append_nil] at this
        rw [this]
        simp only [Bool.and_true]
        cases decide ((tx (pu T false)).length ≤ 60) <;> rfl
  · rw [decide_eq_false h60]
    rfl

theorem impl_PushNegations_eq (N : Nat) (hN : 1048576 < N) (l : List UInt8) (k : ByteArray → Bool → Option β) : impl_PushNegations N (B l) k = ansP (pushed l) k := by
  unfold impl_PushNegations impl_readFormula pushed
  rw [B_size]
  by_cases h60 : l.length ≤ 60
  · rw [decide_eq_true h60, decide_eq_false (show ¬ (l.length : Int) > 60 by omega)]
    simp only [cond_true, cond_false, impl_readPart]
    rw [readPart_eq N N l (by omega), pt_fuel N hN l h60]
    cases hp : pt 1048577 l with
    | none => rfl
    | some p =>
      obtain ⟨T, r⟩ := p
      obtain ⟨w1, w2⟩ := pt_wf _ _ _ _ hp
      simp only [wf_nonnil w1, Bool.not_false, cond_true, B_nil, B_toList]
      cases r with
      | cons c r => rfl
      | nil =>
        rw [show (([] : List UInt8) == []) = true from rfl]
        simp only [Bool.not_true, cond_false]
        rw [List.append_nil] at w2
        obtain ⟨v1, v2⟩ := pu_wf T false w1
        have hlT : (tx T).length = l.length := by rw [← w2]
        simp only [impl_part_push]
        rw [push_eq N N T false w1 (by omega)]
        simp only [impl_part_text]
        rw [text_eq N N _ v1 (by omega) (by omega), B_size]
        by_cases h2 : (tx (pu T false)).length ≤ 60
        · rw [decide_eq_true h2, decide_eq_false (by omega)]; rfl
        · rw [decide_eq_false h2, decide_eq_true (by omega)]; rfl
  · rw [decide_eq_false h60, decide_eq_true (show (l.length : Int) > 60 by omega)]
    rfl

theorem law_PushNegations (N : Nat) (hN : 1048576 < N) (s : ByteArray) (hs : (s.size : Int) ≤ 9223372036854775807) (k : Bool → Option β) : laws_FnExactPushNegations N s k = k true := by
  unfold laws_FnExactPushNegations
  cases h0 : decide ((s.size : Int) > 1048576) with
  | true => rfl
  | false =>
    simp only [cond_false]
    obtain ⟨l, rfl⟩ : ∃ l, s = B l := ⟨s.data.toList, (B_data s).symm⟩
    have same : ∀ (t : ByteArray) (b : Bool), cond (!(t.toList == t.toList)) (k false) (cond (!(b == b)) (k false) (k true)) = k true := by intro t b; simp
    rw [spec_PushNegations_eq N hN]
    cases h : pushed l with
    | none => simp only [ansP]; rw [impl_PushNegations_eq N hN, h]; exact same _ _
    | some t => simp only [ansP]; rw [impl_PushNegations_eq N hN, h]; exact same _ _
end Go.Proofs.Ytfdggelojmofmaa
