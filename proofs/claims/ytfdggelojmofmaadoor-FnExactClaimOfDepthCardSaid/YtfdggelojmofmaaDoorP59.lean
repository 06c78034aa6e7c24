/- Plain laws of the texts: the depth of a tree; claims of depth. -/
import Derived.Test.YtfdggelojmofmaaDoorP58
namespace Go.Proofs.YtfdggelojmofmaaDoor
open Go.Rv
set_option linter.unusedVariables false
variable {β : Type}
/-- How deep a tree is. -/
def hd : Tr → Nat
  | .nil => 0
  | .node _ _ a c => if a.isNil then 0 else 1 + max (hd a) (hd c)
/-- How much is asked for an input. -/
def asked (x : Nat) : Tr → Nat
  | .nil => 0
  | .node s _ a c => if a.isNil then 0 else 1 + (if x.testBit (s.toNat - 97) then asked x c else asked x a)
/-- Trees of questions. -/
def gt : Tr → Prop
  | .nil => False
  | .node s b a c => b = 0 ∧ ∃ n : Nat, s = n ∧ (((n = 48 ∨ n = 49) ∧ a = .nil ∧ c = .nil) ∨ (97 ≤ n ∧ n < 102 ∧ gt a ∧ gt c))
theorem gt_nil {T : Tr} (h : gt T) : T.isNil = false := by
  cases T with
  | nil => exact h.elim
  | node => rfl
theorem asked_le (x : Nat) : ∀ T, asked x T ≤ hd T
  | .nil => Nat.le_refl _
  | .node s b a c => by
    have h1 := asked_le x a
    have h2 := asked_le x c
    simp only [asked, hd]
    cases a.isNil with
    | true => exact Nat.le_refl _
    | false =>
      simp only [Bool.false_eq_true, if_false]
      split <;> omega
def setb (x j : Nat) (b : Bool) : Nat := cond b (x ||| 2 ^ j) (x &&& (31 ^^^ 2 ^ j))
theorem setb_spec : ∀ x, x < 32 → ∀ j, j < 5 → (setb x j true < 32 ∧ (setb x j true).testBit j = true ∧ setb x j false < 32 ∧ (setb x j false).testBit j = false) ∧ ∀ i, i < 5 → i ≠ j → (setb x j true).testBit i = x.testBit i ∧ (setb x j false).testBit i = x.testBit i := by decide +kernel
theorem tt_gt : ∀ (F : Nat) (l : List UInt8) (m : Nat) (T : Tr) (r : List UInt8), m < 32 → tt F l m = some (T, r) → gt T ∧ hd T + ones m ≤ 5 ∧
    ∀ x, x < 32 → ∃ y, y < 32 ∧ (∀ i, i < 5 → m.testBit i = true → y.testBit i = x.testBit i) ∧ asked y T = hd T := by
  intro F
  induction F with
  | zero => intro l m T r _ h; cases h
  | succ F ih =>
    intro l m T r hm h
    cases l with
    | nil => cases h
    | cons c l =>
      have ho : ones m ≤ 5 := (mask_small m hm 0 (by decide)).2.2
      simp only [tt] at h
      cases h1 : (c.toNat == 48 || c.toNat == 49) with
      | true =>
        rw [h1, cond_true] at h
        cases h
        simp only [Bool.or_eq_true, beq_iff_eq] at h1
        exact ⟨⟨rfl, c.toNat, rfl, .inl ⟨h1, rfl, rfl⟩⟩, by simpa [hd, Tr.isNil] using ho, fun x hx => ⟨x, hx, fun _ _ _ => rfl, rfl⟩⟩
      | false =>
        rw [h1, cond_false] at h
        cases h2 : (ltr c.toNat && !m.testBit (c.toNat - 97)) with
        | false => rw [h2] at h; cases h
        | true =>
          rw [h2, cond_true] at h
          simp only [ltr, Bool.and_eq_true, decide_eq_true_eq, Bool.not_eq_true'] at h2
          obtain ⟨m1, m2, _⟩ := mask_small m hm (c.toNat - 97) (by omega)
          have m2 : ones (m ||| 2 ^ (c.toNat - 97)) = ones m + 1 := by
            rcases m2 with m2 | m2
            · rw [h2.2] at m2; cases m2
            · exact m2
          cases h4 : tt F l (m ||| 2 ^ (c.toNat - 97)) with
          | none => rw [h4] at h; cases h
          | some p =>
            obtain ⟨U, r1⟩ := p
            rw [h4] at h
            simp only at h
            cases h5 : tt F r1 (m ||| 2 ^ (c.toNat - 97)) with
            | none => rw [h5] at h; cases h
            | some q =>
              obtain ⟨V, r2⟩ := q
              rw [h5] at h
              cases h
              obtain ⟨a1, a2, a3⟩ := ih _ _ _ _ m1 h4
              obtain ⟨b1, b2, b3⟩ := ih _ _ _ _ m1 h5
              have hU := gt_nil a1
              have e : hd (.node (c.toNat : Int) 0 U V) = 1 + max (hd U) (hd V) := by simp only [hd]; rw [hU, if_neg (by decide)]
              refine ⟨⟨rfl, c.toNat, rfl, .inr ⟨h2.1.1, h2.1.2, a1, b1⟩⟩, by omega, fun x hx => ?_⟩
              have hj : c.toNat - 97 < 5 := by omega
              have hmj := h2.2
              have ea : ∀ y : Nat, asked y (.node (c.toNat : Int) 0 U V) = 1 + (if y.testBit (c.toNat - 97) then asked y V else asked y U) := fun y => by
                simp only [asked]; rw [hU, if_neg (by decide)]; rfl
              rw [e]
              generalize c.toNat - 97 = j at hj hmj a3 b3 ea
              obtain ⟨⟨s1, s2, s3, s4⟩, s5⟩ := setb_spec x hx j hj
              have hself : (m ||| 2 ^ j).testBit j = true := by rw [Nat.testBit_or, Nat.testBit_two_pow_self, Bool.or_true]
              have hsub : ∀ i, m.testBit i = true → (m ||| 2 ^ j).testBit i = true := fun i hi => by rw [Nat.testBit_or, hi, Bool.true_or]
              have hne : ∀ i, m.testBit i = true → i ≠ j := fun i hi e => by rw [e, hmj] at hi; cases hi
              by_cases hle : hd U ≤ hd V
              · obtain ⟨y, y1, y2, y3⟩ := b3 _ s1
                refine ⟨y, y1, fun i hi hmi => ?_, ?_⟩
                · rw [y2 i hi (hsub i hmi)]
                  exact (s5 i hi (hne i hmi)).1
                · rw [ea, y2 j hj hself, s2, if_pos rfl, y3]; omega
              · obtain ⟨y, y1, y2, y3⟩ := a3 _ s3
                refine ⟨y, y1, fun i hi hmi => ?_, ?_⟩
                · rw [y2 i hi (hsub i hmi)]
                  exact (s5 i hi (hne i hmi)).2
                · rw [ea, y2 j hj hself, s4, if_neg (by decide), y3]; omega

theorem tree_depth_eq (N : Nat) : ∀ (F : Nat) (T : Tr), gt T → hd T < F → hd T < 1000 → ∀ k : Int → Option β, impl_tree_depth_f N F T k = k (hd T : Int) := by
  intro F
  induction F with
  | zero => intro T _ h; omega
  | succ F ih =>
    intro T hg hF hb k
    cases T with
    | nil => exact hg.elim
    | node s b a c =>
      obtain ⟨_, n, hs, h⟩ := hg
      have e1 : (Tr.node s b a c).isNil = false := rfl
      have e2 : (Tr.node s b a c).l = a := rfl
      have e3 : (Tr.node s b a c).r = c := rfl
      simp only [impl_tree_depth_f, impl_tree_depth_b, e1, e2, e3, Bool.not_false, gd, cond_true]
      rcases h with ⟨_, rfl, rfl⟩ | ⟨_, _, ga, gc⟩
      · rfl
      · have hna := gt_nil ga
        simp only [hd] at hF hb ⊢
        rw [hna, if_neg (by decide)] at hF hb
        rw [hna, cond_false, if_neg (by decide), ih a ga (by omega) (by omega), ih c gc (by omega) (by omega), mxI_nat, show (1 : Int) + ((max (hd a) (hd c) : Nat) : Int) = ((1 + max (hd a) (hd c) : Nat) : Int) by omega, w64_nat _ (by omega)]

theorem drop_cons {l r : List UInt8} {c : UInt8} {i : Nat} (h : l.drop i = c :: r) : i < l.length ∧ bt (B l) (i : Int) = (c.toNat : Int) ∧ l.drop (i + 1) = r := by
  have hi : i < l.length := by
    rcases Nat.lt_or_ge i l.length with h1 | h1
    · exact h1
    · rw [List.drop_eq_nil_of_le h1] at h; cases h
  rw [drop_at l i hi] at h
  injection h with h1 h2
  exact ⟨hi, by rw [B_bt l i hi, h1], h2⟩
theorem byte_of (n : Nat) (h : n < 256) : (UInt8.ofNat n).toNat = n := by
  rw [UInt8.toNat_ofNat']; exact Nat.mod_eq_of_lt h
theorem node_bt {l r : List UInt8} {n i : Nat} {a c : Tr} (hn : n < 256) (h : l.drop i = tx (.node (n : Int) 0 a c) ++ r) : i < l.length ∧ bt (B l) (i : Int) = (n : Int) ∧ l.drop (i + 1) = tx a ++ (tx c ++ r) := by
  simp only [tx, Int.toNat_natCast, List.cons_append, List.append_assoc] at h
  have := drop_cons h
  rw [byte_of n hn] at this
  exact this
theorem drop_more {l m r : List UInt8} {i : Nat} (h : l.drop i = m ++ r) : l.drop (i + m.length) = r := by
  rw [← List.drop_drop, h]; simp
theorem l7Skip_eq (N : Nat) (l : List UInt8) (hl : l.length ≤ 1048576) : ∀ (F : Nat) (T : Tr) (i : Nat) (r : List UInt8), gt T → l.drop i = tx T ++ r → (tx T).length ≤ F → ∀ k : Int → Option β,
    spec_l7Skip_f N F (B l) (i : Int) k = k ((i + (tx T).length : Nat) : Int) := by
  intro F
  induction F with
  | zero =>
    intro T i r hg _ h
    cases T with
    | nil => exact hg.elim
    | node => simp [tx] at h
  | succ F ih =>
    intro T i r hg hd hF k
    cases T with
    | nil => exact hg.elim
    | node s b a c =>
      obtain ⟨rfl, n, rfl, h⟩ := hg
      have hn : n < 256 := by rcases h with ⟨h, _⟩ | ⟨_, h, _⟩ <;> omega
      obtain ⟨hi, hb, hr⟩ := node_bt hn hd
      simp only [spec_l7Skip_f, spec_l7Skip_b, hb, B_size]
      have g1 : decide ((0 : Int) ≤ (i : Int)) = true := decide_eq_true (by omega)
      have g2 : decide ((i : Int) < (l.length : Int)) = true := decide_eq_true (by omega)
      simp only [g1, g2, gd, cond_true]
      rw [show w64 ((i : Int) + 1) = ((i + 1 : Nat) : Int) by rw [w64_id] <;> omega]
      have e48 : ((n : Int) == 48) = (n == 48) := natb n 48
      have e49 : ((n : Int) == 49) = (n == 49) := natb n 49
      rw [e48, e49]
      simp only [tx, List.length_cons, List.length_append] at hF ⊢
      rcases h with ⟨h, rfl, rfl⟩ | ⟨h1, h2, ga, gc⟩
      · rcases h with rfl | rfl <;> rfl
      · rw [beq_eq_false_iff_ne.2 (by omega : n ≠ 48), beq_eq_false_iff_ne.2 (by omega : n ≠ 49), cond_false, cond_false, ih a (i + 1) _ ga hr (by omega), ih c _ r gc (drop_more hr) (by omega)]
        congr 2
        omega
theorem l7Run_eq (N : Nat) (l : List UInt8) (hl : l.length ≤ 1048576) (hN : 1048576 < N) (x : Nat) (hx : x < 32) : ∀ (F : Nat) (T : Tr) (i c : Nat) (r : List UInt8), gt T → l.drop i = tx T ++ r → hd T < F → hd T + c < 1000 →
    ∃ p, p < l.length ∧ ∀ k0 : ByteArray → Int → Int → Option β, spec_l7Run_l0 N F (B l) (x : Int) (i : Int) (c : Int) k0 = k0 (B l) (p : Int) ((c + asked x T : Nat) : Int) := by
  intro F
  induction F with
  | zero => intro T i c r _ _ h; omega
  | succ F ih =>
    intro T i q r hg hdr hF hq
    cases T with
    | nil => exact hg.elim
    | node s b a c =>
      obtain ⟨rfl, n, rfl, h⟩ := hg
      have hn : n < 256 := by rcases h with ⟨h, _⟩ | ⟨_, h, _⟩ <;> omega
      obtain ⟨hi, hb, hr⟩ := node_bt hn hdr
      simp only [spec_l7Run_l0, spec_l7Run_l0b, hb, B_size]
      have g1 : decide ((0 : Int) ≤ (i : Int)) = true := decide_eq_true (by omega)
      have g2 : decide ((i : Int) < (l.length : Int)) = true := decide_eq_true (by omega)
      simp only [g1, g2, gd, cond_true]
      rw [show w64 ((i : Int) + 1) = ((i + 1 : Nat) : Int) by rw [w64_id] <;> omega, show w64 ((q : Int) + 1) = ((q + 1 : Nat) : Int) by rw [w64_id] <;> omega]
      have e48 : ((n : Int) != 48) = !(n == 48) := congrArg Bool.not (natb n 48)
      have e49 : ((n : Int) != 49) = !(n == 49) := congrArg Bool.not (natb n 49)
      rw [e48, e49]
      rcases h with ⟨h, rfl, rfl⟩ | ⟨h1, h2, ga, gc⟩
      · refine ⟨i, hi, fun k0 => ?_⟩
        rcases h with rfl | rfl <;> rfl
      · have hna := gt_nil ga
        simp only [hd] at hF hq
        rw [hna, if_neg (by decide)] at hF hq
        have ea : asked x (.node (n : Int) 0 a c) = 1 + (if x.testBit (n - 97) then asked x c else asked x a) := by
          simp only [asked]; rw [hna, if_neg (by decide)]; rfl
        rw [ea]
        have ew : w8 ((n : Int) - 97) = ((n - 97 : Nat) : Int) := by rw [show (n : Int) - 97 = ((n - 97 : Nat) : Int) by omega, w8_small _ (by omega)]
        simp only [beq_eq_false_iff_ne.2 (by omega : n ≠ 48), beq_eq_false_iff_ne.2 (by omega : n ≠ 49), Bool.not_false, cond_true, ew, decide_eq_true (Int.natCast_nonneg (n - 97)), bit_w x (n - 97) (by omega), bw_eq1]
        cases hbit : x.testBit (n - 97) with
        | false =>
          obtain ⟨p, hp, he⟩ := ih a (i + 1) (q + 1) _ ga hr (by omega) (by omega)
          refine ⟨p, hp, fun k0 => ?_⟩
          rw [cond_false, he, if_neg (by decide)]
          congr 2
          omega
        | true =>
          obtain ⟨p, hp, he⟩ := ih c (i + 1 + (tx a).length) (q + 1) r gc (drop_more hr) (by omega) (by omega)
          have hlen : (tx a).length ≤ N := by
            have := congrArg List.length hr
            rw [List.length_drop, List.length_append] at this
            omega
          refine ⟨p, hp, fun k0 => ?_⟩
          unfold spec_l7Skip
          rw [cond_true, l7Skip_eq N l hl N a (i + 1) _ ga hr hlen, he, if_pos rfl]
          congr 2
          omega

def mxTo (h : Nat → Nat) : Nat → Nat
  | 0 => 0
  | i + 1 => max (mxTo h i) (h i)
theorem mxTo_le {h : Nat → Nat} {b : Nat} (hb : ∀ i, h i ≤ b) : ∀ m, mxTo h m ≤ b
  | 0 => Nat.zero_le _
  | m + 1 => by have := mxTo_le hb m; have := hb m; simp only [mxTo]; omega
theorem mxTo_ge (h : Nat → Nat) : ∀ m i, i < m → h i ≤ mxTo h m
  | m + 1, i, hi => by
    simp only [mxTo]
    by_cases e : i = m
    · subst e; omega
    · have := mxTo_ge h m i (by omega); omega
/-- What both texts tell of the depth of a tree. -/
def depthT (N : Nat) (l : List UInt8) : Int := match tt N l 0 with | some (T, []) => (hd T : Int) | _ => -1
theorem spec_QueriesOf_eq (N : Nat) (hN : 1048576 < N) (l : List UInt8) (hl : l.length ≤ 1048576) (T : Tr) (ht : tt N l 0 = some (T, [])) (x : Nat) (hx : x < 32) (k : Int → Option β) :
    spec_QueriesOf N (B l) (x : Int) k = k (asked x T : Int) := by
  obtain ⟨g1, g2, _⟩ := tt_gt _ _ _ _ _ (by decide) ht
  obtain ⟨_, a2, _⟩ := tt_spec _ _ _ _ _ (by decide) ht
  unfold spec_QueriesOf
  have hi : isTree N l = true := by unfold isTree; rw [ht]
  rw [spec_IsTree_eq N hN l hl, hi, Bool.not_true, cond_false, spec_l1In_eq, decide_eq_true (by omega), decide_eq_true (by omega), Bool.and_self, Bool.not_true, cond_false]
  unfold spec_l7Run
  obtain ⟨p, hp, he⟩ := l7Run_eq (β := β) N l hl hN x hx N T 0 0 [] g1 (by rw [List.drop_zero]; exact a2) (by omega) (by omega)
  simp only [Int.natCast_zero] at he
  rw [he, B_size, gd_true (decide_eq_true (by omega)), gd_true (decide_eq_true (by omega)), Nat.zero_add]
theorem spec_DepthOfTree_eq (N : Nat) (hN : 1048576 < N) (l : List UInt8) (hl : l.length ≤ 1048576) (k : Int → Option β) : spec_DepthOfTree N (B l) k = k (depthT N l) := by
  unfold spec_DepthOfTree
  rw [spec_IsTree_eq N hN l hl]
  unfold depthT isTree
  cases ht : tt N l 0 with
  | none => rfl
  | some p =>
    obtain ⟨T, r⟩ := p
    cases r with
    | cons c r => rfl
    | nil =>
      obtain ⟨g1, g2, g3⟩ := tt_gt _ _ _ _ _ (by decide) ht
      obtain ⟨y, y1, _, y3⟩ := g3 0 (by decide)
      have e : mxTo (fun x => asked x T) 32 = hd T := by
        have h1 := mxTo_le (h := fun x => asked x T) (fun i => asked_le i T) 32
        have h2 := mxTo_ge (fun x => asked x T) 32 y y1
        have h2 : asked y T ≤ mxTo (fun x => asked x T) 32 := h2
        omega
      show spec_DepthOfTree_l0 N N (B l) ((0 : Nat) : Int) ((0 : Nat) : Int) (fun e => k e) = k (hd T : Int)
      rw [← e]
      refine loop_st (fun F i => spec_DepthOfTree_l0 N F (B l) (mxTo (fun x => asked x T) i : Int) (i : Int) k) 32 _ ?_ ?_ N 0 (Nat.zero_le _) (by omega)
      · intro F i hi
        simp only [spec_DepthOfTree_l0, spec_DepthOfTree_l0b]
        rw [decide_eq_true (by omega : (i : Int) < 32), cond_true, spec_QueriesOf_eq N hN l hl T ht i hi, mxI_nat, w64_succ i (by omega)]
        rfl
      · intro F
        rfl
theorem impl_DepthOfTree_eq (N : Nat) (hN : 1048576 < N) (l : List UInt8) (hl : l.length ≤ 1048576) (k : Int → Option β) : impl_DepthOfTree N (B l) k = k (depthT N l) := by
  unfold impl_DepthOfTree impl_wholeTree impl_readTree depthT
  have := fun k => readTree_eq (β := β) N N l 0 (by omega) (by decide) k
  simp only [Int.natCast_zero] at this
  rw [this]
  cases ht : tt N l 0 with
  | none => rfl
  | some p =>
    obtain ⟨T, r⟩ := p
    obtain ⟨g1, g2, _⟩ := tt_gt _ _ _ _ _ (by decide) ht
    obtain ⟨a1, _, _⟩ := tt_spec _ _ _ _ _ (by decide) ht
    simp only [a1, Bool.not_false, cond_true, B_nil, B_toList]
    cases r with
    | cons c r => rfl
    | nil => exact tree_depth_eq N N T g1 (by omega) (by omega) k

theorem law_ClaimOfDepth (N : Nat) (hN : 1048576 < N) (a0 a1 : Int) (h0 : -9223372036854775808 ≤ a0 ∧ a0 ≤ 9223372036854775807) (h1 : -9223372036854775808 ≤ a1 ∧ a1 ≤ 9223372036854775807) (k : Bool → Option β) :
    laws_FnExactClaimOfDepth N a0 a1 k = k true := by
  have hl := bestT_len N a0 a1
  have e0 : ([] : List Int).length ≤ 1048576 := by simp
  have hc : ∀ n : Nat, decide (((1 + n : Nat) : Int) < 0) = false := fun n => decide_eq_false (by omega)
  unfold laws_FnExactClaimOfDepth laws_toTable spec_ClaimOfDepth impl_ClaimOfDepth
  simp only [spec_BestTree_eq N (by omega), impl_BestTree_eq N (by omega) a0 a1 (by omega)]
  have hb : (bestT N a0 a1).length ≤ 1048576 := by omega
  cases smallT a0 a1 4 with
  | true => simp only [spec_DepthOfTree_eq N hN _ hb, impl_DepthOfTree_eq N hN _ hb, laws_eqClaim_same N _ _ _ _ _ _ _ e0 hN, laws_markClaim_eq N _ _ _ _ _ _ _ e0 hN, laws_heldClaim_eq N _ _ _ _ _ _ _ e0 hN, hc, beq_self_eq_true, Bool.not_true, cond_false, bne_self_eq_false]
  | false => simp only [laws_eqClaim_same N _ _ _ _ _ _ _ e0 hN, laws_markClaim_eq N _ _ _ _ _ _ _ e0 hN, laws_heldClaim_eq N _ _ _ _ _ _ _ e0 hN, hc, beq_self_eq_true, Bool.not_true, Bool.not_false, cond_true, cond_false, bne_self_eq_false]
end Go.Proofs.YtfdggelojmofmaaDoor
