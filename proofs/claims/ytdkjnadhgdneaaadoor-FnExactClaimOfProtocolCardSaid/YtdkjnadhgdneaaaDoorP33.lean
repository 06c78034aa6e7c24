/- Plain laws of the texts: protocols: the program's least number of bits, which it remembers. -/
import Derived.Test.YtdkjnadhgdneaaaDoorP32
namespace Go.Proofs.YtdkjnadhgdneaaaDoor
open Go.Rv
set_option linter.unusedVariables false
variable {β : Type}
theorem gd_t (x : Option β) : gd true x = x := rfl
theorem not_in : ∀ A, A < 16 → ∀ d, d < 16 → (d ^^^ (d &&& A) == 0) = (d &&& A == d) := by decide +kernel
theorem out_of : ∀ A, A < 16 → ∀ d, d < 16 → sub A d = true → A ^^^ (A &&& d) = A - d := by decide +kernel
theorem nat_beq (a b : Nat) : ((a : Int) == (b : Int)) = (a == b) := by
  rw [Bool.eq_iff_iff, beq_iff_eq, beq_iff_eq]
  omega
theorem nat_bne0 (a : Nat) : ((a : Int) != 0) = !(a == 0) := by
  have := nat_beq a 0
  simp only [Int.natCast_zero] at this
  simp only [bne, this]
theorem parted_row (N A B d : Nat) (hA : A < 16) (hd : d < 16) (K : Int → Int → Int → Int → Bool → Option β) :
    impl_sides_parted N (A : Int) (B : Int) 65 (d : Int) K = if sub A d then K ((A - d : Nat) : Int) (B : Int) (d : Int) (B : Int) true else K (A : Int) (B : Int) (A : Int) (B : Int) false := by
  have e0 : ((65 : Int) == 66) = false := rfl
  have e1 : ((d : Int) == 0) = (d == 0) := nat_beq d 0
  have h1 := out_of A hA d hd
  simp only [impl_sides_parted, impl_sides_parted_s5, impl_sides_parted_s6, impl_sides_parted_s10, beq_self_eq_true, gd_t, e0, cond_false, cond_true, e1, nat_beq, bAndNot d A (by omega) (by omega), bAndNot A d (by omega) (by omega), nat_bne0, not_in A hA d hd]
  unfold sub at h1 ⊢
  cases h2 : d == 0 <;> cases h3 : d == A <;> cases h4 : (d &&& A == d) <;> simp_all [bne]
theorem parted_col (N A B d : Nat) (hB : B < 16) (hd : d < 16) (K : Int → Int → Int → Int → Bool → Option β) :
    impl_sides_parted N (A : Int) (B : Int) 66 (d : Int) K = if sub B d then K (A : Int) ((B - d : Nat) : Int) (A : Int) (d : Int) true else K (A : Int) (B : Int) (A : Int) (B : Int) false := by
  have e0 : ((66 : Int) == 65) = false := rfl
  have e1 : ((d : Int) == 0) = (d == 0) := nat_beq d 0
  have h1 := out_of B hB d hd
  simp only [impl_sides_parted, impl_sides_parted_s5, impl_sides_parted_s6, impl_sides_parted_s10, beq_self_eq_true, gd_t, e0, cond_false, cond_true, e1, nat_beq, bAndNot d B (by omega) (by omega), bAndNot B d (by omega) (by omega), nat_bne0, not_in B hB d hd]
  unfold sub at h1 ⊢
  cases h2 : d == 0 <;> cases h3 : d == B <;> cases h4 : (d &&& B == d) <;> simp_all [bne]

/-! what is remembered -/
theorem eqK_two1 (p : Int × Int) (a b : Int) : eqK ⟨true, false⟩ p a b = (p.1 == a && p.2 == b) := by simp [eqK]
theorem has_put1 (mp : Mp) (a b x c d : Int) : hasM ⟨true, false⟩ (putM ⟨true, false⟩ mp a b x) c d = ((a == c && b == d) || hasM ⟨true, false⟩ mp c d) := by
  induction mp with
  | nil => simp [putM, hasM, eqK_two1]
  | cons p l ih =>
    simp only [putM]
    cases he : eqK ⟨true, false⟩ p.1 a b with
    | true =>
      rw [cond_true]
      simp only [hasM]
      rw [eqK_two1] at he ⊢
      simp only [Bool.and_eq_true, beq_iff_eq] at he
      rw [eqK_two1, he.1, he.2]
      cases (a == c && b == d) <;> simp
    | false =>
      rw [cond_false]
      simp only [hasM, ih]
      rw [Bool.or_left_comm]
theorem get_put1 (mp : Mp) (a b x c d : Int) : getM ⟨true, false⟩ (putM ⟨true, false⟩ mp a b x) c d = if (a == c && b == d) then x else getM ⟨true, false⟩ mp c d := by
  induction mp with
  | nil =>
    simp only [putM, getM, eqK_two1]
    cases (a == c && b == d) <;> rfl
  | cons p l ih =>
    simp only [putM]
    cases he : eqK ⟨true, false⟩ p.1 a b with
    | true =>
      rw [cond_true]
      simp only [getM]
      rw [eqK_two1] at he ⊢
      simp only [Bool.and_eq_true, beq_iff_eq] at he
      rw [eqK_two1, he.1, he.2]
      cases (a == c && b == d) <;> simp
    | false =>
      rw [cond_false]
      simp only [getM, ih]
      cases hp : eqK ⟨true, false⟩ p.1 c d with
      | false => rfl
      | true =>
        rw [cond_true]
        cases hc : (a == c && b == d) with
        | false => rfl
        | true =>
          exfalso
          rw [eqK_two1] at hp he
          simp only [Bool.and_eq_true, beq_iff_eq] at hp hc
          rw [hp.1, hp.2, hc.1, hc.2] at he
          simp at he

abbrev hasN (mp : Mp) (A B : Nat) : Bool := hasM ⟨true, false⟩ mp (A : Int) (B : Int)
/-- All that a set of rows and a set of columns can be parted into is known. -/
def Parts (mp : Mp) (A B : Nat) : Prop :=
  (∀ x, x < 16 → sub A x = true → hasN mp (A - x) B = true ∧ hasN mp x B = true) ∧ (∀ y, y < 16 → sub B y = true → hasN mp A (B - y) = true ∧ hasN mp A y = true)
def SubM (mp mp' : Mp) : Prop := ∀ A B : Nat, hasN mp A B = true → hasN mp' A B = true
theorem SubM.refl (mp : Mp) : SubM mp mp := fun _ _ h => h
theorem SubM.trans {a b c : Mp} (h : SubM a b) (k : SubM b c) : SubM a c := fun A B e => k A B (h A B e)
theorem Parts.sub {mp mp' : Mp} {A B : Nat} (h : Parts mp A B) (k : SubM mp mp') : Parts mp' A B :=
  ⟨fun x hx hs => ⟨k _ _ (h.1 x hx hs).1, k _ _ (h.1 x hx hs).2⟩, fun x hx hs => ⟨k _ _ (h.2 x hx hs).1, k _ _ (h.2 x hx hs).2⟩⟩
def GoodM (mx : Nat → Nat → Bool) (mp : Mp) : Prop := ∀ A B : Nat, hasN mp A B = true → getM ⟨true, false⟩ mp (A : Int) (B : Int) = (need mx A B : Int) ∧ (mx A B = true → Parts mp A B)
theorem sub_put (mp : Mp) (A B : Nat) (x : Int) : SubM mp (putM ⟨true, false⟩ mp (A : Int) (B : Int) x) := fun C D h => by
  unfold hasN at h ⊢
  rw [has_put1, h, Bool.or_true]
theorem has_put_self (mp : Mp) (A B : Nat) (x : Int) : hasN (putM ⟨true, false⟩ mp (A : Int) (B : Int) x) A B = true := by
  unfold hasN
  rw [has_put1]
  simp
theorem GoodM.put {mx : Nat → Nat → Bool} {mp : Mp} (h : GoodM mx mp) (A B : Nat) {x : Int} (hx : x = (need mx A B : Int)) (hp : mx A B = true → Parts mp A B) : GoodM mx (putM ⟨true, false⟩ mp (A : Int) (B : Int) x) := by
  intro C D hh
  have hs := sub_put mp A B x
  unfold hasN at hh
  rw [has_put1] at hh
  rw [get_put1]
  cases he : (((A : Int) == (C : Int)) && ((B : Int) == (D : Int))) with
  | true =>
    simp only [Bool.and_eq_true, beq_iff_eq] at he
    have e1 : A = C := by omega
    have e2 : B = D := by omega
    subst e1 e2
    exact ⟨by rw [if_pos rfl, hx], fun hm => (hp hm).sub hs⟩
  | false =>
    rw [he, Bool.false_or] at hh
    have := h C D hh
    exact ⟨by rw [if_neg (by decide)]; exact this.1, fun hm => (this.2 hm).sub hs⟩

section
variable (N n w k : Nat)
/-- What the recursion is to answer, and to leave behind. -/
def NeedOK (F s : Nat) : Prop := ∀ (A B : Nat) (mp : Mp), A + B < s → A ≠ 0 → B ≠ 0 → A < 2 ^ 2 ^ k → B < 2 ^ 2 ^ (n - k) → GoodM (bothOn w n k) mp →
  ∃ mp', GoodM (bothOn w n k) mp' ∧ SubM mp mp' ∧ hasN mp' A B = true ∧ (hasN mp A B = true → mp' = mp) ∧
    ∀ {β : Type} (k0 : Int → Int → Int → Int → Mp → Option β), impl_talk_need_g0_f N F (A : Int) (B : Int) (n : Int) (w : Int) (k : Int) mp k0 = k0 (need (bothOn w n k) A B : Int) n w k mp'

/-- A way to part: the parts for 0 and 1, of each digit that is one. -/
structure Way (A B : Nat) (c : Int) (q : Nat → Bool) (zA zB oA oB : Nat → Nat) : Prop where
  part : ∀ {β : Type} (d : Nat), d < 16 → ∀ K : Int → Int → Int → Int → Bool → Option β, impl_sides_parted N (A : Int) (B : Int) c (d : Int) K = if q d then K (zA d : Int) (zB d : Int) (oA d : Int) (oB d : Int) true else K (A : Int) (B : Int) (A : Int) (B : Int) false
  zero : ∀ d, d < 16 → q d = true → zA d + zB d < A + B ∧ zA d ≠ 0 ∧ zB d ≠ 0 ∧ zA d ≤ A ∧ zB d ≤ B
  one : ∀ d, d < 16 → q d = true → oA d + oB d < A + B ∧ oA d ≠ 0 ∧ oB d ≠ 0 ∧ oA d ≤ A ∧ oB d ≤ B
theorem way_row {A B : Nat} (hA : A < 16) (hB0 : B ≠ 0) : Way N A B 65 (sub A) (fun d => A - d) (fun _ => B) (fun d => d) (fun _ => B) where
  part := fun d hd K => parted_row N A B d hA hd K
  zero := fun d hd hq => by have := sub_lt A hA d hd hq; omega
  one := fun d hd hq => by have := sub_lt A hA d hd hq; omega
theorem way_col {A B : Nat} (hB : B < 16) (hA0 : A ≠ 0) : Way N A B 66 (sub B) (fun _ => A) (fun d => B - d) (fun _ => A) (fun d => d) where
  part := fun d hd K => parted_col N A B d hB hd K
  zero := fun d hd hq => by have := sub_lt B hB d hd hq; omega
  one := fun d hd hq => by have := sub_lt B hB d hd hq; omega

theorem need_digits {A B : Nat} {c : Int} {q : Nat → Bool} {zA zB oA oB : Nat → Nat} (hS : Single (bothOn w n k)) (hW : Way N A B c q zA zB oA oB) (hA : A < 2 ^ 2 ^ k) (hB : B < 2 ^ 2 ^ (n - k)) (hA16 : A < 16) (hB16 : B < 16) (F : Nat) (ih : NeedOK N n w k F (A + B)) (b0 : Nat) (hb : b0 ≤ 4) (sz i : Int) (lst : List Int) :
    ∀ (e d G : Nat) (mp : Mp), d + e = 16 → e < G → GoodM (bothOn w n k) mp →
      ∃ mp', GoodM (bothOn w n k) mp' ∧ SubM mp mp' ∧ (∀ x, d ≤ x → x < 16 → q x = true → hasN mp' (zA x) (zB x) = true ∧ hasN mp' (oA x) (oB x) = true) ∧
        ∀ {β : Type} (K : Int → Int → Int → Int → Int → Int → Mp → Int → Int → List Int → Option β),
          impl_talk_need_l2 N (impl_talk_need_g0_f N F) G (qmin b0 q (fun d => 1 + max (need (bothOn w n k) (zA d) (zB d)) (need (bothOn w n k) (oA d) (oB d))) d : Int) c sz i (d : Int) (n : Int) (w : Int) (k : Int) mp (A : Int) (B : Int) lst K =
            K (qmin b0 q (fun d => 1 + max (need (bothOn w n k) (zA d) (zB d)) (need (bothOn w n k) (oA d) (oB d))) 16 : Int) sz i n w k mp' A B lst := by
  intro e
  generalize hval : (fun d => 1 + max (need (bothOn w n k) (zA d) (zB d)) (need (bothOn w n k) (oA d) (oB d))) = val
  have hvi : ∀ d, 1 + max (need (bothOn w n k) (zA d) (zB d)) (need (bothOn w n k) (oA d) (oB d)) = val d := fun d => by rw [← hval]
  induction e with
  | zero =>
    intro d G mp hd hG hM
    obtain ⟨G, rfl⟩ : ∃ H, G = H + 1 := ⟨G - 1, by omega⟩
    refine ⟨mp, hM, SubM.refl mp, fun x h1 h2 => by omega, fun K => ?_⟩
    simp only [impl_talk_need_l2, impl_talk_need_l2b]
    rw [decide_eq_false (by omega : ¬ (d : Int) < 16), cond_false, show d = 16 by omega]
  | succ e ihe =>
    intro d G mp hd hG hM
    obtain ⟨G, rfl⟩ : ∃ H, G = H + 1 := ⟨G - 1, by omega⟩
    have hlt : d < 16 := by omega
    cases hq : q d with
    | false =>
      obtain ⟨mp', hM', hsub, hkeys, he⟩ := ihe (d + 1) G mp (by omega) (by omega) hM
      refine ⟨mp', hM', hsub, fun x h1 h2 h3 => ?_, fun {β} K => ?_⟩
      · by_cases ex : x = d
        · subst ex; rw [hq] at h3; cases h3
        · exact hkeys x (by omega) h2 h3
      · simp only [impl_talk_need_l2, impl_talk_need_l2b]
        rw [decide_eq_true (by omega : (d : Int) < 16), cond_true, hW.part d hlt, hq, if_neg (by decide), cond_false, w64_succ d (by omega)]
        have h1 := he K
        simp only [qmin, hq] at h1
        exact h1
    | true =>
      have hz := hW.zero d hlt hq
      have ho := hW.one d hlt hq
      obtain ⟨mp1, hM1, hs1, hk1, _, he1⟩ := ih (zA d) (zB d) mp hz.1 hz.2.1 hz.2.2.1 (by omega) (by omega) hM
      obtain ⟨mp2, hM2, hs2, hk2, _, he2⟩ := ih (oA d) (oB d) mp1 ho.1 ho.2.1 ho.2.2.1 (by omega) (by omega) hM1
      obtain ⟨mp', hM', hsub, hkeys, he⟩ := ihe (d + 1) G mp2 (by omega) (by omega) hM2
      have hn1 := need_le4 hS (zA d) (zB d) (by omega) (by omega)
      have hn2 := need_le4 hS (oA d) (oB d) (by omega) (by omega)
      refine ⟨mp', hM', hs1.trans (hs2.trans hsub), fun x h1 h2 h3 => ?_, fun {β} K => ?_⟩
      · by_cases ex : x = d
        · subst ex; exact ⟨hsub _ _ (hs2 _ _ hk1), hsub _ _ hk2⟩
        · exact hkeys x (by omega) h2 h3
      · simp only [impl_talk_need_l2, impl_talk_need_l2b]
        rw [decide_eq_true (by omega : (d : Int) < 16), cond_true, hW.part d hlt, hq, if_pos rfl, cond_true, he1, he2, w64_succ d (by omega), mxI_nat1,
          show (1 : Int) + ((max (need (bothOn w n k) (zA d) (zB d)) (need (bothOn w n k) (oA d) (oB d)) : Nat) : Int) = ((1 + max (need (bothOn w n k) (zA d) (zB d)) (need (bothOn w n k) (oA d) (oB d)) : Nat) : Int) by omega, w64_nat _ (by omega), mnI_nat1, hvi]
        have h1 := he K
        simp only [qmin, hq, if_true] at h1
        exact h1

theorem impl_need (hN : 64 < N) (hk : k ≤ 2) (hkn : k ≤ n) (hq : n - k ≤ 2) (hw : w < 4294967296) (F : Nat) : NeedOK N n w k F F := by
  have h4 : 2 ^ (n - k) ≤ 4 := Nat.pow_le_pow_right (by decide) hq
  have h4k : 2 ^ k ≤ 4 := Nat.pow_le_pow_right (by decide) hk
  have hS := mixed_single w n k hk hkn hq
  induction F with
  | zero => intro A B mp h; omega
  | succ F ih =>
    intro A B mp hAB hA0 hB0 hA hB hM
    have hA16 : A < 16 := Nat.lt_of_lt_of_le hA (Nat.pow_le_pow_right (by decide) h4k : 2 ^ 2 ^ k ≤ 2 ^ 4)
    have hB16 : B < 16 := Nat.lt_of_lt_of_le hB (Nat.pow_le_pow_right (by decide) h4 : 2 ^ 2 ^ (n - k) ≤ 2 ^ 4)
    cases hh : hasN mp A B with
    | true =>
      refine ⟨mp, hM, SubM.refl mp, hh, fun _ => rfl, fun {β} k0 => ?_⟩
      simp only [impl_talk_need_g0_f, impl_talk_need_g0_b]
      unfold hasN at hh
      rw [hh, cond_true, (hM A B hh).1]
    | false =>
      have hsv := some_value w n k A B hk hkn hq hA hB hA0 hB0
      have hne := need_eq (bothOn w n k) A B hA16 hB16
      cases hx : bothOn w n k A B with
      | false =>
        rw [hx, if_neg (by decide)] at hne
        refine ⟨_, hM.put A B (x := 0) (by rw [hne]; rfl) (fun h => by rw [hx] at h; cases h), sub_put _ _ _ _, has_put_self _ _ _ _, fun h => absurd h (by decide), fun {β} k0 => ?_⟩
        simp only [impl_talk_need_g0_f, impl_talk_need_g0_b]
        unfold hasN at hh
        rw [hh, cond_false, impl_value_eq N hN n w k A B (by omega) (by omega) hw hA16 hB16, encI_mixed w n k A B hsv, hx, cond_false, hne]
        rfl
      | true =>
        rw [hx, if_pos rfl] at hne
        have ihs : NeedOK N n w k F (A + B) := fun A' B' mp' h => ih A' B' mp' (by omega)
        obtain ⟨mp1, hM1, hs1, hk1, he1⟩ := need_digits N n w k hS (way_row N (B := B) hA16 hB0) hA hB hA16 hB16 F ihs 4 (Nat.le_refl _) 2 0 [65, 66] 16 0 N mp (by omega) (by omega) hM
        obtain ⟨mp2, hM2, hs2, hk2, he2⟩ := need_digits N n w k hS (way_col N (A := A) hB16 hA0) hA hB hA16 hB16 F ihs (qmin 4 (sub A) (rowV (bothOn w n k) A B) 16) (qmin_isMin 4 (sub A) (rowV (bothOn w n k) A B) 16).le 2 1 [65, 66] 16 0 N mp1 (by omega) (by omega) hM1
        have hparts : Parts mp2 A B := ⟨fun x h1 h2 => ⟨hs2 _ _ (hk1 x (by omega) h1 h2).1, hs2 _ _ (hk1 x (by omega) h1 h2).2⟩, fun y h1 h2 => hk2 y (by omega) h1 h2⟩
        refine ⟨_, hM2.put A B (x := (need (bothOn w n k) A B : Int)) rfl (fun _ => hparts), (hs1.trans hs2).trans (sub_put _ _ _ _), has_put_self _ _ _ _, fun h => absurd h (by decide), fun {β} k0 => ?_⟩
        simp only [impl_talk_need_g0_f, impl_talk_need_g0_b]
        unfold hasN at hh
        rw [hh, cond_false, impl_value_eq N hN n w k A B (by omega) (by omega) hw hA16 hB16, encI_mixed w n k A B hsv, hx, cond_true]
        obtain ⟨H, hH⟩ : ∃ H, N = H + 3 := ⟨N - 3, by omega⟩
        have hloop : ∀ K : Int → Int → Int → Int → Mp → Int → Int → Option β, impl_talk_need_l0 N (impl_talk_need_g0_f N F) (H + 3) 4 2 0 (n : Int) (w : Int) (k : Int) mp (A : Int) (B : Int) [65, 66] K = K (need (bothOn w n k) A B : Int) n w k mp2 A B := by
          intro K
          have a1 := he1 (β := β) (fun e29_0 e29_1 e29_2 e29_3 e29_4 e29_5 e29_6 e29_7 e29_8 e29_9 => impl_talk_need_l0 N (impl_talk_need_g0_f N F) (H + 2) e29_0 e29_1 (w64 (e29_2 + 1)) e29_3 e29_4 e29_5 e29_6 e29_7 e29_8 e29_9 K)
          have a2 := he2 (β := β) (fun e29_0 e29_1 e29_2 e29_3 e29_4 e29_5 e29_6 e29_7 e29_8 e29_9 => impl_talk_need_l0 N (impl_talk_need_g0_f N F) (H + 1) e29_0 e29_1 (w64 (e29_2 + 1)) e29_3 e29_4 e29_5 e29_6 e29_7 e29_8 e29_9 K)
          refine Eq.trans a1 ?_
          refine Eq.trans a2 ?_
          rw [hne]
          rfl
        have hl := hloop (fun e30_0 e30_1 e30_2 e30_3 e30_4 e30_5 e30_6 => k0 e30_0 e30_1 e30_2 e30_3 (putM ⟨true, false⟩ e30_4 e30_5 e30_6 e30_0))
        rw [← hH] at hl
        exact hl
end
end Go.Proofs.YtdkjnadhgdneaaaDoor
