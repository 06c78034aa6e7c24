/- Plain laws of the texts: protocols: the program's texts. -/
import Derived.Test.YtdkjnadhgdneaaaDoorP34
namespace Go.Proofs.YtdkjnadhgdneaaaDoor
open Go.Rv
set_option linter.unusedVariables false
variable {β : Type}
section
variable (N n w k : Nat)
/-- What the program's recursion is to answer, and to leave behind. -/
def TextOK (F s : Nat) : Prop := ∀ (A B : Nat) (mp : Mp), A + B < s → A ≠ 0 → B ≠ 0 → A < 2 ^ 2 ^ k → B < 2 ^ 2 ^ (n - k) → GoodM (bothOn w n k) mp →
  ∃ mp', GoodM (bothOn w n k) mp' ∧ (hasN mp A B = true → mp' = mp) ∧
    ∀ {β : Type} (k0 : ByteArray → Int → Int → Int → Mp → Option β), impl_talk_text_g0_f N F (A : Int) (B : Int) (n : Int) (w : Int) (k : Int) mp k0 = k0 (bs (bothOn w n k) (isOne w n k) F A B) n w k mp'

theorem text_digits {A B : Nat} {c : Int} {q : Nat → Bool} {zA zB oA oB : Nat → Nat} (hW : Way N A B c q zA zB oA oB) (hA0 : A ≠ 0) (hB0 : B ≠ 0) (hA : A < 2 ^ 2 ^ k) (hB : B < 2 ^ 2 ^ (n - k)) (hA16 : A < 16) (hB16 : B < 16)
    (hx : bothOn w n k A B = true) (hN : 64 < N) (hk : k ≤ 2) (hkn : k ≤ n) (hq4 : n - k ≤ 2) (hw : w < 4294967296)
    (hkeys : ∀ mp, GoodM (bothOn w n k) mp → hasN mp A B = true → ∀ d, d < 16 → q d = true → hasN mp (zA d) (zB d) = true ∧ hasN mp (oA d) (oB d) = true)
    (hnode : ∀ d : Nat, d < 16 → strOf ((([] : List Int) ++ [c]) ++ [bt hexs (d : Int)]) = node c d ∧ (node c d).size = 2)
    (F : Nat) (ih : TextOK N n w k F (A + B)) (sz i : Int) (lst : List Int) :
    ∀ (e d G : Nat) (mp : Mp), d + e = 16 → e < G → GoodM (bothOn w n k) mp →
      ∃ mp', GoodM (bothOn w n k) mp' ∧ (hasN mp A B = true → mp' = mp) ∧
        ∀ {β : Type} (K0 : ByteArray → Int → Int → Int → Mp → Option β) (K1 : Int → Int → Int → Int → Int → Mp → Int → Int → List Int → Option β),
          impl_talk_text_l2 N (impl_talk_text_g0_f N F) G c sz i (d : Int) (n : Int) (w : Int) (k : Int) mp (A : Int) (B : Int) lst K0 K1 =
            match ff (fun d => q d && (decide (need (bothOn w n k) (zA d) (zB d) < need (bothOn w n k) A B) && decide (need (bothOn w n k) (oA d) (oB d) < need (bothOn w n k) A B))) e d with
            | some x => K0 ((node c x ++ bs (bothOn w n k) (isOne w n k) F (zA x) (zB x)) ++ bs (bothOn w n k) (isOne w n k) F (oA x) (oB x)) n w k mp'
            | none => K1 sz i n w k mp' A B lst := by
  have hne : NeedOK N n w k N N := impl_need N n w k hN hk hkn hq4 hw N
  intro e
  generalize hp : (fun d => q d && (decide (need (bothOn w n k) (zA d) (zB d) < need (bothOn w n k) A B) && decide (need (bothOn w n k) (oA d) (oB d) < need (bothOn w n k) A B))) = p
  have hpd : ∀ d, p d = (q d && (decide (need (bothOn w n k) (zA d) (zB d) < need (bothOn w n k) A B) && decide (need (bothOn w n k) (oA d) (oB d) < need (bothOn w n k) A B))) := fun d => by rw [← hp]
  induction e with
  | zero =>
    intro d G mp hd hG hM
    obtain ⟨G, rfl⟩ : ∃ H, G = H + 1 := ⟨G - 1, by omega⟩
    refine ⟨mp, hM, fun _ => rfl, fun {β} K0 K1 => ?_⟩
    simp only [impl_talk_text_l2, impl_talk_text_l2b, ff]
    rw [decide_eq_false (by omega : ¬ (d : Int) < 16), cond_false]
  | succ e ihe =>
    intro d G mp hd hG hM
    obtain ⟨G, rfl⟩ : ∃ H, G = H + 1 := ⟨G - 1, by omega⟩
    have hlt : d < 16 := by omega
    have hpe := hpd d
    cases hq : q d with
    | false =>
      rw [hq, Bool.false_and] at hpe
      obtain ⟨mp', hM', hkeep, he⟩ := ihe (d + 1) G mp (by omega) (by omega) hM
      refine ⟨mp', hM', hkeep, fun {β} K0 K1 => ?_⟩
      simp only [impl_talk_text_l2, impl_talk_text_l2b]
      rw [decide_eq_true (by omega : (d : Int) < 16), cond_true, hW.part d hlt, hq, if_neg (by decide), cond_false, w64_succ d (by omega)]
      simp only [ff, hpe]
      exact he K0 K1
    | true =>
      rw [hq, Bool.true_and] at hpe
      have hz := hW.zero d hlt hq
      have ho := hW.one d hlt hq
      obtain ⟨mp1, hM1, hs1, hk1, hsame1, he1⟩ := hne (zA d) (zB d) mp (by omega) hz.2.1 hz.2.2.1 (by omega) (by omega) hM
      obtain ⟨mp2, hM2, hs2, hk2, hsame2, he2⟩ := hne A B mp1 (by omega) hA0 hB0 hA hB hM1
      have hk2' := hkeys mp2 hM2 hk2 d hlt hq
      have hkeep2 : hasN mp A B = true → mp2 = mp := fun h => by
        have := hkeys mp hM h d hlt hq
        have e1 := hsame1 this.1
        subst e1
        exact hsame2 h
      by_cases c1 : need (bothOn w n k) (zA d) (zB d) < need (bothOn w n k) A B
      · obtain ⟨mp3, hM3, hs3, hk3, hsame3, he3⟩ := hne (oA d) (oB d) mp2 (by omega) ho.2.1 ho.2.2.1 (by omega) (by omega) hM2
        have e3 := hsame3 hk2'.2
        subst e3
        obtain ⟨mp4, hM4, hs4, hk4, hsame4, he4⟩ := hne A B mp3 (by omega) hA0 hB0 hA hB hM3
        have e4 := hsame4 hk2
        subst e4
        by_cases c2 : need (bothOn w n k) (oA d) (oB d) < need (bothOn w n k) A B
        · rw [decide_eq_true c1, decide_eq_true c2] at hpe
          obtain ⟨mp5, hM5, hsame5, he5⟩ := ih (zA d) (zB d) mp4 (by omega) hz.2.1 hz.2.2.1 (by omega) (by omega) hM4
          have e5 := hsame5 hk2'.1
          subst e5
          obtain ⟨mp6, hM6, hsame6, he6⟩ := ih (oA d) (oB d) mp5 (by omega) ho.2.1 ho.2.2.1 (by omega) (by omega) hM5
          have e6 := hsame6 hk2'.2
          subst e6
          refine ⟨mp6, hM6, hkeep2, fun {β} K0 K1 => ?_⟩
          have s1 := bs_small (bothOn w n k) (isOne w n k) F (zA d) (zB d) (by omega) (by omega)
          have s2 := bs_small (bothOn w n k) (isOne w n k) F (oA d) (oB d) (by omega) (by omega)
          have s3 := hnode d hlt
          have hx16 : hexs.size = 16 := by decide +kernel
          have eh : strOf [48, 49, 50, 51, 52, 53, 54, 55, 56, 57, 97, 98, 99, 100, 101, 102] = hexs := rfl
          simp only [impl_talk_text_l2, impl_talk_text_l2b, eh]
          unfold impl_talk_need_g0
          rw [decide_eq_true (by omega : (d : Int) < 16), cond_true, hW.part d hlt, hq, if_pos rfl, cond_true]
          simp only [he1, he2, he3, he4, he5, he6, s3.1, size_ap]
          rw [decide_eq_true (by omega : (need (bothOn w n k) (zA d) (zB d) : Int) < (need (bothOn w n k) A B : Int)), cond_true, decide_eq_true (by omega : (need (bothOn w n k) (oA d) (oB d) : Int) < (need (bothOn w n k) A B : Int)), cond_true,
            gd_true (decide_eq_true (by omega : (0 : Int) ≤ (d : Int))), gd_true (decide_eq_true (by omega : (d : Int) < (hexs.size : Int)))]
          have g1 : decide ((node c d).size + (bs (bothOn w n k) (isOne w n k) F (zA d) (zB d)).size ≤ 9223372036854775807) = true := decide_eq_true (by omega)
          have g2 : decide ((node c d).size + (bs (bothOn w n k) (isOne w n k) F (zA d) (zB d)).size + (bs (bothOn w n k) (isOne w n k) F (oA d) (oB d)).size ≤ 9223372036854775807) = true := decide_eq_true (by omega)
          simp only [g1, g2, gd_t, impl_talk_text_t12, decide_true, beq_self_eq_true, ff, hpe, Bool.and_self, if_true]
        · rw [decide_eq_false c2, Bool.and_false] at hpe
          obtain ⟨mp', hM', hkeep, he⟩ := ihe (d + 1) G mp4 (by omega) (by omega) hM4
          refine ⟨mp', hM', fun h => by have := hkeep2 h; subst this; exact hkeep h, fun {β} K0 K1 => ?_⟩
          simp only [impl_talk_text_l2, impl_talk_text_l2b]
          unfold impl_talk_need_g0
          rw [decide_eq_true (by omega : (d : Int) < 16), cond_true, hW.part d hlt, hq, if_pos rfl, cond_true, he1, he2, decide_eq_true (by omega : (need (bothOn w n k) (zA d) (zB d) : Int) < (need (bothOn w n k) A B : Int)), cond_true, he3, he4, decide_eq_false (by omega : ¬ (need (bothOn w n k) (oA d) (oB d) : Int) < (need (bothOn w n k) A B : Int)), cond_false, w64_succ d (by omega)]
          simp only [ff, hpe]
          exact he K0 K1
      · rw [decide_eq_false c1, Bool.false_and] at hpe
        obtain ⟨mp', hM', hkeep, he⟩ := ihe (d + 1) G mp2 (by omega) (by omega) hM2
        refine ⟨mp', hM', fun h => by have := hkeep2 h; subst this; exact hkeep h, fun {β} K0 K1 => ?_⟩
        simp only [impl_talk_text_l2, impl_talk_text_l2b]
        unfold impl_talk_need_g0
        rw [decide_eq_true (by omega : (d : Int) < 16), cond_true, hW.part d hlt, hq, if_pos rfl, cond_true, he1, he2, decide_eq_false (by omega : ¬ (need (bothOn w n k) (zA d) (zB d) : Int) < (need (bothOn w n k) A B : Int)), cond_false, w64_succ d (by omega)]
        simp only [ff, hpe]
        exact he K0 K1

theorem impl_text (hN : 64 < N) (hk : k ≤ 2) (hkn : k ≤ n) (hq : n - k ≤ 2) (hw : w < 4294967296) (F : Nat) : TextOK N n w k F F := by
  have h4 : 2 ^ (n - k) ≤ 4 := Nat.pow_le_pow_right (by decide) hq
  have h4k : 2 ^ k ≤ 4 := Nat.pow_le_pow_right (by decide) hk
  induction F with
  | zero => intro A B mp h; omega
  | succ F ih =>
    intro A B mp hAB hA0 hB0 hA hB hM
    have hA16 : A < 16 := Nat.lt_of_lt_of_le hA (Nat.pow_le_pow_right (by decide) h4k : 2 ^ 2 ^ k ≤ 2 ^ 4)
    have hB16 : B < 16 := Nat.lt_of_lt_of_le hB (Nat.pow_le_pow_right (by decide) h4 : 2 ^ 2 ^ (n - k) ≤ 2 ^ 4)
    have hsv := some_value w n k A B hk hkn hq hA hB hA0 hB0
    cases hx : bothOn w n k A B with
    | false =>
      have hv := (enc_value w n k A B hsv hx).2
      have hbs : bs (bothOn w n k) (isOne w n k) (F + 1) A B = strOf [if isOne w n k A B then 49 else 48] := by
        simp only [bs, hx]
        rfl
      refine ⟨mp, hM, fun _ => rfl, fun {β} k0 => ?_⟩
      rw [hbs]
      simp only [impl_talk_text_g0_f, impl_talk_text_g0_b]
      rw [impl_value_eq N hN n w k A B (by omega) (by omega) hw hA16 hB16, hv, decide_eq_true (by omega : ((if isOne w n k A B then 1 else 0 : Nat) : Int) ≥ 0), cond_true, impl_digit]
    | true =>
      have ihs : TextOK N n w k F (A + B) := fun A' B' mp' h => ih A' B' mp' (by omega)
      have hneg : decide (encI (Go.Proofs.YtdkjnadhgdneaaaDoor.hx w k A B false (2 ^ n) 0) (Go.Proofs.YtdkjnadhgdneaaaDoor.hx w k A B true (2 ^ n) 0) ≥ 0) = false := by
        have h1 := encI_mixed w n k A B hsv
        rw [hx] at h1
        have h2 := of_decide_eq_true h1
        exact decide_eq_false (by omega)
      have hr : ∀ mp, GoodM (bothOn w n k) mp → hasN mp A B = true → ∀ d, d < 16 → sub A d = true → hasN mp (A - d) B = true ∧ hasN mp d B = true := fun mp hg hh d h1 h2 => ((hg A B hh).2 hx).1 d h1 h2
      have hc : ∀ mp, GoodM (bothOn w n k) mp → hasN mp A B = true → ∀ d, d < 16 → sub B d = true → hasN mp A (B - d) = true ∧ hasN mp A d = true := fun mp hg hh d h1 h2 => ((hg A B hh).2 hx).2 d h1 h2
      obtain ⟨mp1, hM1, hk1, he1⟩ := text_digits N n w k (way_row N (B := B) hA16 hB0) hA0 hB0 hA hB hA16 hB16 hx hN hk hkn hq hw hr (fun d hd => ⟨(hexs_bt d hd).1, (size_node d hd).1⟩) F ihs 2 0 [65, 66] 16 0 N mp (by omega) (by omega) hM
      obtain ⟨mp2, hM2, hk2, he2⟩ := text_digits N n w k (way_col N (A := A) hB16 hA0) hA0 hB0 hA hB hA16 hB16 hx hN hk hkn hq hw hc (fun d hd => ⟨(hexs_bt d hd).2, (size_node d hd).2⟩) F ihs 2 1 [65, 66] 16 0 N mp1 (by omega) (by omega) hM1
      obtain ⟨H, hH⟩ : ∃ H, N = H + 3 := ⟨N - 3, by omega⟩
      have hloop : ∀ {β : Type} (k0 : ByteArray → Int → Int → Int → Mp → Option β), impl_talk_text_g0_f N (F + 1) (A : Int) (B : Int) (n : Int) (w : Int) (k : Int) mp k0 =
          impl_talk_text_l0 N (impl_talk_text_g0_f N F) (H + 3) 2 0 (n : Int) (w : Int) (k : Int) mp (A : Int) (B : Int) [65, 66] k0 (fun e0 e1 e2 e3 => k0 ByteArray.empty e0 e1 e2 e3) := by
        intro β k0
        simp only [impl_talk_text_g0_f, impl_talk_text_g0_b]
        rw [impl_value_eq N hN n w k A B (by omega) (by omega) hw hA16 hB16, hneg, cond_false, ← hH]
        rfl
      cases h1 : ff (rowP (bothOn w n k) A B) 16 0 with
      | some x =>
        refine ⟨mp1, hM1, hk1, fun {β} k0 => ?_⟩
        rw [hloop]
        refine Eq.trans (he1 (β := β) (fun e0 e1 e2 e3 e4 => k0 e0 e1 e2 e3 e4) (fun e25_0 e25_1 e25_2 e25_3 e25_4 e25_5 e25_6 e25_7 e25_8 => impl_talk_text_l0 N (impl_talk_text_g0_f N F) (H + 2) e25_0 (w64 (e25_1 + 1)) e25_2 e25_3 e25_4 e25_5 e25_6 e25_7 e25_8 k0 (fun e0 e1 e2 e3 => k0 ByteArray.empty e0 e1 e2 e3))) ?_
        show (match ff (rowP (bothOn w n k) A B) 16 0 with | some x => _ | none => _) = _
        simp only [bs, hx, h1, if_true]
      | none =>
        have hstep : ∀ {β : Type} (k0 : ByteArray → Int → Int → Int → Mp → Option β), impl_talk_text_g0_f N (F + 1) (A : Int) (B : Int) (n : Int) (w : Int) (k : Int) mp k0 = 
            (match ff (colP (bothOn w n k) A B) 16 0 with
            | some x => k0 ((node 66 x ++ bs (bothOn w n k) (isOne w n k) F A (B - x)) ++ bs (bothOn w n k) (isOne w n k) F A x) n w k mp2
            | none => impl_talk_text_l0 N (impl_talk_text_g0_f N F) (H + 1) 2 2 n w k mp2 A B [65, 66] k0 (fun e0 e1 e2 e3 => k0 ByteArray.empty e0 e1 e2 e3)) := by
          intro β k0
          rw [hloop]
          refine Eq.trans (he1 (β := β) (fun e0 e1 e2 e3 e4 => k0 e0 e1 e2 e3 e4) (fun e25_0 e25_1 e25_2 e25_3 e25_4 e25_5 e25_6 e25_7 e25_8 => impl_talk_text_l0 N (impl_talk_text_g0_f N F) (H + 2) e25_0 (w64 (e25_1 + 1)) e25_2 e25_3 e25_4 e25_5 e25_6 e25_7 e25_8 k0 (fun e0 e1 e2 e3 => k0 ByteArray.empty e0 e1 e2 e3))) ?_
          show (match ff (rowP (bothOn w n k) A B) 16 0 with | some x => _ | none => _) = _
          simp only [h1]
          exact he2 (β := β) (fun e0 e1 e2 e3 e4 => k0 e0 e1 e2 e3 e4) (fun e25_0 e25_1 e25_2 e25_3 e25_4 e25_5 e25_6 e25_7 e25_8 => impl_talk_text_l0 N (impl_talk_text_g0_f N F) (H + 1) e25_0 (w64 (e25_1 + 1)) e25_2 e25_3 e25_4 e25_5 e25_6 e25_7 e25_8 k0 (fun e0 e1 e2 e3 => k0 ByteArray.empty e0 e1 e2 e3))
        refine ⟨mp2, hM2, fun h => ?_, fun {β} k0 => ?_⟩
        · have e1 := hk1 h
          subst e1
          exact hk2 h
        · rw [hstep]
          cases h2 : ff (colP (bothOn w n k) A B) 16 0 with
          | some y => simp only [bs, hx, h1, h2, if_true]
          | none =>
            simp only [bs, hx, h1, h2, if_true]
            rfl
end
end Go.Proofs.YtdkjnadhgdneaaaDoor
