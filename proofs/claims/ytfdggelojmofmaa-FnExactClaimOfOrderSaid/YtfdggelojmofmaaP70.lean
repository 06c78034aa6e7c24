/- Plain laws of the texts: the diagram of an order, and the least order. -/
import Derived.Test.YtfdggelojmofmaaP69
namespace Go.Proofs.Ytfdggelojmofmaa
open Go.Rv
set_option linter.unusedVariables false
variable {β : Type}
theorem spec_l3Perm_n (N : Nat) (hN : 1048576 < N) (n : Nat) (hn : n ≤ 4) (p : List Nat) (hp : PermOK n p) (K : Bool → Option β) : spec_l3Perm N (li p) (n : Int) K = K true := by
  have hlen := hp.len
  unfold spec_l3Perm
  refine loop_st (fun F i => spec_l3Perm_l0 N F (li p) (n : Int) (i : Int) (fun e => K e) fun e0 e1 => K ((e0.length : Int) == e1)) n _ (fun F i hi => ?_) (fun F => ?_) N 0 (by omega) (by omega)
  · have hlt := hp.getD_lt hi
    simp only [spec_l3Perm_l0, spec_l3Perm_l0b, li_len, li_rd]
    rw [decide_eq_true (by omega : (i : Int) < (p.length : Int)), cond_true, gd_true (decide_eq_true (by omega)), gd_true rfl, spec_l1In_eq, w64_id (by omega) (by omega), decide_eq_true (by omega), decide_eq_true (by omega), Bool.and_self, Bool.not_true, cond_false]
    refine loop_st (fun H j => spec_l3Perm_l2 N H (li p) (n : Int) (i : Int) (j : Int) (fun e => K e) fun e0 e1 e2 => spec_l3Perm_l0 N F e0 e1 (w64 (e2 + 1)) (fun e => K e) fun e0 e1 => K ((e0.length : Int) == e1)) i _ (fun H j hj => ?_) (fun H => ?_) N 0 (by omega) (by omega)
    · have hne := hp.ne i hi j hj
      simp only [spec_l3Perm_l2, spec_l3Perm_l2b, li_len, li_rd]
      rw [decide_eq_true (by omega : (j : Int) < (i : Int)), cond_true, gd_true (decide_eq_true (by omega)), gd_true (decide_eq_true (by omega)), gd_true (decide_eq_true (by omega)), gd_true (decide_eq_true (by omega)), beq_eq_false_iff_ne.2 (fun e => hne (Int.ofNat_inj.1 e)), cond_false, w64_succ j (by omega)]
    · simp only [spec_l3Perm_l2, spec_l3Perm_l2b]
      rw [decide_eq_false (by omega), cond_false, w64_succ i (by omega)]
  · simp only [spec_l3Perm_l0, spec_l3Perm_l0b, li_len]
    rw [decide_eq_false (by omega), cond_false, beq_iff_eq.2 (by omega)]

/-- A diagram that can be written. -/
def DgOK (n : Nat) (dg : T3) : Prop := dg.length ≤ 15 ∧ ∀ x ∈ dg, 0 ≤ x.1 ∧ x.1 < (n : Int) ∧ -2 ≤ x.2.1 ∧ x.2.1 < 15 ∧ -2 ≤ x.2.2 ∧ x.2.2 < 15

/-- The first least size. -/
def bestI (s : Nat → Nat) : Nat → Nat
  | 0 => 0
  | i + 1 => if s (i + 1) < s (bestI s i) then i + 1 else bestI s i
theorem bestI_le (s : Nat → Nat) : ∀ i, bestI s i ≤ i
  | 0 => Nat.le_refl _
  | i + 1 => by have := bestI_le s i; unfold bestI; split <;> omega

theorem rd_lii (P : List (List Nat)) (i : Nat) : rd [] (lii P) (i : Int) = li (P.getD i []) := by
  simp only [rd, lii, Int.toNat_natCast, List.getD_eq_getElem?_getD, List.getElem?_map]
  cases P[i]? <;> rfl
theorem lii_len (P : List (List Nat)) : (lii P).length = P.length := by simp [lii]

section
variable (N n W : Nat) (hN : 1048576 < N) (hn : n ≤ 4) (hW : W < 2 ^ 2 ^ n)
include hN hn hW

/-- Both texts make this diagram of an order. -/
def MakesB (β : Type) (p : List Nat) (dg : T3) : Prop := DgOK n dg ∧ (∀ K : T3 → Bool → Option β, spec_DiagramOf N (n : Int) (W : Int) (li p) K = K dg true) ∧ (∀ K : T3 → Option β, impl_Table_diagram N (n : Int) (W : Int) (li p) K = K dg)

theorem diag (p : List Nat) (hp : PermOK n p) : ∃ dg : T3, MakesB N n W β p dg := by
  have hp0 := Nat.two_pow_pos n
  have hs := sz4 hn
  obtain ⟨F, rfl⟩ : ∃ F, N = F + 1 := ⟨N - 1, by omega⟩
  have hc : ∀ K : T3 → Bool → Option β, spec_DiagramOf (F + 1) (n : Int) (W : Int) (li p) K = cond (sc W 0 0 false (2 ^ n) && sc W 0 0 true (2 ^ n)) (spec_l19Build_g0 (F + 1) (n : Int) (W : Int) (li p) 0 0 0 [] [] fun r0 r1 r2 => K r1 true) (K [] true) := fun K => by
    unfold spec_DiagramOf spec_IsConstant
    have hf := fun K => spec_l2Full_eq (β := β) (F + 1) n (by omega) K
    rw [spec_IsTable_eq, isTn (by omega) hW, Bool.not_true, cond_false, spec_l3Perm_n (F + 1) hN n hn p hp, Bool.not_true, cond_false, spec_IsTable_eq, isTn (by omega) hW, cond_true, hf]
    obtain ⟨c1, c2⟩ := wd_const (W := W) (n := n) (m := 0) (v := 0) hp0 rfl
    rw [wd_zero W n hW] at c1 c2
    have e0 : ((W : Int) == 0) = (W == 0) := by rw [Bool.eq_iff_iff, beq_iff_eq, beq_iff_eq]; omega
    have e1 : ((W : Int) == ((2 ^ 2 ^ n - 1 : Nat) : Int)) = (W == 2 ^ 2 ^ n - 1) := by rw [Bool.eq_iff_iff, beq_iff_eq, beq_iff_eq]; exact Int.ofNat_inj
    rw [e0, e1, c1, c2]
    cases sc W 0 0 true (2 ^ n) <;> cases sc W 0 0 false (2 ^ n) <;> rfl
  have hz := wd_zero W n hW
  cases hone : (sc W 0 0 false (2 ^ n) && sc W 0 0 true (2 ^ n)) with
  | false =>
    obtain ⟨a, _, e1, e2⟩ := sim_const (β := β) (F + 1) n W p hN hn hW hp F F 0 0 0 [] [] hp0 hp0 rfl hone
    refine ⟨[], ⟨by simp, fun x h => by cases h⟩, fun K => ?_, fun K => ?_⟩
    · rw [hc, hone, cond_false]
    · unfold impl_Table_diagram impl_diagram_walk_g0
      rw [hz] at e2
      exact e2 _
  | true =>
    obtain ⟨a, nl, new, e1, e2, e3, e4, e5, e6, e7, e8⟩ := sim (β := β) (F + 1) n W p hN hn hW hp n (F + 1) (F + 1) 0 0 0 [] [] (by omega) (by omega) (by omega) (fun j => by simp) hp0 hp0 rfl rfl (by simp; omega)
    simp only [List.length_nil, Nat.zero_add, List.nil_append] at e1 e2 e7 e8
    refine ⟨nl, ⟨by omega, fun x hx => ?_⟩, fun K => ?_, fun K => ?_⟩
    · have := e8 x hx
      omega
    · rw [hc, hone, cond_true]
      unfold spec_l19Build_g0
      exact e1 _
    · unfold impl_Table_diagram impl_diagram_walk_g0
      rw [hz] at e2
      exact e2 _

theorem least : ∃ (p : List Nat) (dg : T3), PermOK n p ∧ MakesB N n W β p dg ∧ (∀ K : List Int → Int → Bool → Option β, spec_LeastOrder N (n : Int) (W : Int) K = K (li p) (dg.length : Int) true) ∧
    (∀ K : List Int → Int → Bool → Option β, impl_LeastOrder N (n : Int) (W : Int) K = K (li p) (dg.length : Int) true) := by
  have hex : ∀ p : List Nat, ∃ dg : T3, PermOK n p → MakesB N n W β p dg := fun p => by
    by_cases hp : PermOK n p
    · obtain ⟨dg, h⟩ := diag (β := β) N n W hN hn hW p hp
      exact ⟨dg, fun _ => h⟩
    · exact ⟨[], fun h => absurd h hp⟩
  obtain ⟨D, hD⟩ := Classical.skolem.1 hex
  have hok := prm_ok n hn
  simp only [Bool.and_eq_true, decide_eq_true_eq] at hok
  obtain ⟨⟨_, h0⟩, h24⟩ := hok
  have hW' := two32 (by omega) hW
  have hP : ∀ i, i < (prm n).length → PermOK n ((prm n).getD i []) := fun i hi => by
    refine prm_perm hn ?_
    rw [List.getD_eq_getElem?_getD, List.getElem?_eq_getElem hi]
    exact List.getElem_mem hi
  generalize hPe : prm n = P at h0 h24 hP
  have hs : ∀ i, i < P.length → MakesB N n W β (P.getD i []) (D (P.getD i [])) := fun i hi => hD _ (hP i hi)
  have hle := bestI_le (fun i => (D (P.getD i [])).length)
  generalize hse : (fun i => (D (P.getD i [])).length) = s at hle
  have hsv : ∀ i, (D (P.getD i [])).length = s i := fun i => by rw [← hse]
  have hlen : lii P = lii P := rfl
  have hsize : ∀ i, i < P.length → ∀ K : Int → Option β, spec_SizeOfDiagram N (n : Int) (W : Int) (li (P.getD i [])) K = K (s i : Int) := fun i hi K => by
    unfold spec_SizeOfDiagram
    rw [(hs i hi).2.1, Bool.not_true, cond_false, hsv]
  have himp : ∀ i, i < P.length → ∀ K : T3 → Option β, impl_Table_diagram N (n : Int) (W : Int) (li (P.getD i [])) K = K (D (P.getD i [])) := fun i hi K => (hs i hi).2.2 K
  have hb := hle (P.length - 1)
  refine ⟨P.getD (bestI s (P.length - 1)) [], D (P.getD (bestI s (P.length - 1)) []), hP _ (by omega), hs _ (by omega), fun K => ?_, fun K => ?_⟩
  · unfold spec_LeastOrder
    rw [spec_IsTable_eq, isTn (by omega) hW, Bool.not_true, cond_false, decide_eq_false (by omega : ¬ (n : Int) > 4), cond_false, spec_perms_eq N hN n hn, hPe, lii_len, gd_true (decide_eq_true (by omega))]
    have e0 := rd_lii P 0
    rw [Int.natCast_zero] at e0
    rw [e0, hsize 0 h0, hsv]
    refine loop_from (fun F i => spec_LeastOrder_l0 N F (bestI s (i - 1) : Int) (s (bestI s (i - 1)) : Int) (i : Int) (n : Int) (W : Int) (lii P) fun e0 e1 e2 => gd (decide (0 ≤ e0)) (gd (decide (e0 < (e2.length : Int))) (K (rd [] e2 e0) e1 true))) 1 P.length _ (fun F i h1 hi => ?_) (fun F => ?_) N 1 (by omega) (by omega) (by omega)
    · obtain ⟨j, rfl⟩ : ∃ j, i = j + 1 := ⟨i - 1, by omega⟩
      simp only [spec_LeastOrder_l0, spec_LeastOrder_l0b, lii_len, rd_lii, Nat.add_sub_cancel]
      rw [decide_eq_true (by omega : ((j + 1 : Nat) : Int) < (P.length : Int)), cond_true, gd_true (decide_eq_true (by omega)), gd_true rfl, hsize _ hi, w64_succ (j + 1) (by omega)]
      simp only [bestI]
      by_cases hlt : s (j + 1) < s (bestI s j)
      · rw [if_pos hlt, decide_eq_true (by omega), cond_true]
      · rw [if_neg hlt, decide_eq_false (by omega), cond_false]
    · simp only [spec_LeastOrder_l0, spec_LeastOrder_l0b, lii_len, rd_lii]
      rw [decide_eq_false (by omega), cond_false, gd_true (decide_eq_true (by omega)), gd_true (decide_eq_true (by omega))]
  · unfold impl_LeastOrder
    rw [impl_isSmall_eq N _ _ _ (by omega), smallT, isTn (by omega) hW, decide_eq_true (by omega : (n : Int) ≤ 4), Bool.and_self, Bool.not_true, cond_false, impl_perms_eq N hN n hn, hPe, lii_len, hsv]
    obtain ⟨F, hF⟩ : ∃ F, N = F + 1 := ⟨N - 1, by omega⟩
    have first : ∀ K0 : List Int → Int → Option β, impl_LeastOrder_l0 N N [] (-1) (P.length : Int) 0 (n : Int) (W : Int) (lii P) K0 = impl_LeastOrder_l0 N F (li (P.getD (bestI s 0) [])) (s (bestI s 0) : Int) (P.length : Int) (1 : Nat) (n : Int) (W : Int) (lii P) K0 := fun K0 => by
      have e0 := rd_lii P 0
      rw [Int.natCast_zero] at e0
      rw [show impl_LeastOrder_l0 (β := β) N N = impl_LeastOrder_l0 N (F + 1) by rw [← hF]]
      simp only [impl_LeastOrder_l0, impl_LeastOrder_l0b, lii_len, e0]
      rw [decide_eq_true (by omega : (0 : Int) < (P.length : Int)), cond_true, gd_true (decide_eq_true (by omega)), gd_true rfl, himp 0 h0, hsv, decide_eq_true (by omega : (-1 : Int) < 0), cond_true]
      rfl
    rw [first]
    refine loop_from (fun F i => impl_LeastOrder_l0 N F (li (P.getD (bestI s (i - 1)) [])) (s (bestI s (i - 1)) : Int) (P.length : Int) (i : Int) (n : Int) (W : Int) (lii P) fun e0 e1 => K e0 e1 true) 1 P.length _ (fun F i h1 hi => ?_) (fun F => ?_) F 1 (by omega) (by omega) (by omega)
    · obtain ⟨j, rfl⟩ : ∃ j, i = j + 1 := ⟨i - 1, by omega⟩
      simp only [impl_LeastOrder_l0, impl_LeastOrder_l0b, lii_len, rd_lii, Nat.add_sub_cancel]
      rw [decide_eq_true (by omega : ((j + 1 : Nat) : Int) < (P.length : Int)), cond_true, gd_true (decide_eq_true (by omega)), gd_true rfl, himp _ hi, hsv, w64_succ (j + 1) (by omega), decide_eq_false (by omega : ¬ ((s (bestI s j) : Nat) : Int) < 0), cond_false]
      simp only [bestI]
      by_cases hlt : s (j + 1) < s (bestI s j)
      · rw [if_pos hlt, decide_eq_true (by omega), cond_true]
      · rw [if_neg hlt, decide_eq_false (by omega), cond_false]
    · simp only [impl_LeastOrder_l0, impl_LeastOrder_l0b]
      rw [decide_eq_false (by omega), cond_false]
end
end Go.Proofs.Ytfdggelojmofmaa
