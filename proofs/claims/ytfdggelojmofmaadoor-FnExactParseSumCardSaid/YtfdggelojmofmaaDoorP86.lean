/- Plain laws of the texts: the law of sums read. -/
import Derived.Test.YtfdggelojmofmaaDoorP85
namespace Go.Proofs.YtfdggelojmofmaaDoor
open Go.Rv
set_option linter.unusedVariables false
variable {β : Type}
theorem eqTermS_same (N : Nat) (hN : 1048576 < N) (l : List (Int × Int)) (hl : l.length ≤ 1000) (k : Bool → Option β) : laws_eqTermS N l l k = k true := by
  unfold laws_eqTermS
  rw [bne_self_eq_false, cond_false]
  refine loop_st (fun F i => laws_eqTermS_l0 N F l l (i : Int) (fun e => k e) (k true)) l.length _ (fun F i hi => ?_) (fun F => ?_) N 0 (by omega) (by omega)
  · simp only [laws_eqTermS_l0, laws_eqTermS_l0b, laws_eqTerm, bne_self_eq_false, cond_false, Bool.not_true]
    rw [decide_eq_true (by omega : (i : Int) < (l.length : Int)), cond_true, gd_true (decide_eq_true (by omega)), gd_true rfl, gd_true (decide_eq_true (by omega)), gd_true rfl, w64_succ i (by omega)]
  · simp only [laws_eqTermS_l0, laws_eqTermS_l0b]
    rw [decide_eq_false (by omega), cond_false]

def mk2 (i : Nat) : Int × Int := (((1 + 2 * i : Nat) : Int), ((2 + 2 * i : Nat) : Int))
def mks2 (n : Nat) : List (Int × Int) := (List.range n).map mk2
theorem mks2_len (n : Nat) : (mks2 n).length = n := by simp [mks2]
theorem mks2_succ (n : Nat) : mks2 (n + 1) = mks2 n ++ [mk2 n] := by simp [mks2, List.range_succ]
theorem wr_at (p r : List (Int × Int)) (y z : Int × Int) : wr (p ++ y :: r) (p.length : Int) z = p ++ z :: r := by simp [wr]
theorem rd_at (p r : List (Int × Int)) (y : Int × Int) : rd (0, 0) (p ++ y :: r) (p.length : Int) = y := by simp [rd, List.getD_eq_getElem?_getD]

theorem markTermS_eq (N : Nat) (hN : 1048576 < N) (l : List (Int × Int)) (hl : l.length ≤ 1000) (k : Int → List (Int × Int) → Option β) : laws_markTermS N l 1 k = k ((1 + 2 * l.length : Nat) : Int) (mks2 l.length) := by
  unfold laws_markTermS
  have main := loop_st (fun F i => laws_markTermS_l0 N F ((1 + 2 * i : Nat) : Int) (i : Int) (mks2 i ++ l.drop i) fun e0 e1 => k e0 e1) l.length (k ((1 + 2 * l.length : Nat) : Int) (mks2 l.length)) (fun F i hi => ?_) (fun F => ?_) N 0 (by omega) (by omega)
  · exact main
  · have hml := mks2_len i
    have w1 := fun y z => wr_at (mks2 i) (l.drop (i + 1)) y z
    have r1 := fun y => rd_at (mks2 i) (l.drop (i + 1)) y
    rw [hml] at w1 r1
    have hlen : ∀ y, (mks2 i ++ y :: l.drop (i + 1)).length = l.length := fun y => by rw [List.length_append, mks2_len, List.length_cons, List.length_drop]; omega
    rw [List.drop_eq_getElem_cons hi]
    simp only [laws_markTermS_l0, laws_markTermS_l0b, w1, r1, hlen]
    rw [decide_eq_true (by omega : (i : Int) < (l.length : Int)), cond_true, gd_true (decide_eq_true (by omega)), gd_true rfl, gd_true (decide_eq_true (by omega)), gd_true rfl, w64_succ i (by omega), w64_succ _ (by omega), w64_succ _ (by omega), mks2_succ, List.append_assoc]
    have e : ((1 + 2 * i + 1 + 1 : Nat) : Int) = ((1 + 2 * (i + 1) : Nat) : Int) := by omega
    rw [e]
    have e2 : (((1 + 2 * i : Nat) : Int), ((1 + 2 * i + 1 : Nat) : Int)) = mk2 i := by
      unfold mk2
      congr 1
      omega
    rw [e2]
    rfl
  · simp only [laws_markTermS_l0, laws_markTermS_l0b]
    rw [decide_eq_false (by rw [List.length_append, mks2_len]; simp), cond_false]
    simp
theorem heldTermS_eq (N : Nat) (hN : 1048576 < N) (n : Nat) (hn : n ≤ 1000) (k : Int → Option β) : laws_heldTermS N (mks2 n) 1 k = k ((1 + 2 * n : Nat) : Int) := by
  unfold laws_heldTermS
  have main := loop_st (fun F i => laws_heldTermS_l0 N F (mks2 n) ((1 + 2 * i : Nat) : Int) (i : Int) (fun e => k e) fun e => k e) n (k ((1 + 2 * n : Nat) : Int)) (fun F i hi => ?_) (fun F => ?_) N 0 (by omega) (by omega)
  · exact main
  · have hr : rd (0, 0) (mks2 n) (i : Int) = mk2 i := by simp [rd, mks2, List.getD_eq_getElem?_getD, hi]
    simp only [laws_heldTermS_l0, laws_heldTermS_l0b, mks2_len, hr, mk2, bne_self_eq_false, cond_false]
    rw [decide_eq_true (by omega : (i : Int) < (n : Int)), cond_true, gd_true (decide_eq_true (by omega)), gd_true rfl, gd_true (decide_eq_true (by omega)), gd_true rfl, w64_succ i (by omega), w64_succ (1 + 2 * i) (by omega), w64_succ _ (by omega)]
    have e0 : (((2 + 2 * i : Nat) : Int) != ((1 + 2 * i + 1 : Nat) : Int)) = false := by
      rw [bne_eq_false_iff_eq]
      omega
    rw [e0, cond_false, show ((1 + 2 * i + 1 + 1 : Nat) : Int) = ((1 + 2 * (i + 1) : Nat) : Int) by omega]
  · simp only [laws_heldTermS_l0, laws_heldTermS_l0b, mks2_len]
    rw [decide_eq_false (by omega), cond_false]

theorem law_ParseSum (N : Nat) (hN : 1048576 < N) (a0 : Int) (s : ByteArray) (h0 : -9223372036854775808 ≤ a0 ∧ a0 ≤ 9223372036854775807) (hs : (s.size : Int) ≤ 9223372036854775807) (k : Bool → Option β) :
    laws_FnExactParseSum N a0 s k = k true := by
  obtain ⟨o, b, ho, e1, e2⟩ := Sum_both (β := β) N hN a0 s.data.toList
  rw [B_data] at e1 e2
  have h1n : ¬ (((1 + 2 * o.length : Nat) : Int) < 0) := by omega
  have hl : (tl o).length ≤ 1000 := by rw [tl_len]; omega
  unfold laws_FnExactParseSum
  cases decide ((s.size : Int) > 1048576) with
  | true => rfl
  | false =>
    simp only [cond_false, e1, e2, eqTermS_same N hN (tl o) hl, markTermS_eq N hN (tl o) hl, tl_len, heldTermS_eq N hN o.length (by omega), beq_self_eq_true, bne_self_eq_false, Bool.not_true, decide_eq_false h1n]
end Go.Proofs.YtfdggelojmofmaaDoor
