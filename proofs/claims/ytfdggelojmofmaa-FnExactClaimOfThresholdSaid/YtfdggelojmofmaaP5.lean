/- Plain laws of the texts: rows marked, and found marked. -/
import Derived.Test.YtfdggelojmofmaaP4
namespace Go.Proofs.Ytfdggelojmofmaa
open Go.Rv
set_option linter.unusedVariables false
variable {β : Type}
/-- Numbers one after the other. -/
def marks (a n : Nat) : List Int := (List.range n).map fun i => ((a + i : Nat) : Int)
theorem marks_len (a n : Nat) : (marks a n).length = n := by simp [marks]
theorem marks_get (a n i : Nat) (h : i < n) : (marks a n)[i]? = some ((a + i : Nat) : Int) := by simp [marks, h]

theorem laws_markIntS_eq (N : Nat) (l : List Int) (a : Nat) (hl : l.length ≤ 1048576) (ha : a ≤ 4194304) (hN : 1048576 < N) (k : Int → List Int → Option β) :
    laws_markIntS N l (a : Int) k = k ((a + l.length : Nat) : Int) (marks a l.length) := by
  have key : ∀ (F i : Nat) (m : List Int), l.length - i < F → i ≤ l.length → m.length = l.length → (∀ j, j < i → m[j]? = (marks a l.length)[j]?) →
      laws_markIntS_l0 N F ((a + i : Nat) : Int) (i : Int) m k = k ((a + l.length : Nat) : Int) (marks a l.length) := by
    intro F
    induction F with
    | zero => intro i m h; omega
    | succ F ih =>
      intro i m hF hi hm heq
      simp only [laws_markIntS_l0, laws_markIntS_l0b]
      by_cases hlt : i < l.length
      · rw [decide_eq_true (by omega : (i : Int) < (m.length : Int)), decide_eq_true (by omega : 0 ≤ (i : Int))]
        simp only [cond_true, gd]
        rw [w64_succ i (by omega), w64_succ (a + i) (by omega)]
        refine ih (i + 1) _ (by omega) (by omega) (by simp [wr, hm]) fun j hj => ?_
        simp only [wr, Int.toNat_natCast, List.getElem?_set]
        by_cases hij : i = j
        · subst hij
          have : i < m.length := by omega
          simp [this, marks_get a l.length i hlt]
        · simp only [hij, if_false]
          exact heq j (by omega)
      · rw [decide_eq_false (by omega : ¬ (i : Int) < (m.length : Int))]
        have : i = l.length := by omega
        subst this
        simp only [cond_false]
        congr 1
        apply List.ext_getElem?
        intro j
        rcases Nat.lt_or_ge j l.length with h | h
        · exact heq j h
        · rw [List.getElem?_eq_none (by omega), List.getElem?_eq_none (by rw [marks_len]; omega)]
  exact key N 0 l (by omega) (Nat.zero_le _) rfl (fun j hj => by omega)

theorem laws_heldIntS_eq (N a n : Nat) (hn : n ≤ 1048576) (ha : a ≤ 1048576) (hN : 1048576 < N) (k : Int → Option β) :
    laws_heldIntS N (marks a n) (a : Int) k = k ((a + n : Nat) : Int) := by
  have key : ∀ (F i : Nat), n - i < F → i ≤ n → laws_heldIntS_l0 N F (marks a n) ((a + i : Nat) : Int) (i : Int) k k = k ((a + n : Nat) : Int) := by
    intro F
    induction F with
    | zero => intro i h; omega
    | succ F ih =>
      intro i hF hi
      simp only [laws_heldIntS_l0, laws_heldIntS_l0b, marks_len]
      by_cases hlt : i < n
      · rw [decide_eq_true (by omega : (i : Int) < (n : Int)), decide_eq_true (by omega : 0 ≤ (i : Int))]
        have hlt' : i < (marks a n).length := by rw [marks_len]; exact hlt
        have hg : (marks a n)[i] = ((a + i : Nat) : Int) := by
          have := marks_get a n i hlt
          rw [List.getElem?_eq_getElem hlt'] at this
          simpa using this
        simp only [cond_true, gd]
        rw [rd_nat 0 _ i hlt', hg, w64_succ i (by omega), w64_succ (a + i) (by omega)]
        simp only [bne_self_eq_false, cond_false]
        exact ih (i + 1) (by omega) (by omega)
      · rw [decide_eq_false (by omega : ¬ (i : Int) < (n : Int))]
        have : i = n := by omega
        subst this
        rfl
  exact key N 0 (by omega) (Nat.zero_le _)
end Go.Proofs.Ytfdggelojmofmaa
