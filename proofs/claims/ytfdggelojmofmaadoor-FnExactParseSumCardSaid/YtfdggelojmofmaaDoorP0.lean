/- Plain laws of the texts: rows copied and rows compared; two kept counts and two claims are compared alike. -/
import Derived.Test.YtfdggelojmofmaaDoorT0
import Derived.Test.YtfdggelojmofmaaDoorRvNum
namespace Go.Proofs.YtfdggelojmofmaaDoor
open Go.Rv

variable {β : Type}
/-- A round of a comparison. -/
def eqStep (l m : List Int) (i : Int) (rec_ : Int → Option β) (k0 : Bool → Option β) (k1 : Option β) : Option β :=
  cond (decide (i < (l.length : Int))) (gd (decide (0 ≤ i)) (gd (decide (i < (l.length : Int))) (gd (decide (0 ≤ i)) (gd (decide (i < (m.length : Int))) (cond (rd 0 l i != rd 0 m i) (k0 false) (rec_ (w64 (i + 1)))))))) k1

theorem eq_loop (l m : List Int) (hl : l.length ≤ 1048576) (hlm : l.length = m.length) (k0 : Bool → Option β) (k1 : Option β) (g : Nat → Int → Option β) (hg : ∀ F i, g (F + 1) i = eqStep l m i (g F) k0 k1) :
    ∀ (F i : Nat), l.length - i < F → i ≤ l.length → g F (i : Int) = cond (l.drop i == m.drop i) k1 (k0 false) := by
  intro F
  induction F with
  | zero => intro i h; omega
  | succ F ih =>
    intro i hF hi
    rw [hg]
    unfold eqStep
    by_cases hlt : i < l.length
    · have hlt' : i < m.length := by omega
      rw [decide_eq_true (by omega : (i : Int) < (l.length : Int)), decide_eq_true (by omega : 0 ≤ (i : Int)), decide_eq_true (by omega : (i : Int) < (m.length : Int)), rd_nat 0 l i hlt, rd_nat 0 m i hlt']
      simp only [cond_true, gd]
      have hd : (l.drop i == m.drop i) = (l[i] == m[i] && l.drop (i + 1) == m.drop (i + 1)) := by
        rw [List.drop_eq_getElem_cons hlt, List.drop_eq_getElem_cons hlt']; rfl
      rw [hd]
      by_cases he : l[i] = m[i]
      · rw [show w64 ((i : Int) + 1) = ((i + 1 : Nat) : Int) by rw [w64_id] <;> omega, ih (i + 1) (by omega) (by omega)]
        rw [show (l[i] != m[i]) = false by simp [he], show (l[i] == m[i]) = true by simp [he]]
        rfl
      · rw [show (l[i] != m[i]) = true by simp [he], show (l[i] == m[i]) = false by simp [he]]
        rfl
    · rw [decide_eq_false (by omega : ¬ (i : Int) < (l.length : Int)), List.drop_eq_nil_of_le (by omega), List.drop_eq_nil_of_le (by omega)]
      rfl
end Go.Proofs.YtfdggelojmofmaaDoor
