/- Plain laws of the texts: two claims are compared alike. -/
import Derived.Test.YtignjkbhdaiegaaDoorP0
namespace Go.Proofs.YtignjkbhdaiegaaDoor
open Go.Rv
variable {β : Type}
theorem laws_szClaim_eq (N : Nat) (a0 a1 a2 a3 a4 : Int) (s : ByteArray) (l : List Int) (a : Int) (ha : a ≤ 1048576) (h0 : 0 ≤ a) (hs : (s.size : Int) ≤ 9223372036854775807) (hl : (l.length : Int) ≤ 9223372036854775807) (k : Int → Option β) :
    laws_szClaim N a0 a1 a2 a3 a4 s l a k = k (if a < (s.size : Int) then -1 else if a - (s.size : Int) < (l.length : Int) then -1 else a - (s.size : Int) - (l.length : Int)) := by
  unfold laws_szClaim
  rw [w64_id (by omega) (by omega)]
  by_cases h : a < (s.size : Int)
  · rw [decide_eq_true (by omega : a - (s.size : Int) < 0), if_pos h]; rfl
  · rw [decide_eq_false (by omega : ¬ a - (s.size : Int) < 0), if_neg h]
    simp only [cond_false]
    rw [laws_szIntS_eq N l _ (by omega) (by omega) hl]
    by_cases h' : a - (s.size : Int) < (l.length : Int)
    · rw [if_pos h']; rfl
    · rw [if_neg h', decide_eq_false (by omega : ¬ a - (s.size : Int) - (l.length : Int) < 0)]; rfl

theorem laws_toClaim_eq (N : Nat) (a0 a1 a2 a3 a4 : Int) (s : ByteArray) (l : List Int) (hl : l.length ≤ 1048576) (hN : 1048576 < N) (k : Int → Int → Int → Int → Int → ByteArray → List Int → Option β) :
    laws_toClaim N a0 a1 a2 a3 a4 s l k = k a0 a1 a2 a3 a4 s l := by
  unfold laws_toClaim laws_toTable
  simp only [laws_toIntS_eq N l hl hN]

theorem laws_eqClaim_same (N : Nat) (a0 a1 a2 a3 a4 : Int) (s : ByteArray) (l : List Int) (hl : l.length ≤ 1048576) (hN : 1048576 < N) (k : Bool → Option β) : laws_eqClaim N a0 a1 a2 a3 a4 s l a0 a1 a2 a3 a4 s l k = k true := by
  unfold laws_eqClaim laws_eqTable
  simp [laws_eqIntS_eq N l l hl hN]
end Go.Proofs.YtignjkbhdaiegaaDoor
