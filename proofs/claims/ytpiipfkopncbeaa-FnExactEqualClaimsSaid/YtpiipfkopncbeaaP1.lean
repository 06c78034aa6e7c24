/- Plain laws of the texts: two claims are compared alike. -/
import Derived.Test.YtpiipfkopncbeaaP0
namespace Go.Proofs.Ytpiipfkopncbeaa
open Go.Rv
variable {β : Type}

theorem laws_szClaim_eq (N : Nat) (a0 a1 a2 a3 a4 : Int) (s : ByteArray) (l : List Int) (a : Int) (ha : a ≤ 1048576) (h0 : 0 ≤ a) (hs : (s.size : Int) ≤ 9223372036854775807) (hl : (l.length : Int) ≤ 9223372036854775807) (k : Int → Option β) :
    laws_szClaim N a0 a1 a2 a3 a4 s l a k = k (if a < (s.size : Int) then -1 else if a - (s.size : Int) < (l.length : Int) then -1 else a - (s.size : Int) - (l.length : Int)) := by
  unfold laws_szClaim
  rw [w64_id (by omega) (by omega)]
  by_cases h : a < (s.size : Int)
  · rw [decide_eq_true (by omega : a - (s.size : Int) < 0), if_pos h]; rfl
  · rw [decide_eq_false (by omega : ¬ a - (s.size : Int) < 0), if_neg h]
    simp only [cond_false]
    rw [laws_szIntS_eq N l _ (by omega) (by omega) hl]
    by_cases h' : a - (s.size : Int) < (l.length : Int)
    · rw [if_pos h']; rfl
    · rw [if_neg h', decide_eq_false (by omega : ¬ a - (s.size : Int) - (l.length : Int) < 0)]; rfl

theorem laws_toClaim_eq (N : Nat) (a0 a1 a2 a3 a4 : Int) (s : ByteArray) (l : List Int) (hl : l.length ≤ 1048576) (hN : 1048576 < N) (k : Int → Int → Int → Int → Int → ByteArray → List Int → Option β) :
    laws_toClaim N a0 a1 a2 a3 a4 s l k = k a0 a1 a2 a3 a4 s l := by
  unfold laws_toClaim laws_toTable
  simp only [laws_toIntS_eq N l hl hN]

theorem EqualClaims_same (N : Nat) (a0 a1 a2 a3 a4 : Int) (s : ByteArray) (l : List Int) (b0 b1 b2 b3 b4 : Int) (t : ByteArray) (m : List Int) (hl : l.length ≤ 1048576) (hN : 1048576 < N) (k : Bool → Option β) :
    impl_EqualClaims N a0 a1 a2 a3 a4 s l b0 b1 b2 b3 b4 t m k = spec_EqualClaims N a0 a1 a2 a3 a4 s l b0 b1 b2 b3 b4 t m k := by
  unfold impl_EqualClaims spec_EqualClaims
  simp only [slices_Equal_eq N l m hl hN, spec_l30Same_eq N l m hl hN]

theorem spec_EqualClaims_eq (N : Nat) (a0 a1 a2 a3 a4 : Int) (s : ByteArray) (l : List Int) (b0 b1 b2 b3 b4 : Int) (t : ByteArray) (m : List Int) (hl : l.length ≤ 1048576) (hN : 1048576 < N) (k : Bool → Option β) :
    spec_EqualClaims N a0 a1 a2 a3 a4 s l b0 b1 b2 b3 b4 t m k = k (a0 == b0 && ((a1 == b1 && a2 == b2) && (a3 == b3 && (a4 == b4 && (s.toList == t.toList && l == m))))) := by
  unfold spec_EqualClaims
  simp only [spec_l30Same_eq N l m hl hN]
  cases a0 == b0 <;> cases (a1 == b1 && a2 == b2) <;> cases a3 == b3 <;> cases a4 == b4 <;> cases s.toList == t.toList <;> simp

theorem laws_eqClaim_same (N : Nat) (a0 a1 a2 a3 a4 : Int) (s : ByteArray) (l : List Int) (hl : l.length ≤ 1048576) (hN : 1048576 < N) (k : Bool → Option β) : laws_eqClaim N a0 a1 a2 a3 a4 s l a0 a1 a2 a3 a4 s l k = k true := by
  unfold laws_eqClaim laws_eqTable
  simp [laws_eqIntS_eq N l l hl hN]

theorem law_EqualClaims (N : Nat) (hN : 1048576 < N) (a0 a1 a2 a3 a4 : Int) (s : ByteArray) (l : List Int) (b0 b1 b2 b3 b4 : Int) (t : ByteArray) (m : List Int)
    (hs : (s.size : Int) ≤ 9223372036854775807) (hl : (l.length : Int) ≤ 9223372036854775807) (ht : (t.size : Int) ≤ 9223372036854775807) (hm : (m.length : Int) ≤ 9223372036854775807) (k : Bool → Option β) :
    laws_FnExactEqualClaims N a0 a1 a2 a3 a4 s l b0 b1 b2 b3 b4 t m k = k true := by
  unfold laws_FnExactEqualClaims
  rw [laws_szClaim_eq N a0 a1 a2 a3 a4 s l _ (by omega) (by omega) hs hl]
  by_cases h1 : (1048576 : Int) < (s.size : Int)
  · rw [if_pos h1]; rfl
  · rw [if_neg h1]
    by_cases h2 : (1048576 : Int) - (s.size : Int) < (l.length : Int)
    · rw [if_pos h2]; rfl
    · rw [if_neg h2, decide_eq_false (by omega : ¬ (1048576 : Int) - (s.size : Int) - (l.length : Int) < 0)]
      simp only [cond_false]
      rw [laws_szClaim_eq N b0 b1 b2 b3 b4 t m _ (by omega) (by omega) ht hm]
      by_cases h3 : (1048576 : Int) - (s.size : Int) - (l.length : Int) < (t.size : Int)
      · rw [if_pos h3]; rfl
      · rw [if_neg h3]
        by_cases h4 : (1048576 : Int) - (s.size : Int) - (l.length : Int) - (t.size : Int) < (m.length : Int)
        · rw [if_pos h4]; rfl
        · rw [if_neg h4, decide_eq_false (by omega : ¬ (1048576 : Int) - (s.size : Int) - (l.length : Int) - (t.size : Int) - (m.length : Int) < 0)]
          have hl' : l.length ≤ 1048576 := by omega
          have hm' : m.length ≤ 1048576 := by omega
          simp only [cond_false, laws_toClaim_eq N _ _ _ _ _ _ _ hl' hN, laws_toClaim_eq N _ _ _ _ _ _ _ hm' hN, EqualClaims_same N _ _ _ _ _ _ l _ _ _ _ _ _ m hl' hN, spec_EqualClaims_eq N _ _ _ _ _ _ l _ _ _ _ _ _ m hl' hN,
            laws_eqClaim_same N _ _ _ _ _ _ _ hl' hN, laws_eqClaim_same N _ _ _ _ _ _ _ hm' hN]
          simp
end Go.Proofs.Ytpiipfkopncbeaa
