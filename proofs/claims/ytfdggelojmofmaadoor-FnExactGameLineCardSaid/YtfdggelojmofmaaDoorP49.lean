/- The line of a game. -/
import Derived.Test.YtfdggelojmofmaaDoorP48
namespace Go.Proofs.YtfdggelojmofmaaDoor
open Go.Rv
variable {β : Type}
/-- The line's words, but for the last. -/
def gameWords (a b c d e : List UInt8) : List (List UInt8) := [[103, 97, 109, 101], [109, 105, 110, 105, 109, 97, 108], a, [98, 97, 110, 122, 104, 97, 102], b, [115, 104, 97, 112, 108, 101, 121], c, [118, 101, 116, 111], d, [100, 117, 109, 109, 105, 101, 115], e]
def gameLine (a b c d e : List UInt8) (p : Bool) : List UInt8 := Lib.join (gameWords a b c d e ++ cond p [[112, 114, 111, 112, 101, 114]] []) [32]
def gMin (w n : Nat) : List UInt8 := textL (picks (fun x => minp w n x n) (2 ^ n))
def gBan (w n : Nat) : List UInt8 := textL (pws (fun _ => 1) w n n)
def gSha (w n : Nat) : List UInt8 := textL (pws (cfS n) w n n)
def gVet (w n : Nat) : List UInt8 := textL (picks (veto w n) n)
def gDum (w n : Nat) : List UInt8 := textL (picks (fun i => !dep w n i) n)
theorem pl (p : Nat → Bool) (m : Nat) (hm : m ≤ 32) : (picks p m).length ≤ 1000 ∧ (∀ x ∈ picks p m, in64 x) ∧ (textL (picks p m)).length ≤ 1000 := by
  have h1 := picks_len p m
  have h2 := picks_in p m (by omega)
  have h3 := textL_len _ h2
  exact ⟨by omega, h2, by omega⟩
theorem pwl (cf : Nat → Int) (w n : Nat) (hn : n ≤ 5) : (pws cf w n n).length ≤ 1000 ∧ (∀ x ∈ pws cf w n n, in64 x) ∧ (textL (pws cf w n n)).length ≤ 1000 := by
  have h1 := pws_len cf w n n
  have h2 := pws_in cf w n n
  have h3 := textL_len _ h2
  exact ⟨by omega, h2, by omega⟩

theorem spec_GameLine_n (N n w : Nat) (hN : 1048576 < N) (hn : n ≤ 5) (hw : w < 2 ^ 2 ^ n) (hg : game w n = true) (k : ByteArray → Option β) : spec_GameLine N (n : Int) (w : Int) k =
    k (B (gameLine (gMin w n) (gBan w n) (gSha w n) (gVet w n) (gDum w n) (allTo (prop1 w n) (2 ^ n)))) := by
  have hs := size_le hn
  obtain ⟨a1, a2, a3⟩ := pl (fun x => minp w n x n) (2 ^ n) hs
  obtain ⟨b1, b2, b3⟩ := pwl (fun _ => 1) w n hn
  obtain ⟨c1, c2, c3⟩ := pwl (cfS n) w n hn
  obtain ⟨d1, d2, d3⟩ := pl (veto w n) n (by omega)
  obtain ⟨e1, e2, e3⟩ := pl (fun i => !dep w n i) n (by omega)
  unfold spec_GameLine
  rw [spec_IsSimpleGame_n N n w (by omega) hn hw, hg]
  simp only [Bool.not_true, cond_false]
  rw [spec_MinimalPoints_n N n w (by omega) hn hw, spec_l34Numbers_eq N hN _ a1 a2]
  simp only [B_strOf, B_app, B_size]
  rw [gd_true (decide_eq_true (by simp; omega)), gd_true (decide_eq_true (by simp; omega)), spec_Banzhaf_n N n w (by omega) hn hw hg, spec_l34Numbers_eq N hN _ b1 b2]
  simp only [B_app, B_size]
  rw [gd_true (decide_eq_true (by simp; omega)), gd_true (decide_eq_true (by simp; omega)), spec_Shapley_n N n w (by omega) hn hw hg, spec_l34Numbers_eq N hN _ c1 c2]
  simp only [B_app, B_size]
  rw [gd_true (decide_eq_true (by simp; omega)), gd_true (decide_eq_true (by simp; omega)), spec_Veto_n N n w (by omega) hn hw hg, spec_l34Numbers_eq N hN _ d1 d2]
  simp only [B_app, B_size]
  rw [gd_true (decide_eq_true (by simp; omega)), gd_true (decide_eq_true (by simp; omega)), spec_Dummy_n N n w (by omega) hn hw hg, spec_l34Numbers_eq N hN _ e1 e2]
  simp only [B_app, B_size]
  rw [gd_true (decide_eq_true (by simp; omega)), spec_Proper_n N n w (by omega) hn hw hg]
  unfold spec_l34Yes
  cases allTo (prop1 w n) (2 ^ n) with
  | true =>
    simp only [cond_true, B_app, B_size]
    rw [gd_true (decide_eq_true (by simp; omega))]
    congr 2
    simp [gameLine, gameWords, gMin, gBan, gSha, gVet, gDum, Lib.join, List.intercalate]
  | false =>
    simp only [cond_false, B_nil, B_app, B_size]
    rw [gd_true (decide_eq_true (by simp; omega))]
    congr 2
    simp [gameLine, gameWords, gMin, gBan, gSha, gVet, gDum, Lib.join, List.intercalate]

theorem impl_GameLine_n (N n w : Nat) (hN : 1048576 < N) (hn : n ≤ 5) (hw : w < 2 ^ 2 ^ n) (hg : game w n = true) (k : ByteArray → Option β) : impl_GameLine N (n : Int) (w : Int) k =
    k (B (gameLine (gMin w n) (gBan w n) (gSha w n) (gVet w n) (gDum w n) (allTo (prop1 w n) (2 ^ n)))) := by
  have hs := size_le hn
  obtain ⟨a1, a2, a3⟩ := pl (fun x => minp w n x n) (2 ^ n) hs
  obtain ⟨b1, b2, b3⟩ := pwl (fun _ => 1) w n hn
  obtain ⟨c1, c2, c3⟩ := pwl (cfS n) w n hn
  obtain ⟨d1, d2, d3⟩ := pl (veto w n) n (by omega)
  obtain ⟨e1, e2, e3⟩ := pl (fun i => !dep w n i) n (by omega)
  have hlen : ∀ p, (gameLine (gMin w n) (gBan w n) (gSha w n) (gVet w n) (gDum w n) p).length ≤ 100000 := by
    intro p
    cases p <;> simp [gameLine, gameWords, gMin, gBan, gSha, gVet, gDum, Lib.join, List.intercalate] <;> omega
  have fin : ∀ (p : Bool) (l : List ByteArray), l = (gameWords (gMin w n) (gBan w n) (gSha w n) (gVet w n) (gDum w n) ++ cond p [[112, 114, 111, 112, 101, 114]] []).map B → impl_line_text_g0 N l (fun r0 _ => k r0) = k (B (gameLine (gMin w n) (gBan w n) (gSha w n) (gVet w n) (gDum w n) p)) := by
    intro p l hl
    have h := hlen p
    unfold impl_line_text_g0 strings_Join
    rw [hl, show strOf [32] = B [32] from rfl, joinB_B, gd_true (decide_eq_true (by cases p <;> simp [gameWords])), gd_true (decide_eq_true (by rw [B_size]; exact Nat.le_trans h (by decide)))]
    rfl
  unfold impl_GameLine
  rw [impl_IsSimpleGame_n N n w (by omega) hn hw, hg, Bool.not_true, cond_false]
  rw [impl_MinimalPoints_n N n w (by omega) hn hw, impl_listText_eq N hN _ a1 a2, impl_Banzhaf_n N n w (by omega) hn hw hg, impl_listText_eq N hN _ b1 b2, impl_Shapley_n N n w (by omega) hn hw hg, impl_listText_eq N hN _ c1 c2]
  unfold impl_line_putIf_g0 impl_line_put_g0
  rw [gd_true (decide_eq_true (by simp))]
  dsimp only
  rw [impl_Veto_n N n w (by omega) hn hw hg, impl_listText_eq N hN _ d1 d2, impl_Dummy_n N n w (by omega) hn hw hg, impl_listText_eq N hN _ e1 e2, gd_true (decide_eq_true (by simp)), impl_Proper_n N n w (by omega) hn hw hg]
  cases allTo (prop1 w n) (2 ^ n) with
  | true =>
    simp only [cond_true]
    rw [gd_true (decide_eq_true (by simp))]
    exact fin true _ (by simp [gameWords, gMin, gBan, gSha, gVet, gDum, B_strOf])
  | false =>
    simp only [cond_false]
    exact fin false _ (by simp [gameWords, gMin, gBan, gSha, gVet, gDum, B_strOf])

theorem notTable (N : Nat) (a0 a1 : Int) (h1 : -9223372036854775808 ≤ a1 ∧ a1 ≤ 9223372036854775807) (hT : isT a0 a1 = false) (k : ByteArray → Option β) : spec_GameLine N a0 a1 k = k ByteArray.empty ∧ impl_GameLine N a0 a1 k = k ByteArray.empty := by
  unfold spec_GameLine impl_GameLine spec_IsSimpleGame impl_IsSimpleGame impl_IsMonotone
  simp only [spec_IsTable_eq, impl_IsTable_eq N a0 a1 (by omega), hT, cond_false, Bool.not_false, cond_true]
  exact ⟨trivial, trivial⟩

theorem notGame (N n w : Nat) (hN : 64 < N) (hn : n ≤ 5) (hw : w < 2 ^ 2 ^ n) (hg : game w n = false) (k : ByteArray → Option β) : spec_GameLine N (n : Int) (w : Int) k = k ByteArray.empty ∧ impl_GameLine N (n : Int) (w : Int) k = k ByteArray.empty := by
  constructor
  · unfold spec_GameLine
    rw [spec_IsSimpleGame_n N n w hN hn hw, hg, Bool.not_false, cond_true]
  · unfold impl_GameLine
    rw [impl_IsSimpleGame_n N n w hN hn hw, hg, Bool.not_false, cond_true]
theorem law_GameLine (N : Nat) (hN : 1048576 < N) (a0 a1 : Int) (h0 : -9223372036854775808 ≤ a0 ∧ a0 ≤ 9223372036854775807) (h1 : -9223372036854775808 ≤ a1 ∧ a1 ≤ 9223372036854775807) (k : Bool → Option β) : laws_FnExactGameLine N a0 a1 k = k true := by
  unfold laws_FnExactGameLine laws_toTable
  have fin : ∀ s : ByteArray, cond (!(s.toList == s.toList)) (k false) (k true) = k true := fun s => by rw [beq_self_eq_true]; rfl
  dsimp only
  cases hT : isT a0 a1 with
  | false =>
    rw [(notTable N a0 a1 h1 hT _).1, (notTable N a0 a1 h1 hT _).2]
    exact fin _
  | true =>
    obtain ⟨n, w, rfl, rfl, hn, hw, _⟩ := isT_nat hT
    cases hg : game w n with
    | true =>
      rw [spec_GameLine_n N n w hN hn hw hg, impl_GameLine_n N n w hN hn hw hg]
      exact fin _
    | false =>
      rw [(notGame N n w (by omega) hn hw hg _).1, (notGame N n w (by omega) hn hw hg _).2]
      exact fin _
end Go.Proofs.YtfdggelojmofmaaDoor
