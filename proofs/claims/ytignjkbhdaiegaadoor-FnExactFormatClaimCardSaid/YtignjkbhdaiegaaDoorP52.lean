/- A claim, written. -/
import Derived.Test.YtignjkbhdaiegaaDoorP51
namespace Go.Proofs.YtignjkbhdaiegaaDoor
open Go.Rv
variable {β : Type}
/-! ### Formulas -/
theorem pt_fu (N : Nat) (hN : 1048576 < N) (l : List UInt8) (h60 : l.length ≤ 60) : pt N l = pt 1048577 l := by
  cases h1 : pt N l with
  | some p =>
    obtain ⟨T, r⟩ := p
    obtain ⟨w1, w2⟩ := pt_wf _ _ _ _ h1
    rw [w2, pt_tx T _ r w1]
    rw [w2] at h60; simp at h60; omega
  | none =>
    cases h2 : pt 1048577 l with
    | none => rfl
    | some p =>
      obtain ⟨T, r⟩ := p
      obtain ⟨w1, w2⟩ := pt_wf _ _ _ _ h2
      rw [w2, pt_tx T _ r w1] at h1
      · cases h1
      · rw [w2] at h60; simp at h60; omega
def isForm (l : List UInt8) : Bool := decide (l.length ≤ 60) && (match pt 1048577 l with | some (_, []) => true | _ => false)
theorem spec_IsForm_eq (N : Nat) (hN : 1048576 < N) (l : List UInt8) (k : Bool → Option β) : spec_IsFormula N (B l) k = k (isForm l) := spec_IsFormula_eq N hN l k
theorem impl_IsFormula_eq (N : Nat) (hN : 1048576 < N) (l : List UInt8) (k : Bool → Option β) : impl_IsFormula N (B l) k = k (isForm l) := by
  unfold impl_IsFormula impl_readFormula impl_readPart isForm
  rw [B_size]
  by_cases h : l.length ≤ 60
  · rw [decide_eq_true h, decide_eq_false (by omega), cond_false, Bool.true_and, readPart_eq N N l (by omega), pt_fu N hN l h]
    cases hp : pt 1048577 l with
    | none => rfl
    | some p =>
      obtain ⟨T, r⟩ := p
      obtain ⟨a1, _⟩ := pt_wf _ _ _ _ hp
      have a2 : T.isNil = false := by cases T with | nil => exact a1.elim | node => rfl
      simp only [a2, Bool.not_false, cond_true, B_nil, B_toList]
      cases r <;> rfl
  · rw [decide_eq_false h, decide_eq_true (by omega)]
    rfl

/-! ### Tables -/
def tbits (w m : Nat) : List UInt8 := (List.range m).map fun x => if w.testBit x then 49 else 48
theorem tbits_len (w m : Nat) : (tbits w m).length = m := by simp [tbits]
theorem tbits_succ (w m : Nat) : tbits w (m + 1) = tbits w m ++ [if w.testBit m then 49 else 48] := by simp [tbits, List.range_succ]
theorem spec_FormatTable_n (N n w : Nat) (hN : 64 < N) (hn : n ≤ 5) (hw : w < 2 ^ 2 ^ n) (k : ByteArray → Option β) : spec_FormatTable N (n : Int) (w : Int) k = k (B (tbits w (2 ^ n))) := by
  have hw' := w_small hn hw
  have hs := size_le hn
  have hz : (0 : Int) ≤ ((2 ^ n : Nat) : Int) := Int.natCast_nonneg _
  refine loop_st (fun F x => spec_FormatTable_l0 N F (B (tbits w x)) (x : Int) (n : Int) (w : Int) fun e => k e) (2 ^ n) _ (fun F x hx => ?_) (fun F => ?_) N 0 (by omega) (by omega)
  · simp only [spec_FormatTable_l0, spec_FormatTable_l0b]
    rw [spec_IsTable_eq, isTn hn hw, cond_true, gd_true (decide_eq_true (by omega)), shl_one n (by omega), decide_eq_true (by omega), cond_true, gd_true (decide_eq_true (by omega)), bit_w w x (by omega), bw_eq1, w64_succ x (by omega), tbits_succ]
    simp only [B_strOf, B_app, B_size]
    rw [gd_true (decide_eq_true (by simp [tbits_len]; omega)), gd_true (decide_eq_true (by simp [tbits_len]; omega))]
    cases w.testBit x <;> rfl
  · simp only [spec_FormatTable_l0, spec_FormatTable_l0b]
    rw [spec_IsTable_eq, isTn hn hw, cond_true, gd_true (decide_eq_true (by omega)), shl_one n (by omega), decide_eq_false (by omega), cond_false]
def ibits (w m : Nat) : List Int := (List.range m).map fun x => 48 + (bw w x : Int)
theorem ibits_len (w m : Nat) : (ibits w m).length = m := by simp [ibits]
theorem ibits_succ (w m : Nat) : ibits w (m + 1) = ibits w m ++ [48 + (bw w m : Int)] := by simp [ibits, List.range_succ]
theorem impl_FormatTable_n (N n w : Nat) (hN : 64 < N) (hn : n ≤ 5) (hw : w < 2 ^ 2 ^ n) (k : ByteArray → Option β) : impl_FormatTable N (n : Int) (w : Int) k = k (B (tbits w (2 ^ n))) := by
  have hw' := w_small hn hw
  have hs := size_le hn
  have hz : (0 : Int) ≤ ((2 ^ n : Nat) : Int) := Int.natCast_nonneg _
  unfold impl_FormatTable
  rw [impl_IsTable_eq N _ _ (by omega), isTn hn hw, Bool.not_true, cond_false, impl_Table_size_eq N n _ hn, gd_true (decide_eq_true (by omega)), gd_true (decide_eq_true (by omega)), gd_true (decide_eq_true (by omega)), Int.toNat_natCast, List.length_replicate]
  have key := loop_st (fun F x => impl_FormatTable_l0 N F ((2 ^ n : Nat) : Int) (x : Int) (n : Int) (w : Int) (ibits w x ++ List.replicate (2 ^ n - x) 0) fun e => k (strOf e)) (2 ^ n) (k (B (tbits w (2 ^ n)))) (fun F x hx => ?_) (fun F => ?_) N 0 (by omega) (by omega)
  · simpa [ibits] using key
  · simp only [impl_FormatTable_l0, impl_FormatTable_l0b]
    have hb := bw_le w x
    rw [decide_eq_true (by omega), cond_true, impl_Table_at_eq N w x _ hw', gd_true (decide_eq_true (by omega)), gd_true (decide_eq_true (by simp [ibits_len]; omega)), w64_succ x (by omega)]
    rw [w8_small _ (by omega), show (48 : Int) + (bw w x : Int) = ((48 + bw w x : Nat) : Int) by omega, w8_small _ (by omega), show 2 ^ n - x = (2 ^ n - (x + 1)) + 1 by omega, List.replicate_succ, ibits_succ]
    have e := wr_mid (ibits w x) (0 : Int) ((48 + bw w x : Nat) : Int) (List.replicate (2 ^ n - (x + 1)) 0)
    rw [ibits_len] at e
    rw [e]
    simp
  · simp only [impl_FormatTable_l0, impl_FormatTable_l0b]
    rw [decide_eq_false (by omega), cond_false]
    congr 1
    rw [B_strOf, Nat.sub_self, List.replicate_zero, List.append_nil]
    congr 1
    unfold ibits tbits
    rw [List.map_map]
    apply List.map_congr_left
    intro x _
    simp only [Function.comp, bw]
    cases w.testBit x <;> rfl

/-! ### Words and numbers -/
def cword (a : Int) : List UInt8 :=
  cond (a == 1) [100, 101, 112, 116, 104] (cond (a == 2) [119, 101, 105, 103, 104, 116, 115] (cond (a == 3) [110, 111, 110, 101] (cond (a == 4) [102, 111, 114, 109, 117, 108, 97]
    (cond (a == 5) [112, 114, 111, 116, 111, 99, 111, 108] (cond (a == 6) [111, 114, 100, 101, 114] (cond (a == 7) [116, 101, 115, 116, 115] []))))))
theorem impl_ClaimWord_eq (N : Nat) (a : Int) (k : ByteArray → Option β) : impl_ClaimWord N a k = k (B (cword a)) := by
  unfold impl_ClaimWord cword
  cases a == 1 <;> cases a == 2 <;> cases a == 3 <;> cases a == 4 <;> cases a == 5 <;> cases a == 6 <;> cases a == 7 <;> rfl
theorem spec_ClaimWord_eq (N : Nat) (a : Int) (k : ByteArray → Option β) : spec_ClaimWord N a k = k (B (cword a)) := by
  unfold spec_ClaimWord
  rw [spec_l1In_eq]
  by_cases h : 1 ≤ a ∧ a ≤ 7
  · have : a = 1 ∨ a = 2 ∨ a = 3 ∨ a = 4 ∨ a = 5 ∨ a = 6 ∨ a = 7 := by omega
    rcases this with rfl | rfl | rfl | rfl | rfl | rfl | rfl <;> rfl
  · have e : (decide (1 ≤ a) && decide (a ≤ 7)) = false := by
      by_cases h1 : 1 ≤ a
      · rw [decide_eq_true h1, decide_eq_false (by omega)]; rfl
      · rw [decide_eq_false h1]; rfl
    rw [e]
    unfold cword
    rw [beq_eq_false_iff_ne.2 (show a ≠ 1 by omega), beq_eq_false_iff_ne.2 (show a ≠ 2 by omega), beq_eq_false_iff_ne.2 (show a ≠ 3 by omega), beq_eq_false_iff_ne.2 (show a ≠ 4 by omega), beq_eq_false_iff_ne.2 (show a ≠ 5 by omega), beq_eq_false_iff_ne.2 (show a ≠ 6 by omega), beq_eq_false_iff_ne.2 (show a ≠ 7 by omega)]
    rfl
theorem cword_len (a : Int) : (cword a).length ≤ 10 := by
  unfold cword
  cases a == 1 <;> cases a == 2 <;> cases a == 3 <;> cases a == 4 <;> cases a == 5 <;> cases a == 6 <;> cases a == 7 <;> decide
def clamp (x : Int) : Int := mxI (-99) (mnI 99 x)
theorem clamp_eq (x : Int) : mnI (mxI x (-99)) 99 = clamp x := by unfold clamp mnI mxI; split <;> split <;> split <;> (try split) <;> omega
theorem clamp_in (x : Int) : in64 (clamp x) := by unfold clamp mnI mxI in64; split <;> (try split) <;> (try split) <;> omega
def shortL (l : List Int) : List UInt8 := if l.length ≤ 40 then textL (l.map clamp) else [110, 111, 110, 101]
theorem clamps_in (l : List Int) : ∀ x ∈ l.map clamp, in64 x := by
  intro x hx
  obtain ⟨y, _, rfl⟩ := List.mem_map.1 hx
  exact clamp_in y
theorem shortL_len (l : List Int) : (shortL l).length ≤ 1000 := by
  unfold shortL
  split
  · have := textL_len _ (clamps_in l); simp at this; omega
  · simp
theorem rd_clamp (l : List Int) (i : Nat) (h : i < l.length) : clamp (rd 0 l (i : Int)) = rd 0 (l.map clamp) (i : Int) := by
  rw [rd_nat 0 l i h, rd_nat 0 (l.map clamp) i (by simpa using h)]
  simp
theorem impl_written_eq (N : Nat) (x : Int) (k : ByteArray → Option β) : impl_written N x k = k (B (Lib.itoa (clamp x))) := by
  unfold impl_written
  rw [clamp_eq, impl_FormatInt_eq N _ (clamp_in x)]
theorem spec_l33Numbers_eq (N : Nat) (hN : 1048576 < N) (l : List Int) (hl : l.length ≤ 1048576) (k : ByteArray → Option β) : spec_l33Numbers N l k = k (B (shortL l)) := by
  unfold spec_l33Numbers
  by_cases h40 : l.length ≤ 40
  · have hm := clamps_in l
    have main : ∀ (F i : Nat), i ≤ l.length → l.length - i < F → spec_l33Numbers_l0 N F l (B (jn (l.map clamp) i)) (i : Int) (fun e => cond (e.toList == ByteArray.empty.toList) (k (strOf [110, 111, 110, 101])) (k e)) = k (B (shortL l)) := by
      intro F
      induction F with
      | zero => intro i _ h; omega
      | succ F ih =>
        intro i hi hF
        simp only [spec_l33Numbers_l0, spec_l33Numbers_l0b]
        rcases Nat.lt_or_ge i l.length with h | h
        · have j1 := jn_len (l.map clamp) hm i (by simpa using hi)
          have j2 := itoa_len _ (clamp_in (rd 0 l (i : Int)))
          have g1 : decide ((i : Int) < (l.length : Int)) = true := decide_eq_true (by omega)
          have g2 : decide ((0 : Int) ≤ (i : Int)) = true := decide_eq_true (by omega)
          have g3 : decide ((l.length : Int) ≤ 40) = true := decide_eq_true (by omega)
          have hf : ∀ k', spec_FormatInt (β := β) N (mxI (-99) (mnI 99 (rd 0 l (i : Int)))) k' = k' (B (Lib.itoa (clamp (rd 0 l (i : Int))))) := fun k' => spec_FormatInt_eq N (by omega) _ (clamp_in _) k'
          simp only [g1, g2, g3, gd, cond_true, hf]
          rw [show w64 ((i : Int) + 1) = ((i + 1 : Nat) : Int) by rw [w64_id] <;> omega]
          by_cases h0 : 0 < i
          · rw [decide_eq_true (show (i : Int) > 0 by omega)]
            simp only [cond_true, B_strOf, B_size, B_app]
            rw [decide_eq_true (by simp; omega), cond_true, decide_eq_true (by simp; omega), cond_true]
            have e : jn (l.map clamp) (i + 1) = jn (l.map clamp) i ++ List.map (fun n => UInt8.ofNat n.toNat) [(44 : Int)] ++ Lib.itoa (clamp (rd 0 l (i : Int))) := by
              simp only [jn]
              rw [decide_eq_true h0, rd_clamp l i h]
              rfl
            rw [← e]
            exact ih (i + 1) h (by omega)
          · rw [decide_eq_false (show ¬ (i : Int) > 0 by omega)]
            simp only [cond_false, B_size, B_app]
            rw [decide_eq_true (by omega), cond_true]
            have e : jn (l.map clamp) (i + 1) = jn (l.map clamp) i ++ Lib.itoa (clamp (rd 0 l (i : Int))) := by
              simp only [jn]
              rw [decide_eq_false h0, rd_clamp l i h]
              rfl
            rw [← e]
            exact ih (i + 1) h (by omega)
        · have : i = l.length := by omega
          subst this
          rw [decide_eq_false (by omega), cond_false, B_nil, B_toList, B_toList]
          unfold shortL textL
          rw [if_pos h40]
          by_cases h0 : l = []
          · subst h0; rfl
          · have h0' : l.map clamp ≠ [] := by simpa using h0
            have j1 := (jn_len (l.map clamp) hm l.length (by simp)).2 (by have := List.length_pos_iff.2 h0; omega)
            rw [if_neg h0', List.length_map]
            cases hj : jn (l.map clamp) l.length with
            | nil => rw [hj] at j1; simp at j1
            | cons => rfl
    exact main N 0 (by omega) (by omega)
  · obtain ⟨M, rfl⟩ : ∃ M, N = M + 1 := ⟨N - 1, by omega⟩
    simp only [spec_l33Numbers_l0, spec_l33Numbers_l0b]
    rw [decide_eq_true (show (0 : Int) < (l.length : Int) by omega), cond_true, decide_eq_false (show ¬ (l.length : Int) ≤ 40 by omega), cond_false]
    unfold shortL
    rw [if_neg h40, beq_self_eq_true]
    rfl
theorem impl_writtenList_eq (N : Nat) (hN : 1048576 < N) (l : List Int) (hl : l.length ≤ 1048576) (k : ByteArray → Option β) : impl_writtenList N l k = k (B (shortL l)) := by
  unfold impl_writtenList
  by_cases h0 : l = []
  · subst h0; rfl
  · have hp := List.length_pos_iff.2 h0
    rw [beq_eq_false_iff_ne.2 (by omega), cond_false]
    by_cases h40 : l.length ≤ 40
    · rw [decide_eq_false (show ¬ (l.length : Int) > 40 by omega), cond_false, gd_true (decide_eq_true (by omega)), gd_true (decide_eq_true (by omega)), gd_true (decide_eq_true (by omega)), Int.toNat_natCast]
      have main : ∀ (F i : Nat), i ≤ l.length → l.length - i < F → ∀ k0 : List ByteArray → Option β, impl_writtenList_l0 N F l (l.length : Int) (i : Int) ((l.take i).map (fun x => itoaB (clamp x)) ++ List.replicate (l.length - i) ByteArray.empty) k0 = k0 (l.map fun x => itoaB (clamp x)) := by
        intro F
        induction F with
        | zero => intro i _ h; omega
        | succ F ih =>
          intro i hi hF k0
          simp only [impl_writtenList_l0, impl_writtenList_l0b]
          rcases Nat.lt_or_ge i l.length with h | h
          · have g1 : decide ((i : Int) < (l.length : Int)) = true := decide_eq_true (by omega)
            have g2 : decide ((0 : Int) ≤ (i : Int)) = true := decide_eq_true (by omega)
            simp only [g1, g2, gd, cond_true]
            rw [impl_written_eq N, decide_eq_true (by simp; omega), cond_true]
            rw [show w64 ((i : Int) + 1) = ((i + 1 : Nat) : Int) by rw [w64_id] <;> omega, show l.length - i = (l.length - (i + 1)) + 1 by omega, List.replicate_succ]
            have e : wr ((l.take i).map (fun x => itoaB (clamp x)) ++ ByteArray.empty :: List.replicate (l.length - (i + 1)) ByteArray.empty) (i : Int) (B (Lib.itoa (clamp (rd 0 l (i : Int))))) = (l.take (i + 1)).map (fun x => itoaB (clamp x)) ++ List.replicate (l.length - (i + 1)) ByteArray.empty := by
              rw [rd_nat 0 l i h, List.take_add_one, List.getElem?_eq_getElem h]
              have hlen : ((l.take i).map fun x => itoaB (clamp x)).length = i := by simp; omega
              have hw : ∀ (p r : List ByteArray) (y z : ByteArray), wr (p ++ y :: r) (p.length : Int) z = p ++ z :: r := by intro p r y z; simp [wr]
              have := hw ((l.take i).map fun x => itoaB (clamp x)) (List.replicate (l.length - (i + 1)) ByteArray.empty) ByteArray.empty (B (Lib.itoa (clamp l[i])))
              rw [hlen] at this
              rw [this, List.map_append, List.append_assoc]
              rfl
            rw [e]
            exact ih (i + 1) h (by omega) k0
          · have : i = l.length := by omega
            subst this
            rw [decide_eq_false (by omega), cond_false]
            simp
      have := main N 0 (by omega) (by omega) fun e => strings_Join N e (strOf [44]) fun r4 => k r4
      simp only [List.take_zero, List.map_nil, List.nil_append, Nat.sub_zero] at this
      refine this.trans ?_
      have hj : joinB (l.map fun x => itoaB (clamp x)) (strOf [44]) = B (shortL l) := by
        unfold shortL
        rw [if_pos h40, textL_join _ (by simpa using h0)]
        unfold joinB B
        rw [List.map_map, List.map_map]
        congr 3
      have htl := shortL_len l
      unfold strings_Join
      rw [hj, gd_true (decide_eq_true (by simp; omega)), gd_true (decide_eq_true (by rw [B_size]; omega))]
    · rw [decide_eq_true (show (l.length : Int) > 40 by omega), cond_true]
      unfold shortL
      rw [if_neg h40]
      rfl
end Go.Proofs.YtignjkbhdaiegaaDoor
