/- Plain laws of the texts: the line of a diagram. -/
import Derived.Test.YtfdggelojmofmaaDoorP70
namespace Go.Proofs.YtfdggelojmofmaaDoor
open Go.Rv
set_option linter.unusedVariables false
variable {β : Type}
theorem joinB_B' (l : List (List UInt8)) (s : List UInt8) : joinB (l.map B) (B s) = B (Lib.join l s) := by
  unfold joinB B
  rw [List.map_map]
  have : ((fun x : ByteArray => x.data.toList) ∘ fun l : List UInt8 => (⟨l.toArray⟩ : ByteArray)) = id := by
    funext l
    simp
  rw [this]
  simp
theorem letter_ext : ∀ i, i < 5 → (strOf [97, 98, 99, 100, 101]).extract i (i + 1) = B [UInt8.ofNat (97 + i)] := by decide +kernel
theorem letter_w8 (i : Nat) (h : i < 5) : strOf (([] : List Int) ++ [w8 (97 + w8 (i : Int))]) = B [UInt8.ofNat (97 + i)] := by
  rw [w8_small i (by omega), show (97 : Int) + (i : Int) = ((97 + i : Nat) : Int) by omega, w8_small _ (by omega), B_one, Int.toNat_natCast]
theorem letters_size : (((strOf [97, 98, 99, 100, 101]).size : Nat) : Int) = 5 := by decide +kernel
theorem nat_in (n : Int) (h0 : -1000000 ≤ n) (h : n ≤ 1000000) : in64 n := ⟨by omega, by omega⟩

/-- Words, joined by blanks. -/
def jw (ws : List (List UInt8)) : Nat → List UInt8
  | 0 => []
  | i + 1 => cond (decide (0 < i)) (jw ws i ++ [32]) (jw ws i) ++ ws.getD i []
theorem jw_join (l : List (List UInt8)) : ∀ (x : List UInt8) (i : Nat), i ≤ l.length → jw (x :: l) (i + 1) = x ++ Lib.joinTail [32] (l.take i) := by
  intro x i
  induction i with
  | zero =>
    intro _
    simp [jw, Lib.joinTail, List.getD]
  | succ i ih =>
    intro h
    have e : l[i]? = some l[i] := List.getElem?_eq_getElem (by omega)
    rw [Lib.joinTail_take_succ [32] _ i _ e]
    have e2 : jw (x :: l) (i + 1 + 1) = jw (x :: l) (i + 1) ++ [32] ++ (x :: l).getD (i + 1) [] := rfl
    rw [e2, ih (by omega), List.getD_eq_getElem?_getD, List.getElem?_cons_succ, e]
    simp
theorem jw_all (l : List (List UInt8)) (h : l ≠ []) : jw l l.length = Lib.join l [32] := by
  cases l with
  | nil => exact absurd rfl h
  | cons x l => rw [List.length_cons, jw_join l x l.length (Nat.le_refl _), Lib.join_cons, List.take_of_length_le (Nat.le_refl _)]
theorem jw_len (l : List (List UInt8)) (hr : ∀ x ∈ l, x.length ≤ 100 ∧ 0 < x.length) : ∀ i, i ≤ l.length → (jw l i).length ≤ 101 * i ∧ (0 < i → 0 < (jw l i).length)
  | 0, _ => by simp [jw]
  | i + 1, h => by
    have h1 := jw_len l hr i (by omega)
    have h2 : (l.getD i []).length ≤ 100 ∧ 0 < (l.getD i []).length := by
      rw [List.getD_eq_getElem?_getD, List.getElem?_eq_getElem (by omega : i < l.length)]
      exact hr _ (List.getElem_mem _)
    simp only [jw]
    cases decide (0 < i) <;> simp only [cond_true, cond_false, List.length_append, List.length_cons, List.length_nil] <;> omega

/-- A node written. -/
def wordD (x : Int × Int × Int) : List UInt8 := [UInt8.ofNat (97 + x.1.toNat)] ++ Lib.itoa x.2.1 ++ [44] ++ Lib.itoa x.2.2
def textD (dg : T3) : List UInt8 := if dg = [] then [110, 111, 110, 101] else Lib.join (dg.map wordD) [32]
theorem rd3 (dg : T3) (i : Nat) (h : i < dg.length) : rd (0, 0, 0) dg (i : Int) = dg[i] := by
  simp only [rd, Int.toNat_natCast, List.getD_eq_getElem?_getD, List.getElem?_eq_getElem h]
  rfl

section
variable (N n : Nat) (hN : 1048576 < N) (hn : n ≤ 4) (dg : T3) (hd : DgOK n dg)
include hN hn hd

theorem node_facts (i : Nat) (h : i < dg.length) : ∃ (a : Nat) (b c : Int), rd (0, 0, 0) dg (i : Int) = ((a : Int), b, c) ∧ a < 4 ∧ -2 ≤ b ∧ b < 15 ∧ -2 ≤ c ∧ c < 15 ∧
    (dg.map wordD).getD i [] = [UInt8.ofNat (97 + a)] ++ Lib.itoa b ++ [44] ++ Lib.itoa c := by
  have _ := hN
  have hx := hd.2 _ (List.getElem_mem h)
  have e : (dg.map wordD).getD i [] = wordD dg[i] := by
    rw [List.getD_eq_getElem?_getD, List.getElem?_map, List.getElem?_eq_getElem h]
    rfl
  rw [rd3 dg i h, e]
  generalize dg[i] = x at hx
  obtain ⟨x1, x2, x3⟩ := x
  obtain ⟨h1, h2, h3, h4, h5, h6⟩ := hx
  dsimp only at h1 h2 h3 h4 h5 h6
  obtain ⟨a, rfl⟩ := Int.eq_ofNat_of_zero_le h1
  exact ⟨a, x2, x3, rfl, by omega, h3, h4, h5, h6, rfl⟩
theorem words_len (x : List UInt8) (hx : x ∈ dg.map wordD) : x.length ≤ 100 ∧ 0 < x.length := by
  have _ := hN; have _ := hn
  obtain ⟨y, hy, rfl⟩ := List.mem_map.1 hx
  have h := hd.2 y hy
  have h1 := itoa_len _ (nat_in y.2.1 (by omega) (by omega))
  have h2 := itoa_len _ (nat_in y.2.2 (by omega) (by omega))
  simp only [wordD, List.length_append, List.length_cons, List.length_nil]
  omega
theorem textD_len : (textD dg).length ≤ 2000 := by
  unfold textD
  split
  · simp
  · have h := hd.1
    have := jw_len _ (words_len N n hN hn dg hd) dg.length (by simp)
    rw [← jw_all _ (by simpa using ‹¬ dg = []›), List.length_map]
    omega

theorem spec_FormatDiagram_n (K : ByteArray → Option β) : spec_FormatDiagram N dg K = K (B (textD dg)) := by
  have hl := hd.1
  unfold spec_FormatDiagram
  refine loop_st (fun F i => spec_FormatDiagram_l0 N F dg (B (jw (dg.map wordD) i)) (i : Int) (fun e => K e) fun e => cond (e.toList == ByteArray.empty.toList) (K (strOf [110, 111, 110, 101])) (K e)) dg.length _ (fun F i hi => ?_) (fun F => ?_) N 0 (by omega) (by omega)
  · obtain ⟨a, b, c, e, h1, h2, h3, h4, h5, ew⟩ := node_facts N n hN hn dg hd i hi
    have hj := (jw_len _ (words_len N n hN hn dg hd) i (by simp; omega)).1
    have ib := nat_in b (by omega) (by omega)
    have ic := nat_in c (by omega) (by omega)
    have lb := (itoa_len _ ib).1
    have lc := (itoa_len _ ic).1
    simp only [spec_FormatDiagram_l0, spec_FormatDiagram_l0b, e, spec_l1In_eq, spec_FormatInt_eq N (by omega) _ ib, spec_FormatInt_eq N (by omega) _ ic, letters_size]
    rw [w64_succ a (by omega), Int.toNat_natCast, Int.toNat_natCast, letter_ext a (by omega)]
    simp only [B_strOf, B_app, B_size, List.map_cons, List.map_nil]
    rw [decide_eq_true (by omega : (i : Int) < (dg.length : Int)), cond_true, gd_true (decide_eq_true (by omega)), gd_true rfl, decide_eq_false (by omega : ¬ (dg.length : Int) > 31), cond_false]
    rw [decide_eq_true (by omega : (0 : Int) ≤ (a : Int)), decide_eq_true (by omega : (a : Int) ≤ 4), Bool.and_self, Bool.not_true, cond_false]
    rw [decide_eq_true (by omega : (-2 : Int) ≤ b), decide_eq_true (by omega : b ≤ 30), Bool.and_self, Bool.not_true, cond_false]
    rw [decide_eq_true (by omega : (-2 : Int) ≤ c), decide_eq_true (by omega : c ≤ 30), Bool.and_self, Bool.not_true, cond_false]
    have es : jw (dg.map wordD) (i + 1) = cond (decide (0 < i)) (jw (dg.map wordD) i ++ [32]) (jw (dg.map wordD) i) ++ ([UInt8.ofNat (97 + a)] ++ Lib.itoa b ++ [44] ++ Lib.itoa c) := by
      rw [← ew]; rfl
    rw [es, w64_succ i (by omega)]
    by_cases h0 : 0 < i
    · rw [decide_eq_true (by omega : (i : Int) > 0), decide_eq_true h0, cond_true, cond_true]
      rw [gd_true (decide_eq_true (by simp; omega)), gd_true (decide_eq_true (by omega)), gd_true (decide_eq_true (by omega)), gd_true rfl, gd_true (decide_eq_true (by omega)), gd_true (decide_eq_true (by simp; omega)), gd_true (decide_eq_true (by simp; omega)), gd_true (decide_eq_true (by simp; omega)), gd_true (decide_eq_true (by simp; omega))]
      simp only [List.append_assoc]
      rfl
    · rw [decide_eq_false (by omega : ¬ (i : Int) > 0), decide_eq_false h0, cond_false, cond_false]
      rw [gd_true (decide_eq_true (by omega)), gd_true (decide_eq_true (by omega)), gd_true rfl, gd_true (decide_eq_true (by omega)), gd_true (decide_eq_true (by simp; omega)), gd_true (decide_eq_true (by simp; omega)), gd_true (decide_eq_true (by simp; omega)), gd_true (decide_eq_true (by simp; omega))]
      simp only [List.append_assoc]
      rfl
  · simp only [spec_FormatDiagram_l0, spec_FormatDiagram_l0b]
    rw [decide_eq_false (by omega), cond_false, B_nil, B_toList, B_toList]
    unfold textD
    by_cases h0 : dg = []
    · subst h0; rfl
    · have h1 := jw_len _ (words_len N n hN hn dg hd) dg.length (by simp)
      have hp := List.length_pos_iff.2 h0
      rw [if_neg h0, ← jw_all _ (by simpa using h0), List.length_map]
      cases hj : jw (dg.map wordD) dg.length with
      | nil => rw [hj] at h1; exact absurd (h1.2 hp) (by simp)
      | cons => rfl

theorem impl_FormatDiagram_1_eq (b : Int) (h : -2 ≤ b) (h2 : b < 15) (K : Bool → Option β) : impl_FormatDiagram_1 N b K = K true := by
  have _ := hN; have _ := hn; have _ := hd
  unfold impl_FormatDiagram_1
  rw [decide_eq_true (by omega), cond_true, decide_eq_true (by omega)]
theorem impl_FormatDiagram_n (K : ByteArray → Option β) : impl_FormatDiagram N dg K = K (B (textD dg)) := by
  have hl := hd.1
  have htl := textD_len N n hN hn dg hd
  unfold impl_FormatDiagram
  by_cases h0 : dg = []
  · subst h0; rfl
  · have hp := List.length_pos_iff.2 h0
    rw [beq_eq_false_iff_ne.2 (by omega), cond_false, decide_eq_false (by omega), cond_false, gd_true (decide_eq_true (by omega)), gd_true (decide_eq_true (by omega)), gd_true (decide_eq_true (by omega)), Int.toNat_natCast]
    have main := loop_st (fun F i => impl_FormatDiagram_l0 N F dg (dg.length : Int) (i : Int) (((dg.take i).map fun x => B (wordD x)) ++ List.replicate (dg.length - i) ByteArray.empty) (fun e => K e) fun e => strings_Join N e (strOf [32]) fun r8 => K r8) dg.length
      (strings_Join N (dg.map fun x => B (wordD x)) (strOf [32]) fun r8 => K r8) (fun F i hi => ?_) (fun F => ?_) N 0 (by omega) (by omega)
    · simp only [List.take_zero, List.map_nil, List.nil_append, Nat.sub_zero] at main
      refine main.trans ?_
      have hj : joinB (dg.map fun x => B (wordD x)) (strOf [32]) = B (textD dg) := by
        unfold textD
        rw [if_neg h0, ← joinB_B', List.map_map]
        rfl
      unfold strings_Join
      rw [hj, gd_true (decide_eq_true (by simp; omega)), gd_true (decide_eq_true (by rw [B_size]; omega))]
    · obtain ⟨a, b, c, e, h1, h2, h3, h4, h5, ew⟩ := node_facts N n hN hn dg hd i hi
      have ib := nat_in b (by omega) (by omega)
      have ic := nat_in c (by omega) (by omega)
      have lb := (itoa_len _ ib).1
      have lc := (itoa_len _ ic).1
      simp only [impl_FormatDiagram_l0, impl_FormatDiagram_l0b, e, impl_FormatInt_eq N _ ib, impl_FormatInt_eq N _ ic]
      rw [letter_w8 a (by omega), impl_FormatDiagram_1_eq N n hN hn dg hd b h2 h3, impl_FormatDiagram_1_eq N n hN hn dg hd c h4 h5]
      simp only [B_strOf, B_app, B_size, List.map_cons, List.map_nil]
      rw [decide_eq_true (by omega : (i : Int) < (dg.length : Int)), cond_true, gd_true (decide_eq_true (by omega)), gd_true rfl, decide_eq_false (by omega : ¬ (a : Int) < 0), cond_false, decide_eq_false (by omega : ¬ (a : Int) ≥ 5), cond_false, Bool.not_true, cond_false, cond_false]
      rw [gd_true (decide_eq_true (by simp; omega)), gd_true (decide_eq_true (by simp; omega)), gd_true (decide_eq_true (by simp; omega)), gd_true (decide_eq_true (by omega)), gd_true (decide_eq_true (by simp; omega)), w64_succ i (by omega)]
      congr 1
      rw [show dg.length - i = (dg.length - (i + 1)) + 1 by omega, List.replicate_succ, List.take_add_one, List.getElem?_eq_getElem hi]
      have hlen : ((dg.take i).map fun x => B (wordD x)).length = i := by simp; omega
      have hw : ∀ (p r : List ByteArray) (y z : ByteArray), wr (p ++ y :: r) (p.length : Int) z = p ++ z :: r := by intro p r y z; simp [wr]
      have := fun z => hw ((dg.take i).map fun x => B (wordD x)) (List.replicate (dg.length - (i + 1)) ByteArray.empty) ByteArray.empty z
      rw [hlen] at this
      have ew2 : wordD dg[i] = [UInt8.ofNat (97 + a)] ++ Lib.itoa b ++ [44] ++ Lib.itoa c := by
        rw [← ew, List.getD_eq_getElem?_getD, List.getElem?_map, List.getElem?_eq_getElem hi]
        rfl
      rw [this, List.map_append]
      simp only [Option.toList_some, List.map_cons, List.map_nil, List.cons_append, List.nil_append, ew2, List.append_assoc]
      rfl
    · simp only [impl_FormatDiagram_l0, impl_FormatDiagram_l0b]
      rw [decide_eq_false (by omega), cond_false]
      simp
end

/-- The line. -/
def diagL (order size nodes : List UInt8) : List UInt8 :=
  Lib.join [[100, 105, 97, 103, 114, 97, 109], [111, 114, 100, 101, 114], order, [115, 105, 122, 101], size, [110, 111, 100, 101, 115], nodes] [32]

section
variable (N n W : Nat) (hN : 1048576 < N) (hn : n ≤ 4) (hW : W < 2 ^ 2 ^ n)
include hN hn hW
theorem DiagramLine_n : ∃ r : ByteArray, (∀ K : ByteArray → Option β, spec_DiagramLine N (n : Int) (W : Int) K = K r) ∧ (∀ K : ByteArray → Option β, impl_DiagramLine N (n : Int) (W : Int) K = K r) := by
  obtain ⟨p, dg, hp, ⟨hd, m1, m2⟩, l1, l2⟩ := least (β := β) N n W hN hn hW
  have hll : (li p).length ≤ 4 := by rw [li_len, hp.len]; exact hn
  have hin : ∀ x ∈ li p, in64 x := fun x hx => by
    obtain ⟨y, hy, rfl⟩ := List.mem_map.1 hx
    have := hp.lt y hy
    exact nat_in _ (by simp only [Int.ofNat_eq_natCast]; omega) (by simp only [Int.ofNat_eq_natCast]; omega)
  have hdl := hd.1
  have is := nat_in (dg.length : Int) (by omega) (by omega)
  have t1 := textL_len _ hin
  have t2 := (itoa_len _ is).1
  have t3 := textD_len N n hN hn dg hd
  refine ⟨B (diagL (textL (li p)) (Lib.itoa (dg.length : Int)) (textD dg)), fun K => ?_, fun K => ?_⟩
  · unfold spec_DiagramLine
    rw [l1, Bool.not_true, cond_false, m1, spec_l34Numbers_eq N hN _ (by omega) hin, spec_FormatInt_eq N (by omega) _ is, spec_FormatDiagram_n N n hN hn dg hd]
    simp only [B_strOf, B_app, B_size]
    rw [gd_true (decide_eq_true (by simp; omega)), gd_true (decide_eq_true (by simp; omega)), gd_true (decide_eq_true (by simp; omega)), gd_true (decide_eq_true (by simp; omega)), gd_true (decide_eq_true (by simp; omega))]
    congr 2
    simp [diagL, Lib.join, List.intercalate]
  · unfold impl_DiagramLine
    rw [l2, Bool.not_true, cond_false, impl_listText_eq N hN _ (by omega) hin, impl_FormatInt_eq N _ is, m2, impl_FormatDiagram_n N n hN hn dg hd]
    unfold impl_line_put_g0 impl_line_text_g0 strings_Join
    rw [gd_true (decide_eq_true (by simp))]
    simp only [B_strOf]
    generalize textL (li p) = R at t1 ⊢
    generalize Lib.itoa (dg.length : Int) = S at t2 ⊢
    generalize textD dg = D at t3 ⊢
    have e := joinB_B' [[100, 105, 97, 103, 114, 97, 109], [111, 114, 100, 101, 114], R, [115, 105, 122, 101], S, [110, 111, 100, 101, 115], D] [32]
    have hlen : (diagL R S D).length ≤ 100000 := by
      simp [diagL, Lib.join, List.intercalate]
      omega
    rw [gd_true (decide_eq_true (by simp))]
    refine Eq.trans ?_ (show gd (decide ((B (diagL R S D)).size ≤ 140737488355328)) (K (B _)) = _ from gd_true (decide_eq_true (by rw [B_size]; omega)))
    unfold diagL
    rw [← e]
    rfl
end

theorem law_DiagramLine (N : Nat) (hN : 1048576 < N) (a0 a1 : Int) (h0 : -9223372036854775808 ≤ a0 ∧ a0 ≤ 9223372036854775807) (h1 : -9223372036854775808 ≤ a1 ∧ a1 ≤ 9223372036854775807) (k : Bool → Option β) :
    laws_FnExactDiagramLine N a0 a1 k = k true := by
  unfold laws_FnExactDiagramLine laws_toTable
  dsimp only
  cases hg : (isT a0 a1 && decide (a0 ≤ 4)) with
  | false =>
    have hi : ∀ K : ByteArray → Option β, impl_DiagramLine N a0 a1 K = K ByteArray.empty := fun K => by
      unfold impl_DiagramLine impl_LeastOrder
      rw [impl_isSmall_eq N _ _ _ (by omega), smallT, hg]
      rfl
    have hs : ∀ K : ByteArray → Option β, spec_DiagramLine N a0 a1 K = K ByteArray.empty := fun K => by
      unfold spec_DiagramLine spec_LeastOrder
      rw [spec_IsTable_eq]
      cases hT : isT a0 a1 with
      | false => rfl
      | true =>
        rw [hT, Bool.true_and] at hg
        have hg := of_decide_eq_false hg
        rw [Bool.not_true, cond_false, decide_eq_true (by omega), cond_true]
        rfl
    rw [hs, hi, beq_self_eq_true]
    rfl
  | true =>
    simp only [Bool.and_eq_true, decide_eq_true_eq] at hg
    obtain ⟨n, W, rfl, rfl, hn, hW, _⟩ := isT_nat hg.1
    obtain ⟨r, h1, h2⟩ := DiagramLine_n (β := β) N n W hN (by omega) hW
    rw [h1, h2, beq_self_eq_true]
    rfl
end Go.Proofs.YtfdggelojmofmaaDoor
