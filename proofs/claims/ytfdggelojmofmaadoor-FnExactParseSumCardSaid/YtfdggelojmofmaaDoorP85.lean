/- Plain laws of the texts: sums read. -/
import Derived.Test.YtfdggelojmofmaaDoorP84
namespace Go.Proofs.YtfdggelojmofmaaDoor
open Go.Rv
set_option linter.unusedVariables false
variable {β : Type}
/-! ### Of no table's size -/
section
variable (N : Nat) (hN : 1048576 < N) (a : Int) (ha : (decide (0 ≤ a) && decide (a ≤ 5)) = false)
include ha
theorem spec_IsTerm_bad (m v : Int) (K : Bool → Option β) : spec_IsTerm N a m v K = K false := by
  unfold spec_IsTerm
  rw [spec_l1In_eq, ha]
  rfl
include hN
theorem spec_FormatTerm_bad (m v : Int) (K : ByteArray → Option β) : spec_FormatTerm N a m v K = K (B []) := by
  have e := fun m v (K : Bool → Option β) => spec_IsTerm_bad N a ha m v K
  obtain ⟨G, rfl⟩ : ∃ G, N = G + 1 := ⟨N - 1, by omega⟩
  unfold spec_FormatTerm
  simp only [spec_FormatTerm_l0, spec_FormatTerm_l0b, e, cond_false]
  rw [beq_self_eq_true, cond_true]
  rfl
theorem spec_ParseTerm_bad (l : List UInt8) (hl : l.length ≤ 1000) (K : Int → Int → Bool → Option β) : spec_ParseTerm N a (B l) K = K 0 0 false := by
  have he : ByteArray.empty.toList = ([] : List UInt8) := B_toList []
  have hF := fun m v (K : ByteArray → Option β) => spec_FormatTerm_bad N hN a ha m v K
  have hk1 : ∀ m v : Int, (cond ((B l).toList == ByteArray.empty.toList) (K 0 0 false) (spec_FormatTerm N a m v fun r9 => cond (!(r9.toList == (B l).toList)) (K 0 0 false) (K m v true))) = K 0 0 false := fun m v => by
    rw [hF, B_toList, he, B_toList]
    cases l with
    | nil => rfl
    | cons b l => rfl
  unfold spec_ParseTerm
  by_cases h1 : l = [49]
  · obtain ⟨G, hG⟩ : ∃ G, N = G + 1 := ⟨N - 1, by omega⟩
    have hq : ((B l).toList == (strOf [49]).toList) = true := by rw [B_toList, B_strOf, B_toList, h1]; rfl
    rw [show spec_ParseTerm_l0 (β := β) N N = spec_ParseTerm_l0 N (G + 1) by rw [← hG]]
    simp only [spec_ParseTerm_l0, spec_ParseTerm_l0b, hq, Bool.not_true, cond_false]
    cases decide ((0 : Int) < ((B l).size : Int)) <;> exact hk1 0 0
  · have hq : ((B l).toList == (strOf [49]).toList) = false := by
      rw [B_toList, B_strOf, B_toList]
      exact beq_eq_false_iff_ne.2 h1
    have main : ∀ (rest pre : List UInt8) (F : Nat) (f : Bool), pre ++ rest = l → rest.length < F →
        spec_ParseTerm_l0 N F a (B l) f (pre.length : Int) 0 0 0 0 (fun e0 e1 e2 => K e1 e2 e0) (fun e0 e1 e2 e3 e4 e5 => cond (e1.toList == ByteArray.empty.toList) (K 0 0 false) (spec_FormatTerm N e0 e4 e5 fun r9 => cond (!(r9.toList == e1.toList)) (K 0 0 false) (K e4 e5 true))) = K 0 0 false := by
      intro rest
      induction rest with
      | nil =>
        intro pre F f hp hF
        obtain ⟨G, rfl⟩ : ∃ G, F = G + 1 := ⟨F - 1, by simp at hF; omega⟩
        have hlen : l.length = pre.length := by rw [← hp]; simp
        simp only [spec_ParseTerm_l0, spec_ParseTerm_l0b, B_size]
        rw [decide_eq_false (by omega), cond_false]
        exact hk1 0 0
      | cons b rest ih =>
        intro pre F f hp hF
        simp only [List.length_cons] at hF
        obtain ⟨G, rfl⟩ : ∃ G, F = G + 1 := ⟨F - 1, by omega⟩
        have hlen : l.length = pre.length + (rest.length + 1) := by rw [← hp]; simp
        have next := fun f => ih (pre ++ [b]) G f (by rw [← hp]; simp) (by omega)
        simp only [List.length_append, List.length_cons, List.length_nil, Nat.zero_add] at next
        simp only [spec_ParseTerm_l0, spec_ParseTerm_l0b, B_size, hq, spec_l1In_eq, ha]
        rw [decide_eq_true (by omega : (pre.length : Int) < (l.length : Int)), cond_true, Bool.not_false, cond_true, gd_true (decide_eq_true (by omega)), gd_true rfl, w64_succ _ (by omega)]
        cases bt (B l) (pre.length : Int) == 33 with
        | true => rw [cond_true]; exact next true
        | false => rw [cond_false, gd_true (decide_eq_true (by omega)), gd_true rfl, cond_true]
    exact main l [] N false rfl (by omega)
end

/-! ### Sums -/
def tl (l : List (Nat × Nat)) : List (Int × Int) := l.map fun p => ((p.1 : Int), (p.2 : Int))
theorem tl_len (l : List (Nat × Nat)) : (tl l).length = l.length := by simp [tl]
theorem tl_snoc (l : List (Nat × Nat)) (p : Nat × Nat) : tl (l ++ [p]) = tl l ++ [((p.1 : Int), (p.2 : Int))] := by simp [tl]
def run (q : List UInt8 → Option (Nat × Nat)) : List (List UInt8) → List (Nat × Nat) → Option (List (Nat × Nat))
  | [], out => some out
  | p :: ps, out => match q p with
    | some t => run q ps (out ++ [t])
    | none => none
def runK (o : Option (List (Nat × Nat))) (k1 : List (Nat × Nat) → Option β) (k0 : Option β) : Option β := match o with
  | some o => k1 o
  | none => k0
theorem run_ok {q : List UInt8 → Option (Nat × Nat)} {p : Nat × Nat → Prop} (hq : ∀ l t, q l = some t → p t) : ∀ (ps : List (List UInt8)) (out o : List (Nat × Nat)), run q ps out = some o → (∀ t ∈ out, p t) → (∀ t ∈ o, p t) ∧ o.length = out.length + ps.length
  | [], out, o, h, ho => by cases h; exact ⟨ho, rfl⟩
  | l :: ps, out, o, h, ho => by
    unfold run at h
    cases hl : q l with
    | none => rw [hl] at h; cases h
    | some t =>
      rw [hl] at h
      obtain ⟨h1, h2⟩ := run_ok hq ps (out ++ [t]) o h fun x hx => by
        rcases List.mem_append.1 hx with hx | hx
        · exact ho x hx
        · simp only [List.mem_singleton] at hx; rw [hx]; exact hq _ _ hl
      refine ⟨h1, ?_⟩
      rw [h2]
      simp
      omega
theorem spl_len (c : UInt8) : ∀ (l acc : List UInt8), (spl c acc l).length ≤ l.length + 1 ∧ ∀ p ∈ spl c acc l, p.length ≤ acc.length + l.length
  | [], acc => by simp [spl]
  | b :: l, acc => by
    unfold spl
    split
    · obtain ⟨h1, h2⟩ := spl_len c l []
      refine ⟨by simp only [List.length_cons]; omega, fun p hp => ?_⟩
      rcases List.mem_cons.1 hp with rfl | hp
      · simp
      · have := h2 p hp
        simp only [List.length_nil, List.length_cons] at this ⊢
        omega
    · obtain ⟨h1, h2⟩ := spl_len c l (acc ++ [b])
      refine ⟨by simp only [List.length_cons]; omega, fun p hp => ?_⟩
      have := h2 p hp
      simp only [List.length_append, List.length_nil, List.length_cons] at this ⊢
      omega

theorem spec_sum (N : Nat) (a : Int) (q : List UInt8 → Option (Nat × Nat)) (hq : ∀ p, p.length ≤ 1000 → ∀ K : Int → Int → Bool → Option β, spec_ParseTerm N a (B p) K = ptK (q p) K) (l : List UInt8) (hl : l.length ≤ 200)
    (k0 : Bool → List (Int × Int) → Option β) (k1 : Int → ByteArray → List (Int × Int) → Option β) : ∀ (rest pre acc : List UInt8) (F : Nat) (out : List (Nat × Nat)), pre ++ rest = l → rest.length + 1 < F → acc.length ≤ pre.length → out.length ≤ pre.length →
    spec_ParseSum_l0 N F a (B l) (B acc) (pre.length : Int) (tl out) k0 k1 = runK (run q (spl 124 acc rest) out) (fun o => k1 a (B l) (tl o)) (k0 false []) := by
  intro rest
  induction rest with
  | nil =>
    intro pre acc F out hp hF hacc hout
    obtain ⟨G, rfl⟩ : ∃ G, F = G + 1 + 1 := ⟨F - 2, by simp at hF; omega⟩
    have hlen : l.length = pre.length := by rw [← hp]; simp
    rw [show spec_ParseSum_l0 (β := β) N (G + 1 + 1) = fun v0 v1 v2 v3 v4 k0 k1 => spec_ParseSum_l0b N v0 v1 v2 v3 v4 (fun v0 v1 v2 v3 v4 => spec_ParseSum_l0 N (G + 1) v0 v1 v2 v3 v4 k0 k1) k0 k1 from rfl]
    simp only [spec_ParseSum_l0b, B_size]
    rw [decide_eq_true (by omega : (pre.length : Int) ≤ (l.length : Int)), cond_true, decide_eq_true (by omega : (l.length : Int) ≤ 200), cond_true, decide_eq_false (by omega : ¬ (pre.length : Int) < (l.length : Int)), cond_false, hq acc (by omega)]
    simp only [spl, run]
    cases hqa : q acc with
    | none => rfl
    | some t =>
      simp only [ptK, Bool.not_true, cond_false, List.nil_append, List.length_cons, List.length_nil]
      rw [gd_true (decide_eq_true (by rw [tl_len]; omega)), ← tl_snoc, w64_succ _ (by omega)]
      simp only [spec_ParseSum_l0, spec_ParseSum_l0b, B_size]
      rw [decide_eq_false (by omega), cond_false]
      rfl
  | cons b rest ih =>
    intro pre acc F out hp hF hacc hout
    simp only [List.length_cons] at hF
    obtain ⟨G, rfl⟩ : ∃ G, F = G + 1 := ⟨F - 1, by omega⟩
    have hlen : l.length = pre.length + (rest.length + 1) := by rw [← hp]; simp
    have hbt : bt (B l) (pre.length : Int) = (b.toNat : Int) := by rw [← hp]; exact bt_mid pre rest b
    have next := fun acc out h1 h2 => ih (pre ++ [b]) acc G out (by rw [← hp]; simp) (by omega) h1 h2
    simp only [List.length_append, List.length_cons, List.length_nil, Nat.zero_add] at next
    have hex : (l.take (pre.length + 1)).drop pre.length = [b] := by
      rw [← hp, List.drop_take]
      simp
    simp only [spec_ParseSum_l0, spec_ParseSum_l0b, B_size, hbt]
    rw [decide_eq_true (by omega : (pre.length : Int) ≤ (l.length : Int)), cond_true, decide_eq_true (by omega : (l.length : Int) ≤ 200), cond_true, decide_eq_true (by omega : (pre.length : Int) < (l.length : Int)), cond_true, gd_true (decide_eq_true (by omega)), gd_true rfl, w64_succ _ (by omega), Int.toNat_natCast, Int.toNat_natCast, B_ext, hex]
    by_cases h124 : b = 124
    · subst h124
      rw [show ((((124 : UInt8).toNat : Nat) : Int) != 124) = false from rfl, cond_false, hq acc (by omega)]
      simp only [spl, if_true, run]
      cases hqa : q acc with
      | none => rfl
      | some t =>
        simp only [ptK, Bool.not_true, cond_false, List.nil_append, List.length_cons, List.length_nil]
        rw [gd_true (decide_eq_true (by rw [tl_len]; omega)), ← tl_snoc]
        exact next [] (out ++ [t]) (by simp) (by simp; omega)
    · have hne : ((b.toNat : Int) != 124) = true := by
        rw [bne_iff_ne]
        intro e
        apply h124
        apply UInt8.toNat_inj.1
        show b.toNat = 124
        omega
      rw [hne, cond_true, gd_true (decide_eq_true (by omega)), gd_true (decide_eq_true (by omega)), gd_true (decide_eq_true (by omega)), gd_true (decide_eq_true (by omega)), B_app]
      simp only [B_size]
      rw [gd_true (decide_eq_true (by simp; omega)), spl, if_neg h124]
      exact next (acc ++ [b]) out (by simp; omega) (by omega)

theorem impl_sum (N : Nat) (a : Int) (q : List UInt8 → Option (Nat × Nat)) (hq : ∀ p, p.length ≤ 1000 → ∀ K : Int → Int → Bool → Option β, impl_ParseTerm N a (B p) K = ptK (q p) K) (ps : List (List UInt8)) (hps : ps.length ≤ 1000) (hp1 : ∀ p ∈ ps, p.length ≤ 1000)
    (k0 : Bool → List (Int × Int) → Option β) (k1 : Int → List (Int × Int) → Option β) : ∀ (rest pre : List (List UInt8)) (F : Nat) (out : List (Nat × Nat)), pre ++ rest = ps → rest.length < F → out.length ≤ pre.length →
    impl_ParseSum_l0 N F a (ps.length : Int) (pre.length : Int) (tl out) (ps.map B) k0 k1 = runK (run q rest out) (fun o => k1 a (tl o)) (k0 false []) := by
  intro rest
  induction rest with
  | nil =>
    intro pre F out hp hF hout
    obtain ⟨G, rfl⟩ : ∃ G, F = G + 1 := ⟨F - 1, by simp at hF; omega⟩
    have hlen : ps.length = pre.length := by rw [← hp]; simp
    simp only [impl_ParseSum_l0, impl_ParseSum_l0b]
    rw [decide_eq_false (by omega), cond_false]
    rfl
  | cons p rest ih =>
    intro pre F out hp hF hout
    simp only [List.length_cons] at hF
    obtain ⟨G, rfl⟩ : ∃ G, F = G + 1 := ⟨F - 1, by omega⟩
    have hlen : ps.length = pre.length + (rest.length + 1) := by rw [← hp]; simp
    have hrd : rd ByteArray.empty (ps.map B) (pre.length : Int) = B p := by
      rw [← hp]
      simp [rd, List.getD_eq_getElem?_getD]
    have next := fun out h => ih (pre ++ [p]) G out (by rw [← hp]; simp) (by omega) h
    simp only [List.length_append, List.length_cons, List.length_nil, Nat.zero_add] at next
    simp only [impl_ParseSum_l0, impl_ParseSum_l0b, hrd, List.length_map]
    rw [decide_eq_true (by omega : (pre.length : Int) < (ps.length : Int)), cond_true, gd_true (decide_eq_true (by omega)), gd_true rfl, hq p (hp1 p (by rw [← hp]; simp)), w64_succ _ (by omega)]
    simp only [run]
    cases hqa : q p with
    | none => rfl
    | some t =>
      simp only [ptK, Bool.not_true, cond_false, List.nil_append, List.length_cons, List.length_nil]
      rw [gd_true (decide_eq_true (by rw [tl_len]; omega)), ← tl_snoc]
      exact next (out ++ [t]) (by simp; omega)

/-! ### Whether all are terms -/
def Good (n : Nat) (t : Nat × Nat) : Prop := okT n t.1 t.2 = true ∧ t.1 < 32 ∧ t.2 < 32
theorem rd_tl (o : List (Nat × Nat)) (i : Nat) (h : i < o.length) : rd (0, 0) (tl o) (i : Int) = ((o[i].1 : Int), (o[i].2 : Int)) := by
  simp [rd, tl, List.getD_eq_getElem?_getD, List.getElem?_eq_getElem h]
theorem spec_valid (N : Nat) (hN : 1048576 < N) (n : Nat) (hn : n ≤ 5) (o : List (Nat × Nat)) (ho : o.length ≤ 1000) (hg : ∀ t ∈ o, Good n t) (K : Bool → Option β) : spec_l28Terms N (n : Int) (tl o) K = K (decide ((o.length : Int) ≤ 40)) := by
  unfold spec_l28Terms
  refine loop_st (fun F i => spec_l28Terms_l0 N F (n : Int) (tl o) (i : Int) (fun e => K e) fun e0 e1 => spec_l1In N e0 0 5 fun r6 => cond r6 (K (decide ((e1.length : Int) ≤ 40))) (K false)) o.length _ (fun F i hi => ?_) (fun F => ?_) N 0 (by omega) (by omega)
  · obtain ⟨h1, h2, h3⟩ := hg o[i] (List.getElem_mem hi)
    simp only [spec_l28Terms_l0, spec_l28Terms_l0b, tl_len, rd_tl o i hi]
    rw [decide_eq_true (by omega : (i : Int) < (o.length : Int)), cond_true, gd_true (decide_eq_true (by omega)), gd_true rfl, spec_IsTerm_n N n _ _ hn h2 h3, h1, Bool.not_true, cond_false, w64_succ i (by omega)]
  · simp only [spec_l28Terms_l0, spec_l28Terms_l0b, tl_len]
    rw [decide_eq_false (by omega), cond_false, spec_l1In_eq, decide_eq_true (by omega : (0 : Int) ≤ (n : Int)), decide_eq_true (by omega : (n : Int) ≤ 5)]
    rfl
theorem impl_valid (N : Nat) (hN : 1048576 < N) (n : Nat) (hn : n ≤ 5) (o : List (Nat × Nat)) (ho : o.length ≤ 1000) (hg : ∀ t ∈ o, Good n t) (K : Bool → Option β) : impl_areValid N (n : Int) (tl o) K = K (decide ((o.length : Int) ≤ 40)) := by
  unfold impl_areValid impl_areTerms impl_isBits slices_ContainsFunc_Simpl_Term_impl_Term slices_IndexFunc_Simpl_Term_impl_Term
  rw [decide_eq_true (by omega : (n : Int) ≥ 0), cond_true, decide_eq_true (by omega : (n : Int) ≤ 5)]
  dsimp only
  rw [cond_true, tl_len]
  have main := fun (K : Int → Option β) => loop_st (fun F i => slices_IndexFunc_Simpl_Term_impl_Term_l0 N (fun x0 x1 k => impl_areTerms_1 N x0 x1 (n : Int) k) F (tl o) (o.length : Int) (i : Int) (fun e => K e) (K (-1))) o.length (K (-1)) (fun F i hi => by
    obtain ⟨h1, h2, h3⟩ := hg o[i] (List.getElem_mem hi)
    simp only [slices_IndexFunc_Simpl_Term_impl_Term_l0, slices_IndexFunc_Simpl_Term_impl_Term_l0b, tl_len, rd_tl o i hi, impl_areTerms_1]
    rw [decide_eq_true (by omega : (i : Int) < (o.length : Int)), cond_true, gd_true (decide_eq_true (by omega)), gd_true rfl, impl_IsTerm_n N n _ _ hn h2 h3, h1, Bool.not_true, cond_false, w64_succ i (by omega)]) (fun F => by
    simp only [slices_IndexFunc_Simpl_Term_impl_Term_l0, slices_IndexFunc_Simpl_Term_impl_Term_l0b]
    rw [decide_eq_false (by omega), cond_false]) N 0 (by omega) (by omega)
  refine (main _).trans ?_
  rfl

theorem Sum_both (N : Nat) (hN : 1048576 < N) (a : Int) (l : List UInt8) :
    ∃ (o : List (Nat × Nat)) (b : Bool), o.length ≤ 40 ∧ (∀ K : List (Int × Int) → Bool → Option β, spec_ParseSum N a (B l) K = K (tl o) b) ∧ (∀ K : List (Int × Int) → Bool → Option β, impl_ParseSum N a (B l) K = K (tl o) b) := by
  have h48 : ((B l).toList == (strOf [48]).toList) = (l == [48]) := by rw [B_toList, B_strOf, B_toList]; rfl
  have hbits : ∀ K : Bool → Option β, impl_isBits N a K = K (decide (0 ≤ a) && decide (a ≤ 5)) := fun K => by
    unfold impl_isBits
    by_cases h : 0 ≤ a
    · rw [decide_eq_true (show a ≥ 0 from h), cond_true, Bool.true_and]
    · rw [decide_eq_false (show ¬ a ≥ 0 from h)]; rfl
  cases hl0 : (l == [48]) with
  | true =>
    refine ⟨[], (decide (0 ≤ a) && decide (a ≤ 5)), by simp, fun K => ?_, fun K => ?_⟩
    · unfold spec_ParseSum
      rw [h48, hl0, cond_true, spec_l1In_eq]
      rfl
    · have hl := eq_of_beq hl0
      unfold impl_ParseSum
      rw [hbits, h48, hl0, B_size, hl]
      cases (decide (0 ≤ a) && decide (a ≤ 5)) <;> rfl
  | false =>
    by_cases hlen : l.length ≤ 200
    · have hs : ∀ K : List (Int × Int) → Bool → Option β, spec_ParseSum N a (B l) K = spec_ParseSum_l0 N N a (B l) (B []) (([] : List UInt8).length : Int) (tl []) (fun e0 e1 => K e1 e0) (fun e0 e1 e2 => cond (decide ((e1.size : Int) > 200)) (K [] false) (spec_l28Terms N e0 e2 fun r13 => cond (!r13) (K [] false) (K e2 true))) := fun K => by
        unfold spec_ParseSum
        rw [h48, hl0]
        rfl
      cases hn : (decide (0 ≤ a) && decide (a ≤ 5)) with
      | false =>
        refine ⟨[], false, by simp, fun K => ?_, fun K => ?_⟩
        · rw [hs, spec_sum N a (fun _ => none) (fun p hp K => spec_ParseTerm_bad N hN a hn p hp K) l hlen _ _ l [] [] N [] rfl (by omega) (by simp) (by simp)]
          have : run (fun _ => none) (spl 124 [] l) [] = none := by
            have hne : spl 124 [] l ≠ [] := by
              cases l with
              | nil => simp [spl]
              | cons b l => unfold spl; split; · simp
                            · intro h
                              have key : ∀ (l acc : List UInt8), spl 124 acc l ≠ [] := by
                                intro l
                                induction l with
                                | nil => intro acc; simp [spl]
                                | cons b l ih => intro acc; unfold spl; split; · simp
                                                 · exact ih _
                              exact key _ _ h
            cases hsp : spl 124 [] l with
            | nil => exact absurd hsp hne
            | cons p ps => rfl
          rw [this]
          rfl
        · unfold impl_ParseSum
          rw [hbits, hn]
          rfl
      | true =>
        simp only [Bool.and_eq_true, decide_eq_true_eq] at hn
        obtain ⟨n, rfl⟩ := Int.eq_ofNat_of_zero_le hn.1
        have hn5 : n ≤ 5 := by omega
        obtain ⟨h1, h2⟩ := spl_len 124 l []
        simp only [List.length_nil, Nat.zero_add] at h2
        have e1 : ∀ K : List (Int × Int) → Bool → Option β, spec_ParseSum N (n : Int) (B l) K = runK (run (pt n) (spl 124 [] l) []) (fun o => spec_l28Terms N (n : Int) (tl o) fun r13 => cond (!r13) (K [] false) (K (tl o) true)) (K [] false) := fun K => by
          rw [hs, spec_sum N n (pt n) (fun p hp K => spec_ParseTerm_n N hN n hn5 p hp K) l hlen _ _ l [] [] N [] rfl (by omega) (by simp) (by simp)]
          congr 1
          funext o
          rw [B_size, decide_eq_false (by omega), cond_false]
        have e2 : ∀ K : List (Int × Int) → Bool → Option β, impl_ParseSum N (n : Int) (B l) K = runK (run (pt n) (spl 124 [] l) []) (fun o => impl_areValid N (n : Int) (tl o) fun r11 => cond (!r11) (K [] false) (K (tl o) true)) (K [] false) := fun K => by
          unfold impl_ParseSum strings_Split
          have hsep : strOf [124] = ⟨#[124]⟩ := rfl
          rw [hbits, decide_eq_true (by omega : (0 : Int) ≤ (n : Int)), decide_eq_true (by omega : (n : Int) ≤ 5), Bool.and_self, Bool.not_true, cond_false, B_size, decide_eq_false (by omega), cond_false, h48, hl0, cond_false, hsep, gd_true (decide_eq_true (show (⟨#[124]⟩ : ByteArray).size = 1 from rfl)), gd_true (decide_eq_true (by omega)), splitB_spl, B_list]
          dsimp only
          rw [List.length_map]
          exact impl_sum N n (pt n) (fun p hp K => impl_ParseTerm_n N hN n hn5 p hp K) (spl 124 [] l) (by omega) (fun p hp => by have := h2 p hp; omega) (fun e0 e1 => K e1 e0) (fun e0 e1 => impl_areValid N e0 e1 fun r11 => cond (!r11) (K [] false) (K e1 true)) (spl 124 [] l) [] N [] rfl (by omega) (by simp)
        cases hr : run (pt n) (spl 124 [] l) [] with
        | none => exact ⟨[], false, by simp, fun K => by rw [e1, hr]; rfl, fun K => by rw [e2, hr]; rfl⟩
        | some o =>
          obtain ⟨g1, g2⟩ := run_ok (p := Good n) (fun l t h => pt_ok hn5 h) _ _ _ hr (by simp)
          simp only [List.length_nil, Nat.zero_add] at g2
          by_cases h40 : o.length ≤ 40
          · refine ⟨o, true, h40, fun K => ?_, fun K => ?_⟩
            · rw [e1, hr]
              simp only [runK]
              rw [spec_valid N hN n hn5 o (by omega) g1, decide_eq_true (by omega)]
              rfl
            · rw [e2, hr]
              simp only [runK]
              rw [impl_valid N hN n hn5 o (by omega) g1, decide_eq_true (by omega)]
              rfl
          · refine ⟨[], false, by simp, fun K => ?_, fun K => ?_⟩
            · rw [e1, hr]
              simp only [runK]
              rw [spec_valid N hN n hn5 o (by omega) g1, decide_eq_false (by omega)]
              rfl
            · rw [e2, hr]
              simp only [runK]
              rw [impl_valid N hN n hn5 o (by omega) g1, decide_eq_false (by omega)]
              rfl
    · refine ⟨[], false, by simp, fun K => ?_, fun K => ?_⟩
      · unfold spec_ParseSum
        rw [h48, hl0, cond_false]
        obtain ⟨G, rfl⟩ : ∃ G, N = G + 1 := ⟨N - 1, by omega⟩
        simp only [spec_ParseSum_l0, spec_ParseSum_l0b, B_size]
        rw [decide_eq_true (by omega : (0 : Int) ≤ (l.length : Int)), cond_true, decide_eq_false (by omega : ¬ (l.length : Int) ≤ 200), cond_false, decide_eq_true (by omega), cond_true]
        rfl
      · unfold impl_ParseSum
        rw [hbits, B_size, decide_eq_true (by omega : (l.length : Int) > 200)]
        cases (decide (0 ≤ a) && decide (a ≤ 5)) <;> rfl
end Go.Proofs.YtfdggelojmofmaaDoor
