/- Plain laws of the texts. -/
import Derived.Test.YtfdggelojmofmaaP91
namespace Go.Proofs.Ytfdggelojmofmaa
open Go.Rv
set_option linter.unusedVariables false
variable {β : Type}
theorem sc_iff (w m v : Nat) (b : Bool) : ∀ X, sc w m v b X = true ↔ ∃ x, x < X ∧ x &&& m = v ∧ w.testBit x = b
  | 0 => by simp [sc]
  | X + 1 => by
    simp only [sc, Bool.or_eq_true, Bool.and_eq_true, beq_iff_eq, sc_iff w m v b X]
    constructor
    · rintro (⟨x, h1, h2⟩ | h)
      · exact ⟨x, by omega, h2⟩
      · exact ⟨X, by omega, h⟩
    · rintro ⟨x, h1, h2⟩
      by_cases e : x = X
      · subst e; exact .inr h2
      · exact .inl ⟨x, by omega, h2⟩

/-- The least of some numbers, of those that are free. -/
def mnO (B : Nat) (free : Nat → Bool) (val : Nat → Nat) : Nat → Nat
  | 0 => B
  | i + 1 => if free i then min (mnO B free val i) (val i) else mnO B free val i
theorem mnO_le (B : Nat) (free : Nat → Bool) (val : Nat → Nat) : ∀ n i, i < n → free i = true → mnO B free val n ≤ val i
  | n + 1, i, h, hf => by
    simp only [mnO]
    by_cases e : i = n
    · subst e
      rw [hf, if_pos rfl]
      exact Nat.min_le_right _ _
    · have := mnO_le B free val n i (by omega) hf
      split <;> omega
theorem mnO_B (B : Nat) (free : Nat → Bool) (val : Nat → Nat) : ∀ n, mnO B free val n ≤ B
  | 0 => Nat.le_refl _
  | n + 1 => by
    have := mnO_B B free val n
    simp only [mnO]
    split <;> omega
theorem mnO_start (B C : Nat) (hBC : B ≤ C) (free : Nat → Bool) (val : Nat → Nat) : ∀ n, mnO B free val n = min B (mnO C free val n)
  | 0 => by simp only [mnO]; omega
  | n + 1 => by
    have := mnO_start B C hBC free val n
    simp only [mnO]
    split <;> omega
theorem mnO_congr {B : Nat} {free : Nat → Bool} {val val' : Nat → Nat} : ∀ {n : Nat}, (∀ i, i < n → free i = true → val i = val' i) → mnO B free val n = mnO B free val' n
  | 0, _ => rfl
  | n + 1, h => by
    simp only [mnO]
    rw [mnO_congr fun i hi hf => h i (by omega) hf]
    cases hf : free n with
    | true => rw [h n (by omega) hf]
    | false => rfl

def free (m i : Nat) : Bool := !m.testBit i
def fc (n m : Nat) : Nat := cnt (free m) n
theorem fc_less : ∀ n, n ≤ 4 → ∀ m, m < 2 ^ n → ∀ i, i < n → free m i = true → fc n (m ||| 2 ^ i) + 1 = fc n m := by decide +kernel
theorem fc_none : ∀ n, n ≤ 4 → ∀ m, m < 2 ^ n → fc n m = 0 → ∀ x, x < 2 ^ n → x &&& m = x := by decide +kernel
theorem fc_some : ∀ n, n ≤ 4 → ∀ m, m < 2 ^ n → fc n m ≠ 0 → ∃ i, i < n ∧ free m i = true := by
  intro n hn m hm h
  have key : ∀ k, cnt (free m) k ≠ 0 → ∃ i, i < k ∧ free m i = true := by
    intro k
    induction k with
    | zero => intro h; exact absurd rfl h
    | succ k ih =>
      intro h
      cases hf : free m k with
      | true => exact ⟨k, by omega, hf⟩
      | false =>
        simp only [cnt, hf] at h
        obtain ⟨i, hi, hfi⟩ := ih (by simpa using h)
        exact ⟨i, by omega, hfi⟩
  exact key n h
theorem or_lt : ∀ n, n ≤ 4 → ∀ m, m < 2 ^ n → ∀ i, i < n → m ||| 2 ^ i < 2 ^ n := by decide +kernel
theorem bothV_free (w n m v : Nat) (hn : n ≤ 4) (hm : m < 2 ^ n) (h : bothV w n m v = true) : fc n m ≠ 0 := by
  intro h0
  unfold bothV at h
  simp only [Bool.and_eq_true, sc_iff] at h
  obtain ⟨⟨x, hx, hxv, hbx⟩, y, hy, hyv, hby⟩ := h
  rw [fc_none n hn m hm h0 x hx] at hxv
  rw [fc_none n hn m hm h0 y hy] at hyv
  rw [hxv] at hbx
  rw [hyv, hbx] at hby
  cases hby

/-- The least depth, for what is known, by steps. -/
def ld (w n : Nat) : Nat → Nat → Nat → Nat
  | 0, _, _ => 0
  | f + 1, m, v => if bothV w n m v then mnO 10 (free m) (fun i => 1 + max (ld w n f (m ||| 2 ^ i) v) (ld w n f (m ||| 2 ^ i) (v ||| 2 ^ i))) n else 0
def dep_ (w n m v : Nat) : Nat := ld w n (fc n m + 1) m v
theorem ld_le (w n : Nat) (hn : n ≤ 4) : ∀ f m v, m < 2 ^ n → ld w n f m v ≤ fc n m
  | 0, m, v, _ => Nat.zero_le _
  | f + 1, m, v, hm => by
    simp only [ld]
    cases hx : bothV w n m v with
    | false => rw [if_neg (by decide)]; exact Nat.zero_le _
    | true =>
      rw [if_pos rfl]
      obtain ⟨i, hi, hf⟩ := fc_some n hn m hm (bothV_free w n m v hn hm hx)
      have h1 := mnO_le 10 (free m) (fun i => 1 + max (ld w n f (m ||| 2 ^ i) v) (ld w n f (m ||| 2 ^ i) (v ||| 2 ^ i))) n i hi hf
      have h2 := ld_le w n hn f (m ||| 2 ^ i) v (or_lt n hn m hm i hi)
      have h3 := ld_le w n hn f (m ||| 2 ^ i) (v ||| 2 ^ i) (or_lt n hn m hm i hi)
      have h4 := fc_less n hn m hm i hi hf
      have h1 : mnO 10 (free m) (fun i => 1 + max (ld w n f (m ||| 2 ^ i) v) (ld w n f (m ||| 2 ^ i) (v ||| 2 ^ i))) n ≤ 1 + max (ld w n f (m ||| 2 ^ i) v) (ld w n f (m ||| 2 ^ i) (v ||| 2 ^ i)) := h1
      omega
theorem ld_fuel (w n : Nat) (hn : n ≤ 4) : ∀ f m v, m < 2 ^ n → fc n m < f → ld w n f m v = dep_ w n m v
  | 0, m, v, _, h => by omega
  | f + 1, m, v, hm, h => by
    simp only [dep_, ld]
    cases hx : bothV w n m v with
    | false => rfl
    | true =>
      rw [if_pos rfl, if_pos rfl]
      refine mnO_congr fun i hi hf => ?_
      have h4 := fc_less n hn m hm i hi hf
      have hlt := or_lt n hn m hm i hi
      rw [ld_fuel w n hn f _ v hlt (by omega), ld_fuel w n hn f _ _ hlt (by omega)]
      unfold dep_
      rw [h4]
theorem dep_eq (w n m v : Nat) (hn : n ≤ 4) (hm : m < 2 ^ n) : dep_ w n m v = if bothV w n m v then mnO 10 (free m) (fun i => 1 + max (dep_ w n (m ||| 2 ^ i) v) (dep_ w n (m ||| 2 ^ i) (v ||| 2 ^ i))) n else 0 := by
  have : dep_ w n m v = ld w n (fc n m + 1) m v := rfl
  rw [this]
  simp only [ld]
  cases hx : bothV w n m v with
  | false => rfl
  | true =>
    rw [if_pos rfl, if_pos rfl]
    refine mnO_congr fun i hi hf => ?_
    have h4 := fc_less n hn m hm i hi hf
    have hlt := or_lt n hn m hm i hi
    rw [ld_fuel w n hn _ _ v hlt (by omega), ld_fuel w n hn _ _ _ hlt (by omega)]
theorem dep_le (w n m v : Nat) (hn : n ≤ 4) (hm : m < 2 ^ n) : dep_ w n m v ≤ fc n m := ld_le w n hn _ m v hm
theorem fc_le (n m : Nat) : fc n m ≤ n := cnt_le _ n

theorem and_bit : ∀ m, m < 16 → ∀ i, i < 4 → (m &&& 2 ^ i == 0) = free m i := by decide +kernel
theorem nat_eq_zero (a : Nat) : ((a : Int) == 0) = (a == 0) := by cases a <;> rfl
theorem cres_bothV (w n m v : Nat) : decide (cres (sc w m v false (2 ^ n)) (sc w m v true (2 ^ n)) < 2) = !bothV w n m v := by
  unfold bothV
  cases sc w m v false (2 ^ n) <;> cases sc w m v true (2 ^ n) <;> rfl

theorem spec_least_f (N : Nat) (hN : 64 < N) (n w : Nat) (hn : n ≤ 4) (hw : w < 2 ^ 2 ^ n) : ∀ (F m v : Nat), fc n m < F → m < 2 ^ n → v < 2 ^ n → ∀ k : Int → Option β, zj41 N F (n : Int) (w : Int) (m : Int) (v : Int) k = k (dep_ w n m v : Int) := by
  have hs := size4 hn
  have hw' := two32 (by omega) hw
  intro F
  induction F with
  | zero => intro m v h; omega
  | succ F ih =>
    intro m v hF hm hv k
    simp only [zj41, zj40]
    rw [spec_l3Cube_eq N hN n w m v (by omega) hw' (by omega), cres_bothV, dep_eq w n m v hn hm]
    cases hx : bothV w n m v with
    | false => rfl
    | true =>
      rw [if_pos rfl, Bool.not_true, cond_false]
      generalize hval : (fun i => 1 + max (dep_ w n (m ||| 2 ^ i) v) (dep_ w n (m ||| 2 ^ i) (v ||| 2 ^ i))) = val
      have hvi : ∀ i, 1 + max (dep_ w n (m ||| 2 ^ i) v) (dep_ w n (m ||| 2 ^ i) (v ||| 2 ^ i)) = val i := fun i => by rw [← hval]
      have key : ∀ (d G i : Nat), i + d = n → d < G → zj39 N (zj41 N F) G (m : Int) (v : Int) (mnO 10 (free m) val i : Int) (i : Int) (n : Int) (w : Int) k = k (mnO 10 (free m) val n : Int) := by
        intro d
        induction d with
        | zero =>
          intro G i hi hG
          obtain ⟨G, rfl⟩ : ∃ H, G = H + 1 := ⟨G - 1, by omega⟩
          simp only [zj39, zj38]
          rw [decide_eq_false (by omega : ¬ (i : Int) < (n : Int)), cond_false, show i = n by omega]
        | succ d ihd =>
          intro G i hi hG
          obtain ⟨G, rfl⟩ : ∃ H, G = H + 1 := ⟨G - 1, by omega⟩
          have hlt : i < n := by omega
          have hp : 2 ^ i < 2 ^ 4 := Nat.pow_lt_pow_right (by decide) (by omega)
          simp only [zj39, zj38]
          rw [decide_eq_true (by omega : (i : Int) < (n : Int)), cond_true, gd_true (decide_eq_true (by omega : (0 : Int) ≤ (i : Int))), shl_one i (by omega), bAnd m _ (by omega) (by omega), nat_eq_zero, and_bit m (by omega) i (by omega), bOr m _ (by omega) (by omega), bOr v _ (by omega) (by omega), w64_succ i (by omega)]
          have h1 := ihd G (i + 1) (by omega) (by omega)
          simp only [mnO] at h1
          cases hf : free m i with
          | false => rw [hf] at h1; exact h1
          | true =>
            rw [hf, if_pos rfl] at h1
            have h4 := fc_less n hn m hm i hlt hf
            have hmo := or_lt n hn m hm i hlt
            have hvo := or_lt n hn v hv i hlt
            have hd1 := dep_le w n (m ||| 2 ^ i) v hn hmo
            have hd2 := dep_le w n (m ||| 2 ^ i) (v ||| 2 ^ i) hn hmo
            have hfc := fc_le n (m ||| 2 ^ i)
            have hB := mnO_B 10 (free m) val i
            rw [cond_true, ih _ v (by omega) hmo hv, ih _ _ (by omega) hmo hvo, mxI_nat, show (1 : Int) + ((max (dep_ w n (m ||| 2 ^ i) v) (dep_ w n (m ||| 2 ^ i) (v ||| 2 ^ i)) : Nat) : Int) = ((1 + max (dep_ w n (m ||| 2 ^ i) v) (dep_ w n (m ||| 2 ^ i) (v ||| 2 ^ i)) : Nat) : Int) by omega, w64_nat _ (by omega), mnI_nat, hvi]
            exact h1
      exact key n N 0 (by omega) (by omega)

/-- What is remembered is right. -/
def Mem (w n : Nat) (mp : Mp) : Prop := ∀ m v : Nat, hasM ⟨true, false⟩ mp (m : Int) (v : Int) = true → getM ⟨true, false⟩ mp (m : Int) (v : Int) = (dep_ w n m v : Int)
theorem eqK_two (p : Int × Int) (a b : Int) : eqK ⟨true, false⟩ p a b = (p.1 == a && p.2 == b) := by simp [eqK]
theorem has_put (mp : Mp) (a b x c d : Int) : hasM ⟨true, false⟩ (putM ⟨true, false⟩ mp a b x) c d = ((a == c && b == d) || hasM ⟨true, false⟩ mp c d) := by
  induction mp with
  | nil => simp [putM, hasM, eqK_two]
  | cons p l ih =>
    simp only [putM]
    cases he : eqK ⟨true, false⟩ p.1 a b with
    | true =>
      rw [cond_true]
      simp only [hasM]
      rw [eqK_two] at he ⊢
      simp only [Bool.and_eq_true, beq_iff_eq] at he
      rw [eqK_two, he.1, he.2]
      cases (a == c && b == d) <;> simp
    | false =>
      rw [cond_false]
      simp only [hasM, ih]
      rw [Bool.or_left_comm]
theorem get_put (mp : Mp) (a b x c d : Int) : getM ⟨true, false⟩ (putM ⟨true, false⟩ mp a b x) c d = if (a == c && b == d) then x else getM ⟨true, false⟩ mp c d := by
  induction mp with
  | nil =>
    simp only [putM, getM, eqK_two]
    cases (a == c && b == d) <;> rfl
  | cons p l ih =>
    simp only [putM]
    cases he : eqK ⟨true, false⟩ p.1 a b with
    | true =>
      rw [cond_true]
      simp only [getM]
      rw [eqK_two] at he ⊢
      simp only [Bool.and_eq_true, beq_iff_eq] at he
      rw [eqK_two, he.1, he.2]
      cases (a == c && b == d) <;> simp
    | false =>
      rw [cond_false]
      simp only [getM, ih]
      cases hp : eqK ⟨true, false⟩ p.1 c d with
      | false => rfl
      | true =>
        rw [cond_true]
        cases hc : (a == c && b == d) with
        | false => rfl
        | true =>
          exfalso
          rw [eqK_two] at hp he
          simp only [Bool.and_eq_true, beq_iff_eq] at hp hc
          rw [hp.1, hp.2, hc.1, hc.2] at he
          simp at he
theorem Mem.put {w n : Nat} {mp : Mp} (h : Mem w n mp) (m v : Nat) {x : Int} (hx : x = (dep_ w n m v : Int)) : Mem w n (putM ⟨true, false⟩ mp (m : Int) (v : Int) x) := by
  intro m' v' hh
  rw [get_put]
  rw [has_put] at hh
  cases he : (((m : Int) == (m' : Int)) && ((v : Int) == (v' : Int))) with
  | true =>
    rw [if_pos rfl, hx]
    simp only [Bool.and_eq_true, beq_iff_eq] at he
    rw [show m = m' by omega, show v = v' by omega]
  | false =>
    rw [he, Bool.false_or] at hh
    rw [if_neg (by decide)]
    exact h m' v' hh

theorem shl_zero (i : Nat) : shlI .i64 0 (i : Int) = 0 := by
  unfold shlI
  rw [Int.zero_mul]
  decide
theorem or_zero_int (v : Nat) (hv : v < 16) : bits .or .i64 (v : Int) 0 = (v : Int) := by
  have := bOr v 0 (by omega) (by omega)
  simpa using this
theorem impl_left_f (N : Nat) (hN : 64 < N) (n w : Nat) (hn : n ≤ 4) (hw : w < 2 ^ 2 ^ n) : ∀ (F m v : Nat) (mp mp5 : Mp), fc n m < F → m < 2 ^ n → v < 2 ^ n → Mem w n mp →
    ∃ mp', Mem w n mp' ∧ ∀ k0 : Int → Int → Int → Mp → Mp → Option β, zj122 N F (m : Int) (v : Int) (n : Int) (w : Int) mp mp5 k0 = k0 (dep_ w n m v : Int) n w mp' mp5 := by
  have hs := size4 hn
  have hw' := two32 (by omega) hw
  intro F
  induction F with
  | zero => intro m v mp mp5 h; omega
  | succ F ih =>
    intro m v mp mp5 hF hm hv hM
    simp only [zj122, zj121]
    cases hh : hasM ⟨true, false⟩ mp (m : Int) (v : Int) with
    | true => exact ⟨mp, hM, fun k0 => by rw [cond_true, hM m v hh]⟩
    | false =>
      simp only [cond_false, impl_cube_eq N hN n w m v (by omega) hw' (by omega)]
      have e : ((cond (sc w m v false (2 ^ n)) (cond (sc w m v true (2 ^ n)) (2 : Int) 0) (cond (sc w m v true (2 ^ n)) 1 0)) == 2) = bothV w n m v := by
        unfold bothV
        cases sc w m v false (2 ^ n) <;> cases sc w m v true (2 ^ n) <;> rfl
      rw [e]
      have hde := dep_eq w n m v hn hm
      cases hx : bothV w n m v with
      | false =>
        rw [hx, if_neg (by decide)] at hde
        exact ⟨_, hM.put m v (x := 0) (by rw [hde]; rfl), fun k0 => by rw [cond_false, hde]; rfl⟩
      | true =>
        rw [hx, if_pos rfl] at hde
        simp only [cond_true]
        generalize hval : (fun i => 1 + max (dep_ w n (m ||| 2 ^ i) v) (dep_ w n (m ||| 2 ^ i) (v ||| 2 ^ i))) = val at hde
        have hvi : ∀ i, 1 + max (dep_ w n (m ||| 2 ^ i) v) (dep_ w n (m ||| 2 ^ i) (v ||| 2 ^ i)) = val i := fun i => by rw [← hval]
        have key : ∀ (d G i : Nat) (mp : Mp), i + d = n → d < G → Mem w n mp → ∃ mp', Mem w n mp' ∧ ∀ K : Int → Int → Int → Mp → Mp → Int → Int → Option β,
            zj120 N (zj122 N F) G (mnO n (free m) val i : Int) (n : Int) (i : Int) (n : Int) (w : Int) mp mp5 (m : Int) (v : Int) K = K (mnO n (free m) val n : Int) n w mp' mp5 m v := by
          intro d
          induction d with
          | zero =>
            intro G i mp hi hG hM
            obtain ⟨G, rfl⟩ : ∃ H, G = H + 1 := ⟨G - 1, by omega⟩
            refine ⟨mp, hM, fun K => ?_⟩
            simp only [zj120, zj119]
            rw [decide_eq_false (by omega : ¬ (i : Int) < (n : Int)), cond_false, show i = n by omega]
          | succ d ihd =>
            intro G i mp hi hG hM
            obtain ⟨G, rfl⟩ : ∃ H, G = H + 1 := ⟨G - 1, by omega⟩
            have hlt : i < n := by omega
            have hp : 2 ^ i < 2 ^ 4 := Nat.pow_lt_pow_right (by decide) (by omega)
            have eb : ((((if m.testBit i then 1 else 0 : Nat) : Int)) == 0) = free m i := by
              unfold free
              cases m.testBit i <;> rfl
            cases hf : free m i with
            | false =>
              obtain ⟨mp', hM', he⟩ := ihd G (i + 1) mp (by omega) (by omega) hM
              refine ⟨mp', hM', fun K => ?_⟩
              simp only [zj120, zj119]
              rw [decide_eq_true (by omega : (i : Int) < (n : Int)), cond_true, gd_true (decide_eq_true (by omega : (0 : Int) ≤ (i : Int))), bit_at m i (by omega), eb, hf, cond_false, w64_succ i (by omega)]
              have h1 := he K
              simp only [mnO, hf] at h1
              exact h1
            | true =>
              have h4 := fc_less n hn m hm i hlt hf
              have hmo := or_lt n hn m hm i hlt
              have hvo := or_lt n hn v hv i hlt
              obtain ⟨mp1, hM1, he1⟩ := ih (m ||| 2 ^ i) v mp mp5 (by omega) hmo hv hM
              obtain ⟨mp2, hM2, he2⟩ := ih (m ||| 2 ^ i) (v ||| 2 ^ i) mp1 mp5 (by omega) hmo hvo hM1
              obtain ⟨mp', hM', he⟩ := ihd G (i + 1) mp2 (by omega) (by omega) hM2
              refine ⟨mp', hM', fun K => ?_⟩
              have hd1 := dep_le w n (m ||| 2 ^ i) v hn hmo
              have hd2 := dep_le w n (m ||| 2 ^ i) (v ||| 2 ^ i) hn hmo
              have hfc := fc_le n (m ||| 2 ^ i)
              simp only [zj120, zj119, zj118]
              rw [decide_eq_true (by omega : (i : Int) < (n : Int)), cond_true, gd_true (decide_eq_true (by omega : (0 : Int) ≤ (i : Int))), bit_at m i (by omega), eb, hf, cond_true, w64_succ i (by omega)]
              simp only [gd_true (decide_eq_true (by omega : (0 : Int) ≤ (i : Int)))]
              rw [shl_zero, shl_one i (by omega), or_zero_int v (by omega), bOr m _ (by omega) (by omega), bOr v _ (by omega) (by omega), he1]
              rw [he2]
              rw [mxI_nat, show (1 : Int) + ((max (dep_ w n (m ||| 2 ^ i) v) (dep_ w n (m ||| 2 ^ i) (v ||| 2 ^ i)) : Nat) : Int) = ((1 + max (dep_ w n (m ||| 2 ^ i) v) (dep_ w n (m ||| 2 ^ i) (v ||| 2 ^ i)) : Nat) : Int) by omega, w64_nat _ (by omega), mnI_nat, hvi]
              have h1 := he K
              simp only [mnO, hf, if_true] at h1
              exact h1
        obtain ⟨mp', hM', he⟩ := key n N 0 mp (by omega) (by omega) hM
        have hle := dep_le w n m v hn hm
        have hfc := fc_le n m
        have hst := mnO_start n 10 (by omega) (free m) val n
        have heq : mnO n (free m) val n = dep_ w n m v := by
          rw [hst, ← hde]
          omega
        rw [heq] at he
        refine ⟨_, hM'.put m v (x := (dep_ w n m v : Int)) rfl, fun k0 => ?_⟩
        have h1 := he (fun e12_0 e12_1 e12_2 e12_3 e12_4 e12_5 e12_6 => k0 e12_0 e12_1 e12_2 (putM ⟨true, false⟩ e12_3 e12_5 e12_6 e12_0) e12_4)
        simp only [mnO, Int.natCast_zero] at h1
        exact h1

/-- The least depth of a table. -/
def depth (w n : Nat) : Nat := dep_ w n 0 0
theorem spec_LeastDepth_eq (N : Nat) (hN : 64 < N) (n w : Nat) (hn : n ≤ 4) (hw : w < 2 ^ 2 ^ n) (k : Int → Option β) : zj43 N (n : Int) (w : Int) k = k (depth w n : Int) := by
  have hpos := Nat.two_pow_pos n
  have hfc := fc_le n 0
  unfold zj43 zj42
  rw [spec_IsTable_eq, isT_of (by omega) hw, Bool.not_true, cond_false, decide_eq_false (by omega : ¬ (n : Int) > 4), cond_false]
  have := spec_least_f (β := β) N hN n w hn hw N 0 0 (by omega) hpos hpos k
  exact this
theorem impl_LeastDepth_eq (N : Nat) (hN : 64 < N) (n w : Nat) (hn : n ≤ 4) (hw : w < 2 ^ 2 ^ n) (k : Int → Option β) : zj124 N (n : Int) (w : Int) k = k (depth w n : Int) := by
  have hpos := Nat.two_pow_pos n
  have hfc := fc_le n 0
  have hw' := two32 (by omega) hw
  unfold zj124 zj117 zj123
  have hsm : smallT (n : Int) (w : Int) 4 = true := by
    unfold smallT
    rw [isT_of (by omega) hw, decide_eq_true (by omega : (n : Int) ≤ 4)]
    rfl
  rw [impl_isSmall_eq N _ _ 4 (by omega), hsm, Bool.not_true, cond_false]
  obtain ⟨mp', _, he⟩ := impl_left_f (β := β) N hN n w hn hw N 0 0 [] [] (by omega) hpos hpos (fun m v h => by cases h)
  exact he _
end Go.Proofs.Ytfdggelojmofmaa
namespace Go.Proofs.Ytfdggelojmofmaa
open Go.Rv
set_option linter.unusedVariables false
variable {β : Type}
theorem mxI_comm0 (a : Int) : mxI a 0 = mxI 0 a := by unfold mxI; split <;> split <;> omega
/-- A measure by its name. -/
def msr (s : ByteArray) (w n : Nat) : Int :=
  cond (s.toList == (strOf [115, 101, 110, 115, 105, 116, 105, 118, 105, 116, 121]).toList) (sensOf w n : Int)
  (cond (s.toList == (strOf [98, 108, 111, 99, 107, 115]).toList) (bsOf w n : Int)
  (cond (s.toList == (strOf [99, 101, 114, 116, 105, 102, 105, 99, 97, 116, 101]).toList) (mxI (certOf w n false : Int) (certOf w n true : Int))
  (cond (s.toList == (strOf [100, 101, 112, 116, 104]).toList) (depth w n : Int)
  (cond (s.toList == (strOf [100, 101, 103, 114, 101, 101]).toList) (mxI 0 (deg w n))
  (cond (s.toList == (strOf [100, 101, 103, 114, 101, 101, 50]).toList) (mxI 0 (dg (anf w n).testBit (2 ^ n)))
  (cond (s.toList == (strOf [111, 110, 101, 115]).toList) (ones w : Int)
  (cond (s.toList == (strOf [105, 110, 102, 108, 117, 101, 110, 99, 101]).toList) (total w n : Int) (-1))))))))
theorem spec_cert0 (N : Nat) (hN : 64 < N) (n w : Nat) (hn : n ≤ 5) (hw : w < 2 ^ 2 ^ n) (k : Int → Option β) : zj37 N (n : Int) (w : Int) 0 k = k (certOf w n false : Int) := spec_CertificateOf_eq N hN n w hn hw false k
theorem spec_cert1 (N : Nat) (hN : 64 < N) (n w : Nat) (hn : n ≤ 5) (hw : w < 2 ^ 2 ^ n) (k : Int → Option β) : zj37 N (n : Int) (w : Int) 1 k = k (certOf w n true : Int) := spec_CertificateOf_eq N hN n w hn hw true k
theorem impl_cert0 (N : Nat) (hN : 64 < N) (n w : Nat) (hn : n ≤ 5) (hw : w < 2 ^ 2 ^ n) (k : Int → Option β) : zj116 N (n : Int) (w : Int) 0 k = k (certOf w n false : Int) := impl_CertificateOf_eq N hN n w hn hw false k
theorem impl_cert1 (N : Nat) (hN : 64 < N) (n w : Nat) (hn : n ≤ 5) (hw : w < 2 ^ 2 ^ n) (k : Int → Option β) : zj116 N (n : Int) (w : Int) 1 k = k (certOf w n true : Int) := impl_CertificateOf_eq N hN n w hn hw true k
theorem step {γ : Type} {k : Int → γ} {c : Bool} {A B : γ} {a b : Int} (h1 : A = k a) (h2 : B = k b) : cond c A B = k (cond c a b) := by cases c; exact h2; exact h1
theorem spec_MeasureOf_small (N : Nat) (hN : 64 < N) (s : ByteArray) (n w : Nat) (hn : n ≤ 4) (hw : w < 2 ^ 2 ^ n) (k : Int → Option β) : zj65 N s (n : Int) (w : Int) k = k (msr s w n) := by
  have h5 : n ≤ 5 := by omega
  unfold zj65 msr
  rw [spec_IsTable_eq, isT_of h5 hw, Bool.not_true, cond_false, decide_eq_false (by omega : ¬ (n : Int) > 4), cond_false]
  exact step (spec_SensitivityOf_eq N hN n w h5 hw k) (step (spec_BlockSensitivityOf_eq N hN n w hn hw k) (step (by rw [spec_cert0 N hN n w h5 hw, spec_cert1 N hN n w h5 hw]) (step (spec_LeastDepth_eq N hN n w hn hw k) (step (spec_RealDegree_eq N hN n w h5 hw fun r => k (mxI 0 r)) (step (spec_DegreeMod2_eq N hN n w h5 hw fun r => k (mxI 0 r)) (step (spec_CountOnes_eq N hN n w h5 hw k) (step (spec_TotalInfluence_eq N hN n w h5 hw k) rfl)))))))
theorem impl_measure_eq (N : Nat) (hN : 64 < N) (s : ByteArray) (n w : Nat) (hn : n ≤ 4) (hw : w < 2 ^ 2 ^ n) (k : Int → Option β) : zj156 N s (n : Int) (w : Int) k = k (msr s w n) := by
  have h5 : n ≤ 5 := by omega
  unfold zj156 msr
  exact step (impl_SensitivityOf_eq N hN n w h5 hw k) (step (impl_BlockSensitivityOf_eq N hN n w hn hw k) (step (by rw [impl_cert0 N hN n w h5 hw, impl_cert1 N hN n w h5 hw]) (step (impl_LeastDepth_eq N hN n w hn hw k) (step ((impl_RealDegree_eq N hN n w h5 hw fun r => k (mxI r 0)).trans (by rw [mxI_comm0])) (step ((impl_DegreeMod2_eq N hN n w h5 hw fun r => k (mxI r 0)).trans (by rw [mxI_comm0])) (step (impl_CountOnes_eq N hN n w h5 hw k) (step (impl_TotalInfluence_eq N hN n w h5 hw k) rfl)))))))

theorem small_nat {a0 a1 : Int} (h : smallT a0 a1 4 = true) : ∃ n w : Nat, a0 = n ∧ a1 = w ∧ n ≤ 4 ∧ w < 2 ^ 2 ^ n := by
  unfold smallT at h
  simp only [Bool.and_eq_true, decide_eq_true_eq] at h
  obtain ⟨n, w, rfl, rfl, hn, hw, _⟩ := isT_nat h.1
  exact ⟨n, w, rfl, rfl, by omega, hw⟩
def measure (s : ByteArray) (a0 a1 : Int) : Int := if smallT a0 a1 4 then msr s a1.toNat a0.toNat else -1
theorem spec_MeasureOf_eq (N : Nat) (hN : 64 < N) (s : ByteArray) (a0 a1 : Int) (k : Int → Option β) : zj65 N s a0 a1 k = k (measure s a0 a1) := by
  unfold measure
  by_cases h : smallT a0 a1 4 = true
  · rw [if_pos h]
    obtain ⟨n, w, rfl, rfl, hn, hw⟩ := small_nat h
    exact spec_MeasureOf_small N hN s n w hn hw k
  · rw [if_neg h]
    unfold zj65
    rw [spec_IsTable_eq]
    unfold smallT at h
    cases hT : isT a0 a1 with
    | false => rfl
    | true =>
      rw [hT, Bool.true_and, decide_eq_true_eq] at h
      rw [Bool.not_true, cond_false, decide_eq_true (by omega : a0 > 4), cond_true]
/-! ### MaximumOf -/
def best (f : Nat → Int) : Nat → Int
  | 0 => -1
  | m + 1 => mxI (best f m) (f m)
/-! ### RelationHolds -/
theorem spread_small : ∀ x : Nat, x < 16 → ∀ i : Nat, i < 5 → ∀ b : Nat, b < 2 → bits .or .i64 (bits .or .i64 (shlI .i64 (w64 ((x : Int) - bits .and .i64 (x : Int) (w64 (shlI .i64 1 (i : Int) - 1)))) 1) (shlI .i64 (b : Int) (i : Int))) (bits .and .i64 (x : Int) (w64 (shlI .i64 1 (i : Int) - 1))) = (ins x i b : Int) := by decide +kernel
theorem impl_restrict_eq (N : Nat) (hN : 64 < N) (n w i b : Nat) (hn : n ≤ 5) (hi : i < n) (hw : w < 4294967296) (hb : b < 2) (k : Int → Int → Option β) :
    zj158 N (n : Int) (w : Int) (i : Int) (b : Int) k = k ((n - 1 : Nat) : Int) (tabw (fun x => w.testBit (ins x i b)) (2 ^ (n - 1)) : Int) := by
  unfold zj158
  have hs : 2 ^ (n - 1) ≤ 16 := Nat.le_trans (Nat.pow_le_pow_right (by decide) (by omega : n - 1 ≤ 4)) (by decide)
  rw [show (n : Int) - 1 = ((n - 1 : Nat) : Int) by omega, w64_nat _ (by omega), makeTable_eq N hN (n - 1) (by omega) _ (fun x => w.testBit (ins x i b)) fun x k hx => ?_]
  unfold zj140 zj139 zj83
  rw [gd_true (decide_eq_true (by omega : (0 : Int) ≤ (i : Int))), gd_true (decide_eq_true (by omega : (0 : Int) ≤ (i : Int))), spread_small x (by omega) i (by omega) b hb]
  show gd (decide ((0 : Int) ≤ ((ins x i b : Nat) : Int))) (k (bits .and .i64 (shrI .i64 (w : Int) ((ins x i b : Nat) : Int)) 1 == 1)) = _
  rw [gd_true (decide_eq_true (Int.natCast_nonneg _)), bit_at w _ (by omega), bit_eq_one]
theorem impl_depends_eq (N : Nat) (hN : 64 < N) (n w i : Nat) (hn : n ≤ 5) (hi : i < n) (hw : w < 4294967296) (k : Bool → Option β) : zj159 N (n : Int) (w : Int) (i : Int) k = k (dep w n i) := by
  unfold zj159
  have e0 := fun k => impl_restrict_eq (β := β) N hN n w i 0 hn hi hw (by decide) k
  have e1 := fun k => impl_restrict_eq (β := β) N hN n w i 1 hn hi hw (by decide) k
  simp only [Int.natCast_zero] at e0
  have e1 : ∀ k : Int → Int → Option β, zj158 N (n : Int) (w : Int) (i : Int) 1 k = k ((n - 1 : Nat) : Int) (tabw (fun x => w.testBit (ins x i 1)) (2 ^ (n - 1)) : Int) := e1
  simp only [e0, e1]
  congr 1
  unfold dep
  rw [beq_self_eq_true, Bool.true_and, bne]
  congr 1
  rw [Bool.eq_iff_iff, beq_iff_eq, beq_iff_eq]
  omega
theorem impl_VariablesOf_eq (N : Nat) (hN : 64 < N) (n w : Nat) (hn : n ≤ 5) (hw : w < 2 ^ 2 ^ n) (k : List Int → Option β) : zj162 N (n : Int) (w : Int) k = k (vars w n n) := by
  have hw' := two32 hn hw
  unfold zj162
  rw [impl_IsTable_eq N _ _ (by omega), isT_of hn hw, Bool.not_true, cond_false]
  have key : ∀ (F i : Nat), n - i < F → i ≤ n → zj161 N F (n : Int) (i : Int) (n : Int) (w : Int) (vars w n i) k = k (vars w n n) := by
    intro F
    induction F with
    | zero => intro i hF; omega
    | succ F ih =>
      intro i hF hi
      simp only [zj161, zj160]
      by_cases hlt : i < n
      · rw [decide_eq_true (by omega : (i : Int) < (n : Int))]
        simp only [cond_true, impl_depends_eq N hN n w i hn hlt hw']
        have h1 := ih (i + 1) (by omega) (by omega)
        rw [vars_succ] at h1
        have hl := vars_len w n i
        rw [w64_succ i (by omega), gd_true (decide_eq_true (by simp; omega))]
        cases hd : dep w n i with
        | true => rw [hd, if_pos rfl] at h1; exact h1
        | false => rw [hd, if_neg (by decide)] at h1; exact h1
      · rw [decide_eq_false (by omega : ¬ (i : Int) < (n : Int)), cond_false, show i = n by omega]
  exact key N 0 (by omega) (Nat.zero_le _)

/-- Two texts that end with the same. -/
def Ends (f g : (Bool → Option β) → Option β) : Prop := ∃ v : Bool, (∀ K, f K = K v) ∧ ∀ K, g K = K v
theorem Ends.leaf (v : Bool) : Ends (β := β) (fun K => K v) (fun K => K v) := ⟨v, fun _ => rfl, fun _ => rfl⟩
theorem Ends.cond {c : Bool} {f g f' g' : (Bool → Option β) → Option β} (h : Ends f g) (h' : Ends f' g') : Ends (fun K => cond c (f K) (f' K)) (fun K => cond c (g K) (g' K)) := by
  cases c
  · exact h'
  · exact h
theorem msr_sens (w n : Nat) : msr (strOf [115, 101, 110, 115, 105, 116, 105, 118, 105, 116, 121]) w n = (sensOf w n : Int) := by
  unfold msr
  rw [beq_self_eq_true, cond_true]
theorem RelationHolds_both (N : Nat) (hN : 1048576 < N) (s : ByteArray) (a0 a1 : Int) (h0 : -9223372036854775808 ≤ a0 ∧ a0 ≤ 9223372036854775807) (h1 : -9223372036854775808 ≤ a1 ∧ a1 ≤ 9223372036854775807) :
    ∃ v : Bool, (∀ K : Bool → Option β, zj74 N s a0 a1 K = K v) ∧ (∀ K : Bool → Option β, zj163 N s a0 a1 K = K v) := by
  unfold zj74 zj163 zj157
  simp only [spec_MeasureOf_eq N (by omega : 64 < N), impl_isSmall_eq N a0 a1 4 (by omega)]
  by_cases h : smallT a0 a1 4 = true
  · have hm : ∀ s, measure s a0 a1 = msr s a1.toNat a0.toNat := fun s => by unfold measure; rw [if_pos h]
    simp only [hm, h]
    obtain ⟨n, w, rfl, rfl, hn, hw⟩ := small_nat h
    simp only [Int.toNat_natCast, impl_measure_eq N (by omega : 64 < N) _ n w hn hw, impl_cert0 N (by omega : 64 < N) n w (by omega) hw, impl_cert1 N (by omega : 64 < N) n w (by omega) hw, spec_cert0 N (by omega : 64 < N) n w (by omega) hw, spec_cert1 N (by omega : 64 < N) n w (by omega) hw, spec_VariablesOf_eq N (by omega : 64 < N) n w (by omega) hw, impl_VariablesOf_eq N (by omega : 64 < N) n w (by omega) hw, msr_sens]
    have hsz := size4 hn
    have hse := sensOf_le w n
    have hmul : sensOf w n * 2 ^ n ≤ 4 * 16 := Nat.mul_le_mul (by omega) hsz
    have hsh : shlI .i64 (sensOf w n : Int) (n : Int) = ((sensOf w n * 2 ^ n : Nat) : Int) := shl_nat _ n (by omega) (by omega)
    have hmu : w64 ((sensOf w n : Int) * ((2 ^ n : Nat) : Int)) = ((sensOf w n * 2 ^ n : Nat) : Int) := by
      rw [← Int.natCast_mul, w64_nat _ (by omega)]
    simp only [zj79, gd_true (decide_eq_true (by omega : (0 : Int) ≤ (n : Int))), shl_one n (by omega), hsh, hmu, decide_eq_false (by omega : ¬ (sensOf w n : Int) < 0), Bool.not_true, cond_false]
    have hgt : decide ((sensOf w n : Int) > 0) = decide ((sensOf w n : Int) ≥ 1) := by
      rw [Bool.eq_iff_iff, decide_eq_true_eq, decide_eq_true_eq]; omega
    simp only [hgt]
    show Ends (fun K => _) (fun K => _)
    repeat' first | exact Ends.leaf _ | apply Ends.cond
  · have hm : ∀ s, measure s a0 a1 = -1 := fun s => by unfold measure; rw [if_neg h]
    simp only [hm, Bool.eq_false_iff.2 h]
    exact ⟨false, fun K => rfl, fun K => rfl⟩
end Go.Proofs.Ytfdggelojmofmaa
