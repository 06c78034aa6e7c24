/- Plain laws of the texts. -/
import Derived.Test.YtddflpokemgnmaaDoorP91
namespace Go.Proofs.YtddflpokemgnmaaDoor
open Go.Rv
set_option linter.unusedVariables false
variable {β : Type}
theorem sz4 {n : Nat} (h : n ≤ 4) : 2 ^ n ≤ 16 := Nat.le_trans (Nat.pow_le_pow_right (by decide) h) (by decide)
def allF (p : Nat → Bool) : Nat → Nat → Bool
  | 0, _ => true
  | d + 1, i => p i && allF p d (i + 1)
theorem allF_congr {p q : Nat → Bool} : ∀ {d i : Nat}, (∀ j, i ≤ j → j < i + d → p j = q j) → allF p d i = allF q d i
  | 0, _, _ => rfl
  | d + 1, i, h => by
    simp only [allF]
    rw [h i (Nat.le_refl _) (by omega), allF_congr fun j h1 h2 => h j (by omega) (by omega)]
theorem allF_snoc (p : Nat → Bool) : ∀ d i, allF p (d + 1) i = (allF p d i && p (i + d))
  | 0, i => by simp [allF]
  | d + 1, i => by
    rw [allF, allF_snoc p d (i + 1), allF, Bool.and_assoc, show i + 1 + d = i + (d + 1) by omega]
theorem allF_true {p : Nat → Bool} : ∀ {d i : Nat}, allF p d i = true → ∀ j, i ≤ j → j < i + d → p j = true
  | 0, i, _, j, h1, h2 => by omega
  | d + 1, i, h, j, h1, h2 => by
    simp only [allF, Bool.and_eq_true] at h
    rcases Nat.eq_or_lt_of_le h1 with rfl | h3
    · exact h.1
    · exact allF_true h.2 j h3 (by omega)

theorem ContainsFunc_mem (N : Nat) (l : List Int) (hl : l.length ≤ 1048576) (hN : 1048576 < N) (f : Int → (Bool → Option β) → Option β) (p : Int → Bool) (hf : ∀ x ∈ l, ∀ k, f x k = k (p x)) (k : Bool → Option β) :
    zj110 N l f k = k (l.any p) := by
  unfold zj110 zj109
  have main : ∀ (F i : Nat), l.length - i < F → i ≤ l.length →
      zj108 N f F l (l.length : Int) (i : Int) (fun e => k (decide (e ≥ 0))) (k (decide ((-1 : Int) ≥ 0))) = k ((l.drop i).any p) := by
    intro F
    induction F with
    | zero => intro i h; omega
    | succ F ih =>
      intro i hF hi
      simp only [zj108, zj107]
      rcases Nat.lt_or_ge i l.length with h | h
      · have hx := List.getElem_mem h
        rw [decide_eq_true (by omega), cond_true, gd_true (decide_eq_true (by omega)), gd_true rfl, rd_nat 0 l i h, hf _ hx, List.drop_eq_getElem_cons h, List.any_cons]
        cases p l[i] with
        | true =>
          rw [cond_true, decide_eq_true (by omega)]
          rfl
        | false =>
          rw [cond_false, w64_succ i (by omega), ih (i + 1) (by omega) h, Bool.false_or]
      · have : i = l.length := by omega
        subst this
        rw [decide_eq_false (by omega), cond_false, List.drop_length]
        rfl
  have := main N 0 (by omega) (by omega)
  rw [List.drop_zero] at this
  exact this

def li (l : List Nat) : List Int := l.map Int.ofNat
theorem li_len (l : List Nat) : (li l).length = l.length := by simp [li]
theorem li_rd (l : List Nat) (i : Nat) : rd 0 (li l) (i : Int) = ((l.getD i 0 : Nat) : Int) := by
  simp only [rd, li, Int.toNat_natCast, List.getD_eq_getElem?_getD, List.getElem?_map]
  cases l[i]? <;> rfl
theorem li_snoc (l : List Nat) (x : Nat) : li (l ++ [x]) = li l ++ [(x : Int)] := by simp [li]
theorem getD_left (l : List Nat) (x i : Nat) (h : i < l.length) : (l ++ [x]).getD i 0 = l.getD i 0 := by
  simp only [List.getD_eq_getElem?_getD, List.getElem?_append_left h]
theorem getD_last (l : List Nat) (x : Nat) : (l ++ [x]).getD l.length 0 = x := by
  simp [List.getD_eq_getElem?_getD]
theorem allF_all (l : List Nat) (p : Nat → Bool) : ∀ d i, i + d = l.length → allF (fun j => p (l.getD j 0)) d i = (l.drop i).all p
  | 0, i, h => by rw [List.drop_eq_nil_of_le (by omega)]; rfl
  | d + 1, i, h => by
    have hi : i < l.length := by omega
    rw [List.drop_eq_getElem_cons hi, List.all_cons, allF, allF_all l p d (i + 1) (by omega), List.getD_eq_getElem?_getD, List.getElem?_eq_getElem hi]
    rfl
theorem drop_cons' (L : List Nat) (i : Nat) (hi : i < L.length) : L.drop i = L.getD i 0 :: L.drop (i + 1) := by
  rw [List.drop_eq_getElem_cons hi, List.getD_eq_getElem?_getD, List.getElem?_eq_getElem hi]
  rfl
end Go.Proofs.YtddflpokemgnmaaDoor
namespace Go.Proofs.YtddflpokemgnmaaDoor
open Go.Rv
set_option linter.unusedVariables false
variable {β : Type}
def cr (k x y : Nat) : Nat := (x &&& (2 ^ k - 1)) ||| (y ^^^ (y &&& (2 ^ k - 1)))
theorem cr_spec : ∀ k, k ≤ 4 → ∀ x, x < 16 → ∀ y, y < 16 → ((x &&& (2 ^ k - 1)) + y - (y &&& (2 ^ k - 1)) = cr k x y ∧ (y &&& (2 ^ k - 1)) ≤ y) ∧ (cr k x y < 16 ∧ (x &&& (2 ^ k - 1)) < 16 ∧ (y ^^^ (y &&& (2 ^ k - 1))) < 16) := by decide +kernel
def apt (W k v x y : Nat) : Bool := (bw W (cr k x y) != v) || (bw W (cr k y x) != v)
theorem low_mask (k : Nat) (h : k ≤ 4) : w64 (shlI .i64 1 (k : Int) - 1) = ((2 ^ k - 1 : Nat) : Int) := by
  have h1 : 2 ^ k ≤ 16 := Nat.le_trans (Nat.pow_le_pow_right (by decide) h) (by decide)
  have h2 := Nat.two_pow_pos k
  rw [shl_one k (by omega), w64_id (by omega) (by omega)]
  omega
def ext (W k v : Nat) (l : List Nat) (x : Nat) : Bool := (bw W x == v) && l.all fun y => apt W k v y x
def ml (W k v : Nat) : Nat → Nat → List Nat → Nat
  | 0, _, l => l.length
  | d + 1, x, l => if ext W k v l x then max (ml W k v d (x + 1) (l ++ [x])) (ml W k v d (x + 1) l) else ml W k v d (x + 1) l
theorem ml_bound (W k v : Nat) : ∀ d x l, l.length ≤ ml W k v d x l ∧ ml W k v d x l ≤ l.length + d
  | 0, _, l => ⟨Nat.le_refl _, Nat.le_refl _⟩
  | d + 1, x, l => by
    have h1 := ml_bound W k v d (x + 1) l
    have h2 := ml_bound W k v d (x + 1) (l ++ [x])
    simp only [List.length_append, List.length_cons, List.length_nil] at h2
    simp only [ml]
    split <;> omega
def pf (W n k v : Nat) (L : List Nat) (i : Nat) : Bool :=
  decide (L.getD i 0 < 2 ^ n) && ((i == 0 || decide (L.getD (i - 1) 0 < L.getD i 0)) && ((bw W (L.getD i 0) == v) && allF (fun j => apt W k v (L.getD j 0) (L.getD i 0)) i 0))
def Val (W n k v : Nat) (L : List Nat) : Prop := allF (pf W n k v L) L.length 0 = true

section
variable (N W n k v : Nat) (hN : 64 < N) (hn : n ≤ 4) (hk : k ≤ n) (hW : W < 2 ^ 2 ^ n) (hv : v ≤ 1)
include hN hn hk hW hv
end

theorem val_snoc {W n k v : Nat} {l : List Nat} (hl : Val W n k v l) {x : Nat} (hx : x < 2 ^ n) (hlt : ∀ y ∈ l, y < x) : allF (pf W n k v (l ++ [x])) (l ++ [x]).length 0 = ext W k v l x := by
  rw [List.length_append, List.length_cons, List.length_nil, allF_snoc, Nat.zero_add]
  have h1 : allF (pf W n k v (l ++ [x])) l.length 0 = true := by
    rw [← hl]
    refine allF_congr fun j _ hj => ?_
    rw [Nat.zero_add] at hj
    unfold pf
    rw [getD_left l x j hj]
    congr 2
    · rcases Nat.eq_zero_or_pos j with rfl | h0
      · rfl
      · rw [getD_left l x (j - 1) (by omega)]
    · congr 1
      exact allF_congr fun i _ hi => by rw [getD_left l x i (by omega)]
  rw [h1, Bool.true_and]
  unfold pf ext
  rw [getD_last, decide_eq_true hx, Bool.true_and]
  have h2 : (l.length == 0 || decide ((l ++ [x]).getD (l.length - 1) 0 < x)) = true := by
    rcases Nat.eq_zero_or_pos l.length with h0 | h0
    · rw [h0]; rfl
    · rw [getD_left l x _ (by omega), decide_eq_true, Bool.or_true]
      rw [List.getD_eq_getElem?_getD, List.getElem?_eq_getElem (by omega : l.length - 1 < l.length)]
      exact hlt _ (List.getElem_mem _)
  rw [h2, Bool.true_and]
  congr 1
  rw [allF_congr (q := fun j => (fun y => apt W k v y x) (l.getD j 0)) (fun j _ hj => by rw [getD_left l x j (by omega)]), allF_all l (fun y => apt W k v y x) l.length 0 (by omega), List.drop_zero]
theorem val_next {W n k v : Nat} {l : List Nat} (hl : Val W n k v l) {x : Nat} (hx : x < 2 ^ n) (hlt : ∀ y ∈ l, y < x) (he : ext W k v l x = true) : Val W n k v (l ++ [x]) ∧ ∀ y ∈ l ++ [x], y < x + 1 := by
  refine ⟨by unfold Val; rw [val_snoc hl hx hlt, he], fun y hy => ?_⟩
  rcases List.mem_append.1 hy with hy | hy
  · have := hlt y hy; omega
  · simp only [List.mem_singleton] at hy; omega
theorem len_le {W n k v : Nat} {l : List Nat} {x : Nat} (hl : Val W n k v l) (hlt : ∀ y ∈ l, y < x) : l.length ≤ x := by
  have key : ∀ i, i < l.length → i ≤ l.getD i 0 := by
    intro i
    induction i with
    | zero => intro _; exact Nat.zero_le _
    | succ i ih =>
      intro hi
      have h1 := allF_true hl (i + 1) (Nat.zero_le _) (by omega)
      unfold pf at h1
      simp only [Bool.and_eq_true, Bool.or_eq_true, beq_iff_eq, decide_eq_true_eq] at h1
      have h2 := ih (by omega)
      rcases h1.2.1 with h3 | h3
      · omega
      · simp only [Nat.add_sub_cancel] at h3; omega
  rcases Nat.eq_zero_or_pos l.length with h0 | h0
  · omega
  · have h1 := key (l.length - 1) (by omega)
    have h2 : l.getD (l.length - 1) 0 < x := by
      rw [List.getD_eq_getElem?_getD, List.getElem?_eq_getElem (by omega : l.length - 1 < l.length)]
      exact hlt _ (List.getElem_mem _)
    omega

section
variable (N W n k v : Nat) (hN : 64 < N) (hn : n ≤ 4) (hk : k ≤ n) (hW : W < 2 ^ 2 ^ n) (hv : v ≤ 1)
include hN hn hk hW hv
theorem impl_apart_eq (x y : Nat) (hx : x < 16) (hy : y < 16) (b : List Int) (K : Bool → Option β) : zj105 N (y : Int) (n : Int) (W : Int) (k : Int) (v : Int) b (x : Int) K = K (!apt W k v y x) := by
  have _ := hv; have _ := hN
  have hW' := two32 (by omega) hW
  have hk4 : 2 ^ k ≤ 16 := Nat.le_trans (Nat.pow_le_pow_right (by decide) (by omega : k ≤ 4)) (by decide)
  obtain ⟨⟨a1, a2⟩, a3, a4, a5⟩ := cr_spec k (by omega) x hx y hy
  obtain ⟨⟨c1, c2⟩, c3, c4, c5⟩ := cr_spec k (by omega) y hy x hx
  have ev : ∀ b : Nat, (((b : Nat) : Int) != (v : Int)) = (b != v) := fun b => by unfold bne; congr 1; rw [Bool.eq_iff_iff, beq_iff_eq, beq_iff_eq]; exact Int.ofNat_inj
  unfold zj105 zj104
  rw [gd_true (decide_eq_true (by omega)), low_mask k (by omega), bAnd x _ (by omega) (by omega), bAnd y _ (by omega) (by omega), bAndNot x _ (by omega) (by omega), bAndNot y _ (by omega) (by omega), bOr _ _ (by omega) (by omega), bOr _ _ (by omega) (by omega)]
  rw [show ((y &&& (2 ^ k - 1)) ||| (x ^^^ (x &&& (2 ^ k - 1)))) = cr k y x from rfl, show ((x &&& (2 ^ k - 1)) ||| (y ^^^ (y &&& (2 ^ k - 1)))) = cr k x y from rfl, impl_Table_at_eq N W _ _ hW', impl_Table_at_eq N W _ _ hW', ev, ev]
  unfold apt
  cases bw W (cr k y x) != v with
  | true => rfl
  | false => rfl
end
end Go.Proofs.YtddflpokemgnmaaDoor
namespace Go.Proofs.YtddflpokemgnmaaDoor
open Go.Rv
set_option linter.unusedVariables false
variable {β : Type}
section
variable (N W n k v : Nat) (hN : 1048576 < N) (hn : n ≤ 4) (hk : k ≤ n) (hW : W < 2 ^ 2 ^ n) (hv : v ≤ 1)
include hN hn hk hW hv
theorem impl_Contains_ext (l : List Nat) (hl : l.length ≤ 16) (hlt : ∀ y ∈ l, y < 16) (x : Nat) (hx : x < 16) (b : List Int) (K : Bool → Option β) :
    zj110 N (li l) (fun x0 k' => zj105 N x0 (n : Int) (W : Int) (k : Int) (v : Int) b (x : Int) k') K = K (!l.all fun y => apt W k v y x) := by
  rw [ContainsFunc_mem N (li l) (by rw [li_len]; omega) hN _ (fun y => !apt W k v y.toNat x)]
  · congr 1
    unfold li
    rw [List.any_map, List.not_all_eq_any_not]
    rfl
  · intro y hy K
    unfold li at hy
    obtain ⟨z, hz, rfl⟩ := List.mem_map.1 hy
    exact impl_apart_eq N W n k v (by omega) hn hk hW hv x z hx (hlt z hz) b K

theorem grow_f : ∀ (d F x : Nat) (l : List Nat) (best : List Int), x + d = 2 ^ n → d < F → Val W n k v l → (∀ y ∈ l, y < x) → best.length ≤ 16 →
    ∃ r : List Int, r.length = max best.length (ml W k v d x l) ∧ ∀ K : Int → Int → Int → Int → List Int → List Int → Option β, zj115 N F (x : Int) (n : Int) (W : Int) (k : Int) (v : Int) best (li l) K = K n W k v r (li l) := by
  have hs := sz4 hn
  have hW' := two32 (by omega) hW
  have hz2 : (0 : Int) ≤ ((2 ^ n : Nat) : Int) := Int.natCast_nonneg _
  intro d
  induction d using Nat.strongRecOn with
  | _ d ihd =>
    intro F x l best0 hx hF hl hlt hb0
    obtain ⟨G, rfl⟩ : ∃ G, F = G + 1 := ⟨F - 1, by omega⟩
    have hll := len_le hl hlt
    have hcl : ∀ m : List Int, m.length ≤ 16 → ∀ K : List Int → Option β, slices_Clone_Sint_int N m K = K m := fun m hm K => by
      unfold slices_Clone_Sint_int
      rw [gd_true (decide_eq_true (by omega))]
    have hli : (li l).length ≤ 16 := by rw [li_len]; omega
    have loop : ∀ (e H y : Nat) (best : List Int), y + e = 2 ^ n → e < H → x ≤ y → e ≤ d → l.length ≤ best.length → best.length ≤ 16 →
        ∃ r : List Int, r.length = max best.length (ml W k v e y l) ∧ ∀ K : Int → Int → Int → Int → List Int → List Int → Option β,
          zj113 N (zj115 N G) H (n : Int) (W : Int) (k : Int) (v : Int) best (li l) (y : Int) K = K n W k v r (li l) := by
      intro e
      induction e with
      | zero =>
        intro H y best hy hH _ _ hb hb2
        obtain ⟨H, rfl⟩ : ∃ H', H = H' + 1 := ⟨H - 1, by omega⟩
        refine ⟨best, by simp only [ml]; omega, fun K => ?_⟩
        simp only [zj113, zj112]
        rw [impl_Table_size_eq N n _ (by omega), decide_eq_false (by omega), cond_false]
      | succ e ihe =>
        intro H y best hy hH hxy hed hb hb2
        obtain ⟨H, rfl⟩ : ∃ H', H = H' + 1 := ⟨H - 1, by omega⟩
        have hyn : y < 2 ^ n := by omega
        have hlty : ∀ z ∈ l, z < y := fun z hz => by have := hlt z hz; omega
        have hb16 : ∀ z ∈ l, z < 16 := fun z hz => by have := hlty z hz; omega
        have step : ∀ K : Int → Int → Int → Int → List Int → List Int → Option β, zj113 N (zj115 N G) (H + 1) (n : Int) (W : Int) (k : Int) (v : Int) best (li l) (y : Int) K =
            cond (decide (((l.length + 2 ^ n - y : Nat) : Int) > (best.length : Int)))
              (cond (bw W y == v)
                (cond (l.all fun z => apt W k v z y)
                  (zj115 N G ((y + 1 : Nat) : Int) (n : Int) (W : Int) (k : Int) (v : Int) best (li l ++ [(y : Int)]) fun r0 r1 r2 r3 r4 r5 =>
                    zj115 N G ((y + 1 : Nat) : Int) (n : Int) (W : Int) (k : Int) (v : Int) best (li l ++ [(y : Int)]) fun u0 u1 u2 u3 u4 u5 =>
                      zj111 r0 r1 r2 r3 r4 (li l) (y : Int) u0 u1 u2 u3 u4 (li l) (y : Int) (zj113 N (zj115 N G) H r0 r1 r2 r3 r4 (li l) ((y + 1 : Nat) : Int) K))
                  (zj113 N (zj115 N G) H (n : Int) (W : Int) (k : Int) (v : Int) best (li l) ((y + 1 : Nat) : Int) K))
                (zj113 N (zj115 N G) H (n : Int) (W : Int) (k : Int) (v : Int) best (li l) ((y + 1 : Nat) : Int) K))
              (K n W k v best (li l)) := fun K => by
          have hcon := fun K => impl_Contains_ext (β := β) N W n k v hN hn hk hW hv l (by omega) hb16 y (by omega) best K
          have ev : (((bw W y : Nat) : Int) == (v : Int)) = (bw W y == v) := by rw [Bool.eq_iff_iff, beq_iff_eq, beq_iff_eq]; exact Int.ofNat_inj
          have ew : w64 (w64 (((li l).length : Int) + ((2 ^ n : Nat) : Int)) - (y : Int)) = ((l.length + 2 ^ n - y : Nat) : Int) := by
            rw [li_len, w64_id (x := (l.length : Int) + ((2 ^ n : Nat) : Int)) (by omega) (by omega), w64_id (by omega) (by omega)]
            omega
          have hg8 : decide (((li l).length + ([(y : Int)] : List Int).length) * 8 ≤ 140737488355328) = true := decide_eq_true (by simp only [List.length_cons, List.length_nil]; omega)
          simp only [zj113, zj112, impl_Table_size_eq N n _ (by omega : n ≤ 5), impl_Table_at_eq N W _ _ hW', hcon, hcl _ hli, List.nil_append, ev, ew, hg8, Bool.not_not, w64_succ y (by omega)]
          rw [decide_eq_true (by omega : (y : Int) < ((2 ^ n : Nat) : Int)), cond_true]
          rfl
        have hmb := ml_bound W k v e (y + 1) (l ++ [y])
        have hmb2 := ml_bound W k v e (y + 1) l
        simp only [List.length_append, List.length_cons, List.length_nil] at hmb
        simp only [step, ml]
        by_cases hgt : best.length < l.length + 2 ^ n - y
        · simp only [decide_eq_true (by omega : ((l.length + 2 ^ n - y : Nat) : Int) > (best.length : Int)), cond_true]
          cases h1 : bw W y == v with
          | false =>
            have he : ext W k v l y = false := by unfold ext; rw [h1]; rfl
            obtain ⟨r, h3, h4⟩ := ihe H (y + 1) best (by omega) (by omega) (by omega) (by omega) hb hb2
            refine ⟨r, by rw [h3, he, if_neg (by decide)], fun K => ?_⟩
            rw [cond_false, h4]
          | true =>
            cases h2 : l.all fun z => apt W k v z y with
            | false =>
              have he : ext W k v l y = false := by unfold ext; rw [h1, h2]; rfl
              obtain ⟨r, h3, h4⟩ := ihe H (y + 1) best (by omega) (by omega) (by omega) (by omega) hb hb2
              refine ⟨r, by rw [h3, he, if_neg (by decide)], fun K => ?_⟩
              rw [cond_true, cond_false, h4]
            | true =>
              have he : ext W k v l y = true := by unfold ext; rw [h1, h2]; rfl
              obtain ⟨hv1, hv2⟩ := val_next hl hyn hlty he
              obtain ⟨r8, a1, a2⟩ := ihd e (by omega) G (y + 1) (l ++ [y]) best (by omega) (by omega) hv1 hv2 hb2
              rw [li_snoc] at a2
              obtain ⟨r, h3, h4⟩ := ihe H (y + 1) r8 (by omega) (by omega) (by omega) (by omega) (by omega) (by omega)
              refine ⟨r, by rw [h3, he, if_pos rfl]; omega, fun K => ?_⟩
              rw [cond_true, cond_true, a2, a2]
              unfold zj111
              simp only [beq_self_eq_true, gd, cond_true]
              exact h4 K
        · simp only [decide_eq_false (by omega : ¬ ((l.length + 2 ^ n - y : Nat) : Int) > (best.length : Int)), cond_false]
          refine ⟨best, ?_, fun K => rfl⟩
          split <;> omega
    have hmb := ml_bound W k v d x l
    by_cases hgt : best0.length < l.length
    · obtain ⟨r, h1, h2⟩ := loop d N x (li l) hx (by omega) (Nat.le_refl _) (Nat.le_refl _) (by rw [li_len]; exact Nat.le_refl _) hli
      refine ⟨r, by rw [h1, li_len]; omega, fun K => ?_⟩
      simp only [zj115, zj114, hcl _ hli]
      rw [decide_eq_true (by rw [li_len]; omega), cond_true]
      exact h2 K
    · obtain ⟨r, h1, h2⟩ := loop d N x best0 hx (by omega) (Nat.le_refl _) (Nat.le_refl _) (by omega) hb0
      refine ⟨r, by rw [h1], fun K => ?_⟩
      simp only [zj115, zj114]
      rw [decide_eq_false (by rw [li_len]; omega), cond_false]
      exact h2 K

theorem impl_LargestFooling_n : ∃ r : List Int, r.length = ml W k v (2 ^ n) 0 [] ∧ ∀ K : List Int → Bool → Option β, zj117 N (n : Int) (W : Int) (k : Int) (v : Int) K = K r true := by
  have hs := sz4 hn
  have hW' := two32 (by omega) hW
  have hz2 : (0 : Int) ≤ ((2 ^ n : Nat) : Int) := Int.natCast_nonneg _
  obtain ⟨r, h1, h2⟩ := grow_f (β := β) N W n k v hN hn hk hW hv (2 ^ n) N 0 [] [] (by omega) (by omega) rfl (fun y hy => by cases hy) (Nat.zero_le _)
  have hmb := ml_bound W k v (2 ^ n) 0 []
  refine ⟨r, by rw [h1]; simp, fun K => ?_⟩
  unfold zj117 zj31 zj103
  rw [impl_IsTable_eq N _ _ (by omega), isTn (by omega) hW, cond_true, decide_eq_true (by omega : (k : Int) ≥ 0), cond_true, decide_eq_true (by omega : (k : Int) ≤ (n : Int)), decide_eq_false (by omega : ¬ (n : Int) > 4)]
  simp only [Bool.not_true, cond_false]
  unfold zj116
  rcases (show v = 0 ∨ v = 1 by omega) with rfl | rfl
  · exact h2 _
  · exact h2 _
end
end Go.Proofs.YtddflpokemgnmaaDoor
namespace Go.Proofs.YtddflpokemgnmaaDoor
open Go.Rv
set_option linter.unusedVariables false
variable {β : Type}
set_option synthInstance.maxHeartbeats 1000000 in
set_option synthInstance.maxSize 2000 in
theorem parts4 : ∀ k, k ≤ 4 → ∀ j, j ≤ 4 - k → ∀ r, r < 2 ^ k → ∀ c, c < 2 ^ j → (r ||| c * 2 ^ k) < 2 ^ (k + j) ∧ (r ||| c * 2 ^ k) % 2 ^ k = r ∧ (r ||| c * 2 ^ k) / 2 ^ k = c := by decide +kernel
theorem whole4 : ∀ k, k ≤ 4 → ∀ x, x < 16 → (x % 2 ^ k ||| x / 2 ^ k * 2 ^ k) = x := by decide +kernel
def rowsN (W k q a : Nat) : List Nat := (List.range a).map fun r => mrow W k q r
theorem rows_li (W k q a : Nat) : rows W k q a = li (rowsN W k q a) := by simp [rows, rowsN, li]
theorem rowsN_len (W k q a : Nat) : (rowsN W k q a).length = a := by simp [rowsN]
theorem rowsN_lt (W k q a : Nat) (hq : q ≤ 16) : ∀ r ∈ rowsN W k q a, r < 65536 := fun r hr => by
  obtain ⟨i, _, rfl⟩ := List.mem_map.1 hr
  exact Nat.lt_of_lt_of_le (tabw_lt _ _) (Nat.pow_le_pow_right (by decide) hq : 2 ^ q ≤ 2 ^ 16)

set_option synthInstance.maxHeartbeats 1000000 in
set_option synthInstance.maxSize 2000 in
def rowX (W k q x r : Nat) : Nat := tabw (fun c => decide ((r ||| c * 2 ^ k) < x) && W.testBit (r ||| c * 2 ^ k)) q
def rowsX (W k q a x : Nat) : List Int := (List.range a).map fun r => ((rowX W k q x r : Nat) : Int)
theorem rowX_step (W n k x r : Nat) (hn : n ≤ 4) (hkn : k ≤ n) (hx : x < 2 ^ n) (hr : r < 2 ^ k) :
    rowX W k (2 ^ (n - k)) (x + 1) r = if r = x % 2 ^ k then rowX W k (2 ^ (n - k)) x r ||| (bw W x * 2 ^ (x / 2 ^ k)) else rowX W k (2 ^ (n - k)) x r := by
  have hp := Nat.two_pow_pos k
  have hx16 : x < 16 := Nat.lt_of_lt_of_le hx (sz4 hn)
  have hwh := whole4 k (by omega) x hx16
  have hc : x / 2 ^ k < 2 ^ (n - k) := by
    rw [Nat.div_lt_iff_lt_mul hp, ← Nat.pow_add, Nat.sub_add_cancel hkn]; exact hx
  have key : ∀ j, j < 2 ^ (n - k) → (r ||| j * 2 ^ k = x ↔ r = x % 2 ^ k ∧ j = x / 2 ^ k) := fun j hj => by
    obtain ⟨_, h2, h3⟩ := parts4 k (by omega) (n - k) (by omega) r hr j hj
    constructor
    · intro h; rw [h] at h2 h3; exact ⟨h2.symm, h3.symm⟩
    · rintro ⟨h4, h5⟩; rw [h4, h5]; exact hwh
  by_cases hrx : r = x % 2 ^ k
  · rw [if_pos hrx]
    refine Nat.eq_of_testBit_eq fun j => ?_
    rw [Nat.testBit_or]
    unfold rowX
    rw [tabw_bit, tabw_bit]
    by_cases hj : j < 2 ^ (n - k)
    · have hk := key j hj
      simp only [decide_eq_true hj, Bool.true_and]
      by_cases he : r ||| j * 2 ^ k = x
      · have hj2 := (hk.1 he).2
        rw [he, decide_eq_true (by omega : x < x + 1), decide_eq_false (by omega : ¬ x < x), hj2]
        unfold bw
        cases W.testBit x <;> simp
      · have : j ≠ x / 2 ^ k := fun e => he (hk.2 ⟨hrx, e⟩)
        rw [show decide ((r ||| j * 2 ^ k) < x + 1) = decide ((r ||| j * 2 ^ k) < x) from decide_eq_decide.2 (by omega)]
        have e2 : (bw W x * 2 ^ (x / 2 ^ k)).testBit j = false := by
          unfold bw
          cases W.testBit x with
          | true => rw [if_pos rfl, Nat.one_mul, Nat.testBit_two_pow]; exact decide_eq_false (fun e => this e.symm)
          | false => rw [if_neg (by decide), Nat.zero_mul, Nat.zero_testBit]
        rw [e2, Bool.or_false]
    · have e2 : (bw W x * 2 ^ (x / 2 ^ k)).testBit j = false := by
        unfold bw
        cases W.testBit x with
        | true => rw [if_pos rfl, Nat.one_mul, Nat.testBit_two_pow]; exact decide_eq_false (by omega)
        | false => rw [if_neg (by decide), Nat.zero_mul, Nat.zero_testBit]
      rw [decide_eq_false hj, Bool.false_and, Bool.false_and, e2]
      rfl
  · rw [if_neg hrx]
    refine tabw_congr fun j hj => ?_
    have hk := key j hj
    have he : (r ||| j * 2 ^ k) ≠ x := fun e => hrx (hk.1 e).1
    rw [show decide ((r ||| j * 2 ^ k) < x + 1) = decide ((r ||| j * 2 ^ k) < x) from decide_eq_decide.2 (by omega)]
theorem rowX_lt (W n k x r : Nat) (hn : n ≤ 4) : rowX W k (2 ^ (n - k)) x r < 65536 :=
  Nat.lt_of_lt_of_le (tabw_lt _ _) (Nat.pow_le_pow_right (by decide) (sz4 (by omega : n - k ≤ 4)) : 2 ^ 2 ^ (n - k) ≤ 2 ^ 16)
theorem rowsX_rd (W k q a x i : Nat) (h : i < a) : rd 0 (rowsX W k q a x) (i : Int) = ((rowX W k q x i : Nat) : Int) := by
  rw [rd_nat 0 _ i (by simp [rowsX]; exact h)]
  simp [rowsX]
theorem impl_rows_n (N : Nat) (hN : 64 < N) (n W k : Nat) (hn : n ≤ 4) (hkn : k ≤ n) (hW : W < 2 ^ 2 ^ n) (K : List Int → Option β) :
    zj101 N (n : Int) (W : Int) (k : Int) K = K (rows W k (2 ^ (n - k)) (2 ^ k)) := by
  have hw := two32 (by omega) hW
  have hs := sz4 hn
  have h4 : 2 ^ k ≤ 16 := sz4 (by omega)
  have hp := Nat.two_pow_pos k
  have hz : (0 : Int) ≤ ((2 ^ k : Nat) : Int) := Int.natCast_nonneg _
  have hz2 : (0 : Int) ≤ ((2 ^ n : Nat) : Int) := Int.natCast_nonneg _
  unfold zj101
  rw [gd_true (decide_eq_true (by omega)), shl_one k (by omega), gd_true (decide_eq_true (by omega)), gd_true (decide_eq_true (by omega)), gd_true (decide_eq_true (by omega)), impl_Table_size_eq N n _ (by omega), Int.toNat_natCast]
  have e0 : List.replicate (2 ^ k) (0 : Int) = rowsX W k (2 ^ (n - k)) (2 ^ k) 0 := by
    refine (List.eq_replicate_iff.2 ⟨by simp [rowsX], fun b hb => ?_⟩).symm
    obtain ⟨r, _, rfl⟩ := List.mem_map.1 hb
    have : rowX W k (2 ^ (n - k)) 0 r = 0 := Nat.eq_of_testBit_eq fun j => by unfold rowX; rw [tabw_bit]; simp
    rw [this]; rfl
  have e1 : rowsX W k (2 ^ (n - k)) (2 ^ k) (2 ^ n) = rows W k (2 ^ (n - k)) (2 ^ k) := by
    refine List.map_congr_left fun r hr => ?_
    have hr := List.mem_range.1 hr
    congr 1
    refine tabw_congr fun j hj => ?_
    have h1 := (parts4 k (by omega) (n - k) (by omega) r hr j hj).1
    rw [show k + (n - k) = n by omega] at h1
    rw [decide_eq_true h1, Bool.true_and]
  rw [e0, ← e1]
  refine loop_st (fun F x => zj100 N F (k : Int) ((2 ^ n : Nat) : Int) (x : Int) (n : Int) (W : Int) (rowsX W k (2 ^ (n - k)) (2 ^ k) x) fun e => K e) (2 ^ n) _ (fun F x hx => ?_) (fun F => ?_) N 0 (by omega) (by omega)
  · have hr : x % 2 ^ k < 2 ^ k := Nat.mod_lt _ hp
    have hd : x / 2 ^ k < 16 := Nat.lt_of_le_of_lt (Nat.div_le_self _ _) (by omega)
    have hl : (rowsX W k (2 ^ (n - k)) (2 ^ k) x).length = 2 ^ k := by simp [rowsX]
    have hlt := rowX_lt W n k x (x % 2 ^ k) hn
    simp only [zj100, zj99]
    rw [mask_eq x k (by omega) (by omega), hl, decide_eq_true (by omega : (x : Int) < ((2 ^ n : Nat) : Int)), decide_eq_true (by omega : (0 : Int) ≤ (k : Int)), decide_eq_true (by omega : (0 : Int) ≤ ((x % 2 ^ k : Nat) : Int)), decide_eq_true (by omega : ((x % 2 ^ k : Nat) : Int) < ((2 ^ k : Nat) : Int))]
    simp only [gd, cond_true]
    rw [impl_Table_at_eq N W x _ hw, shr_nat x k (by omega), decide_eq_true (Int.natCast_nonneg _), cond_true, rowsX_rd _ _ _ _ _ _ hr, w64_succ x (by omega)]
    have hb := bw_le W x
    have hpow : 2 ^ (x / 2 ^ k) < 65536 := Nat.lt_of_lt_of_le (Nat.pow_lt_pow_right (by decide) hd) (by decide)
    have hmul : bw W x * 2 ^ (x / 2 ^ k) < 65536 := by
      unfold bw; split
      · rw [Nat.one_mul]; exact hpow
      · rw [Nat.zero_mul]; decide
    rw [shl_nat (bw W x) (x / 2 ^ k) (by omega) (by omega), bOr _ _ (by omega) (by omega)]
    congr 1
    refine List.ext_getElem (by simp [wr, rowsX]) fun i h1 h2 => ?_
    have hi : i < 2 ^ k := by simpa [rowsX] using h2
    simp only [wr, rowsX, Int.toNat_natCast, List.getElem_set, List.getElem_map, List.getElem_range]
    rw [rowX_step W n k x i hn hkn hx hi]
    by_cases he : x % 2 ^ k = i
    · rw [if_pos he, if_pos he.symm, he]
    · rw [if_neg he, if_neg (fun e => he e.symm)]
  · simp only [zj100, zj99]
    rw [decide_eq_false (by omega), cond_false]

end Go.Proofs.YtddflpokemgnmaaDoor
namespace Go.Proofs.YtddflpokemgnmaaDoor
open Go.Rv
set_option linter.unusedVariables false
variable {β : Type}
def bl (x : Nat) : Nat := if x = 0 then 0 else x.log2 + 1
theorem bl_pos {x : Nat} (h : x ≠ 0) : bl x = x.log2 + 1 := if_neg h
theorem bl_top {x : Nat} (h : x ≠ 0) : x.testBit (bl x - 1) = true := by rw [bl_pos h, Nat.add_sub_cancel]; exact Nat.testBit_log2 h
theorem bl_over {x i : Nat} (h : bl x ≤ i) : x.testBit i = false := by
  by_cases h0 : x = 0
  · rw [h0, Nat.zero_testBit]
  · rw [bl_pos h0] at h
    exact Nat.testBit_lt_two_pow (Nat.lt_of_lt_of_le Nat.lt_log2_self (Nat.pow_le_pow_right (by decide) h))
theorem bl_eq {x t : Nat} (h1 : x.testBit t = true) (h2 : ∀ i, t < i → x.testBit i = false) : bl x = t + 1 ∧ x ≠ 0 := by
  have h0 : x ≠ 0 := fun e => by rw [e, Nat.zero_testBit] at h1; cases h1
  have ha : t < bl x := by
    rcases Nat.lt_or_ge t (bl x) with h | h
    · exact h
    · rw [bl_over h] at h1; cases h1
  have hb : bl x - 1 ≤ t := by
    rcases Nat.lt_or_ge t (bl x - 1) with h | h
    · have := h2 _ h
      rw [bl_top h0] at this; cases this
    · exact h
  exact ⟨by omega, h0⟩
theorem bl_le {x t : Nat} (h : ∀ i, t ≤ i → x.testBit i = false) : bl x ≤ t := by
  by_cases h0 : x = 0
  · rw [h0]; exact Nat.zero_le _
  · rcases Nat.lt_or_ge t (bl x) with h1 | h1
    · have := h (bl x - 1) (by omega)
      rw [bl_top h0] at this; cases this
    · exact h1
theorem bl_xor_lt {x y : Nat} (hx : x ≠ 0) (hy : y ≠ 0) (h : bl x = bl y) : bl (x ^^^ y) < bl x := by
  have hp : 0 < bl x := by rw [bl_pos hx]; omega
  have := bl_le (x := x ^^^ y) (t := bl x - 1) fun i hi => by
    rw [Nat.testBit_xor]
    rcases Nat.eq_or_lt_of_le hi with rfl | hi
    · rw [bl_top hx, h, bl_top hy]; rfl
    · rw [bl_over (by omega), bl_over (by omega)]; rfl
  omega
theorem bl_xor_max {x y : Nat} (hy : y ≠ 0) (h : bl x < bl y) : bl (x ^^^ y) = bl y := by
  have hp : 0 < bl y := by omega
  have := (bl_eq (x := x ^^^ y) (t := bl y - 1) (by rw [Nat.testBit_xor, bl_top hy, bl_over (by omega)]; rfl) fun i hi => by
    rw [Nat.testBit_xor, bl_over (by omega), bl_over (by omega)]; rfl).1
  omega
theorem bl_lt_pow {x t : Nat} (h : x < 2 ^ t) : bl x ≤ t := bl_le fun i hi => Nat.testBit_lt_two_pow (Nat.lt_of_lt_of_le h (Nat.pow_le_pow_right (by decide) hi))
def spB : List Nat → Nat → Bool
  | [], x => x == 0
  | b :: l, x => spB l x || spB l (x ^^^ b)
theorem sp_zero : ∀ l, spB l 0 = true
  | [] => rfl
  | b :: l => by simp only [spB, sp_zero l, Bool.true_or]
theorem xor4 (x y b : Nat) : (x ^^^ b) ^^^ (y ^^^ b) = x ^^^ y := by
  rw [Nat.xor_assoc, Nat.xor_comm y b, ← Nat.xor_assoc b b y, Nat.xor_self, Nat.zero_xor]
theorem sp_xor : ∀ l {x y : Nat}, spB l x = true → spB l y = true → spB l (x ^^^ y) = true
  | [], x, y, hx, hy => by simp only [spB, beq_iff_eq] at hx hy ⊢; rw [hx, hy]; rfl
  | b :: l, x, y, hx, hy => by
    simp only [spB, Bool.or_eq_true] at hx hy ⊢
    rcases hx with hx | hx <;> rcases hy with hy | hy
    · exact .inl (sp_xor l hx hy)
    · right; rw [Nat.xor_assoc]; exact sp_xor l hx hy
    · right
      have := sp_xor l hx hy
      rwa [Nat.xor_assoc, Nat.xor_comm b y, ← Nat.xor_assoc] at this
    · left
      have := sp_xor l hx hy
      rwa [xor4] at this
theorem xor_back (x y : Nat) : (x ^^^ y) ^^^ y = x := by rw [Nat.xor_assoc, Nat.xor_self, Nat.xor_zero]
theorem sp_same {l : List Nat} {x y : Nat} (h : spB l (x ^^^ y) = true) : spB l x = spB l y := by
  rw [Bool.eq_iff_iff]
  constructor
  · intro hx
    have := sp_xor l h hx
    rwa [Nat.xor_comm x y, xor_back] at this
  · intro hy
    have := sp_xor l h hy
    rwa [xor_back] at this
theorem sp_mem : ∀ {l : List Nat} {b : Nat}, b ∈ l → spB l b = true
  | c :: l, b, h => by
    simp only [spB, Bool.or_eq_true]
    rcases List.mem_cons.1 h with rfl | h
    · right; rw [Nat.xor_self]; exact sp_zero l
    · exact .inl (sp_mem h)
theorem sp_snoc : ∀ (l : List Nat) (b x : Nat), spB (l ++ [b]) x = spB (b :: l) x
  | [], b, x => rfl
  | c :: l, b, x => by
    rw [List.cons_append, spB, sp_snoc l b x, sp_snoc l b (x ^^^ c)]
    simp only [spB]
    rw [Nat.xor_assoc x c b, Nat.xor_comm c b, ← Nat.xor_assoc]
    cases spB l x <;> cases spB l (x ^^^ b) <;> cases spB l (x ^^^ c) <;> rfl
def rkn : List Nat → List Nat → Nat
  | _, [] => 0
  | done, r :: rest => (if spB done r then 0 else 1) + rkn (r :: done) rest
theorem sp_put {l done : List Nat} (h : ∀ x, spB l x = spB done x) {r y : Nat} (hy : spB l (r ^^^ y) = true) : ∀ x, spB (l ++ [y]) x = spB (r :: done) x := fun x => by
  rw [sp_snoc]
  simp only [spB]
  rw [h x, ← h (x ^^^ r)]
  congr 1
  exact sp_same (by rw [Nat.xor_comm x y, Nat.xor_comm x r, xor4, Nat.xor_comm]; exact hy)
theorem sp_in {l done : List Nat} (h : ∀ x, spB l x = spB done x) {r : Nat} (hr : spB l r = true) : ∀ x, spB l x = spB (r :: done) x := fun x => by
  simp only [spB]
  rw [← h x, ← h (x ^^^ r), sp_same (x := x ^^^ r) (y := x) (by rw [Nat.xor_comm x r, xor_back]; exact hr), Bool.or_self]

def lead (vs : List Nat) : Mp := vs.map fun v : Nat => ((((bl v : Nat) : Int), (0 : Int)), (v : Int))
def Dst : List Nat → Prop
  | [] => True
  | b :: l => b ≠ 0 ∧ (∀ c ∈ l, bl c ≠ bl b) ∧ Dst l
theorem dst_top : ∀ {l : List Nat} {y : Nat}, Dst l → spB l y = true → y ≠ 0 → ∃ b ∈ l, bl b = bl y
  | [], y, _, h, h0 => by simp only [spB, beq_iff_eq] at h; exact absurd h h0
  | b :: l, y, ⟨h1, h2, h3⟩, h, h0 => by
    simp only [spB, Bool.or_eq_true] at h
    rcases h with h | h
    · obtain ⟨c, hc, e⟩ := dst_top h3 h h0
      exact ⟨c, List.mem_cons_of_mem _ hc, e⟩
    · by_cases hz : y ^^^ b = 0
      · have : y = b := by
          have := xor_back y b
          rw [hz, Nat.zero_xor] at this
          exact this.symm
        exact ⟨b, List.mem_cons_self, by rw [this]⟩
      · obtain ⟨c, hc, e⟩ := dst_top h3 h hz
        have hne : bl (y ^^^ b) ≠ bl b := by rw [← e]; exact h2 c hc
        have hy : (y ^^^ b) ^^^ b = y := xor_back y b
        rcases Nat.lt_or_ge (bl (y ^^^ b)) (bl b) with hlt | hge
        · have := bl_xor_max h1 hlt
          rw [hy] at this
          exact ⟨b, List.mem_cons_self, this.symm⟩
        · have := bl_xor_max (x := b) hz (by omega)
          rw [Nat.xor_comm, hy] at this
          exact ⟨c, List.mem_cons_of_mem _ hc, by rw [e, this]⟩
theorem dst_snoc : ∀ {l : List Nat} {y : Nat}, Dst l → y ≠ 0 → (∀ b ∈ l, bl b ≠ bl y) → Dst (l ++ [y])
  | [], y, _, hy, _ => ⟨hy, fun c hc => (by cases hc), trivial⟩
  | b :: l, y, ⟨h1, h2, h3⟩, hy, hb => by
    refine ⟨h1, fun c hc => ?_, dst_snoc h3 hy fun c hc => hb c (List.mem_cons_of_mem _ hc)⟩
    rcases List.mem_append.1 hc with hc | hc
    · exact h2 c hc
    · simp only [List.mem_singleton] at hc
      subst hc
      exact fun e => hb b List.mem_cons_self e.symm
theorem lead_has : ∀ (vs : List Nat) (t : Nat), (hasM ⟨false, false⟩ (lead vs) (t : Int) 0 = true ↔ ∃ v ∈ vs, bl v = t) ∧
    (∀ v ∈ vs, bl v = t → ∃ u ∈ vs, bl u = t ∧ getM ⟨false, false⟩ (lead vs) (t : Int) 0 = (u : Int)) ∧
    ((∀ v ∈ vs, bl v ≠ t) → ∀ y : Nat, bl y = t → putM ⟨false, false⟩ (lead vs) (t : Int) 0 (y : Int) = lead (vs ++ [y]))
  | [], t => ⟨⟨(fun h => by cases h), (fun ⟨v, h, _⟩ => by cases h)⟩, (fun v h => by cases h), (fun _ y hy => by simp [lead, putM, hy])⟩
  | v :: vs, t => by
    obtain ⟨h1, h2, h3⟩ := lead_has vs t
    have ev : (((bl v : Nat) : Int) == (t : Int)) = decide (bl v = t) := by
      rw [Bool.eq_iff_iff, beq_iff_eq, decide_eq_true_eq]; exact Int.ofNat_inj
    unfold lead at h1 h2 h3 ⊢
    simp only [List.map_cons, hasM, getM, putM, eqK, Bool.not_false, Bool.true_or, Bool.and_true, ev, Bool.or_eq_true, decide_eq_true_eq, h1]
    by_cases hv : bl v = t
    · rw [decide_eq_true hv]
      exact ⟨⟨fun _ => ⟨v, List.mem_cons_self, hv⟩, fun _ => .inl hv⟩, fun u _ _ => ⟨v, List.mem_cons_self, hv, rfl⟩, fun h => absurd hv (h v List.mem_cons_self)⟩
    · rw [decide_eq_false hv]
      refine ⟨⟨fun h => ?_, fun ⟨u, hu, e⟩ => ?_⟩, fun u hu e => ?_, fun h y hy => ?_⟩
      · rcases h with h | ⟨u, hu, e⟩
        · exact absurd h hv
        · exact ⟨u, List.mem_cons_of_mem _ hu, e⟩
      · rcases List.mem_cons.1 hu with rfl | hu
        · exact absurd e hv
        · exact .inr ⟨u, hu, e⟩
      · rcases List.mem_cons.1 hu with rfl | hu
        · exact absurd e hv
        · obtain ⟨u', a1, a2, a3⟩ := h2 u hu e
          exact ⟨u', List.mem_cons_of_mem _ a1, a2, a3⟩
      · have := h3 (fun u hu => h u (List.mem_cons_of_mem _ hu)) y hy
        rw [cond_false, this]
        rfl

theorem len8_size : len8.size = 256 := by decide +kernel
theorem len8_bt : ∀ i : Nat, i < 256 → bt len8 (i : Int) = (bl i : Int) := by decide +kernel
theorem bl_256 (x : Nat) (h : 256 ≤ x) : bl x = 8 + bl (x / 256) := by
  have h1 : x ≠ 0 := by omega
  have h2 : x / 256 ≠ 0 := by omega
  rw [bl_pos h1, bl_pos h2]
  have h3 := (Nat.log2_eq_iff h2).1 rfl
  have e8 : (2 : Nat) ^ 8 = 256 := rfl
  have e : x.log2 = (x / 256).log2 + 8 := by
    generalize (x / 256).log2 = t at h3 ⊢
    refine (Nat.log2_eq_iff h1).2 ⟨?_, ?_⟩
    · rw [Nat.pow_add, e8]
      have := Nat.mul_le_mul_right 256 h3.1
      omega
    · rw [show t + 8 + 1 = (t + 1) + 8 by omega, Nat.pow_add, e8]
      have h6 : (x / 256 + 1) * 256 ≤ 2 ^ (t + 1) * 256 := Nat.mul_le_mul_right _ h3.2
      omega
  omega
theorem Len64_eq (N x : Nat) (h : x < 65536) (K : Int → Option β) : zj127 N (x : Int) K = K (bl x : Int) := by
  unfold zj127
  rw [decide_eq_false (by omega : ¬ (x : Int) ≥ 4294967296), cond_false, decide_eq_false (by omega : ¬ (x : Int) ≥ 65536), cond_false]
  rw [len8_size]
  by_cases h2 : 256 ≤ x
  · have hd : x / 256 < 256 := by omega
    have e : shrI .u64 (x : Int) 8 = ((x / 256 : Nat) : Int) := shrU x 8 (by decide)
    have hbl := bl_lt_pow (x := x / 256) (t := 8) hd
    rw [decide_eq_true (by omega), cond_true, e, w8_small _ hd, gd_true (decide_eq_true (by omega)), gd_true (decide_eq_true (by omega)), len8_bt _ hd, w64_nat _ (by omega), show (8 : Int) + ((bl (x / 256) : Nat) : Int) = ((8 + bl (x / 256) : Nat) : Int) by omega, w64_nat _ (by omega), ← bl_256 x h2]
  · have hd : x < 256 := by omega
    have hbl := bl_lt_pow (x := x) (t := 8) hd
    rw [decide_eq_false (by omega), cond_false, w8_small _ hd, gd_true (decide_eq_true (by omega)), gd_true (decide_eq_true (by omega)), len8_bt _ hd, w64_nat _ (by omega), show (0 : Int) + ((bl x : Nat) : Int) = (bl x : Int) by omega, w64_nat _ (by omega)]

theorem impl_reduce (N : Nat) (vs : List Nat) (hd : Dst vs) (hb : ∀ v ∈ vs, v < 65536) (v1 : List Int) (v2 v3 : Int) (K0 : List Int → Int → Int → Mp → Option β) : ∀ (F r : Nat), r < 65536 → bl r < F →
    ∃ y, y < 65536 ∧ spB vs (r ^^^ y) = true ∧ ((y = 0 ∧ zj129 N F (r : Int) v1 v2 v3 (lead vs) K0 = K0 v1 v2 v3 (lead vs)) ∨
      (y ≠ 0 ∧ (∀ v ∈ vs, bl v ≠ bl y) ∧ zj129 N F (r : Int) v1 v2 v3 (lead vs) K0 = K0 v1 v2 v3 (lead (vs ++ [y]))))
  | 0, r, _, h => by omega
  | F + 1, r, hr, hF => by
    by_cases h0 : r = 0
    · subst h0
      exact ⟨0, by decide, sp_zero vs, .inl ⟨rfl, rfl⟩⟩
    · obtain ⟨h1, h2, h3⟩ := lead_has vs (bl r)
      have e0 : (((r : Nat) : Int) != 0) = true := by
        unfold bne
        rw [beq_eq_false_iff_ne.2 (by omega)]
        rfl
      have estep : zj129 N (F + 1) (r : Int) v1 v2 v3 (lead vs) K0 = cond (!hasM ⟨false, false⟩ (lead vs) (bl r : Int) 0) (K0 v1 v2 v3 (putM ⟨false, false⟩ (lead vs) (bl r : Int) 0 (r : Int)))
          (zj129 N F (bits .xor .i64 (r : Int) (getM ⟨false, false⟩ (lead vs) (bl r : Int) 0)) v1 v2 v3 (lead vs) K0) := by
        simp only [zj129, zj128]
        rw [e0, cond_true, wu64_nat r (by omega), Len64_eq N r hr]
      cases hh : hasM ⟨false, false⟩ (lead vs) (bl r : Int) 0 with
      | false =>
        have hno : ∀ v ∈ vs, bl v ≠ bl r := fun v hv e => by
          rw [h1.2 ⟨v, hv, e⟩] at hh; cases hh
        refine ⟨r, hr, by rw [Nat.xor_self]; exact sp_zero vs, .inr ⟨h0, hno, ?_⟩⟩
        rw [estep, hh, Bool.not_false, cond_true, h3 hno r rfl]
      | true =>
        obtain ⟨v, hv, e⟩ := h1.1 hh
        obtain ⟨u, hu, e2, e3⟩ := h2 v hv e
        have hu0 : u ≠ 0 := fun e => by
          rw [e] at e2
          rw [bl_pos h0] at e2
          cases e2
        have hub := hb u hu
        have hx : r ^^^ u < 2 ^ 16 := Nat.xor_lt_two_pow hr hub
        have hlt := bl_xor_lt h0 hu0 e2.symm
        obtain ⟨y, hy, hs, hc⟩ := impl_reduce N vs hd hb v1 v2 v3 K0 F (r ^^^ u) hx (by omega)
        have hs2 : spB vs (r ^^^ y) = true := by
          have := sp_xor vs hs (sp_mem hu)
          rwa [Nat.xor_assoc r u y, Nat.xor_comm u y, ← Nat.xor_assoc, xor_back] at this
        rw [estep, hh, Bool.not_true, cond_false, e3, bXor r u (by omega) (by omega)]
        exact ⟨y, hy, hs2, hc⟩

theorem impl_RankMod2_n (N : Nat) (hN : 1048576 < N) (L : List Nat) (hL : L.length ≤ 16) (hb : ∀ r ∈ L, r < 65536) (K : Int → Option β) : zj132 N (li L) K = K (rkn [] L : Int) := by
  have hg : ∀ i, L.getD i 0 < 65536 := fun i => by
    rw [List.getD_eq_getElem?_getD]
    cases hi : L[i]? with
    | none => show 0 < 65536; decide
    | some r => exact hb r (List.mem_of_getElem? hi)
  unfold zj132
  rw [li_len, decide_eq_false (by omega), cond_false, ContainsFunc_mem N (li L) (by rw [li_len]; omega) hN _ (fun _ => false)]
  · rw [List.any_eq_false.2 (fun _ _ => by decide), cond_false]
    have main : ∀ (d F i : Nat) (vs done : List Nat), i + d = L.length → d < F → Dst vs → (∀ v ∈ vs, v < 65536) → (∀ x, spB vs x = spB done x) →
        zj131 N F (li L) (L.length : Int) (i : Int) (lead vs) (fun e => K (e.length : Int)) = K ((vs.length + rkn done (L.drop i) : Nat) : Int) := by
      intro d
      induction d with
      | zero =>
        intro F i vs done hi hF _ _ _
        obtain ⟨G, rfl⟩ : ∃ G, F = G + 1 := ⟨F - 1, by omega⟩
        simp only [zj131, zj130]
        rw [decide_eq_false (by omega), cond_false, List.drop_eq_nil_of_le (by omega)]
        simp [lead, rkn]
      | succ d ih =>
        intro F i vs done hi hF hd hvb hsp
        obtain ⟨G, rfl⟩ : ∃ G, F = G + 1 := ⟨F - 1, by omega⟩
        have hil : i < L.length := by omega
        have hbl := bl_lt_pow (x := L.getD i 0) (t := 16) (hg i)
        obtain ⟨y, hy, hs, hc⟩ := impl_reduce N vs hd hvb (li L) (L.length : Int) (i : Int) (fun e4_0 e4_1 e4_2 e4_3 => zj131 N G e4_0 e4_1 (w64 (e4_2 + 1)) e4_3 (fun e => K (e.length : Int))) N (L.getD i 0) (hg i) (by omega)
        simp only [zj131, zj130, li_len, li_rd]
        rw [decide_eq_true (by omega : (i : Int) < (L.length : Int)), decide_eq_true (by omega : (0 : Int) ≤ (i : Int))]
        simp only [cond_true, gd]
        rw [drop_cons' L i hil, rkn, ← hsp, sp_same hs]
        rcases hc with ⟨h0, e⟩ | ⟨h0, hno, e⟩
        · have hin : spB vs (L.getD i 0) = true := by rw [sp_same hs, h0]; exact sp_zero vs
          rw [e, w64_succ i (by omega), ih G (i + 1) vs (L.getD i 0 :: done) (by omega) (by omega) hd hvb (sp_in hsp hin), h0, sp_zero vs, if_pos rfl, Nat.zero_add]
        · have hout : spB vs y = false := by
            cases hq : spB vs y with
            | false => rfl
            | true =>
              obtain ⟨b, hbm, e⟩ := dst_top hd hq h0
              exact absurd e (hno b hbm)
          rw [e, w64_succ i (by omega), ih G (i + 1) (vs ++ [y]) (L.getD i 0 :: done) (by omega) (by omega) (dst_snoc hd h0 hno) (fun v hv => ?_) (sp_put hsp hs), hout, if_neg (by decide)]
          · simp only [List.length_append, List.length_cons, List.length_nil]
            congr 2
            omega
          · rcases List.mem_append.1 hv with hv | hv
            · exact hvb v hv
            · simp only [List.mem_singleton] at hv; omega
    have := main L.length N 0 [] [] (by omega) (by omega) trivial (fun v hv => by cases hv) (fun x => rfl)
    simpa [lead] using this
  · intro x hx K
    unfold li at hx
    obtain ⟨z, hz, rfl⟩ := List.mem_map.1 hx
    have := hb z hz
    show zj106 N ((z : Nat) : Int) K = K false
    unfold zj106
    have e : shrI .i64 (z : Int) 32 = ((z / 2 ^ 32 : Nat) : Int) := shr_nat z 32 (by omega)
    rw [decide_eq_false (by omega), cond_false, e, Nat.div_eq_of_lt (by omega)]
    rfl
end Go.Proofs.YtddflpokemgnmaaDoor
namespace Go.Proofs.YtddflpokemgnmaaDoor
open Go.Rv
set_option linter.unusedVariables false
variable {β : Type}
theorem nat_in (n : Nat) (h : n ≤ 1000000) : in64 (n : Int) := ⟨by omega, by omega⟩
section
variable (N n W k : Nat) (hN : 1048576 < N) (hn : n ≤ 4) (hkn : k ≤ n) (hW : W < 2 ^ 2 ^ n)
include hN hn hkn hW
theorem split_facts : (rowsN W k (2 ^ (n - k)) (2 ^ k)).length ≤ 16 ∧ (∀ r ∈ rowsN W k (2 ^ (n - k)) (2 ^ k), r < 65536) ∧ (∀ x ∈ rows W k (2 ^ (n - k)) (2 ^ k), in64 x) ∧
    (rows W k (2 ^ (n - k)) (2 ^ k)).length ≤ 16 ∧ ml W k 0 (2 ^ n) 0 [] ≤ 16 ∧ ml W k 1 (2 ^ n) 0 [] ≤ 16 := by
  have _ := hW; have _ := hN
  have h1 := sz4 hn
  have h2 : 2 ^ k ≤ 16 := sz4 (by omega)
  have h3 : 2 ^ (n - k) ≤ 16 := sz4 (by omega)
  have h4 := rowsN_lt W k (2 ^ (n - k)) (2 ^ k) h3
  have h5 := ml_bound W k 0 (2 ^ n) 0 []
  have h6 := ml_bound W k 1 (2 ^ n) 0 []
  simp only [List.length_nil] at h5 h6
  refine ⟨by rw [rowsN_len]; exact h2, h4, fun x hx => ?_, by rw [rows_len]; exact h2, by omega, by omega⟩
  rw [rows_li] at hx
  obtain ⟨y, hy, rfl⟩ := List.mem_map.1 hx
  have := h4 y hy
  exact nat_in y (by omega)

end
end Go.Proofs.YtddflpokemgnmaaDoor
namespace Go.Proofs.YtddflpokemgnmaaDoor
open Go.Rv
set_option linter.unusedVariables false
variable {β : Type}
def gu : Tr → Prop
  | .nil => False
  | .node s b a c => ∃ n : Nat, s = n ∧ (((n = 48 ∨ n = 49) ∧ b = 0 ∧ a = .nil ∧ c = .nil) ∨ ((n = 65 ∨ n = 66) ∧ ∃ d : Nat, d < 16 ∧ b = d ∧ gu a ∧ gu c))
theorem gu_nil {T : Tr} (h : gu T) : T.isNil = false := by
  cases T with
  | nil => exact h.elim
  | node => rfl
def hxB (d : Nat) : UInt8 := UInt8.ofNat (if d < 10 then 48 + d else 87 + d)
theorem hxB_dig : ∀ d, d < 16 → dig (hxB d).toNat = (d : Int) := by decide +kernel
theorem dig_hxB1 : ∀ n, n < 256 → (decide (dig n < 0) || (decide (dig n < 16) && (hxB (dig n).toNat == UInt8.ofNat n))) = true := by decide +kernel
theorem dig_hxB (c : UInt8) (h : decide (dig c.toNat < 0) = false) : ∃ d : Nat, d < 16 ∧ dig c.toNat = d ∧ hxB d = c := by
  have := dig_hxB1 c.toNat c.toNat_lt
  rw [h, Bool.false_or, Bool.and_eq_true, decide_eq_true_eq, beq_iff_eq, UInt8.ofNat_toNat] at this
  have h0 : ¬ dig c.toNat < 0 := of_decide_eq_false h
  exact ⟨(dig c.toNat).toNat, by omega, by omega, this.2⟩
def ty : Tr → List UInt8
  | .nil => []
  | .node s b a c => if a.isNil then [UInt8.ofNat s.toNat] else UInt8.ofNat s.toNat :: hxB b.toNat :: (ty a ++ ty c)
theorem ty_leaf (n : Nat) : ty (.node (n : Int) 0 .nil .nil) = [UInt8.ofNat n] := rfl
theorem ty_node (n d : Nat) {a c : Tr} (h : gu a) : ty (.node (n : Int) (d : Int) a c) = UInt8.ofNat n :: hxB d :: (ty a ++ ty c) := by
  simp only [ty, gu_nil h, Int.toNat_natCast]; rw [if_neg (by decide)]
theorem ty_pos {T : Tr} (h : gu T) : 0 < (ty T).length := by
  cases T with
  | nil => exact h.elim
  | node s b a c => simp only [ty]; split <;> simp
theorem byteN (n : Nat) (h : n < 256) : (UInt8.ofNat n).toNat = n := by rw [UInt8.toNat_ofNat']; exact Nat.mod_eq_of_lt h
theorem tu_gu : ∀ (F : Nat) (l : List UInt8) (T : Tr) (r : List UInt8), tu F l = some (T, r) → gu T ∧ l = ty T ++ r := by
  intro F
  induction F with
  | zero => intro l T r h; cases h
  | succ F ih =>
    intro l T r h
    cases l with
    | nil => cases h
    | cons c l =>
      simp only [tu] at h
      cases h1 : (c.toNat == 48 || c.toNat == 49) with
      | true =>
        rw [h1, cond_true] at h
        cases h
        simp only [Bool.or_eq_true, beq_iff_eq] at h1
        exact ⟨⟨c.toNat, rfl, .inl ⟨h1, rfl, rfl, rfl⟩⟩, by rw [ty_leaf, UInt8.ofNat_toNat]; rfl⟩
      | false =>
        rw [h1, cond_false] at h
        cases h2 : (c.toNat == 65 || c.toNat == 66) with
        | false => rw [h2] at h; cases h
        | true =>
          rw [h2, cond_true] at h
          cases l with
          | nil => cases h
          | cons d l =>
            simp only at h
            cases h3 : decide (dig d.toNat < 0) with
            | true => rw [h3] at h; cases h
            | false =>
              rw [h3, cond_false] at h
              cases h4 : tu F l with
              | none => rw [h4] at h; cases h
              | some p =>
                obtain ⟨U, r1⟩ := p
                rw [h4] at h
                simp only at h
                cases h5 : tu F r1 with
                | none => rw [h5] at h; cases h
                | some q =>
                  obtain ⟨V, r2⟩ := q
                  rw [h5] at h
                  cases h
                  obtain ⟨g1, k2⟩ := ih _ _ _ h4
                  obtain ⟨g3, k4⟩ := ih _ _ _ h5
                  obtain ⟨e, e1, e2, e3⟩ := dig_hxB d h3
                  simp only [Bool.or_eq_true, beq_iff_eq] at h2
                  refine ⟨⟨c.toNat, rfl, .inr ⟨h2, e, e1, e2, g1, g3⟩⟩, ?_⟩
                  rw [e2, ty_node _ _ g1, UInt8.ofNat_toNat, e3, k2, k4]
                  simp
theorem tu_ty : ∀ (T : Tr) (F : Nat) (r : List UInt8), gu T → (ty T).length ≤ F → tu F (ty T ++ r) = some (T, r)
  | .nil, _, _, h, _ => h.elim
  | .node s b a c, F, r, h, hF => by
    obtain ⟨n, rfl, h⟩ := h
    rcases h with ⟨h, rfl, rfl, rfl⟩ | ⟨h, d, hd, rfl, ga, gc⟩
    · obtain ⟨G, rfl⟩ : ∃ G, F = G + 1 := ⟨F - 1, by simp [ty_leaf] at hF; omega⟩
      rw [ty_leaf]
      rcases h with rfl | rfl <;> rfl
    · rw [ty_node n d ga] at hF ⊢
      obtain ⟨G, rfl⟩ : ∃ G, F = G + 1 := ⟨F - 1, by simp at hF; omega⟩
      simp only [List.length_cons, List.length_append] at hF
      have i1 := tu_ty a G (ty c ++ r) ga (by omega)
      have i2 := tu_ty c G r gc (by omega)
      have hn : (UInt8.ofNat n).toNat = n := byteN n (by omega)
      have e1 : (n == 48 || n == 49) = false := by rcases h with rfl | rfl <;> rfl
      have e2 : (n == 65 || n == 66) = true := by rcases h with rfl | rfl <;> rfl
      simp only [List.cons_append, List.append_assoc, tu, hn, e1, e2, cond_false, cond_true, hxB_dig d hd, decide_eq_false (by omega : ¬ (d : Int) < 0), i1, i2]

def nlv : Tr → Nat
  | .nil => 0
  | .node _ _ a c => if a.isNil then 1 else nlv a + nlv c
def way (x y : Nat) (s d : Nat) : Bool := d.testBit (if s = 66 then y else x)
def lu (x y : Nat) : Tr → Nat
  | .nil => 0
  | .node s b a c => if a.isNil then s.toNat else (if way x y s.toNat b.toNat then lu x y c else lu x y a)
def au (x y : Nat) : Tr → Nat
  | .nil => 0
  | .node s b a c => if a.isNil then 0 else 1 + (if way x y s.toNat b.toNat then au x y c else au x y a)
theorem au_le (x y : Nat) : ∀ T, au x y T ≤ hd T
  | .nil => Nat.le_refl _
  | .node s b a c => by
    have h1 := au_le x y a
    have h2 := au_le x y c
    simp only [au, hd]
    cases a.isNil with
    | true => exact Nat.le_refl _
    | false =>
      simp only [Bool.false_eq_true, if_false]
      split <;> omega
theorem hd_le : ∀ T, gu T → hd T ≤ (ty T).length ∧ nlv T ≤ (ty T).length
  | .nil, h => h.elim
  | .node s b a c, h => by
    obtain ⟨n, rfl, h⟩ := h
    rcases h with ⟨h, rfl, rfl, rfl⟩ | ⟨h, d, hd', rfl, ga, gc⟩
    · simp [hd, nlv, ty_leaf, Tr.isNil]
    · have h1 := hd_le a ga
      have h2 := hd_le c gc
      rw [ty_node n d ga]
      simp only [hd, nlv, gu_nil ga, List.length_cons, List.length_append]
      rw [if_neg (by decide), if_neg (by decide)]
      omega
theorem leaves_pow : ∀ T, gu T → nlv T ≤ 2 ^ hd T
  | .nil, h => h.elim
  | .node s b a c, h => by
    obtain ⟨n, rfl, h⟩ := h
    rcases h with ⟨h, rfl, rfl, rfl⟩ | ⟨h, d, hd', rfl, ga, gc⟩
    · exact Nat.le_refl _
    · have h1 := leaves_pow a ga
      have h2 := leaves_pow c gc
      simp only [hd, nlv, gu_nil ga]
      rw [if_neg (by decide), if_neg (by decide)]
      have e1 : 2 ^ hd a ≤ 2 ^ max (hd a) (hd c) := Nat.pow_le_pow_right (by decide) (Nat.le_max_left _ _)
      have e2 : 2 ^ hd c ≤ 2 ^ max (hd a) (hd c) := Nat.pow_le_pow_right (by decide) (Nat.le_max_right _ _)
      rw [Nat.add_comm 1, Nat.pow_succ]
      omega
theorem ty_size : ∀ T, gu T → (ty T).length + 2 = 3 * nlv T
  | .nil, h => h.elim
  | .node s b a c, h => by
    obtain ⟨n, rfl, h⟩ := h
    rcases h with ⟨h, rfl, rfl, rfl⟩ | ⟨h, d, hd', rfl, ga, gc⟩
    · rfl
    · have h1 := ty_size a ga
      have h2 := ty_size c gc
      rw [ty_node n d ga]
      simp only [nlv, gu_nil ga, List.length_cons, List.length_append]
      rw [if_neg (by decide)]
      omega

def uf (N : Nat) (l : List UInt8) : Option Tr := if l.length ≤ 100 then (match tu N l with | some (T, []) => some T | _ => none) else none
theorem uf_some {N : Nat} {l : List UInt8} {T : Tr} (h : uf N l = some T) : gu T ∧ l = ty T ∧ l.length ≤ 100 := by
  unfold uf at h
  split at h
  · rename_i h60
    split at h
    · rename_i U hp
      cases h
      obtain ⟨h1, h2⟩ := tu_gu _ _ _ _ hp
      exact ⟨h1, by rw [List.append_nil] at h2; exact h2, h60⟩
    · cases h
  · cases h
theorem uf_ty {N : Nat} (hN : 1048576 < N) {T : Tr} (h : gu T) (h60 : (ty T).length ≤ 100) : uf N (ty T) = some T := by
  unfold uf
  have := tu_ty T N [] h (by omega)
  rw [List.append_nil] at this
  rw [if_pos h60, this]
theorem isProt_uf (N : Nat) (l : List UInt8) : isProt N l = (uf N l).isSome := by
  unfold isProt uf
  by_cases h : l.length ≤ 100
  · rw [decide_eq_true h, if_pos h, Bool.true_and]
    cases hp : tu N l with
    | none => rfl
    | some p => obtain ⟨T, r⟩ := p; cases r <;> rfl
  · rw [decide_eq_false h, if_neg h]; rfl
theorem spec_IsP (N : Nat) (hN : 1048576 < N) (l : List UInt8) (k : Bool → Option β) : zj144 N (B l) k = k (uf N l).isSome := by rw [spec_IsProtocol_eq N hN, isProt_uf]
theorem impl_IsP (N : Nat) (hN : 1048576 < N) (l : List UInt8) (k : Bool → Option β) : zj118 N (B l) k = k (uf N l).isSome := by rw [impl_IsProtocol_eq N hN, isProt_uf]
theorem readU (N : Nat) (hN : 1048576 < N) (l : List UInt8) : ∃ T0, (∀ T, uf N l = some T → T0 = T) ∧ ∀ K : Tr → Bool → Option β, zj92 N (B l) K = K T0 (uf N l).isSome := by
  by_cases h60 : l.length ≤ 100
  · cases hp : tu N l with
    | none =>
      refine ⟨.nil, (fun T h => by unfold uf at h; rw [if_pos h60, hp] at h; cases h), fun K => ?_⟩
      unfold zj92 zj91 uf
      rw [B_size, decide_eq_false (by omega), cond_false, readTurn_eq N N l (by omega), hp, if_pos h60]
      rfl
    | some p =>
      obtain ⟨T, r⟩ := p
      refine ⟨T, (fun U h => by unfold uf at h; rw [if_pos h60, hp] at h; cases r <;> cases h; rfl), fun K => ?_⟩
      have hw := gu_nil (tu_gu _ _ _ _ hp).1
      unfold zj92 zj91 uf
      rw [B_size, decide_eq_false (by omega), cond_false, readTurn_eq N N l (by omega), hp, if_pos h60]
      dsimp only
      rw [hw, Bool.not_false, cond_true, B_toList, B_nil, B_toList]
      cases r <;> rfl
  · refine ⟨.nil, fun T h => absurd (uf_some h).2.2 h60, fun K => ?_⟩
    unfold zj92 uf
    rw [B_size, decide_eq_true (by omega), cond_true, if_neg h60]
    rfl
theorem at_c {l r : List UInt8} {c : UInt8} {i : Nat} (h : l.drop i = c :: r) : i < l.length ∧ bt (B l) (i : Int) = (c.toNat : Int) ∧ l.drop (i + 1) = r := by
  have hi : i < l.length := by
    rcases Nat.lt_or_ge i l.length with h1 | h1
    · exact h1
    · rw [List.drop_eq_nil_of_le h1] at h; cases h
  rw [List.drop_eq_getElem_cons hi] at h
  injection h with h1 h2
  exact ⟨hi, by rw [B_bt l i hi, h1], h2⟩
theorem at_node {l r : List UInt8} {n d i : Nat} {a c : Tr} (hn : n < 256) (ga : gu a) (h : l.drop i = ty (.node (n : Int) (d : Int) a c) ++ r) :
    i + 1 < l.length ∧ bt (B l) (i : Int) = (n : Int) ∧ bt (B l) ((i + 1 : Nat) : Int) = ((hxB d).toNat : Int) ∧ l.drop (i + 2) = ty a ++ (ty c ++ r) ∧ i + 2 + (ty a).length ≤ l.length ∧ l.drop (i + 2 + (ty a).length) = ty c ++ r := by
  rw [ty_node n d ga] at h
  simp only [List.cons_append, List.append_assoc] at h
  obtain ⟨h1, h2, h3⟩ := at_c h
  obtain ⟨h4, h5, h6⟩ := at_c h3
  rw [byteN n hn] at h2
  have hlen := congrArg List.length h6
  rw [List.length_drop, List.length_append] at hlen
  refine ⟨h4, h2, h5, h6, by omega, ?_⟩
  rw [← List.drop_drop, show i + 2 = i + 1 + 1 from rfl, h6]
  simp
theorem end_at (N : Nat) (hN : 1048576 < N) (l r : List UInt8) (hl : l.length ≤ 100) (i : Nat) (a : Tr) (ga : gu a) (h : l.drop i = ty a ++ r) (hi : i ≤ l.length) (k : Int → Option β) : zj143 N (B l) (i : Int) k = k ((i + (ty a).length : Nat) : Int) := by
  show zj142 N N (B l) _ _ = _
  have hlen := congrArg List.length h
  rw [List.length_drop, List.length_append] at hlen
  rw [l21End_eq N l (by omega) N i (by omega) hi, h, tu_ty a N r ga (by omega)]
  show k ((l.length - r.length : Nat) : Int) = _
  rw [show l.length - r.length = i + (ty a).length by omega]

theorem mxI_u (a b : Nat) : mxI (a : Int) (b : Int) = ((max a b : Nat) : Int) := by
  unfold mxI; split <;> omega
theorem l21Depth_eq (N : Nat) (hN : 1048576 < N) (l : List UInt8) (hl : l.length ≤ 100) : ∀ (F : Nat) (T : Tr) (i : Nat) (r : List UInt8), gu T → l.drop i = ty T ++ r → (ty T).length ≤ F → ∀ k : Int → Option β,
    zj149 N F (B l) (i : Int) k = k (hd T : Int) := by
  intro F
  induction F with
  | zero => intro T i r h _ hF; have := ty_pos h; omega
  | succ F ih =>
    intro T i r h hdr hF k
    cases T with
    | nil => exact h.elim
    | node s b A C =>
      obtain ⟨n, rfl, h⟩ := h
      rcases h with ⟨h, rfl, rfl, rfl⟩ | ⟨h, d, hd', rfl, ga, gc⟩
      · rw [ty_leaf] at hdr
        obtain ⟨h1, h2, _⟩ := at_c hdr
        rw [byteN n (by omega)] at h2
        simp only [zj149, zj148, B_size]
        rw [gd_true (decide_eq_true (by omega)), gd_true (decide_eq_true (by omega)), h2, gd_true (decide_eq_true (by omega)), gd_true (decide_eq_true (by omega))]
        rcases h with rfl | rfl <;> rfl
      · obtain ⟨h1, h2, h3, h4, h5, h6⟩ := at_node (by omega) ga hdr
        have hF' := hF
        rw [ty_node n d ga] at hF'
        simp only [List.length_cons, List.length_append] at hF'
        have l1 := (hd_le A ga).1
        have l2 := (hd_le C gc).1
        simp only [zj149, zj148, B_size]
        have g48 := natb n 48; have g49 := natb n 49
        simp only [Int.cast_ofNat_Int] at g48 g49
        rw [gd_true (decide_eq_true (by omega)), gd_true (decide_eq_true (by omega)), h2, gd_true (decide_eq_true (by omega)), gd_true (decide_eq_true (by omega)), g48, g49, beq_eq_false_iff_ne.2 (show n ≠ 48 by omega), beq_eq_false_iff_ne.2 (show n ≠ 49 by omega), cond_false, cond_false, show w64 ((i : Int) + 2) = ((i + 2 : Nat) : Int) by rw [w64_id] <;> omega]
        have hlA := congrArg List.length h4
        rw [List.length_drop, List.length_append, List.length_append] at hlA
        rw [ih A (i + 2) _ ga h4 (by omega), end_at N hN l _ hl (i + 2) A ga h4 (by omega), ih C _ r gc h6 (by omega), mxI_u]
        simp only [hd, gu_nil ga]
        rw [if_neg (by decide), w64_id (by omega) (by omega)]
        rfl
theorem l21Leaves_eq (N : Nat) (hN : 1048576 < N) (l : List UInt8) (hl : l.length ≤ 100) : ∀ (F : Nat) (T : Tr) (i : Nat) (r : List UInt8), gu T → l.drop i = ty T ++ r → (ty T).length ≤ F → ∀ k : Int → Option β,
    zj153 N F (B l) (i : Int) k = k (nlv T : Int) := by
  intro F
  induction F with
  | zero => intro T i r h _ hF; have := ty_pos h; omega
  | succ F ih =>
    intro T i r h hdr hF k
    cases T with
    | nil => exact h.elim
    | node s b A C =>
      obtain ⟨n, rfl, h⟩ := h
      rcases h with ⟨h, rfl, rfl, rfl⟩ | ⟨h, d, hd', rfl, ga, gc⟩
      · rw [ty_leaf] at hdr
        obtain ⟨h1, h2, _⟩ := at_c hdr
        rw [byteN n (by omega)] at h2
        simp only [zj153, zj152, B_size]
        rw [gd_true (decide_eq_true (by omega)), gd_true (decide_eq_true (by omega)), h2, gd_true (decide_eq_true (by omega)), gd_true (decide_eq_true (by omega))]
        rcases h with rfl | rfl <;> rfl
      · obtain ⟨h1, h2, h3, h4, h5, h6⟩ := at_node (by omega) ga hdr
        have hF' := hF
        rw [ty_node n d ga] at hF'
        simp only [List.length_cons, List.length_append] at hF'
        have l1 := (hd_le A ga).2
        have l2 := (hd_le C gc).2
        simp only [zj153, zj152, B_size]
        have g48 := natb n 48; have g49 := natb n 49
        simp only [Int.cast_ofNat_Int] at g48 g49
        rw [gd_true (decide_eq_true (by omega)), gd_true (decide_eq_true (by omega)), h2, gd_true (decide_eq_true (by omega)), gd_true (decide_eq_true (by omega)), g48, g49, beq_eq_false_iff_ne.2 (show n ≠ 48 by omega), beq_eq_false_iff_ne.2 (show n ≠ 49 by omega), cond_false, cond_false, show w64 ((i : Int) + 2) = ((i + 2 : Nat) : Int) by rw [w64_id] <;> omega]
        have hlA := congrArg List.length h4
        rw [List.length_drop, List.length_append, List.length_append] at hlA
        rw [ih A (i + 2) _ ga h4 (by omega), end_at N hN l _ hl (i + 2) A ga h4 (by omega), ih C _ r gc h6 (by omega)]
        simp only [nlv, gu_nil ga]
        rw [if_neg (by decide), w64_id (by omega) (by omega)]
        rfl
theorem turn_depth_eq (N : Nat) : ∀ (F : Nat) (T : Tr), gu T → (ty T).length ≤ F → (ty T).length ≤ 1000 → ∀ k : Int → Option β, zj120 N F T k = k (hd T : Int) := by
  intro F
  induction F with
  | zero => intro T h hF; have := ty_pos h; omega
  | succ F ih =>
    intro T h hF hb k
    cases T with
    | nil => exact h.elim
    | node s b A C =>
      obtain ⟨n, rfl, h⟩ := h
      rcases h with ⟨h, rfl, rfl, rfl⟩ | ⟨h, d, hd', rfl, ga, gc⟩
      · rfl
      · rw [ty_node n d ga] at hF hb
        simp only [List.length_cons, List.length_append] at hF hb
        have l1 := (hd_le A ga).1
        have l2 := (hd_le C gc).1
        have hn : ∀ (x y : Int), Tr.isNil (.node x y A C) = false := fun _ _ => rfl
        simp only [zj120, zj119, hn, Bool.not_false, Tr.l, Tr.r, gu_nil ga]
        simp only [gd, cond_true, cond_false]
        rw [ih A ga (by omega) (by omega), ih C gc (by omega) (by omega), mxI_u]
        simp only [hd, gu_nil ga]
        rw [if_neg (by decide), w64_id (by omega) (by omega)]
        rfl
theorem turn_leaves_eq (N : Nat) : ∀ (F : Nat) (T : Tr), gu T → (ty T).length ≤ F → (ty T).length ≤ 1000 → ∀ k : Int → Option β, zj124 N F T k = k (nlv T : Int) := by
  intro F
  induction F with
  | zero => intro T h hF; have := ty_pos h; omega
  | succ F ih =>
    intro T h hF hb k
    cases T with
    | nil => exact h.elim
    | node s b A C =>
      obtain ⟨n, rfl, h⟩ := h
      rcases h with ⟨h, rfl, rfl, rfl⟩ | ⟨h, d, hd', rfl, ga, gc⟩
      · rfl
      · rw [ty_node n d ga] at hF hb
        simp only [List.length_cons, List.length_append] at hF hb
        have l1 := (hd_le A ga).2
        have l2 := (hd_le C gc).2
        have hn : ∀ (x y : Int), Tr.isNil (.node x y A C) = false := fun _ _ => rfl
        simp only [zj124, zj123, hn, Bool.not_false, Tr.l, Tr.r, gu_nil ga]
        simp only [gd, cond_true, cond_false]
        rw [ih A ga (by omega) (by omega), ih C gc (by omega) (by omega)]
        simp only [nlv, gu_nil ga]
        rw [if_neg (by decide), w64_id (by omega) (by omega)]
        rfl
def depU (N : Nat) (l : List UInt8) : Int := match uf N l with | some T => (hd T : Int) | none => -1
def levU (N : Nat) (l : List UInt8) : Int := match uf N l with | some T => (nlv T : Int) | none => -1
theorem spec_DepthP (N : Nat) (hN : 1048576 < N) (l : List UInt8) (K : Int → Option β) : zj151 N (B l) K = K (depU N l) := by
  unfold zj151 depU zj150
  rw [spec_IsP N hN]
  cases hr : uf N l with
  | none => rfl
  | some T =>
    obtain ⟨hw, htx, h60⟩ := uf_some hr
    have := fun k => l21Depth_eq (β := β) N hN l h60 N T 0 [] hw (by rw [List.drop_zero, List.append_nil]; exact htx) (by rw [← htx]; omega) k
    simp only [Int.natCast_zero] at this
    rw [Option.isSome_some, Bool.not_true, cond_false, this]
theorem spec_LeavesP (N : Nat) (hN : 1048576 < N) (l : List UInt8) (K : Int → Option β) : zj155 N (B l) K = K (levU N l) := by
  unfold zj155 levU zj154
  rw [spec_IsP N hN]
  cases hr : uf N l with
  | none => rfl
  | some T =>
    obtain ⟨hw, htx, h60⟩ := uf_some hr
    have := fun k => l21Leaves_eq (β := β) N hN l h60 N T 0 [] hw (by rw [List.drop_zero, List.append_nil]; exact htx) (by rw [← htx]; omega) k
    simp only [Int.natCast_zero] at this
    rw [Option.isSome_some, Bool.not_true, cond_false, this]
theorem impl_DepthP (N : Nat) (hN : 1048576 < N) (l : List UInt8) (K : Int → Option β) : zj122 N (B l) K = K (depU N l) := by
  unfold zj122 depU zj121
  obtain ⟨T0, h1, h2⟩ := readU (β := β) N hN l
  rw [h2]
  cases hr : uf N l with
  | none => rfl
  | some T =>
    obtain ⟨hw, htx, h60⟩ := uf_some hr
    rw [h1 T hr, Option.isSome_some, Bool.not_true, cond_false, turn_depth_eq N N T hw (by rw [← htx]; omega) (by rw [← htx]; omega)]
theorem impl_LeavesP (N : Nat) (hN : 1048576 < N) (l : List UInt8) (K : Int → Option β) : zj126 N (B l) K = K (levU N l) := by
  unfold zj126 levU zj125
  obtain ⟨T0, h1, h2⟩ := readU (β := β) N hN l
  rw [h2]
  cases hr : uf N l with
  | none => rfl
  | some T =>
    obtain ⟨hw, htx, h60⟩ := uf_some hr
    rw [h1 T hr, Option.isSome_some, Bool.not_true, cond_false, turn_leaves_eq N N T hw (by rw [← htx]; omega) (by rw [← htx]; omega)]
end Go.Proofs.YtddflpokemgnmaaDoor
namespace Go.Proofs.YtddflpokemgnmaaDoor
open Go.Rv
set_option linter.unusedVariables false
variable {β : Type}
theorem way_bit (d x : Nat) (hd : d < 16) : (bits .and .i64 (shrI .i64 (d : Int) (x : Int)) 1 == 1) = d.testBit x := by
  rw [bit_w d x (by omega), bw_eq1]
theorem spec_run (N : Nat) (hN : 1048576 < N) (l : List UInt8) (hl : l.length ≤ 100) (x y : Nat) (hx : x < 4) (hy : y < 4) : ∀ (F : Nat) (T : Tr) (i q : Nat) (r : List UInt8), gu T → l.drop i = ty T ++ r → (ty T).length ≤ F → hd T + q < 1000 →
    ∃ p, p < l.length ∧ bt (B l) (p : Int) = (lu x y T : Int) ∧ ∀ k0 : ByteArray → Int → Int → Option β, zj146 N F (B l) (x : Int) (y : Int) (i : Int) (q : Int) k0 = k0 (B l) (p : Int) ((q + au x y T : Nat) : Int) := by
  intro F
  induction F with
  | zero => intro T i q r h _ hF; have := ty_pos h; omega
  | succ F ih =>
    intro T i q r h hdr hF hq
    cases T with
    | nil => exact h.elim
    | node s b A C =>
      obtain ⟨n, rfl, h⟩ := h
      have g48 := natn n 48; have g49 := natn n 49; have g66 := natb n 66
      simp only [Int.cast_ofNat_Int] at g48 g49 g66
      rcases h with ⟨h, rfl, rfl, rfl⟩ | ⟨h, d, hd', rfl, ga, gc⟩
      · rw [ty_leaf] at hdr
        obtain ⟨h1, h2, _⟩ := at_c hdr
        rw [byteN n (by omega)] at h2
        refine ⟨i, h1, h2, fun k0 => ?_⟩
        simp only [zj146, zj145, B_size]
        rw [gd_true (decide_eq_true (by omega)), gd_true (decide_eq_true (by omega)), h2, gd_true (decide_eq_true (by omega)), gd_true (decide_eq_true (by omega)), g48, g49]
        rcases h with rfl | rfl <;> rfl
      · obtain ⟨h1, h2, h3, h4, h5, h6⟩ := at_node (by omega) ga hdr
        have hF' := hF
        rw [ty_node n d ga] at hF'
        simp only [List.length_cons, List.length_append] at hF'
        simp only [hd, gu_nil ga] at hq
        rw [if_neg (by decide)] at hq
        have el : lu x y (.node (n : Int) (d : Int) A C) = (if way x y n d then lu x y C else lu x y A) := by
          simp only [lu, gu_nil ga]; rw [if_neg (by decide)]; rfl
        have ea : au x y (.node (n : Int) (d : Int) A C) = 1 + (if way x y n d then au x y C else au x y A) := by
          simp only [au, gu_nil ga]; rw [if_neg (by decide)]; rfl
        rw [el, ea]
        have step : ∀ k0 : ByteArray → Int → Int → Option β, zj146 N (F + 1) (B l) (x : Int) (y : Int) (i : Int) (q : Int) k0 = cond (way x y n d) (zj146 N F (B l) (x : Int) (y : Int) ((i + 2 + (ty A).length : Nat) : Int) ((q + 1 : Nat) : Int) k0) (zj146 N F (B l) (x : Int) (y : Int) ((i + 2 : Nat) : Int) ((q + 1 : Nat) : Int) k0) := fun k0 => by
          simp only [zj146, zj145, B_size]
          have dd := spec_l21Digit_eq (β := β) N (hxB d).toNat (hxB d).toNat_lt
          rw [hxB_dig d hd'] at dd
          rw [gd_true (decide_eq_true (by omega)), gd_true (decide_eq_true (by omega)), h2, gd_true (decide_eq_true (by omega)), gd_true (decide_eq_true (by omega)), g48, g49, g66, beq_eq_false_iff_ne.2 (show n ≠ 48 by omega), beq_eq_false_iff_ne.2 (show n ≠ 49 by omega), Bool.not_false, cond_true, cond_true, w64_succ i (by omega), gd_true (decide_eq_true (by omega)), gd_true (decide_eq_true (by omega)), h3, dd, gd_true (decide_eq_true (by omega)), gd_true (decide_eq_true (by omega)), gd_true (decide_eq_true (by omega)), way_bit d x hd', way_bit d y hd', show w64 ((i : Int) + 2) = ((i + 2 : Nat) : Int) by rw [w64_id] <;> omega, w64_succ q (by omega), end_at N hN l _ hl (i + 2) A ga h4 (by omega), gd_true (decide_eq_true (by omega))]
          unfold way
          rcases h with rfl | rfl <;> rfl
        cases hw : way x y n d with
        | false =>
          obtain ⟨p, hp, hv, he⟩ := ih A (i + 2) (q + 1) _ ga h4 (by omega) (by omega)
          refine ⟨p, hp, by rw [if_neg (by decide)]; exact hv, fun k0 => ?_⟩
          rw [step, hw, cond_false, he, if_neg (by decide)]
          congr 2
          omega
        | true =>
          obtain ⟨p, hp, hv, he⟩ := ih C (i + 2 + (ty A).length) (q + 1) r gc h6 (by omega) (by omega)
          refine ⟨p, hp, by rw [if_pos rfl]; exact hv, fun k0 => ?_⟩
          rw [step, hw, cond_true, he, if_pos rfl]
          congr 2
          omega
theorem impl_run (N x y : Nat) (hx : x < 4) (hy : y < 4) : ∀ (F : Nat) (T : Tr) (q : Nat), gu T → hd T < F → hd T + q < 1000 →
    ∃ b : Int, ∃ a d : Tr, ∀ k0 : Tr → Int → Option β, zj95 N F (x : Int) (y : Int) T (q : Int) k0 = k0 (.node (lu x y T : Int) b a d) ((q + au x y T : Nat) : Int) := by
  intro F
  induction F with
  | zero => intro T q _ h; omega
  | succ F ih =>
    intro T q h hF hq
    cases T with
    | nil => exact h.elim
    | node s b A C =>
      obtain ⟨n, rfl, h⟩ := h
      rcases h with ⟨h, rfl, rfl, rfl⟩ | ⟨h, d, hd', rfl, ga, gc⟩
      · exact ⟨0, .nil, .nil, fun k0 => by rcases h with rfl | rfl <;> rfl⟩
      · simp only [hd, gu_nil ga] at hF hq
        rw [if_neg (by decide)] at hF hq
        have el : lu x y (.node (n : Int) (d : Int) A C) = (if way x y n d then lu x y C else lu x y A) := by
          simp only [lu, gu_nil ga]; rw [if_neg (by decide)]; rfl
        have ea : au x y (.node (n : Int) (d : Int) A C) = 1 + (if way x y n d then au x y C else au x y A) := by
          simp only [au, gu_nil ga]; rw [if_neg (by decide)]; rfl
        have hn : ∀ (x y : Int), Tr.isNil (.node x y A C) = false := fun _ _ => rfl
        have g66 := natb n 66
        simp only [Int.cast_ofNat_Int] at g66
        have step : ∀ k0 : Tr → Int → Option β, zj95 N (F + 1) (x : Int) (y : Int) (.node (n : Int) (d : Int) A C) (q : Int) k0 = cond (way x y n d) (zj95 N F (x : Int) (y : Int) C ((q + 1 : Nat) : Int) k0) (zj95 N F (x : Int) (y : Int) A ((q + 1 : Nat) : Int) k0) := fun k0 => by
          simp only [zj95, zj94, hn, Bool.not_false, Tr.l, Tr.r, Tr.a, Tr.b, gu_nil ga, g66, way_bit d x hd', way_bit d y hd', w64_succ q (by omega), decide_eq_true (Int.natCast_nonneg x), decide_eq_true (Int.natCast_nonneg y)]
          simp only [gd, cond_true]
          unfold way
          rcases h with rfl | rfl <;> rfl
        rw [el, ea]
        cases hw : way x y n d with
        | false =>
          obtain ⟨b', a', d', he⟩ := ih A (q + 1) ga (by omega) (by omega)
          refine ⟨b', a', d', fun k0 => ?_⟩
          rw [step, hw, cond_false, he, if_neg (by decide), if_neg (by decide)]
          congr 2
          omega
        | true =>
          obtain ⟨b', a', d', he⟩ := ih C (q + 1) gc (by omega) (by omega)
          refine ⟨b', a', d', fun k0 => ?_⟩
          rw [step, hw, cond_true, he, if_pos rfl, if_pos rfl]
          congr 2
          omega
theorem lu_val (x y : Nat) : ∀ T, gu T → lu x y T = 48 ∨ lu x y T = 49
  | .nil, h => h.elim
  | .node s b a c, h => by
    obtain ⟨n, rfl, h⟩ := h
    rcases h with ⟨h, rfl, rfl, rfl⟩ | ⟨h, d, hd', rfl, ga, gc⟩
    · rcases h with rfl | rfl
      · exact .inl rfl
      · exact .inr rfl
    · have e1 := lu_val x y a ga
      have e2 := lu_val x y c gc
      simp only [lu, gu_nil ga]
      rw [if_neg (by decide)]
      split
      · exact e2
      · exact e1
def inR (c d : Int) : Bool := (decide (0 ≤ c) && decide (c ≤ 3)) && (decide (0 ≤ d) && decide (d ≤ 3))
def runU (N : Nat) (l : List UInt8) (c d : Int) : Option (Nat × Nat) := match uf N l with
  | some T => if inR c d = true then some (lu c.toNat d.toNat T - 48, au c.toNat d.toNat T) else none
  | none => none
def runK3 (o : Option (Nat × Nat)) (K : Int → Int → Bool → Option β) : Option β := match o with
  | some p => K (p.1 : Int) (p.2 : Int) true
  | none => K 0 0 false
theorem lu_w (x y : Nat) (T : Tr) (h : gu T) : w64 (w8 ((lu x y T : Int) - 48)) = ((lu x y T - 48 : Nat) : Int) := by
  rcases lu_val x y T h with e | e <;> rw [e] <;> rfl
theorem spec_Run (N : Nat) (hN : 1048576 < N) (l : List UInt8) (c d : Int) (K : Int → Int → Bool → Option β) : zj147 N (B l) c d K = runK3 (runU N l c d) K := by
  unfold zj147 runU
  rw [spec_IsP N hN]
  cases hr : uf N l with
  | none => rfl
  | some T =>
    obtain ⟨hw, htx, h60⟩ := uf_some hr
    rw [Option.isSome_some, Bool.not_true, cond_false, spec_l1In_eq]
    unfold inR
    cases h1 : (decide (0 ≤ c) && decide (c ≤ 3)) with
    | false => rfl
    | true =>
      rw [Bool.not_true, cond_false, spec_l1In_eq]
      cases h2 : (decide (0 ≤ d) && decide (d ≤ 3)) with
      | false => rfl
      | true =>
        simp only [Bool.and_eq_true, decide_eq_true_eq] at h1 h2
        obtain ⟨x, rfl⟩ := Int.eq_ofNat_of_zero_le h1.1
        obtain ⟨y, rfl⟩ := Int.eq_ofNat_of_zero_le h2.1
        have hl := (hd_le T hw).1
        obtain ⟨p, hp, hv, he⟩ := spec_run (β := β) N hN l h60 x y (by omega) (by omega) N T 0 0 [] hw (by rw [List.drop_zero, List.append_nil]; exact htx) (by rw [← htx]; omega) (by rw [← htx] at hl; omega)
        simp only [Int.natCast_zero] at he
        rw [Bool.not_true, cond_false, he, B_size, gd_true (decide_eq_true (by omega)), gd_true (decide_eq_true (by omega)), hv, lu_w x y T hw, Nat.zero_add]
        rfl
theorem impl_isInput_2 (N : Nat) (c : Int) (k : Bool → Option β) : zj93 N 2 c k = k (decide (0 ≤ c) && decide (c ≤ 3)) := by
  unfold zj93
  have e : shlI .i64 1 2 = 4 := by decide
  by_cases h : 0 ≤ c
  · rw [decide_eq_true (show c ≥ 0 from h), cond_true, gd_true (decide_eq_true (by decide)), e, Bool.true_and]
    congr 1
    by_cases h3 : c ≤ 3
    · rw [decide_eq_true h3, decide_eq_true (by omega)]
    · rw [decide_eq_false h3, decide_eq_false (by omega)]
  · rw [decide_eq_false (show ¬ c ≥ 0 from h), cond_false]; rfl
theorem impl_Run (N : Nat) (hN : 1048576 < N) (l : List UInt8) (c d : Int) (K : Int → Int → Bool → Option β) : zj96 N (B l) c d K = runK3 (runU N l c d) K := by
  unfold zj96 runU
  obtain ⟨T0, h1, h2⟩ := readU (β := β) N hN l
  rw [h2]
  cases hr : uf N l with
  | none => rfl
  | some T =>
    obtain ⟨hw, htx, h60⟩ := uf_some hr
    rw [h1 T hr, Option.isSome_some, Bool.not_true, cond_false, impl_isInput_2]
    unfold inR
    cases h1 : (decide (0 ≤ c) && decide (c ≤ 3)) with
    | false => rfl
    | true =>
      rw [Bool.not_true, cond_false, impl_isInput_2]
      cases h2 : (decide (0 ≤ d) && decide (d ≤ 3)) with
      | false => rfl
      | true =>
        simp only [Bool.and_eq_true, decide_eq_true_eq] at h1 h2
        obtain ⟨x, rfl⟩ := Int.eq_ofNat_of_zero_le h1.1
        obtain ⟨y, rfl⟩ := Int.eq_ofNat_of_zero_le h2.1
        have hl := (hd_le T hw).1
        rw [← htx] at hl
        obtain ⟨b, a, e, he⟩ := impl_run (β := β) N x y (by omega) (by omega) N T 0 hw (by omega) (by omega)
        simp only [Int.natCast_zero] at he
        have hn : Tr.isNil (.node (lu x y T : Int) b a e) = false := rfl
        rw [Bool.not_true, cond_false, he]
        simp only [hn, Bool.not_false, gd, cond_true, Tr.a, lu_w x y T hw, Nat.zero_add]
        rfl
end Go.Proofs.YtddflpokemgnmaaDoor
namespace Go.Proofs.YtddflpokemgnmaaDoor
open Go.Rv
set_option linter.unusedVariables false
variable {β : Type}
theorem ff_no (p : Nat → Bool) : ∀ d i, ff p d i = none → ∀ j, i ≤ j → j < i + d → p j = false
  | 0, i, _, j, h1, h2 => by omega
  | d + 1, i, h, j, h1, h2 => by
    simp only [ff] at h
    cases hp : p i with
    | true => rw [hp, if_pos rfl] at h; cases h
    | false =>
      rw [hp, if_neg (by decide)] at h
      by_cases e : j = i
      · subst e; exact hp
      · exact ff_no p d (i + 1) h j (by omega) (by omega)
def pT (mx vl : Nat → Nat → Bool) : Nat → Nat → Nat → Tr
  | 0, _, _ => .nil
  | f + 1, A, B => if mx A B then match ff (rowP mx A B) 16 0 with
      | some x => .node ((65 : Nat) : Int) (x : Int) (pT mx vl f (A - x) B) (pT mx vl f x B)
      | none => match ff (colP mx A B) 16 0 with
        | some y => .node ((66 : Nat) : Int) (y : Int) (pT mx vl f A (B - y)) (pT mx vl f A y)
        | none => .nil
    else .node (((if vl A B then 49 else 48 : Nat)) : Int) 0 .nil .nil
theorem row_sub {mx : Nat → Nat → Bool} {A B x : Nat} (h : ff (rowP mx A B) 16 0 = some x) : sub A x = true ∧ x < 16 ∧ need mx (A - x) B < need mx A B ∧ need mx x B < need mx A B := by
  have hp := ff_some _ _ _ _ h
  have := hp.1
  simp only [rowP, Bool.and_eq_true, decide_eq_true_eq] at this
  exact ⟨this.1, by omega, this.2.1, this.2.2⟩
theorem col_sub {mx : Nat → Nat → Bool} {A B y : Nat} (h : ff (colP mx A B) 16 0 = some y) : sub B y = true ∧ y < 16 ∧ need mx A (B - y) < need mx A B ∧ need mx A y < need mx A B := by
  have hp := ff_some _ _ _ _ h
  have := hp.1
  simp only [colP, Bool.and_eq_true, decide_eq_true_eq] at this
  exact ⟨this.1, by omega, this.2.1, this.2.2⟩
theorem some_part {mx : Nat → Nat → Bool} (hmx : Single mx) {A B : Nat} (hA : A < 16) (hB : B < 16) (h : mx A B = true) (h1 : ff (rowP mx A B) 16 0 = none) (h2 : ff (colP mx A B) 16 0 = none) : False := by
  rcases need_some hmx hA hB h with ⟨x, hx, hs, hv⟩ | ⟨y, hy, hs, hv⟩
  · have := ff_no _ _ _ h1 x (by omega) (by omega)
    unfold rowV at hv
    simp only [rowP, hs, Bool.true_and, Bool.and_eq_false_iff, decide_eq_false_iff_not] at this
    omega
  · have := ff_no _ _ _ h2 y (by omega) (by omega)
    unfold colV at hv
    simp only [colP, hs, Bool.true_and, Bool.and_eq_false_iff, decide_eq_false_iff_not] at this
    omega
theorem node_B : ∀ x, x < 16 → (node 65 x).data.toList = [UInt8.ofNat 65, hxB x] ∧ (node 66 x).data.toList = [UInt8.ofNat 66, hxB x] := by decide +kernel
theorem ap_list (a b : ByteArray) : (a ++ b).data.toList = a.data.toList ++ b.data.toList := by simp
theorem pT_ok (mx vl : Nat → Nat → Bool) (hmx : Single mx) : ∀ f A B, A < 16 → B < 16 → A + B < f → gu (pT mx vl f A B) ∧ ty (pT mx vl f A B) = (bs mx vl f A B).data.toList ∧ hd (pT mx vl f A B) = need mx A B
  | 0, A, B, _, _, h => by omega
  | f + 1, A, B, hA, hB, h => by
    simp only [pT, bs]
    cases hx : mx A B with
    | false =>
      simp only [Bool.false_eq_true, if_false]
      refine ⟨?_, ?_, ?_⟩
      · exact ⟨_, rfl, .inl ⟨by cases vl A B <;> simp, rfl, rfl, rfl⟩⟩
      · cases vl A B <;> rfl
      · rw [need_eq mx A B hA hB, hx]; rfl
    | true =>
      rw [if_pos rfl, if_pos rfl]
      have hm := need_isMin hA hB hx
      cases h1 : ff (rowP mx A B) 16 0 with
      | some x =>
        obtain ⟨hs, hx16, n1, n2⟩ := row_sub h1
        have hlt := sub_lt A hA x hx16 hs
        obtain ⟨g1, t1, d1⟩ := pT_ok mx vl hmx f (A - x) B (by omega) hB (by omega)
        obtain ⟨g2, t2, d2⟩ := pT_ok mx vl hmx f x B (by omega) hB (by omega)
        have hle := hm.all _ (.inl ⟨x, hx16, hs, rfl⟩)
        unfold rowV at hle
        refine ⟨⟨65, rfl, .inr ⟨.inl rfl, x, hx16, rfl, g1, g2⟩⟩, ?_, ?_⟩
        · simp only [ty_node 65 x g1, ap_list, (node_B x hx16).1, t1, t2]; simp
        · simp only [hd, gu_nil g1, d1, d2]
          rw [if_neg (by decide)]
          omega
      | none =>
        cases h2 : ff (colP mx A B) 16 0 with
        | some y =>
          obtain ⟨hs, hy16, n1, n2⟩ := col_sub h2
          have hlt := sub_lt B hB y hy16 hs
          obtain ⟨g1, t1, d1⟩ := pT_ok mx vl hmx f A (B - y) hA (by omega) (by omega)
          obtain ⟨g2, t2, d2⟩ := pT_ok mx vl hmx f A y hA (by omega) (by omega)
          have hle := hm.all _ (.inr ⟨y, hy16, hs, rfl⟩)
          unfold colV at hle
          refine ⟨⟨66, rfl, .inr ⟨.inr rfl, y, hy16, rfl, g1, g2⟩⟩, ?_, ?_⟩
          · simp only [ty_node 66 y g1, ap_list, (node_B y hy16).2, t1, t2]; simp
          · simp only [hd, gu_nil g1, d1, d2]
            rw [if_neg (by decide)]
            omega
        | none => exact (some_part hmx hA hB hx h1 h2).elim
theorem sub_bits1 : ∀ A, A < 16 → ∀ x, x < 16 → (!sub A x || (List.range 4).all fun j => ((A - x).testBit j == (A.testBit j && !x.testBit j)) && (!x.testBit j || A.testBit j)) = true := by decide +kernel
theorem sub_bits {A x j : Nat} (hA : A < 16) (hx : x < 16) (hs : sub A x = true) (hj : j < 4) : (A - x).testBit j = (A.testBit j && !x.testBit j) ∧ (x.testBit j = true → A.testBit j = true) := by
  have := sub_bits1 A hA x hx
  rw [hs, Bool.not_true, Bool.false_or, List.all_eq_true] at this
  have := this j (by simp; omega)
  simp only [Bool.and_eq_true, beq_iff_eq, Bool.or_eq_true, Bool.not_eq_true'] at this
  exact ⟨this.1, fun h => by rcases this.2 with h2 | h2; · rw [h] at h2; cases h2
                             · exact h2⟩

section
variable (W n k : Nat) (hk : k ≤ 2) (hkn : k ≤ n) (hq : n - k ≤ 2)
theorem mono_rect {A B : Nat} (h : bothOn W n k A B = false) {z z' : Nat} (hz : z < 2 ^ n) (hz' : z' < 2 ^ n) (h1 : A.testBit (z % 2 ^ k) = true) (h2 : B.testBit (z / 2 ^ k) = true) (h3 : A.testBit (z' % 2 ^ k) = true) (h4 : B.testBit (z' / 2 ^ k) = true) : W.testBit z = W.testBit z' := by
  unfold bothOn at h
  cases ha : W.testBit z <;> cases hb : W.testBit z'
  · rfl
  · exfalso
    rw [(hx_iff W k A B false (2 ^ n) 0).2 ⟨z, by omega, by omega, h1, h2, ha⟩, (hx_iff W k A B true (2 ^ n) 0).2 ⟨z', by omega, by omega, h3, h4, hb⟩] at h
    cases h
  · exfalso
    rw [(hx_iff W k A B false (2 ^ n) 0).2 ⟨z', by omega, by omega, h3, h4, hb⟩, (hx_iff W k A B true (2 ^ n) 0).2 ⟨z, by omega, by omega, h1, h2, ha⟩] at h
    cases h
  · rfl
theorem one_rect {A B : Nat} (h : bothOn W n k A B = false) {z : Nat} (hz : z < 2 ^ n) (h1 : A.testBit (z % 2 ^ k) = true) (h2 : B.testBit (z / 2 ^ k) = true) : isOne W n k A B = W.testBit z := by
  unfold isOne
  cases hw : W.testBit z with
  | true => exact (hx_iff W k A B true (2 ^ n) 0).2 ⟨z, by omega, by omega, h1, h2, hw⟩
  | false =>
    cases ho : hx W k A B true (2 ^ n) 0 with
    | false => rfl
    | true =>
      obtain ⟨z', _, h3, h4, h5, h6⟩ := (hx_iff W k A B true (2 ^ n) 0).1 ho
      have := mono_rect W n k h hz (by omega) h1 h2 h4 h5
      rw [hw, h6] at this
      cases this
theorem lu_pT (hmx : Single (bothOn W n k)) (z : Nat) (hz : z < 2 ^ n) (hx4 : z % 2 ^ k < 4) (hy4 : z / 2 ^ k < 4) : ∀ f A B, A < 16 → B < 16 → A + B < f → A.testBit (z % 2 ^ k) = true → B.testBit (z / 2 ^ k) = true →
    lu (z % 2 ^ k) (z / 2 ^ k) (pT (bothOn W n k) (isOne W n k) f A B) = if W.testBit z then 49 else 48
  | 0, A, B, _, _, h, _, _ => by omega
  | f + 1, A, B, hA, hB, h, h1, h2 => by
    simp only [pT]
    cases hx : bothOn W n k A B with
    | false =>
      rw [if_neg (by decide), one_rect W n k hx hz h1 h2]
      cases W.testBit z <;> rfl
    | true =>
      rw [if_pos rfl]
      cases e1 : ff (rowP (bothOn W n k) A B) 16 0 with
      | some x =>
        obtain ⟨hs, hx16, _, _⟩ := row_sub e1
        have hlt := sub_lt A hA x hx16 hs
        obtain ⟨g1, _, _⟩ := pT_ok (bothOn W n k) (isOne W n k) hmx f (A - x) B (by omega) hB (by omega)
        obtain ⟨b1, b2⟩ := sub_bits hA hx16 hs hx4
        simp only [lu, gu_nil g1]
        rw [if_neg (by decide)]
        show (if x.testBit (z % 2 ^ k) then _ else _) = _
        cases hb : x.testBit (z % 2 ^ k) with
        | true => rw [if_pos rfl]; exact lu_pT hmx z hz hx4 hy4 f x B (by omega) hB (by omega) hb h2
        | false => rw [if_neg (by decide)]; exact lu_pT hmx z hz hx4 hy4 f (A - x) B (by omega) hB (by omega) (by rw [b1, h1, hb]; rfl) h2
      | none =>
        cases e2 : ff (colP (bothOn W n k) A B) 16 0 with
        | some y =>
          obtain ⟨hs, hy16, _, _⟩ := col_sub e2
          have hlt := sub_lt B hB y hy16 hs
          obtain ⟨g1, _, _⟩ := pT_ok (bothOn W n k) (isOne W n k) hmx f A (B - y) hA (by omega) (by omega)
          obtain ⟨b1, b2⟩ := sub_bits hB hy16 hs hy4
          simp only [lu, gu_nil g1]
          rw [if_neg (by decide)]
          show (if y.testBit (z / 2 ^ k) then _ else _) = _
          cases hb : y.testBit (z / 2 ^ k) with
          | true => rw [if_pos rfl]; exact lu_pT hmx z hz hx4 hy4 f A y hA (by omega) (by omega) h1 hb
          | false => rw [if_neg (by decide)]; exact lu_pT hmx z hz hx4 hy4 f A (B - y) hA (by omega) (by omega) h1 (by rw [b1, h2, hb]; rfl)
        | none => exact (some_part hmx hA hB hx e1 e2).elim

def lvv (v : Nat) : Tr → Nat
  | .nil => 0
  | .node s _ a c => if a.isNil then (if s.toNat = 48 + v then 1 else 0) else lvv v a + lvv v c
theorem lvv_sum : ∀ T, gu T → lvv 0 T + lvv 1 T = nlv T
  | .nil, h => h.elim
  | .node s b a c, h => by
    obtain ⟨m, rfl, h⟩ := h
    rcases h with ⟨h, rfl, rfl, rfl⟩ | ⟨h, d, hd', rfl, ga, gc⟩
    · rcases h with rfl | rfl <;> rfl
    · have h1 := lvv_sum a ga
      have h2 := lvv_sum c gc
      simp only [lvv, nlv, gu_nil ga]
      rw [if_neg (by decide), if_neg (by decide), if_neg (by decide)]
      omega
def inRect (A B y : Nat) : Bool := A.testBit (y % 2 ^ k) && B.testBit (y / 2 ^ k)
def Foo (v : Nat) (L : List Nat) : Prop := L.Pairwise (fun a b => apt W k v a b = true) ∧ ∀ y ∈ L, bw W y = v ∧ y < 2 ^ n
theorem ml_some (v : Nat) : ∀ (d x : Nat) (l : List Nat), Foo W n k v l → x + d ≤ 2 ^ n → ∃ L, Foo W n k v L ∧ L.length = ml W k v d x l
  | 0, x, l, h, _ => ⟨l, h, rfl⟩
  | d + 1, x, l, h, hx => by
    simp only [ml]
    cases he : ext W k v l x with
    | false => rw [if_neg (by decide)]; exact ml_some v d (x + 1) l h (by omega)
    | true =>
      rw [if_pos rfl]
      unfold ext at he
      simp only [Bool.and_eq_true, beq_iff_eq, List.all_eq_true] at he
      have hn : Foo W n k v (l ++ [x]) := by
        refine ⟨List.pairwise_append.2 ⟨h.1, List.pairwise_singleton _ _, fun a ha b hb => ?_⟩, fun y hy => ?_⟩
        · simp only [List.mem_singleton] at hb; subst hb; exact he.2 a ha
        · rcases List.mem_append.1 hy with hy | hy
          · exact h.2 y hy
          · simp only [List.mem_singleton] at hy; subst hy; exact ⟨he.1, by omega⟩
      rcases Nat.le_total (ml W k v d (x + 1) (l ++ [x])) (ml W k v d (x + 1) l) with hle | hle
      · rw [Nat.max_eq_right hle]; exact ml_some v d (x + 1) l h (by omega)
      · rw [Nat.max_eq_left hle]; exact ml_some v d (x + 1) (l ++ [x]) hn (by omega)
theorem cr_parts : ∀ k, k ≤ 2 → ∀ x, x < 16 → ∀ y, y < 16 → (cr k x y % 2 ^ k = x % 2 ^ k ∧ cr k x y / 2 ^ k = y / 2 ^ k) := by decide +kernel
theorem cr_lt : ∀ n, n ≤ 4 → ∀ k, k ≤ 2 → ∀ x, x < 2 ^ n → ∀ y, y < 2 ^ n → cr k x y < 2 ^ n := by decide +kernel
theorem rect_split (L : List Nat) (p q r : Nat → Bool) (h : ∀ y ∈ L, p y = true → q y = true ∨ r y = true) : (L.filter p).length ≤ (L.filter q).length + (L.filter r).length := by
  induction L with
  | nil => exact Nat.zero_le _
  | cons y L ih =>
    have ih := ih fun z hz => h z (by simp [hz])
    have h1 := h y (by simp)
    simp only [List.filter_cons]
    cases hp : p y with
    | false =>
      rw [if_neg (by decide)]
      cases q y <;> cases r y <;> simp <;> omega
    | true =>
      rw [if_pos rfl]
      cases hq : q y <;> cases hr : r y
      · rw [hq, hr] at h1; rcases h1 hp with e | e <;> cases e
      all_goals (simp only [Bool.false_eq_true, if_false, if_true, List.length_cons]; omega)
theorem fool_le (hmx : Single (bothOn W n k)) (hk2 : k ≤ 2) (hkn' : k ≤ n) (hq' : n - k ≤ 2) (v : Nat) (hv : v ≤ 1) (L : List Nat) (hL : Foo W n k v L) : ∀ f A B, A < 16 → B < 16 → A + B < f →
    (L.filter (inRect k A B)).length ≤ lvv v (pT (bothOn W n k) (isOne W n k) f A B)
  | 0, A, B, _, _, h => by omega
  | f + 1, A, B, hA, hB, h => by
    have hn4 : n ≤ 4 := by omega
    have h16 : 2 ^ n ≤ 16 := (Nat.pow_le_pow_right (by decide) hn4 : 2 ^ n ≤ 2 ^ 4)
    have hkp : 2 ^ k ≤ 4 := (Nat.pow_le_pow_right (by decide) hk2 : 2 ^ k ≤ 2 ^ 2)
    have small : ∀ y ∈ L, y % 2 ^ k < 4 ∧ y / 2 ^ k < 4 := fun y hy => by
      have hy' := (hL.2 y hy).2
      have h1 := Nat.mod_lt y (two_pos k)
      have h2 : y / 2 ^ k < 2 ^ (n - k) := by
        rw [Nat.div_lt_iff_lt_mul (two_pos k), ← Nat.pow_add, show n - k + k = n by omega]; exact hy'
      have h3 : 2 ^ (n - k) ≤ 4 := (Nat.pow_le_pow_right (by decide) hq' : 2 ^ (n - k) ≤ 2 ^ 2)
      omega
    simp only [pT]
    cases hx : bothOn W n k A B with
    | false =>
      rw [if_neg (by decide)]
      have mem : ∀ y ∈ L.filter (inRect k A B), y ∈ L ∧ A.testBit (y % 2 ^ k) = true ∧ B.testBit (y / 2 ^ k) = true := fun y hy => by
        have := List.mem_filter.1 hy
        unfold inRect at this
        rw [Bool.and_eq_true] at this
        exact ⟨this.1, this.2.1, this.2.2⟩
      have hpw : (L.filter (inRect k A B)).Pairwise (fun a b => apt W k v a b = true) := hL.1.sublist List.filter_sublist
      cases hf : L.filter (inRect k A B) with
      | nil => exact Nat.zero_le _
      | cons a M =>
        rw [hf] at mem hpw
        obtain ⟨ma, a1, a2⟩ := mem a (by simp)
        have hone := one_rect W n k hx (hL.2 a ma).2 a1 a2
        have hbv := (hL.2 a ma).1
        cases M with
        | cons b M =>
          exfalso
          obtain ⟨mb, b1, b2⟩ := mem b (by simp)
          have hap : apt W k v a b = true := (List.pairwise_cons.1 hpw).1 b (by simp)
          have la := (hL.2 a ma).2
          have lb := (hL.2 b mb).2
          have c1 := cr_parts k hk2 a (by omega) b (by omega)
          have c2 := cr_parts k hk2 b (by omega) a (by omega)
          have w1 := mono_rect W n k hx la (cr_lt n hn4 k hk2 a la b lb) a1 a2 (by rw [c1.1]; exact a1) (by rw [c1.2]; exact b2)
          have w2 := mono_rect W n k hx la (cr_lt n hn4 k hk2 b lb a la) a1 a2 (by rw [c2.1]; exact b1) (by rw [c2.2]; exact a2)
          unfold apt at hap
          have e1 : bw W (cr k a b) = v := by rw [← hbv]; unfold bw; rw [w1]
          have e2 : bw W (cr k b a) = v := by rw [← hbv]; unfold bw; rw [w2]
          rw [e1, e2, bne_self_eq_false] at hap
          cases hap
        | nil =>
          have : (if isOne W n k A B then 49 else 48) = 48 + v := by
            rw [hone]
            unfold bw at hbv
            cases hw : W.testBit a with
            | true => rw [hw, if_pos rfl] at hbv; rw [if_pos rfl, ← hbv]
            | false => rw [hw, if_neg (by decide)] at hbv; rw [if_neg (by decide), ← hbv]
          simp only [lvv, List.length_cons, List.length_nil, Int.toNat_natCast]
          rw [if_pos (by rfl), if_pos this]
          exact Nat.le_refl _
    | true =>
      rw [if_pos rfl]
      cases e1 : ff (rowP (bothOn W n k) A B) 16 0 with
      | some x =>
        obtain ⟨hs, hx16, _, _⟩ := row_sub e1
        have hlt := sub_lt A hA x hx16 hs
        obtain ⟨g1, _, _⟩ := pT_ok (bothOn W n k) (isOne W n k) hmx f (A - x) B (by omega) hB (by omega)
        have i1 := fool_le hmx hk2 hkn' hq' v hv L hL f (A - x) B (by omega) hB (by omega)
        have i2 := fool_le hmx hk2 hkn' hq' v hv L hL f x B (by omega) hB (by omega)
        have := rect_split L (inRect k A B) (inRect k (A - x) B) (inRect k x B) fun y hy hp => by
          obtain ⟨s1, s2⟩ := small y hy
          unfold inRect at hp ⊢
          rw [Bool.and_eq_true] at hp
          obtain ⟨b1, b2⟩ := sub_bits hA hx16 hs s1
          rw [b1, hp.1, hp.2]
          cases x.testBit (y % 2 ^ k) <;> simp
        simp only [lvv, gu_nil g1]
        rw [if_neg (by decide)]
        omega
      | none =>
        cases e2 : ff (colP (bothOn W n k) A B) 16 0 with
        | some y =>
          obtain ⟨hs, hy16, _, _⟩ := col_sub e2
          have hlt := sub_lt B hB y hy16 hs
          obtain ⟨g1, _, _⟩ := pT_ok (bothOn W n k) (isOne W n k) hmx f A (B - y) hA (by omega) (by omega)
          have i1 := fool_le hmx hk2 hkn' hq' v hv L hL f A (B - y) hA (by omega) (by omega)
          have i2 := fool_le hmx hk2 hkn' hq' v hv L hL f A y hA (by omega) (by omega)
          have := rect_split L (inRect k A B) (inRect k A (B - y)) (inRect k A y) fun z hz hp => by
            obtain ⟨s1, s2⟩ := small z hz
            unfold inRect at hp ⊢
            rw [Bool.and_eq_true] at hp
            obtain ⟨b1, b2⟩ := sub_bits hB hy16 hs s2
            rw [b1, hp.1, hp.2]
            cases y.testBit (z / 2 ^ k) <;> simp
          simp only [lvv, gu_nil g1]
          rw [if_neg (by decide)]
          omega
        | none => exact (some_part hmx hA hB hx e1 e2).elim
end
end Go.Proofs.YtddflpokemgnmaaDoor
namespace Go.Proofs.YtddflpokemgnmaaDoor
open Go.Rv
set_option linter.unusedVariables false
variable {β : Type}
def sums : List Nat → List Nat
  | [] => [0]
  | b :: l => sums l ++ (sums l).map fun x => x ^^^ b
theorem sums_len : ∀ l, (sums l).length = 2 ^ l.length
  | [] => rfl
  | b :: l => by
    simp only [sums, List.length_append, List.length_map, sums_len l, List.length_cons, Nat.pow_succ]
    omega
theorem mem_sums : ∀ (l : List Nat) (x : Nat), x ∈ sums l ↔ spB l x = true
  | [], x => by simp [sums, spB]
  | b :: l, x => by
    simp only [sums, spB, List.mem_append, List.mem_map, Bool.or_eq_true, ← mem_sums l]
    constructor
    · rintro (h | ⟨z, hz, rfl⟩)
      · exact .inl h
      · exact .inr (by rw [xor_back]; exact hz)
    · rintro (h | h)
      · exact .inl h
      · exact .inr ⟨_, h, xor_back x b⟩
theorem nodup_le : ∀ (l m : List Nat), l.Nodup → (∀ x ∈ l, x ∈ m) → l.length ≤ m.length
  | [], m, _, _ => Nat.zero_le _
  | x :: l, m, hn, h => by
    have hx := h x (by simp)
    obtain ⟨h1, h2⟩ := List.nodup_cons.1 hn
    have ih := nodup_le l (m.erase x) h2 fun y hy => (List.mem_erase_of_ne (by intro e; subst e; exact h1 hy)).2 (h y (by simp [hy]))
    rw [List.length_erase_of_mem hx] at ih
    have := List.length_pos_of_mem hx
    simp only [List.length_cons]
    omega
theorem sp_members {D G : List Nat} (h : ∀ d ∈ D, spB G d = true) : ∀ {x : Nat}, spB D x = true → spB G x = true := by
  induction D with
  | nil => intro x hx; simp only [spB, beq_iff_eq] at hx; rw [hx]; exact sp_zero G
  | cons b D ih =>
    intro x hx
    simp only [spB, Bool.or_eq_true] at hx
    have ih := fun {x} => @ih (fun d hd => h d (by simp [hd])) x
    rcases hx with hx | hx
    · exact ih hx
    · have := sp_xor G (ih hx) (h b (by simp))
      rwa [xor_back] at this
theorem rk_ind (P : Nat → Prop) : ∀ (rest done D : List Nat), (∀ x, spB D x = spB done x) → (sums D).Nodup → (∀ d ∈ D, P d) → (∀ r ∈ rest, P r) →
    ∃ D', (sums D').Nodup ∧ D'.length = D.length + rkn done rest ∧ ∀ d ∈ D', P d
  | [], done, D, _, hn, hD, _ => ⟨D, hn, rfl, hD⟩
  | r :: rest, done, D, hs, hn, hD, hR => by
    simp only [rkn]
    cases h : spB done r with
    | true =>
      rw [if_pos rfl, Nat.zero_add]
      exact rk_ind P rest (r :: done) D (sp_in hs (by rw [hs]; exact h)) hn hD fun x hx => hR x (by simp [hx])
    | false =>
      rw [if_neg (by decide)]
      have hnr : spB D r = false := by rw [hs]; exact h
      obtain ⟨D', h1, h2, h3⟩ := rk_ind P rest (r :: done) (r :: D) (fun x => by simp only [spB, hs]) (by
        simp only [sums]
        refine List.nodup_append.2 ⟨hn, ?_, fun a ha b hb e => ?_⟩
        · refine List.Pairwise.map _ (fun a b hab e => hab ?_) hn
          have := congrArg (fun z => z ^^^ r) e
          simpa [xor_back] using this
        · subst e
          obtain ⟨z, hz, e⟩ := List.mem_map.1 hb
          have h1 := (mem_sums D a).1 ha
          have h2 := (mem_sums D z).1 hz
          have := sp_xor D h2 h1
          rw [← e, ← Nat.xor_assoc, Nat.xor_self, Nat.zero_xor, hnr] at this
          cases this) (fun d hd => by
            rcases List.mem_cons.1 hd with rfl | hd
            · exact hR _ (by simp)
            · exact hD d hd) fun x hx => hR x (by simp [hx])
      exact ⟨D', h1, by rw [h2, List.length_cons]; omega, h3⟩
theorem rank_le (G rows : List Nat) (h : ∀ r ∈ rows, spB G r = true) : rkn [] rows ≤ G.length := by
  obtain ⟨D, h1, h2, h3⟩ := rk_ind (fun r => spB G r = true) rows [] [] (fun _ => rfl) (by simp [sums]) (by simp) h
  have := nodup_le (sums D) (sums G) h1 fun x hx => (mem_sums G x).2 (sp_members h3 ((mem_sums D x).1 hx))
  rw [sums_len, sums_len] at this
  have := (Nat.pow_le_pow_iff_right (by decide : 1 < 2)).1 this
  simp only [List.length_nil, Nat.zero_add] at h2
  omega
theorem sp_left {l : List Nat} (m : List Nat) : ∀ {x : Nat}, spB l x = true → spB (l ++ m) x = true := by
  induction l with
  | nil => intro x h; simp only [spB, beq_iff_eq] at h; rw [h]; exact sp_zero _
  | cons b l ih =>
    intro x h
    simp only [List.cons_append, spB, Bool.or_eq_true] at h ⊢
    exact h.imp ih ih
theorem sp_right (l : List Nat) {m : List Nat} : ∀ {x : Nat}, spB m x = true → spB (l ++ m) x = true := by
  induction l with
  | nil => intro x h; exact h
  | cons b l ih =>
    intro x h
    simp only [List.cons_append, spB, Bool.or_eq_true]
    exact .inl (ih h)

def gB (mx vl : Nat → Nat → Bool) : Nat → Nat → Nat → List Nat
  | 0, _, _ => []
  | f + 1, A, B => if mx A B then match ff (rowP mx A B) 16 0 with
      | some x => gB mx vl f (A - x) B ++ gB mx vl f x B
      | none => match ff (colP mx A B) 16 0 with
        | some y => gB mx vl f A (B - y) ++ gB mx vl f A y
        | none => []
    else if vl A B then [B] else []
section
variable (W n k : Nat)
theorem gB_len (hmx : Single (bothOn W n k)) : ∀ f A B, A < 16 → B < 16 → A + B < f → (gB (bothOn W n k) (isOne W n k) f A B).length = lvv 1 (pT (bothOn W n k) (isOne W n k) f A B)
  | 0, A, B, _, _, h => by omega
  | f + 1, A, B, hA, hB, h => by
    simp only [pT, gB]
    cases hx : bothOn W n k A B with
    | false =>
      simp only [Bool.false_eq_true, if_false]
      cases isOne W n k A B <;> rfl
    | true =>
      rw [if_pos rfl, if_pos rfl]
      cases e1 : ff (rowP (bothOn W n k) A B) 16 0 with
      | some x =>
        obtain ⟨hs, hx16, _, _⟩ := row_sub e1
        have hlt := sub_lt A hA x hx16 hs
        obtain ⟨g1, _, _⟩ := pT_ok (bothOn W n k) (isOne W n k) hmx f (A - x) B (by omega) hB (by omega)
        simp only [lvv, gu_nil g1, List.length_append, gB_len hmx f (A - x) B (by omega) hB (by omega), gB_len hmx f x B (by omega) hB (by omega)]
        rw [if_neg (by decide)]
      | none =>
        cases e2 : ff (colP (bothOn W n k) A B) 16 0 with
        | some y =>
          obtain ⟨hs, hy16, _, _⟩ := col_sub e2
          have hlt := sub_lt B hB y hy16 hs
          obtain ⟨g1, _, _⟩ := pT_ok (bothOn W n k) (isOne W n k) hmx f A (B - y) hA (by omega) (by omega)
          simp only [lvv, gu_nil g1, List.length_append, gB_len hmx f A (B - y) hA (by omega) (by omega), gB_len hmx f A y hA (by omega) (by omega)]
          rw [if_neg (by decide)]
        | none => exact (some_part hmx hA hB hx e1 e2).elim
theorem high16 {A j : Nat} (h : A < 16) (hj : 4 ≤ j) : A.testBit j = false :=
  Nat.testBit_lt_two_pow (Nat.lt_of_lt_of_le h (Nat.pow_le_pow_right (by decide) hj : 2 ^ 4 ≤ 2 ^ j))
theorem row_span (hmx : Single (bothOn W n k)) (hk : k ≤ 2) (hkn : k ≤ n) (hq : n - k ≤ 2) (r : Nat) (hr : r < 2 ^ k) : ∀ f A B, A < 16 → B < 2 ^ 2 ^ (n - k) → A + B < f → A.testBit r = true →
    spB (gB (bothOn W n k) (isOne W n k) f A B) (mrow W k (2 ^ (n - k)) r &&& B) = true
  | 0, A, B, _, _, h, _ => by omega
  | f + 1, A, B, hA, hB, h, h1 => by
    have hB16 : B < 16 := Nat.lt_of_lt_of_le hB (by
      have : ∀ j, j ≤ 2 → 2 ^ 2 ^ j ≤ 16 := by decide
      exact this (n - k) hq)
    have hkp : 2 ^ k ≤ 4 := (Nat.pow_le_pow_right (by decide) hk : 2 ^ k ≤ 2 ^ 2)
    have hpn : 2 ^ (k + (n - k)) = 2 ^ n := by rw [show k + (n - k) = n by omega]
    simp only [gB]
    cases hx : bothOn W n k A B with
    | false =>
      simp only [Bool.false_eq_true, if_false]
      have bits : ∀ c, (mrow W k (2 ^ (n - k)) r &&& B).testBit c = (isOne W n k A B && B.testBit c) := fun c => by
        rw [Nat.testBit_and]
        cases hc : B.testBit c with
        | false => simp
        | true =>
          have hc2 : c < 2 ^ (n - k) := by
            rcases Nat.lt_or_ge c (2 ^ (n - k)) with h | h
            · exact h
            · rw [Nat.testBit_lt_two_pow (Nat.lt_of_lt_of_le hB (Nat.pow_le_pow_right (by decide) h))] at hc; cases hc
          obtain ⟨p1, p2, p3⟩ := small_parts k hk (n - k) hq r hr c hc2
          rw [hpn] at p1
          have := one_rect W n k hx p1 (by rw [p2]; exact h1) (by rw [p3]; exact hc)
          unfold mrow
          rw [tabw_bit, decide_eq_true hc2, this]
          simp
      cases ho : isOne W n k A B with
      | true =>
        rw [if_pos rfl]
        have : mrow W k (2 ^ (n - k)) r &&& B = B := Nat.eq_of_testBit_eq fun c => by rw [bits, ho, Bool.true_and]
        rw [this]
        exact sp_mem (by simp)
      | false =>
        rw [if_neg (by decide)]
        have : mrow W k (2 ^ (n - k)) r &&& B = 0 := Nat.eq_of_testBit_eq fun c => by rw [bits, ho]; simp
        rw [this]
        exact sp_zero _
    | true =>
      rw [if_pos rfl]
      cases e1 : ff (rowP (bothOn W n k) A B) 16 0 with
      | some x =>
        obtain ⟨hs, hx16, _, _⟩ := row_sub e1
        have hlt := sub_lt A hA x hx16 hs
        obtain ⟨b1, b2⟩ := sub_bits hA hx16 hs (by omega : r < 4)
        dsimp only
        cases hb : x.testBit r with
        | true => exact sp_right _ (row_span hmx hk hkn hq r hr f x B (by omega) hB (by omega) hb)
        | false => exact sp_left _ (row_span hmx hk hkn hq r hr f (A - x) B (by omega) hB (by omega) (by rw [b1, h1, hb]; rfl))
      | none =>
        cases e2 : ff (colP (bothOn W n k) A B) 16 0 with
        | some y =>
          obtain ⟨hs, hy16, _, _⟩ := col_sub e2
          have hlt := sub_lt B hB16 y hy16 hs
          have i1 := row_span hmx hk hkn hq r hr f A (B - y) hA (by omega) (by omega) h1
          have i2 := row_span hmx hk hkn hq r hr f A y hA (by omega) (by omega) h1
          have e : mrow W k (2 ^ (n - k)) r &&& B = (mrow W k (2 ^ (n - k)) r &&& (B - y)) ^^^ (mrow W k (2 ^ (n - k)) r &&& y) := Nat.eq_of_testBit_eq fun c => by
            rw [Nat.testBit_xor, Nat.testBit_and, Nat.testBit_and, Nat.testBit_and]
            rcases Nat.lt_or_ge c 4 with hc | hc
            · obtain ⟨b1, b2⟩ := sub_bits hB16 hy16 hs hc
              rw [b1]
              cases hyc : y.testBit c with
              | true => rw [b2 hyc]; simp
              | false => simp
            · rw [high16 hB16 hc, high16 hy16 hc, high16 (by omega : B - y < 16) hc]; simp
          dsimp only
          rw [e]
          exact sp_xor _ (sp_left _ i1) (sp_right _ i2)
        | none => exact (some_part hmx hA hB16 hx e1 e2).elim
theorem rank_leaves (hmx : Single (bothOn W n k)) (hk : k ≤ 2) (hkn : k ≤ n) (hq : n - k ≤ 2) (f : Nat) (hf : top k + top (n - k) < f) :
    rkn [] (rowsN W k (2 ^ (n - k)) (2 ^ k)) ≤ lvv 1 (pT (bothOn W n k) (isOne W n k) f (top k) (top (n - k))) := by
  have h1 := top_ok k hk
  have h2 := top_ok (n - k) hq
  rw [← gB_len W n k hmx f _ _ h1.2.2 h2.2.2 hf]
  refine rank_le _ _ fun x hx => ?_
  obtain ⟨r, hr, rfl⟩ := List.mem_map.1 hx
  rw [List.mem_range] at hr
  have ht : (top k).testBit r = true := by unfold top; rw [Nat.testBit_two_pow_sub_one]; exact decide_eq_true hr
  have := row_span W n k hmx hk hkn hq r hr f (top k) (top (n - k)) h1.2.2 h2.1 hf ht
  have hm : mrow W k (2 ^ (n - k)) r &&& top (n - k) = mrow W k (2 ^ (n - k)) r := by
    unfold top
    exact Nat.and_two_pow_sub_one_of_lt_two_pow (tabw_lt _ _)
  rwa [hm] at this
end
end Go.Proofs.YtddflpokemgnmaaDoor
namespace Go.Proofs.YtddflpokemgnmaaDoor
open Go.Rv
set_option linter.unusedVariables false
variable {β : Type}
theorem l1Text_loop (N : Nat) (b : List Int) (hb : b.length ≤ 9223372036854775807) (v : Int) : ∀ (d F : Nat) (i h : Int) (acc : List Int), d < F → acc.length + d ≤ 1000 → 0 ≤ i →
    ∃ (acc' : List Int) (i' h' : Int), acc'.length ≤ acc.length + d ∧ 0 ≤ i' ∧ ∀ k0 : List Int → Int → Int → List Int → Option β, zj134 N F v (d : Int) b i h acc k0 = k0 b i' h' acc' := by
  intro d
  induction d with
  | zero =>
    intro F i h acc hF _ h0
    obtain ⟨G, rfl⟩ : ∃ G, F = G + 1 := ⟨F - 1, by omega⟩
    refine ⟨acc, i, h, by omega, h0, fun k0 => ?_⟩
    simp only [zj134, zj133]
    rfl
  | succ d ih =>
    intro F i h acc hF hd h0
    obtain ⟨G, rfl⟩ : ∃ G, F = G + 1 := ⟨F - 1, by omega⟩
    obtain ⟨r, i1, h1, r1, p1, e1⟩ := l1Byte_ends (β := β) N b i h h0 hb
    have hw : w64 (((d + 1 : Nat) : Int) - 1) = (d : Int) := by rw [w64_id] <;> omega
    have step : ∀ y : Int, ∃ (acc' : List Int) (i' h' : Int), acc'.length ≤ acc.length + (d + 1) ∧ 0 ≤ i' ∧ ∀ k0 : List Int → Int → Int → List Int → Option β, (gd (decide ((acc.length + (([] : List Int) ++ [y]).length) * 1 ≤ 140737488355328)) (zj134 N G v (d : Int) b i1 h1 (acc ++ (([] : List Int) ++ [y])) k0)) = k0 b i' h' acc' := fun y => by
      obtain ⟨acc', i', h', l1, p2, e2⟩ := ih G i1 h1 (acc ++ [y]) (by omega) (by simp; omega) p1
      refine ⟨acc', i', h', by simp at l1; omega, p2, fun k0 => ?_⟩
      rw [gd_true (decide_eq_true (by simp; omega))]
      exact e2 k0
    simp only [zj134, zj133]
    simp only [decide_eq_true (by omega : ((d + 1 : Nat) : Int) > 0), cond_true, e1, hw]
    cases v == 1 <;> cases v == 2 <;> simp only [cond_true, cond_false] <;> exact step _
theorem l1Text_ends (N : Nat) (hN : 1048576 < N) (b : List Int) (hb : b.length ≤ 9223372036854775807) (i h : Int) (h0 : 0 ≤ i) :
    ∃ (s : List UInt8) (i' h' : Int), s.length ≤ 3 ∧ 0 ≤ i' ∧ ∀ k0 : ByteArray → List Int → Int → Int → Option β, zj135 N 3 b i h k0 = k0 (B s) b i' h' := by
  unfold zj135
  obtain ⟨x, i1, h1, -, -, p1, e1⟩ := l1Below_ends (β := β) N 4 b i h (by decide) h0 hb
  obtain ⟨y, i2, h2, y2, -, p2, e2⟩ := l1Below_ends (β := β) N 4 b i1 h1 (by decide) p1 hb
  obtain ⟨acc, i3, h3, l3, p3, e3⟩ := l1Text_loop (β := β) N b hb (x : Int) y N i2 h2 [] (by have := y2 (by decide); omega) (by have := y2 (by decide); simp; omega) p2
  refine ⟨acc.map fun n => UInt8.ofNat n.toNat, i3, h3, by have := y2 (by decide); simp at l3 ⊢; omega, p3, fun k0 => ?_⟩
  rw [e1, show w64 (3 + 1) = 4 from rfl, e2, e3, B_strOf]
theorem l1Spoil_ends (N : Nat) (hN : 1048576 < N) (b : List Int) (hb : b.length ≤ 9223372036854775807) (s : List UInt8) (hs : s.length ≤ 200) (i h : Int) (h0 : 0 ≤ i) :
    ∃ (t : List UInt8) (i' h' : Int), t.length ≤ s.length + 3 ∧ 0 ≤ i' ∧ ∀ k0 : ByteArray → List Int → Int → Int → Option β, zj136 N (B s) b i h k0 = k0 (B t) b i' h' := by
  unfold zj136
  rw [B_size]
  by_cases hs0 : s.length = 0
  · obtain ⟨t, i1, h1, l1, p1, e1⟩ := l1Text_ends (β := β) N hN b hb i h h0
    refine ⟨t, i1, h1, by omega, p1, fun k0 => ?_⟩
    rw [beq_iff_eq.2 (by omega), cond_true, e1]
  · obtain ⟨x, i1, h1, x1, -, p1, e1⟩ := l1Below_ends (β := β) N (s.length : Int) b i h (by omega) h0 hb
    obtain ⟨y, i2, h2, -, -, p2, e2⟩ := l1Below_ends (β := β) N 4 b i1 h1 (by decide) p1 hb
    have hx : x < s.length := by have := x1 (by omega); omega
    have hw : w64 ((x : Int) + 1) = ((x + 1 : Nat) : Int) := w64_succ x (by omega)
    have hz : (B s).extract 0 (Int.toNat (x : Int)) = B (s.take x) := by rw [B_ext, Int.toNat_natCast]; simp
    have ht : (B s).extract (Int.toNat ((x + 1 : Nat) : Int)) s.length = B (s.drop (x + 1)) := by rw [B_ext, Int.toNat_natCast, List.take_length]
    have ht0 : (B s).extract (Int.toNat (x : Int)) s.length = B (s.drop x) := by rw [B_ext, Int.toNat_natCast, List.take_length]
    have hn0 : ((s.length : Int) == 0) = false := beq_eq_false_iff_ne.2 (by omega)
    simp only [hn0, cond_false, e1, e2, hw, hz, ht, ht0]
    have d1 : decide ((0 : Int) ≤ (x : Int)) = true := decide_eq_true (by omega)
    have d2 : decide ((x : Int) ≤ (s.length : Int)) = true := decide_eq_true (by omega)
    have d3 : decide ((0 : Int) ≤ ((x + 1 : Nat) : Int)) = true := decide_eq_true (by omega)
    have d4 : decide (((x + 1 : Nat) : Int) ≤ (s.length : Int)) = true := decide_eq_true (by omega)
    have d5 : decide ((x : Int) < (s.length : Int)) = true := decide_eq_true (by omega)
    have small : ∀ a c : List UInt8, a.length ≤ 1000 → c.length ≤ 1000 → decide ((B a).size + (B c).size ≤ 9223372036854775807) = true := fun a c ha hc => decide_eq_true (by rw [B_size, B_size]; omega)
    have one : ∀ n : Int, strOf (([] : List Int) ++ [n]) = B [UInt8.ofNat n.toNat] := B_one
    have lt : (s.take x).length ≤ 1000 := by rw [List.length_take]; omega
    have ld : (s.drop x).length ≤ 1000 := by rw [List.length_drop]; omega
    have ld1 : (s.drop (x + 1)).length ≤ 1000 := by rw [List.length_drop]; omega
    simp only [d1, d2, d3, d4, d5, gd, cond_true, one]
    by_cases y0 : (y : Int) = 0
    · refine ⟨s.take x ++ s.drop (x + 1), i2, h2, by rw [List.length_append, List.length_take, List.length_drop]; omega, p2, fun k0 => ?_⟩
      rw [beq_iff_eq.2 y0, cond_true, small _ _ lt ld1, B_app]; rfl
    · rw [beq_eq_false_iff_ne.2 y0]
      by_cases y1 : (y : Int) = 1
      · obtain ⟨z, i3, h3, -, p3, e3⟩ := l1Byte_ends (β := β) N b i2 h2 p2 hb
        refine ⟨(s.take x ++ [UInt8.ofNat (w8 (z : Int)).toNat]) ++ s.drop x, i3, h3, by simp only [List.length_append, List.length_take, List.length_drop, List.length_cons, List.length_nil]; omega, p3, fun k0 => ?_⟩
        rw [cond_false, beq_iff_eq.2 y1, cond_true, e3, small _ _ lt (by simp), cond_true, B_app, small _ _ (by simp; omega) ld, cond_true, B_app]
      · rw [beq_eq_false_iff_ne.2 y1]
        by_cases y2 : (y : Int) = 2
        · refine ⟨s.take x, i2, h2, by rw [List.length_take]; omega, p2, fun k0 => ?_⟩
          rw [cond_false, cond_false, beq_iff_eq.2 y2, cond_true]
        · obtain ⟨z, i3, h3, -, -, p3, e3⟩ := l1Below_ends (β := β) N 255 b i2 h2 (by decide) p2 hb
          refine ⟨(s.take x ++ [UInt8.ofNat (w8 (bits .xor .i64 (w64 (bt (B s) (x : Int))) (w64 (1 + (z : Int))))).toNat]) ++ s.drop (x + 1), i3, h3, by simp only [List.length_append, List.length_take, List.length_drop, List.length_cons, List.length_nil]; omega, p3, fun k0 => ?_⟩
          rw [cond_false, cond_false, beq_eq_false_iff_ne.2 y2, cond_false, e3, small _ _ lt (by simp), cond_true, B_app, small _ _ (by simp; omega) ld1, cond_true, B_app]
end Go.Proofs.YtddflpokemgnmaaDoor
namespace Go.Proofs.YtddflpokemgnmaaDoor
open Go.Rv
set_option linter.unusedVariables false
variable {β : Type}
def in63 (a : Int) : Prop := -9223372036854775808 ≤ a ∧ a ≤ 9223372036854775807
theorem l2Any_in (N : Nat) (hN : 64 < N) (b : List Int) (i h : Int) (h0 : 0 ≤ i) (hb : b.length ≤ 9223372036854775807) :
    ∃ n w i' h' : Int, in63 n ∧ w < 9223372036854775808 ∧ 0 ≤ i' ∧ ∀ k0 : Int → Int → List Int → Int → Int → Option β, zj23 N b i h k0 = k0 n w b i' h' := by
  unfold zj23
  obtain ⟨n, i1, h1, r1, -, p1, e1⟩ := l1Below_ends (β := β) N 5 b i h (by decide) h0 hb
  have hn : n ≤ 5 := by have := r1 (by decide); omega
  obtain ⟨w, i2, h2, hw, p2, e2⟩ := l2Draw_ends (β := β) N n hN hn b i1 h1 p1 hb
  obtain ⟨q, i3, h3, -, -, p3, e3⟩ := l1Below_ends (β := β) N 14 b i2 h2 (by decide) p2 hb
  simp only [e1, e2, e3]
  cases c0 : ((q : Int) == 0) with
  | true =>
    obtain ⟨r, i', h', hr, q2, e4⟩ := l1PickInt_ends (β := β) N b i3 h3 (((((([] : List Int) ++ [(-1)]) ++ [6]) ++ [5]) ++ [0]) ++ [9223372036854775807]) (by decide) (by decide) p3 hb
    refine ⟨r, w, i', h', ?_, hw, q2, fun k0 => by rw [cond_true]; exact e4 _⟩
    have : ∀ r ∈ (((((([] : List Int) ++ [(-1)]) ++ [6]) ++ [5]) ++ [0]) ++ [9223372036854775807]), -9223372036854775808 ≤ r ∧ r ≤ 9223372036854775807 := by decide
    exact this r hr
  | false =>
    cases c1 : ((q : Int) == 1) with
    | true =>
      obtain ⟨r, i', h', hr, q2, e4⟩ := l1PickInt_ends (β := β) N b i3 h3 (((((([] : List Int) ++ [(-1)]) ++ [0]) ++ [1]) ++ [65536]) ++ [9223372036854775807]) (by decide) (by decide) p3 hb
      refine ⟨n, r, i', h', ⟨by omega, by omega⟩, ?_, q2, fun k0 => by rw [cond_false, cond_true]; exact e4 _⟩
      have : ∀ r ∈ (((((([] : List Int) ++ [(-1)]) ++ [0]) ++ [1]) ++ [65536]) ++ [9223372036854775807]), r < 9223372036854775808 := by decide
      exact this r hr
    | false => exact ⟨n, w, i3, h3, ⟨by omega, by omega⟩, hw, p3, fun k0 => by rw [cond_false, cond_false]⟩
theorem l20Both_ends (N : Nat) (hN : 4096 < N) (b : List Int) (hb : b.length ≤ 9223372036854775807) :
    ∃ n w k : Int, in63 n ∧ w < 9223372036854775808 ∧ in63 k ∧ ∀ K : Int → Int → Int → Option β, zj25 N b K = K n w k := by
  unfold zj25
  obtain ⟨h, e1⟩ := l1New_ends (β := β) N hN b hb
  obtain ⟨n, w, i2, h2, hn, hw, p2, e2⟩ := l2Any_in (β := β) N (by omega) b 0 h (by decide) hb
  obtain ⟨o, i3, h3, p3, e3⟩ := l1Once_ends (β := β) N 8 b i2 h2 (by decide) p2 hb
  cases o with
  | true =>
    obtain ⟨r, i4, h4, hr, -, e4⟩ := l1PickInt_ends (β := β) N b i3 h3 ((((([] : List Int) ++ [(-1)]) ++ [5]) ++ [6])) (by decide) (by decide) p3 hb
    have : ∀ r ∈ ((((([] : List Int) ++ [(-1)]) ++ [5]) ++ [6])), -9223372036854775808 ≤ r ∧ r ≤ 9223372036854775807 := by decide
    exact ⟨n, w, r, hn, hw, this r hr, fun K => by rw [e1, e2, e3, cond_true, e4]⟩
  | false =>
    have hm : mxI 1 (mnI 5 (w64 (n + 1))) ≤ 256 := by unfold mxI mnI; split <;> split <;> omega
    obtain ⟨r, i4, h4, r4, r5, -, e4⟩ := l1Below_ends (β := β) N (mxI 1 (mnI 5 (w64 (n + 1)))) b i3 h3 hm p3 hb
    refine ⟨n, w, r, hn, hw, ?_, fun K => by rw [e1, e2, e3, cond_false, e4]⟩
    rcases Int.lt_or_le 0 (mxI 1 (mnI 5 (w64 (n + 1)))) with hp | hp
    · have := r4 hp; exact ⟨by omega, by omega⟩
    · have := r5 hp; exact ⟨by omega, by omega⟩
theorem l21Both_ends (N : Nat) (hN : 4096 < N) (b : List Int) (hb : b.length ≤ 9223372036854775807) :
    ∃ n w k : Int, in63 n ∧ w < 9223372036854775808 ∧ in63 k ∧ ∀ K : Int → Int → Int → Option β, zj26 N b K = K n w k := by
  unfold zj26
  obtain ⟨h, e1⟩ := l1New_ends (β := β) N hN b hb
  obtain ⟨o, i1, h1, p1, e2⟩ := l1Once_ends (β := β) N 8 b 0 h (by decide) (by decide) hb
  cases o with
  | true =>
    obtain ⟨n, w, k, a1, a2, a3, e3⟩ := l20Both_ends (β := β) N hN b hb
    exact ⟨n, w, k, a1, a2, a3, fun K => by rw [e1, e2, cond_true, e3]⟩
  | false =>
    obtain ⟨r, i2, h2, hr, p2, e3⟩ := l1PickInt_ends (β := β) N b i1 h1 (((((((([] : List Int) ++ [4]) ++ [3]) ++ [2]) ++ [4]) ++ [1]) ++ [0])) (by decide) (by decide) p1 hb
    have hr1 : ∀ r ∈ (((((((([] : List Int) ++ [4]) ++ [3]) ++ [2]) ++ [4]) ++ [1]) ++ [0])), 0 ≤ r ∧ r ≤ 4 := by decide
    have hr2 := hr1 r hr
    obtain ⟨m, rfl⟩ := Int.eq_ofNat_of_zero_le hr2.1
    obtain ⟨t, i3, h3, ht, p3, e4⟩ := l1PickInt_ends (β := β) N b i2 h2 ((((([] : List Int) ++ [2]) ++ [1]) ++ [2])) (by decide) (by decide) p2 hb
    have ht1 : ∀ r ∈ ((((([] : List Int) ++ [2]) ++ [1]) ++ [2])), 0 ≤ r ∧ r ≤ 4 := by decide
    have ht2 := ht1 t ht
    obtain ⟨w, i4, h4, hw, -, e5⟩ := l2Draw_ends (β := β) N m (by omega) (by omega) b i3 h3 p3 hb
    refine ⟨m, w, mxI (w64 ((m : Int) - 2)) (mnI (m : Int) t), ⟨by omega, by omega⟩, hw, ?_, fun K => by rw [e1, e2, cond_false, e3, e4, e5]⟩
    rw [w64_id (by omega) (by omega)]
    unfold in63 mxI mnI
    split <;> split <;> omega

theorem impl_LB (N : Nat) (hN : 64 < N) (a0 a1 a2 : Int) (h0 : in63 a0) (h1 : a1 < 9223372036854775808) (h2 : in63 a2) (k : Int → Option β) : zj88 N a0 a1 a2 k = k (if fineT a0 a1 a2 then (bits21 a0 a1 a2 : Int) else -1) := by
  unfold zj88
  rw [impl_talking_eq N a0 a1 a2 h0 h1 h2]
  cases hf : fineT a0 a1 a2 with
  | false => rfl
  | true =>
    obtain ⟨n, w, k, rfl, rfl, rfl, hn, hw, hw', hk, hkn, hq⟩ := fineT_nat hf
    have t1 := top_ok k hk
    have t2 := top_ok (n - k) hq
    rw [if_pos rfl, if_pos rfl]
    unfold bits21 zj48
    rw [show ((n : Int) - (k : Int)) = ((n - k : Nat) : Int) by omega]
    simp only [Int.toNat_natCast]
    obtain ⟨mp', _, _, _, _, he⟩ := impl_need N n w k hN hk hkn hq hw' N (top k) (top (n - k)) [] (by omega) t1.2.1 t2.2.1 t1.1 t2.1 (good_nil _)
    exact he _
theorem impl_PO (N : Nat) (hN : 64 < N) (a0 a1 a2 : Int) (h0 : in63 a0) (h1 : a1 < 9223372036854775808) (h2 : in63 a2) (k : ByteArray → Bool → Option β) : zj57 N a0 a1 a2 k = if fineT a0 a1 a2 then k (prot N a0 a1 a2) true else k ByteArray.empty false := by
  unfold zj57
  rw [impl_talking_eq N a0 a1 a2 h0 h1 h2]
  cases hf : fineT a0 a1 a2 with
  | false => rfl
  | true =>
    obtain ⟨n, w, k, rfl, rfl, rfl, hn, hw, hw', hk, hkn, hq⟩ := fineT_nat hf
    have t1 := top_ok k hk
    have t2 := top_ok (n - k) hq
    rw [if_pos rfl, if_pos rfl]
    unfold prot zj56
    rw [show ((n : Int) - (k : Int)) = ((n - k : Nat) : Int) by omega]
    simp only [Int.toNat_natCast]
    obtain ⟨mp', _, _, he⟩ := impl_text N n w k hN hk hkn hq hw' N (top k) (top (n - k)) [] (by omega) t1.2.1 t2.2.1 t1.1 t2.1 (good_nil _)
    exact he _
def treeP (N n w k : Nat) : Tr := pT (bothOn w n k) (isOne w n k) N (top k) (top (n - k))
theorem prot_facts (N : Nat) (hN : 1048576 < N) (n w k : Nat) (hk : k ≤ 2) (hkn : k ≤ n) (hq : n - k ≤ 2) :
    gu (treeP N n w k) ∧ prot N n w k = B (ty (treeP N n w k)) ∧ hd (treeP N n w k) = bits21 n w k ∧ bits21 n w k ≤ 4 ∧ (ty (treeP N n w k)).length ≤ 46 ∧ uf N (ty (treeP N n w k)) = some (treeP N n w k) := by
  have hmx := mixed_single w n k hk hkn hq
  have t1 := top_ok k hk
  have t2 := top_ok (n - k) hq
  obtain ⟨g, h1, h2⟩ := pT_ok (bothOn w n k) (isOne w n k) hmx N (top k) (top (n - k)) t1.2.2 t2.2.2 (by omega)
  have hp : prot N n w k = bs (bothOn w n k) (isOne w n k) N (top k) (top (n - k)) := by
    unfold prot
    rw [show ((n : Int) - (k : Int)) = ((n - k : Nat) : Int) by omega]
    simp only [Int.toNat_natCast]
  have hb : bits21 n w k = need (bothOn w n k) (top k) (top (n - k)) := by
    unfold bits21
    rw [show ((n : Int) - (k : Int)) = ((n - k : Nat) : Int) by omega]
    simp only [Int.toNat_natCast]
  have h4 := need_le4 hmx (top k) (top (n - k)) t1.2.2 t2.2.2
  have hd4 : hd (treeP N n w k) ≤ 4 := by unfold treeP; omega
  have h5 := leaves_pow (treeP N n w k) g
  have h6 : 2 ^ hd (treeP N n w k) ≤ 2 ^ 4 := Nat.pow_le_pow_right (by decide) hd4
  have h7 := ty_size (treeP N n w k) g
  have h46 : (ty (treeP N n w k)).length ≤ 46 := by omega
  exact ⟨g, by rw [hp]; unfold treeP; rw [h1, B_data], by rw [hb]; exact h2, by omega, h46, uf_ty hN g (by omega)⟩
theorem l21Any_ends (N : Nat) (hN : 1048576 < N) (b : List Int) (hb : b.length ≤ 9223372036854775807) :
    ∃ s : List UInt8, s.length ≤ 200 ∧ ∀ K : ByteArray → Option β, zj137 N b K = K (B s) := by
  unfold zj137
  obtain ⟨a0, a1, a2, h0, h1, h2, e1⟩ := l21Both_ends (β := β) N (by omega) b hb
  cases hf : fineT a0 a1 a2 with
  | false =>
    refine ⟨[65, 49, 48, 49], by decide, fun K => ?_⟩
    rw [e1, spec_ProtocolOf_eq N (by omega) a0 a1 a2 h0, hf]
    rfl
  | true =>
    obtain ⟨n, w, k, rfl, rfl, rfl, hn, hw, hw', hk, hkn, hq⟩ := fineT_nat hf
    obtain ⟨g, hp, _, _, h46, _⟩ := prot_facts N hN n w k hk hkn hq
    obtain ⟨h, e2⟩ := l1New_ends (β := β) N (by omega) b hb
    obtain ⟨o, i3, h3, p3, e3⟩ := l1Once_ends (β := β) N 8 b 0 h (by decide) (by decide) hb
    cases o with
    | false => exact ⟨ty (treeP N n w k), by omega, fun K => by rw [e1, spec_ProtocolOf_eq N (by omega) _ _ _ h0, hf, if_pos rfl, Bool.not_true, cond_false, e2, e3, cond_false, hp]⟩
    | true =>
      obtain ⟨t, i4, h4, l4, p4, e4⟩ := l1Spoil_ends (β := β) N hN b hb (ty (treeP N n w k)) (by omega) i3 h3 p3
      exact ⟨t, by omega, fun K => by rw [e1, spec_ProtocolOf_eq N (by omega) _ _ _ h0, hf, if_pos rfl, Bool.not_true, cond_false, e2, e3, cond_true, hp, e4]⟩

theorem run_all (N : Nat) (hN : 1048576 < N) (a0 : List Int) (n w k : Nat) (hn : n ≤ 4) (hw : w < 2 ^ 2 ^ n) (hk : k ≤ 2) (hkn : k ≤ n) (hq : n - k ≤ 2) (k0 : Bool → Option β) (k1 : List Int → Int → ByteArray → Int → Int → Int → Option β) :
    zj157 N N a0 (k : Int) (B (ty (treeP N n w k))) (bits21 n w k : Int) 0 (n : Int) (w : Int) k0 k1 = k1 a0 (k : Int) (B (ty (treeP N n w k))) (bits21 n w k : Int) (n : Int) (w : Int) := by
  obtain ⟨g, hp, hh, h4, h46, hu⟩ := prot_facts N hN n w k hk hkn hq
  have hs : 2 ^ n ≤ 16 := (Nat.pow_le_pow_right (by decide) hn : 2 ^ n ≤ 2 ^ 4)
  have hkp : 2 ^ k ≤ 4 := (Nat.pow_le_pow_right (by decide) hk : 2 ^ k ≤ 2 ^ 2)
  have hz : (0 : Int) ≤ ((2 ^ n : Nat) : Int) := Int.natCast_nonneg _
  have hmx := mixed_single w n k hk hkn hq
  have t1 := top_ok k hk
  have t2 := top_ok (n - k) hq
  have hw' := w_small (by omega : n ≤ 5) hw
  refine loop_st (fun F x => zj157 N F a0 (k : Int) (B (ty (treeP N n w k))) (bits21 n w k : Int) (x : Int) (n : Int) (w : Int) k0 k1) (2 ^ n) _ (fun F x hx => ?_) (fun F => ?_) N 0 (by omega) (by omega)
  · simp only [zj157, zj156]
    have hm := Nat.mod_lt x (two_pos k)
    have hd4 : x / 2 ^ k < 2 ^ (n - k) := by
      rw [Nat.div_lt_iff_lt_mul (two_pos k), ← Nat.pow_add, show n - k + k = n by omega]; exact hx
    have hqp : 2 ^ (n - k) ≤ 4 := (Nat.pow_le_pow_right (by decide) hq : 2 ^ (n - k) ≤ 2 ^ 2)
    have hc3 : x % 2 ^ k ≤ 3 := by omega
    have hd3 : x / 2 ^ k ≤ 3 := by omega
    have hrun : runU N (ty (treeP N n w k)) ((x % 2 ^ k : Nat) : Int) ((x / 2 ^ k : Nat) : Int) = some (bw w x, au (x % 2 ^ k) (x / 2 ^ k) (treeP N n w k)) := by
      have hR : inR ((x % 2 ^ k : Nat) : Int) ((x / 2 ^ k : Nat) : Int) = true := by
        unfold inR
        simp only [Bool.and_eq_true, decide_eq_true_eq]
        exact ⟨⟨Int.natCast_nonneg _, show ((x % 2 ^ k : Nat) : Int) ≤ ((3 : Nat) : Int) from Int.ofNat_le.2 hc3⟩, Int.natCast_nonneg _, show ((x / 2 ^ k : Nat) : Int) ≤ ((3 : Nat) : Int) from Int.ofNat_le.2 hd3⟩
      unfold runU
      rw [hu]
      dsimp only
      rw [if_pos hR]
      simp only [Int.toNat_natCast]
      have hlu := lu_pT w n k hmx x hx (by omega) (by omega) N (top k) (top (n - k)) t1.2.2 t2.2.2 (by omega) (by unfold top; rw [Nat.testBit_two_pow_sub_one]; exact decide_eq_true hm) (by unfold top; rw [Nat.testBit_two_pow_sub_one]; exact decide_eq_true hd4)
      have : lu (x % 2 ^ k) (x / 2 ^ k) (treeP N n w k) - 48 = bw w x := by
        unfold treeP bw
        rw [hlu]
        cases w.testBit x <;> rfl
      rw [this]
    have hau := au_le (x % 2 ^ k) (x / 2 ^ k) (treeP N n w k)
    rw [hh] at hau
    rw [gd_true (decide_eq_true (by omega)), shl_one n (by omega), decide_eq_true (by omega : (x : Int) < ((2 ^ n : Nat) : Int)), cond_true, gd_true (decide_eq_true (by omega)), gd_true (decide_eq_true (by omega)), mask_eq x k (by omega) (by omega), shr_nat x k (by omega), impl_Run N hN, hrun]
    simp only [runK3, Bool.not_true, cond_false]
    unfold zj98 zj97 zj93
    rw [impl_IsTable_eq N _ _ (by omega), isTn (by omega) hw, cond_true, decide_eq_true (by omega : (x : Int) ≥ 0), cond_true, gd_true (decide_eq_true (by omega)), shl_one n (by omega), decide_eq_true (by omega : (x : Int) < ((2 ^ n : Nat) : Int))]
    dsimp only
    rw [Bool.not_true, cond_false, impl_Table_at_eq N w x _ hw', bne_self_eq_false, cond_false, decide_eq_false (by omega), cond_false, w64_succ x (by omega)]
  · simp only [zj157, zj156]
    rw [gd_true (decide_eq_true (by omega)), shl_one n (by omega), decide_eq_false (by omega : ¬ ((2 ^ n : Nat) : Int) < ((2 ^ n : Nat) : Int)), cond_false]

theorem law_FnProtocols (N : Nat) (hN : 1048576 < N) (a0 : List Int) (hb : (a0.length : Int) ≤ 9223372036854775807) (k : Bool → Option β) : zj158 N a0 k = k true := by
  have hb' : a0.length ≤ 9223372036854775807 := by omega
  obtain ⟨s, hs, d1⟩ := l21Any_ends (β := β) N hN a0 hb'
  have d2 : ∀ K : ByteArray → Option β, zj138 N a0 K = K (B s) := fun K => by unfold zj138; rw [d1]
  have d3 : ∀ K : ByteArray → Int → Int → Option β, zj139 N a0 K = K (B s) (w64 ((remI (a0.length : Int) 5) - 1)) (remI (a0.length : Int) 4) := fun K => by unfold zj139; rw [d1]
  generalize w64 ((remI (a0.length : Int) 5) - 1) = c at d3
  generalize remI (a0.length : Int) 4 = d at d3
  have r1 : ∃ (x y : Int) (z : Bool), (∀ K : Int → Int → Bool → Option β, zj96 N (B s) c d K = K x y z) ∧ (∀ K : Int → Int → Bool → Option β, zj147 N (B s) c d K = K x y z) := by
    cases h : runU N s c d with
    | none => exact ⟨0, 0, false, fun K => by rw [impl_Run N hN, h]; rfl, fun K => by rw [spec_Run N hN, h]; rfl⟩
    | some p => exact ⟨p.1, p.2, true, fun K => by rw [impl_Run N hN, h]; rfl, fun K => by rw [spec_Run N hN, h]; rfl⟩
  obtain ⟨x, y, z, r1, r2⟩ := r1
  have i1 := fun K => impl_IsP (β := β) N hN s K
  have i2 := fun K => spec_IsP (β := β) N hN s K
  have e1 := fun K => impl_DepthP (β := β) N hN s K
  have e2 := fun K => spec_DepthP (β := β) N hN s K
  have l1 := fun K => impl_LeavesP (β := β) N hN s K
  have l2 := fun K => spec_LeavesP (β := β) N hN s K
  unfold zj158 zj0 zj27
  cases h0 : decide ((a0.length : Int) > 1048576) with
  | true => rfl
  | false =>
    dsimp only
    rw [cond_false]
    obtain ⟨f0, f1, f2, g0, g1, g2, eB⟩ := l21Both_ends (β := β) N (by omega) a0 hb'
    rw [eB]
    cases hf : fineT f0 f1 f2 with
    | false =>
      have p1 : ∀ K : ByteArray → Bool → Option β, zj57 N f0 f1 f2 K = K ByteArray.empty false := fun K => by rw [impl_PO N (by omega) _ _ _ g0 g1 g2, hf]; rfl
      have p2 : ∀ K : ByteArray → Bool → Option β, zj87 N f0 f1 f2 K = K ByteArray.empty false := fun K => by rw [spec_ProtocolOf_eq N (by omega) _ _ _ g0, hf]; rfl
      have q1 : ∀ K : Int → Option β, zj88 N f0 f1 f2 K = K (-1) := fun K => by rw [impl_LB N (by omega) _ _ _ g0 g1 g2, hf]; rfl
      have q2 : ∀ K : Int → Option β, zj78 N f0 f1 f2 K = K (-1) := fun K => by rw [spec_LeastBits_eq N (by omega) _ _ _ g0, hf]; rfl
      simp only [p1, p2, q1, q2, d2, d3, r1, r2, i1, i2, e1, e2, l1, l2, beq_self_eq_true, bne_self_eq_false, Bool.not_true, cond_false, cond_true]
    | true =>
      have p1 : ∀ K : ByteArray → Bool → Option β, zj57 N f0 f1 f2 K = K (prot N f0 f1 f2) true := fun K => by rw [impl_PO N (by omega) _ _ _ g0 g1 g2, hf]; rfl
      have p2 : ∀ K : ByteArray → Bool → Option β, zj87 N f0 f1 f2 K = K (prot N f0 f1 f2) true := fun K => by rw [spec_ProtocolOf_eq N (by omega) _ _ _ g0, hf]; rfl
      have q1 : ∀ K : Int → Option β, zj88 N f0 f1 f2 K = K (bits21 f0 f1 f2 : Int) := fun K => by rw [impl_LB N (by omega) _ _ _ g0 g1 g2, hf]; rfl
      have q2 : ∀ K : Int → Option β, zj78 N f0 f1 f2 K = K (bits21 f0 f1 f2 : Int) := fun K => by rw [spec_LeastBits_eq N (by omega) _ _ _ g0, hf]; rfl
      obtain ⟨n, w, kk, rfl, rfl, rfl, hn, hw, hw', hk, hkn, hq⟩ := fineT_nat hf
      have hn4 : n ≤ 4 := by omega
      obtain ⟨g, hp, hh, h4, h46, hu⟩ := prot_facts N hN n w kk hk hkn hq
      have hmx := mixed_single w n kk hk hkn hq
      have t1 := top_ok kk hk
      have t2 := top_ok (n - kk) hq
      rw [hp] at p1 p2
      simp only [p1, p2, q1, q2, beq_self_eq_true, bne_self_eq_false, Bool.not_true, cond_false, cond_true]
      rw [run_all N hN a0 n w kk hn4 hw hk hkn hq]
      -- what bounds the leaves
      have hiP : ∀ K : Bool → Option β, zj118 N (B (ty (treeP N n w kk))) K = K true := fun K => by rw [impl_IsP N hN, hu]; rfl
      have hdP : ∀ K : Int → Option β, zj122 N (B (ty (treeP N n w kk))) K = K (bits21 n w kk : Int) := fun K => by
        rw [impl_DepthP N hN]; unfold depU; rw [hu]; simp only [hh]
      have hlP : ∀ K : Int → Option β, zj126 N (B (ty (treeP N n w kk))) K = K (nlv (treeP N n w kk) : Int) := fun K => by
        rw [impl_LeavesP N hN]; unfold levU; rw [hu]
      have hrows := split_facts N n w kk hN hn4 hkn hw
      have hMat : ∀ K : List Int → Bool → Option β, zj102 N (n : Int) (w : Int) (kk : Int) K = K (li (rowsN w kk (2 ^ (n - kk)) (2 ^ kk))) true := fun K => by
        unfold zj102
        rw [impl_isSplit_eq N _ _ _ (by omega), isTn hn hw, decide_eq_true (by omega : (0 : Int) ≤ (kk : Int)), decide_eq_true (by omega : (kk : Int) ≤ (n : Int))]
        simp only [Bool.and_self, Bool.not_true, cond_false]
        rw [impl_rows_n N (by omega) n w kk hn4 hkn hw, rows_li]
      obtain ⟨v0, hv0, m0⟩ := impl_LargestFooling_n (β := β) N w n kk 0 (by omega) hn4 hkn hw (by omega)
      obtain ⟨v1, hv1, m1⟩ := impl_LargestFooling_n (β := β) N w n kk 1 (by omega) hn4 hkn hw (by omega)
      simp only [Int.natCast_zero] at m0
      have m1 : ∀ K : List Int → Bool → Option β, zj117 N (n : Int) (w : Int) (kk : Int) 1 K = K v1 true := m1
      have hrk := fun K => impl_RankMod2_n (β := β) N hN (rowsN w kk (2 ^ (n - kk)) (2 ^ kk)) hrows.1 hrows.2.1 K
      have hrl := rank_leaves w n kk hmx hk hkn hq N (by omega)
      have hsum := lvv_sum (treeP N n w kk) g
      have hfl : ∀ v, v ≤ 1 → ml w kk v (2 ^ n) 0 [] ≤ lvv v (treeP N n w kk) := fun v hv => by
        obtain ⟨L, hL, hlen⟩ := ml_some w n kk v (2 ^ n) 0 [] ⟨List.Pairwise.nil, fun y hy => by cases hy⟩ (by omega)
        have := fool_le w n kk hmx hk hkn hq v hv L hL N (top kk) (top (n - kk)) t1.2.2 t2.2.2 (by omega)
        have hall : L.filter (inRect kk (top kk) (top (n - kk))) = L := List.filter_eq_self.2 fun y hy => by
          have hy2 := (hL.2 y hy).2
          have hm := Nat.mod_lt y (two_pos kk)
          have hd4 : y / 2 ^ kk < 2 ^ (n - kk) := by
            rw [Nat.div_lt_iff_lt_mul (two_pos kk), ← Nat.pow_add, show n - kk + kk = n by omega]; exact hy2
          unfold inRect top
          rw [Nat.testBit_two_pow_sub_one, Nat.testBit_two_pow_sub_one, decide_eq_true hm, decide_eq_true hd4]
          rfl
        rw [hall, hlen] at this
        exact this
      have hf0 := hfl 0 (by omega)
      have hf1 := hfl 1 (by omega)
      have hlp := leaves_pow (treeP N n w kk) g
      rw [hh] at hlp
      have h16 : 2 ^ bits21 n w kk ≤ 2 ^ 4 := Nat.pow_le_pow_right (by decide) h4
      have hr1 : rkn [] (rowsN w kk (2 ^ (n - kk)) (2 ^ kk)) ≤ lvv 1 (treeP N n w kk) := hrl
      have c1 : decide ((nlv (treeP N n w kk) : Int) > shlI .i64 1 (bits21 n w kk : Int)) = false := by
        rw [shl_one _ (by omega)]; exact decide_eq_false (by omega)
      have c2 : decide (w64 ((v0.length : Int) + (v1.length : Int)) > (nlv (treeP N n w kk) : Int)) = false := by
        rw [w64_id (by omega) (by omega)]; exact decide_eq_false (by omega)
      have c3 : decide ((rkn [] (rowsN w kk (2 ^ (n - kk)) (2 ^ kk)) : Int) > (nlv (treeP N n w kk) : Int)) = false := decide_eq_false (by omega)
      have c4 : decide ((0 : Int) ≤ (bits21 n w kk : Int)) = true := decide_eq_true (by omega)
      simp only [hMat, m0, m1, hiP, hdP, hlP, hrk, c1, c2, c3, c4, gd, d2, d3, r1, r2, i1, i2, e1, e2, l1, l2, beq_self_eq_true, bne_self_eq_false, Bool.not_true, cond_false, cond_true]
end Go.Proofs.YtddflpokemgnmaaDoor
