/- Plain law: all words of three variables have formulas, so that the rounds end. -/
import Derived.Test.YtmhlcbibbhelkaaDoorSizP
namespace Go.Proofs.YtmhlcbibbhelkaaDoor
set_option linter.unusedVariables false
set_option linter.unusedSimpArgs false
/-- A word that is no constant has a formula of k letters. -/
inductive Rch (n : Nat) : Nat → Nat → Prop
  | var (i : Nat) (h : i < n) : Rch n 1 (vw n i)
  | nvar (i : Nat) (h : i < n) : Rch n 1 (vw n i ^^^ full n)
  | op (a b f g : Nat) (o : Bool) (hf : 0 < f ∧ f < full n) (hg : 0 < g ∧ g < full n) (h1 : Rch n a f) (h2 : Rch n b g) : Rch n (a + b) (cond o (f &&& g) (f ||| g))
def look (w : Nat) : List (Nat × Nat) → Nat
  | [] => 0
  | (x, k) :: l => cond (Nat.beq x w) k (look w l)
def ent (e : Nat) : Bool × Nat × Nat := (Nat.beq (e / 65536) 1, e / 256 % 256, e % 256)
def addE (n : Nat) (kn : List (Nat × Nat)) (e : Bool × Nat × Nat) : List (Nat × Nat) :=
  cond (decide (0 < look e.2.1 kn) && decide (0 < look e.2.2 kn) && decide (0 < cond e.1 (e.2.1 &&& e.2.2) (e.2.1 ||| e.2.2)) && decide (cond e.1 (e.2.1 &&& e.2.2) (e.2.1 ||| e.2.2) < full n))
    ((cond e.1 (e.2.1 &&& e.2.2) (e.2.1 ||| e.2.2), look e.2.1 kn + look e.2.2 kn) :: kn) kn
def KnOK (n : Nat) (kn : List (Nat × Nat)) : Prop := ∀ p ∈ kn, (0 < p.1 ∧ p.1 < full n) ∧ Rch n p.2 p.1
theorem look_ok {n : Nat} : ∀ {kn : List (Nat × Nat)}, KnOK n kn → ∀ {w : Nat}, 0 < look w kn → (0 < w ∧ w < full n) ∧ Rch n (look w kn) w
  | [], _, w, h => by simp [look] at h
  | (x, k) :: l, hk, w, h => by
    unfold look at h ⊢
    cases hb : Nat.beq x w with
    | true =>
      rw [cond_true]
      have := Nat.eq_of_beq_eq_true hb
      subst this
      exact hk (x, k) (List.mem_cons_self ..)
    | false =>
      rw [hb, cond_false] at h
      rw [cond_false]
      exact look_ok (fun p hp => hk p (List.mem_cons_of_mem _ hp)) h
theorem add_ok {n : Nat} {kn : List (Nat × Nat)} (h : KnOK n kn) (e : Bool × Nat × Nat) : KnOK n (addE n kn e) := by
  unfold addE
  cases hb : (decide (0 < look e.2.1 kn) && decide (0 < look e.2.2 kn) && decide (0 < cond e.1 (e.2.1 &&& e.2.2) (e.2.1 ||| e.2.2)) && decide (cond e.1 (e.2.1 &&& e.2.2) (e.2.1 ||| e.2.2) < full n)) with
  | false => exact h
  | true =>
    simp only [Bool.and_eq_true, decide_eq_true_eq] at hb
    obtain ⟨⟨⟨h1, h2⟩, h3⟩, h4⟩ := hb
    intro p hp
    rcases List.mem_cons.1 hp with rfl | hp
    · exact ⟨⟨h3, h4⟩, Rch.op _ _ _ _ _ (look_ok h h1).1 (look_ok h h2).1 (look_ok h h1).2 (look_ok h h2).2⟩
    · exact h p hp
theorem all_ok {n : Nat} : ∀ (es : List Nat) {kn : List (Nat × Nat)}, KnOK n kn → KnOK n (es.foldl (fun kn e => addE n kn (ent e)) kn)
  | [], _, h => h
  | e :: es, kn, h => all_ok es (add_ok h (ent e))
def kn0 (n : Nat) : List (Nat × Nat) := (List.range n).flatMap fun i => [(vw n i, 1), (vw n i ^^^ full n, 1)]
theorem vw_mid : ∀ n, n ≤ 3 → ∀ i, i < n → (0 < vw n i ∧ vw n i < full n) ∧ (0 < vw n i ^^^ full n ∧ vw n i ^^^ full n < full n) := by decide +kernel
theorem kn0_ok {n : Nat} (hn : n ≤ 3) : KnOK n (kn0 n) := fun p hp => by
  obtain ⟨i, hi, hp⟩ := List.mem_flatMap.1 hp
  have hi := List.mem_range.1 hi
  have := vw_mid n hn i hi
  simp only [List.mem_cons, List.not_mem_nil, or_false] at hp
  rcases hp with rfl | rfl
  · exact ⟨this.1, .var i hi⟩
  · exact ⟨this.2, .nvar i hi⟩
def wit : Nat → List Nat
  | 2 => [68108, 2572, 68099, 2563, 66828, 1292, 66819, 1283, 2049, 69127]
  | 3 => [109260, 43724, 109107, 43571, 109296, 43760, 109071, 43535, 87500, 21964, 87347, 21811, 87536, 22000, 87311, 21775, 118000, 52464, 117775, 52239, 78832, 13296, 78607, 13071, 109248, 43712, 109308, 43772, 109068, 43532, 109263, 43727, 109104, 43568, 109299, 43763, 109059, 43523, 109119, 43583, 87488, 21952, 87548, 22012, 87308, 21772, 87503, 21967, 87344, 21808, 87539, 22003, 87299, 21763, 87359, 21823, 52384, 118010, 52234, 117935, 52304, 118005, 52229, 117855, 13216, 78842, 13066, 78767, 13136, 78837, 13061, 78687, 61576, 127214, 61474, 127163, 61508, 127197, 61457, 127095, 3976, 69614, 3874, 69563, 3908, 69597, 3857, 69495, 34833, 34896, 34821, 34864, 34819, 126583, 126709, 126559, 126707, 126527, 8784, 8709, 113653, 113503, 40965, 40972, 40963, 129631, 129743, 129599, 17456, 17411, 122355, 122175, 20492, 20483, 128463, 128319, 49155, 130111, 109251, 43715, 109116, 43580, 87491, 21955, 87356, 21820, 117925, 52389, 117850, 52314, 78757, 13221, 78682, 13146, 127129, 61593, 127078, 61542, 69529, 3993, 69478, 3942, 34832, 34897, 34817, 34837, 34865, 34835, 35040, 34830, 126581, 126711, 126551, 126591, 126579, 126519, 8788, 8773, 8880, 8715, 113621, 113501, 40964, 41029, 40961, 40981, 40973, 40967, 129629, 129759, 129623, 129663, 129615, 129567, 2644, 2641, 110549, 110453, 17616, 17421, 4464, 4359, 49154, 49153, 49187, 49171, 49163, 49159, 130239, 130175, 130107, 130103, 130095, 130079, 3122, 3121, 118707, 118643, 34899, 34869, 126547, 126517, 8796, 8901, 113500, 113605, 32789, 32787, 32775, 125567, 43009, 130647, 130615, 130591, 2129, 2097, 2160, 110327, 35344, 126837, 126835, 126961, 8268, 8205, 129997, 129871, 708, 720, 114652, 114676, 34846, 35041, 126599, 126584, 8779, 8884, 113453, 113618, 17453, 17618, 122187, 122292, 4487, 4472, 96030, 96225, 33300, 125821]
  | _ => []
set_option maxRecDepth 100000 in
theorem wit_all : ∀ n, n ≤ 3 → ((List.range (2 ^ 2 ^ n)).all fun w => Nat.beq w 0 || Nat.beq w (full n) || (Nat.ble 1 (look w ((wit n).foldl (fun kn e => addE n kn (ent e)) (kn0 n))) && Nat.ble (look w ((wit n).foldl (fun kn e => addE n kn (ent e)) (kn0 n))) 12)) = true := by decide +kernel
theorem reach {n : Nat} (hn : n ≤ 3) {w : Nat} (h0 : 0 < w) (h1 : w < full n) : ∃ k, k ≤ 12 ∧ Rch n k w := by
  have h := List.all_eq_true.1 (wit_all n hn) w (List.mem_range.2 (by unfold full at h1; omega))
  simp only [Bool.or_eq_true, Bool.and_eq_true, Nat.ble_eq] at h
  rcases h with (h | h) | h
  · have := Nat.eq_of_beq_eq_true h; omega
  · have := Nat.eq_of_beq_eq_true h; omega
  · exact ⟨_, h.2, (look_ok (all_ok (wit n) (kn0_ok hn)) (by omega : 0 < look w _)).2⟩
end Go.Proofs.YtmhlcbibbhelkaaDoor
