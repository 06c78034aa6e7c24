/- Code, loops and functions: what the evaluator says is what the machine does. -/
import Derived.Test.YtdjmbggefcfacaaRvList
import Derived.LoopN
namespace Go.Rv
open Go.RowKit (Below)
section
variable {P : Program} {L : Lay} {β : Type}

/-! ### Tidying -/

theorem memL_iff {n : Nat} : ∀ {l : List Nat}, memL n l = true ↔ n ∈ l
  | [] => by simp [memL]
  | x :: l => by
    simp only [memL, List.mem_cons]
    cases h : Nat.beq x n with
    | true => simp [(Nat.eq_of_beq_eq_true h).symm]
    | false =>
      have : ¬ n = x := fun e => by
        rw [e, show Nat.beq x x = true from Nat.beq_refl x] at h
        cases h
      simp only [cond_false, memL_iff, this, false_or]

theorem addL_nodup {acc : List Nat} (h : acc.Nodup) (n : Nat) : (addL acc n).Nodup := by
  unfold addL
  cases hm : memL n acc with
  | true => exact h
  | false =>
    simp only [cond_false]
    refine List.nodup_append.2 ⟨h, by simp, fun a ha b hb => ?_⟩
    simp at hb
    intro e
    rw [e, hb] at ha
    rw [memL_iff.2 ha] at hm
    cases hm
theorem addAll_nodup : ∀ (l : List Nat) {acc : List Nat}, acc.Nodup → (addAll acc l).Nodup
  | [], _, h => h
  | n :: l, _, h => addAll_nodup l (addL_nodup h n)
theorem refsAll_nodup : ∀ (l : List TV) {acc : List Nat}, acc.Nodup → (refsAll acc l).Nodup
  | [], _, h => h
  | _ :: l, _, h => refsAll_nodup l (addAll_nodup _ h)
theorem close_nodup (bl : List Blk) : ∀ (n : Nat) {acc : List Nat}, acc.Nodup → (close bl n acc).Nodup
  | 0, _, h => h
  | n + 1, acc, h => by
    refine close_nodup bl n ?_
    have key : ∀ (l : List Nat) {acc : List Nat}, acc.Nodup → (l.foldl (fun a j => addAll a (refsB (nth .dead bl j))) acc).Nodup := by
      intro l
      induction l with
      | nil => intro acc h; exact h
      | cons j l ih => intro acc h; exact ih (addAll_nodup _ h)
    exact key acc h

theorem idxL_spec {n : Nat} : ∀ {l : List Nat} {i k : Nat}, idxL n l i = some k → ∃ m, k = i + m ∧ l[m]? = some n
  | [], i, k, h => by cases h
  | x :: l, i, k, h => by
    simp only [idxL] at h
    cases hb : Nat.beq x n with
    | true =>
      rw [hb] at h
      simp only [cond_true, Option.some.injEq] at h
      exact ⟨0, by omega, by simp [Nat.eq_of_beq_eq_true hb]⟩
    | false =>
      rw [hb] at h
      simp only [cond_false] at h
      obtain ⟨m, h1, h2⟩ := idxL_spec h
      exact ⟨m + 1, by omega, by simpa using h2⟩

def selLoc (lc : List Loc) (sel : List Nat) : List Loc := sel.map fun j => (lc[j]?).getD (.c 0)

theorem selLoc_get {lc : List Loc} {sel : List Nat} {i j : Nat} {ℓ : Loc} (h : sel[i]? = some j) (hl : lc[j]? = some ℓ) : (selLoc lc sel)[i]? = some ℓ := by simp [selLoc, h, hl]

theorem renCaps_rel {lc : List Loc} {sel : List Nat} : ∀ (caps l : List (Nat × Nat)) (vs : List Value), renCaps sel caps = some l → All2 (placeOK lc) caps vs → All2 (placeOK (selLoc lc sel)) l vs
  | [], l, vs, h, hv => by cases hv; simp only [renCaps, Option.some.injEq] at h; subst h; exact .nil
  | (j, o) :: caps, l, vs, h, hv => by
    cases hv with
    | cons h1 h2 =>
    simp only [renCaps] at h
    split at h
    · rename_i i l' hi hl
      simp only [Option.some.injEq] at h
      subst h
      obtain ⟨m, hm, hj⟩ := idxL_spec hi
      obtain ⟨g, hg, he⟩ := h1
      exact .cons ⟨g, selLoc_get (by rw [hm]; simpa using hj) hg, he⟩ (renCaps_rel caps l' _ hl h2)
    · cases h

theorem renS_rel {X : Cx} {lc : List Loc} {sel : List Nat} {s : SV} {v : Value} (h : relS X lc s v) : relS X (selLoc lc sel) (renS sel s) v := by
  cases s <;> try exact h
  · rename_i j o
    obtain ⟨g, hg, he⟩ := h
    simp only [renS]
    split
    · rename_i i hi
      obtain ⟨m, hm, hj⟩ := idxL_spec hi
      exact ⟨g, selLoc_get (by rw [hm]; simpa using hj) hg, he⟩
    · trivial
  · rename_i j
    obtain ⟨hg, he⟩ := h
    simp only [renS]
    split
    · rename_i i hi
      obtain ⟨m, hm, hj⟩ := idxL_spec hi
      exact ⟨selLoc_get (by rw [hm]; simpa using hj) hg, he⟩
    · trivial
  · rename_i j z i o
    obtain ⟨g, n, c, hg, he⟩ := h
    simp only [renS]
    split
    · rename_i k hi
      obtain ⟨m, hm, hj⟩ := idxL_spec hi
      exact ⟨g, n, c, selLoc_get (by rw [hm]; simpa using hj) hg, he⟩
    · trivial
  · rename_i f caps
    obtain ⟨vs, h1, h2⟩ := h
    simp only [renS]
    split
    · rename_i c hc
      exact ⟨vs, h1, renCaps_rel _ _ _ hc h2⟩
    · trivial

theorem renL_rel {X : Cx} {lc : List Loc} {sel : List Nat} {l : List SV} {vs : List Value} (h : All2 (relS X lc) l vs) : All2 (relS X (selLoc lc sel)) (l.map (renS sel)) vs :=
  All2.map_left (h.mono fun _ _ h => renS_rel h)
theorem renA_rel {X : Cx} {lc : List Loc} {sel : List Nat} {x : AV} {v : Value} (h : relA X lc x v) : relA X (selLoc lc sel) (renA sel x) v := by
  cases x with
  | one s => exact renS_rel h
  | agg l =>
    obtain ⟨cs, h1, h2⟩ := h
    exact ⟨cs, h1, renL_rel h2⟩
theorem renT_rel {X : Cx} {lc : List Loc} {sel : List Nat} {x : TV} {v : Value} (h : relT X lc x v) : relT X (selLoc lc sel) (renT sel x) v := by
  cases x with
  | v x => exact renA_rel h
  | tup l =>
    obtain ⟨cs, h1, h2⟩ := h
    exact ⟨cs, h1, All2.map_left (h2.mono fun _ _ h => renA_rel h)⟩

theorem renB_rel {X : Cx} {lc : List Loc} {sel : List Nat} {w : World} {b : Blk} {ℓ : Loc} (h : relB X lc w b ℓ) : relB X (selLoc lc sel) w (renB sel b) ℓ := by
  cases b <;> cases ℓ <;> try exact h
  obtain ⟨h1, cs, h2, h3⟩ := h
  exact ⟨h1, cs, h2, renL_rel h3⟩

theorem renB_on {sel : List Nat} {b : Blk} : (renB sel b).on = b.on := by cases b <;> rfl

theorem RelW.sel {X : Cx} {bl : List Blk} {w : World} {lc : List Loc} (h : RelW X bl w lc) {sel : List Nat} (hn : sel.Nodup) : RelW X (sel.map fun j => renB sel (nth .dead bl j)) w (selLoc lc sel) := by
  have at_ : ∀ (i : Nat) b, (sel.map fun j => renB sel (nth .dead bl j))[i]? = some b → ∃ j, sel[i]? = some j ∧ b = renB sel (nth .dead bl j) := fun i b hb => by
    rw [List.getElem?_map] at hb
    cases hs : sel[i]? with
    | none => rw [hs] at hb; cases hb
    | some j =>
      rw [hs] at hb
      simp only [Option.map_some, Option.some.injEq] at hb
      exact ⟨j, rfl, hb.symm⟩
  have on_ : ∀ (j : Nat), (nth Blk.dead bl j).on = true → bl[j]? = some (nth .dead bl j) := fun j hj => nth_some rfl (fun e => by rw [e] at hj; cases hj)
  have lc_ : ∀ (i j : Nat) ℓ, sel[i]? = some j → bl[j]?.isSome → (selLoc lc sel)[i]? = some ℓ → lc[j]? = some ℓ := fun i j ℓ hi hb hl => by
    have hj : j < lc.length := by
      rw [h.len]
      cases hbj : bl[j]? with
      | none => rw [hbj] at hb; cases hb
      | some b => exact (List.getElem?_eq_some_iff.1 hbj).1
    simp only [selLoc, List.getElem?_map, hi, Option.map_some, List.getElem?_eq_getElem hj, Option.getD_some, Option.some.injEq] at hl
    rw [List.getElem?_eq_getElem hj, hl]
  refine ⟨by simp [selLoc], fun i b ℓ hb hl => ?_, fun i k bi bk li lk g hik hi hk oni onk hli hlk hgi hgk => ?_, h.below⟩
  · obtain ⟨j, hj, rfl⟩ := at_ i b hb
    cases hon : (nth Blk.dead bl j).on with
    | false =>
      cases hbj : nth Blk.dead bl j with
      | dead => cases ℓ <;> trivial
      | cells _ _ => rw [hbj] at hon; cases hon
      | prow _ _ _ => rw [hbj] at hon; cases hon
      | row _ _ => rw [hbj] at hon; cases hon
    | true =>
      have := on_ j hon
      exact renB_rel (h.blks j _ ℓ this (lc_ i j ℓ hj (by rw [this]; rfl) hl))
  · obtain ⟨j, hj, rfl⟩ := at_ i bi hi
    obtain ⟨m, hm, rfl⟩ := at_ k bk hk
    rw [renB_on] at oni onk
    have h1 := on_ j oni
    have h2 := on_ m onk
    have hjm : j ≠ m := fun e => by
      subst e
      obtain ⟨hi', ei⟩ := List.getElem?_eq_some_iff.1 hj
      obtain ⟨hk', ek⟩ := List.getElem?_eq_some_iff.1 hm
      rcases Nat.lt_or_gt_of_ne hik with hlt | hlt
      · exact List.pairwise_iff_getElem.1 hn i k hi' hk' hlt (by rw [ei, ek])
      · exact List.pairwise_iff_getElem.1 hn k i hk' hi' hlt (by rw [ei, ek])
    exact h.apart j m _ _ li lk g hjm h1 h2 oni onk (lc_ i j li hj (by rw [h1]; rfl) hli) (lc_ k m lk hm (by rw [h2]; rfl) hlk) hgi hgk

theorem forget_rel {X : Cx} {lc : List Loc} {lv : Nat} {l : List TV} {vs : List Value} (h : All2 (relT X lc) l vs) : ∀ n, All2 (relT X lc) (forget lv l n) vs := by
  induction h with
  | nil => intro n; exact .nil
  | @cons x y _ _ h1 _ ih =>
    intro n
    refine .cons ?_ (ih (n + 1))
    cases inN lv n with
    | true => exact h1
    | false => exact relT_und _

theorem Rel.tidy {X : Cx} {s : St} {a : Act} {w : World} {lc : List Loc} (h : Rel X s a w lc) (lv : Nat) : ∃ lc', Rel X (s.tidy lv) a w lc' :=
  ⟨_, All2.map_left ((forget_rel h.tmps 0).mono fun _ _ h => renT_rel h), h.world.sel (close_nodup _ _ (refsAll_nodup _ .nil)), h.defers⟩

/-! ### Regions walked in every order -/
theorem sameRow_eq {x y : Row} {K : Option β} {r : β} (h : sameRow x y K = some r) : x = y ∧ K = some r := by
  unfold sameRow at h
  split at h
  · obtain ⟨h1, h2⟩ := cond_none h
    obtain ⟨h3, h4⟩ := gd_some h2
    rw [sameKind_eq h1, eq_of_beq h3]
    exact ⟨rfl, h4⟩
  · obtain ⟨h3, h4⟩ := gd_some h; rw [eq_of_beq h3]; exact ⟨rfl, h4⟩
  · obtain ⟨h3, h4⟩ := gd_some h; rw [eq_of_beq h3]; exact ⟨rfl, h4⟩
  · obtain ⟨h3, h4⟩ := gd_some h; rw [eq_of_beq h3]; exact ⟨rfl, h4⟩
  · cases h
theorem sameS_eq {x y : SV} {K : Option β} {r : β} (h : sameS x y K = some r) : x = y ∧ K = some r := by
  unfold sameS at h
  split at h
  · obtain ⟨h1, h2⟩ := cond_none h
    obtain ⟨h3, h4⟩ := gd_some h2
    rw [sameKind_eq h1, eq_of_beq h3]
    exact ⟨rfl, h4⟩
  · obtain ⟨h3, h4⟩ := gd_some h; rw [eq_of_beq h3]; exact ⟨rfl, h4⟩
  · obtain ⟨h3, h4⟩ := gd_some h; rw [of_decide_eq_true h3]; exact ⟨rfl, h4⟩
  · obtain ⟨h1, h2⟩ := cond_none h
    simp only [Bool.and_eq_true] at h1
    rw [Nat.eq_of_beq_eq_true h1.1, Nat.eq_of_beq_eq_true h1.2]
    exact ⟨rfl, h2⟩
  · obtain ⟨h1, h2⟩ := cond_none h; rw [Nat.eq_of_beq_eq_true h1]; exact ⟨rfl, h2⟩
  · obtain ⟨h1, h2⟩ := cond_none h
    obtain ⟨h3, h4⟩ := sameRow_eq h2
    rw [Nat.eq_of_beq_eq_true h1, h3]; exact ⟨rfl, h4⟩
  · obtain ⟨h1, h2⟩ := cond_none h; rw [Nat.eq_of_beq_eq_true h1]; exact ⟨rfl, h2⟩
  · exact ⟨rfl, h⟩
  · exact ⟨rfl, h⟩
  · cases h
theorem sameL_eq : ∀ {l m : List SV} {K : Option β} {r : β}, sameL l m K = some r → l = m ∧ K = some r
  | [], [], _, _, h => ⟨rfl, h⟩
  | x :: l, y :: m, K, r, h => by
    obtain ⟨h1, h2⟩ := sameS_eq (show sameS x y (sameL l m K) = some r from h)
    obtain ⟨h3, h4⟩ := sameL_eq h2
    rw [h1, h3]; exact ⟨rfl, h4⟩
  | [], _ :: _, _, _, h => by cases h
  | _ :: _, [], _, _, h => by cases h
theorem sameA_eq {x y : AV} {K : Option β} {r : β} (h : sameA x y K = some r) : x = y ∧ K = some r := by
  unfold sameA at h
  split at h
  · obtain ⟨h1, h2⟩ := sameS_eq h; rw [h1]; exact ⟨rfl, h2⟩
  · obtain ⟨h1, h2⟩ := sameL_eq h; rw [h1]; exact ⟨rfl, h2⟩
  · cases h
theorem sameAs_eq : ∀ {l m : List AV} {K : Option β} {r : β}, sameAs l m K = some r → l = m ∧ K = some r
  | [], [], _, _, h => ⟨rfl, h⟩
  | x :: l, y :: m, K, r, h => by
    obtain ⟨h1, h2⟩ := sameA_eq (show sameA x y (sameAs l m K) = some r from h)
    obtain ⟨h3, h4⟩ := sameAs_eq h2
    rw [h1, h3]; exact ⟨rfl, h4⟩
  | [], _ :: _, _, _, h => by cases h
  | _ :: _, [], _, _, h => by cases h
theorem sameT_eq {x y : TV} {K : Option β} {r : β} (h : sameT x y K = some r) : x = y ∧ K = some r := by
  unfold sameT at h
  split at h
  · obtain ⟨h1, h2⟩ := sameA_eq h; rw [h1]; exact ⟨rfl, h2⟩
  · obtain ⟨h1, h2⟩ := sameAs_eq h; rw [h1]; exact ⟨rfl, h2⟩
  · cases h
theorem sameTs_eq : ∀ {l m : List TV} {K : Option β} {r : β}, sameTs l m K = some r → l = m ∧ K = some r
  | [], [], _, _, h => ⟨rfl, h⟩
  | x :: l, y :: m, K, r, h => by
    obtain ⟨h1, h2⟩ := sameT_eq (show sameT x y (sameTs l m K) = some r from h)
    obtain ⟨h3, h4⟩ := sameTs_eq h2
    rw [h1, h3]; exact ⟨rfl, h4⟩
  | [], _ :: _, _, _, h => by cases h
  | _ :: _, [], _, _, h => by cases h
theorem sameB_eq {x y : Blk} {K : Option β} {r : β} (h : sameB x y K = some r) : x = y ∧ K = some r := by
  unfold sameB at h
  split at h
  · obtain ⟨h1, h2⟩ := cond_none h
    obtain ⟨h3, h4⟩ := sameL_eq h2
    rw [Nat.eq_of_beq_eq_true h1, h3]; exact ⟨rfl, h4⟩
  · obtain ⟨h1, h2⟩ := cond_none h
    obtain ⟨h3, h4⟩ := sameRow_eq h2
    rw [Nat.eq_of_beq_eq_true h1, h3]; exact ⟨rfl, h4⟩
  · obtain ⟨h1, h2⟩ := cond_none h
    obtain ⟨h3, h4⟩ := sameRow_eq h2
    simp only [Bool.and_eq_true] at h1
    rw [Nat.eq_of_beq_eq_true h1.1, Nat.eq_of_beq_eq_true h1.2, h3]; exact ⟨rfl, h4⟩
  · exact ⟨rfl, h⟩
  · cases h
theorem sameBs_eq : ∀ {l m : List Blk} {K : Option β} {r : β}, sameBs l m K = some r → l = m ∧ K = some r
  | [], [], _, _, h => ⟨rfl, h⟩
  | x :: l, y :: m, K, r, h => by
    obtain ⟨h1, h2⟩ := sameB_eq (show sameB x y (sameBs l m K) = some r from h)
    obtain ⟨h3, h4⟩ := sameBs_eq h2
    rw [h1, h3]; exact ⟨rfl, h4⟩
  | [], _ :: _, _, _, h => by cases h
  | _ :: _, [], _, _, h => by cases h
theorem sameSt_eq {s t : St} {K : Option β} {r : β} (h : sameSt s t K = some r) : s = t ∧ K = some r := by
  obtain ⟨h1, h2⟩ := sameTs_eq (show sameTs s.tmps t.tmps (sameBs s.blks t.blks K) = some r from h)
  obtain ⟨h3, h4⟩ := sameBs_eq h2
  cases s; cases t
  simp only at h1 h3
  rw [h1, h3]; exact ⟨rfl, h4⟩

/-- An operation that comes in its turn, in a world later on. -/
theorem pick_run (hL : LayOK P L) {E : Env β} (hE : SpecsOK P E) (hM : MutsOK P E) (hnil : E.muts = []) {ops : Array Oper} {i : Nat} {o : Oper} (ho : ops[i]? = some o) {s : St} {K : St → Option β} {r : β}
    (h : evOps L E false ops.toList [o] s K = some r) :
    ∃ s1, K s1 = some r ∧ ∀ X a w lc, Rel X s a w lc → ∀ KK : Act → World → Prop, (∀ a' w' lc', Rel X s1 a' w' lc' → KK a' w') → opF P ops i KK a w := by
  obtain ⟨s1, h1, h2⟩ := one_step (fr := true) hL hE hM (fun _ => hnil) (q := false) (fun h => by cases h) h
  refine ⟨s1, h1, fun X a w lc hR KK hK => ?_⟩
  have := h2 X a w lc hR KK hK
  unfold opF
  simp only [ho]
  split
  · rename_i hw
    rw [if_pos hw] at this
    exact retAt_mono (fun v w3 h => ⟨h.1 rfl, h.2⟩) this
  · rename_i hw
    rw [if_neg hw] at this
    exact this

theorem tree_run (hL : LayOK P L) {E : Env β} (hE : SpecsOK P E) (hM : MutsOK P E) (hnil : E.muts = []) {ops : Array Oper} {out : Nat} : ∀ (t : PT) (s : St) (K : St → Option β) (r : β), quietT ops t = true →
    evTree L E ops.toList out t s K = some r →
    ∃ s', K s' = some r ∧ ∀ X a w lc, Rel X s a w lc → ∀ Q : Exit → Act → World → Prop, (∀ a' w' lc', Rel X s' a' w' lc' → Q .normal a' w') → WTree P ops Q t a w := by
  intro t
  induction t with
  | done => intro s K r _ h; exact ⟨_, h, fun X a w lc hR Q hQ w' hb => by obtain ⟨lc', hR'⟩ := (hR.later hb).tidy out; exact hQ a w' lc' hR'⟩
  | nil => intro s K r _ h; cases h
  | all c ih =>
    intro s K r hq h
    obtain ⟨s', h1, h2⟩ := ih s K r hq h
    exact ⟨s', h1, fun X a w lc hR Q hQ w' hb => h2 X a w' lc (hR.later hb) Q hQ⟩
  | quiet i t ih =>
    intro s K r hq h
    simp only [quietT, Bool.and_eq_true] at hq
    simp only [evTree] at h
    split at h
    · rename_i o ho
      have ho' : ops[i]? = some o := by simpa using ho
      have hqo : quietB o.op = true := by have := hq.1; rw [ho'] at this; exact this
      obtain ⟨s1, h1, h2⟩ := one_step (fr := true) hL hE hM (fun _ => hnil) (q := true) (fun _ => ⟨hqo, hnil⟩) h
      have h1 : evTree L E ops.toList out t s1 K = some r := h1
      obtain ⟨s', h3, h4⟩ := ih _ _ _ hq.2 h1
      refine ⟨s', h3, fun X a w lc hR Q hQ => ?_⟩
      obtain ⟨v, hy, hR1⟩ := h2 X a w lc hR
      exact ⟨o, v, ho', hy, h4 X _ w lc hR1 Q hQ⟩
    · cases h
  | pick i t alt iht iha =>
    intro s K r hq h
    simp only [quietT, Bool.and_eq_true] at hq
    have single : alt = .nil → (match ops.toList[i]? with
        | some o => evOps L E false ops.toList [o] s fun s' => evTree L E ops.toList out t s' K
        | none => none) = some r → ∃ s', K s' = some r ∧ ∀ X a w lc, Rel X s a w lc → ∀ Q : Exit → Act → World → Prop, (∀ a' w' lc', Rel X s' a' w' lc' → Q .normal a' w') → WTree P ops Q (.pick i t alt) a w := by
      intro ha g
      subst ha
      split at g
      · rename_i o ho
        have ho' : ops[i]? = some o := by simpa using ho
        obtain ⟨s1, h1, h2⟩ := pick_run hL hE hM hnil ho' g
        obtain ⟨s', h3, h4⟩ := iht _ _ _ hq.1 h1
        exact ⟨s', h3, fun X a w lc hR Q hQ => ⟨h2 X a w lc hR _ fun a' w' lc' hR' => h4 X a' w' lc' hR' Q hQ, trivial⟩⟩
      · cases g
    have many : (match ops.toList[i]? with
        | some o => evOps L E false ops.toList [o] s fun s' => evTree L E ops.toList out t s' fun s1 => evTree L E ops.toList out alt s fun s2 => sameSt s1 s2 (K s1)
        | none => none) = some r → ∃ s', K s' = some r ∧ ∀ X a w lc, Rel X s a w lc → ∀ Q : Exit → Act → World → Prop, (∀ a' w' lc', Rel X s' a' w' lc' → Q .normal a' w') → WTree P ops Q (.pick i t alt) a w := by
      intro g
      split at g
      · rename_i o ho
        have ho' : ops[i]? = some o := by simpa using ho
        obtain ⟨s1, h1, h2⟩ := pick_run hL hE hM hnil ho' g
        obtain ⟨s', h3, h4⟩ := iht _ _ _ hq.1 h1
        obtain ⟨s2, h5, h6⟩ := iha _ _ _ hq.2 h3
        obtain ⟨rfl, h7⟩ := sameSt_eq h5
        exact ⟨s', h7, fun X a w lc hR Q hQ => ⟨h2 X a w lc hR _ fun a' w' lc' hR' => h4 X a' w' lc' hR' Q hQ, h6 X a w lc hR Q hQ⟩⟩
      · cases g
    cases alt with
    | nil => exact single rfl h
    | done => exact many h
    | quiet _ _ => exact many h
    | all _ => exact many h
    | pick _ _ _ => exact many h

/-- A region, by a plan or by all orders. -/
theorem region_run2 (hL : LayOK P L) (hm : P.follows .mixedOrders = true) {E : Env β} (hE : SpecsOK P E) (hM : MutsOK P E) {id : Nat} {ops : Array Oper} {d : Bool} {out : Nat} {s : St} {K : St → Option β} {r : β}
    (h : (cond d (match planFor ops with
      | some pl => evPlan L ⟨E.fns, [], E.loops⟩ ops.toList pl s K
      | none => match treeFor ops with
        | some t => evTree L ⟨E.fns, [], E.loops⟩ ops.toList out t s K
        | none => none) (evOps L E false ops.toList ops.toList s K)) = some r) :
    ∃ s', K s' = some r ∧ ∀ X a w lc, Rel X s a w lc → ∀ Q : Exit → Act → World → Prop, (∀ a' w' lc', Rel X s' a' w' lc' → Q .normal a' w') → (Code.region id ops d).wp P Q a w := by
  cases d with
  | false => exact region_run (id := id) (d := false) hL hm hE hM h
  | true =>
    simp only [cond_true] at h
    split at h
    · rename_i pl hp
      refine region_run (id := id) (d := true) hL hm hE hM ?_
      simp only [cond_true, hp]
      exact h
    · split at h
      · rename_i t hp
        obtain ⟨s', h1, h2⟩ := tree_run (E := ⟨E.fns, [], E.loops⟩) hL hE (fun g MS h => by cases h) rfl _ _ _ _ (treeFor_quiet hp) h
        exact ⟨s', h1, fun X a w lc hR Q hQ => region_tree hm hp (h2 X a w lc hR Q hQ)⟩
      · cases h

/-! ### Code -/

def Runs (P : Program) (c : Code) (s : St) (e : Exit) (s' : St) : Prop := ∀ X a w lc, Rel X s a w lc → ∀ Q : Exit → Act → World → Prop,
  (∀ a' w' lc', Rel X s' a' w' lc' → Q e a' w') → c.wp P Q a w

def LoopOK (P : Program) (E : Env β) (l : LoopAt) : Prop := ∀ s K r, lookL E.loops l.id s K = some r → ∃ e s', K e s' = some r ∧ Runs P (.loop l.body) s e s'

theorem ev_run (hL : LayOK P L) (hm : P.follows .mixedOrders = true) {E : Env β} (hE : SpecsOK P E) (hM : MutsOK P E) {ret : Nat} : ∀ (c : Code) (ex : List (Nat × Nat)) (out : Nat) (s : St) (K : Exit → St → Option β) (r : β),
    (∀ l ∈ loopsOf ret c ex out, LoopOK P E l) → ev L E ret c ex out s K = some r → ∃ e s', K e s' = some r ∧ Runs P c s e s' := by
  intro c
  induction c with
  | skip => intro ex out s K r _ h; exact ⟨.normal, s, h, fun X a w lc hR Q hQ => wp_skip (hQ a w lc hR)⟩
  | region id ops d =>
    intro ex out s K r _ h
    simp only [ev] at h
    obtain ⟨s', h1, h2⟩ := region_run2 (id := id) hL hm hE hM h
    exact ⟨.normal, s', h1, h2⟩
  | seq x y ihx ihy =>
    intro ex out s K r hl h
    simp only [ev] at h
    simp only [loopsOf, List.mem_append] at hl
    obtain ⟨e, s1, h1, h2⟩ := ihx _ _ _ _ _ (fun l hx => hl l (.inl hx)) h
    cases e with
    | normal =>
      obtain ⟨e, s', h3, h4⟩ := ihy _ _ _ _ _ (fun l hx => hl l (.inr hx)) h1
      exact ⟨e, s', h3, fun X a w lc hR Q hQ => wp_seq (h2 X a w lc hR _ fun a' w' lc' hR' => h4 X a' w' lc' hR' Q hQ)⟩
    | exit id => exact ⟨_, s1, h1, fun X a w lc hR Q hQ => wp_seq (h2 X a w lc hR _ fun a' w' lc' hR' => hQ a' w' lc' hR')⟩
    | goto id => exact ⟨_, s1, h1, fun X a w lc hR Q hQ => wp_seq (h2 X a w lc hR _ fun a' w' lc' hR' => hQ a' w' lc' hR')⟩
    | ret => exact ⟨_, s1, h1, fun X a w lc hR Q hQ => wp_seq (h2 X a w lc hR _ fun a' w' lc' hR' => hQ a' w' lc' hR')⟩
    | panic ch => exact ⟨_, s1, h1, fun X a w lc hR Q hQ => wp_seq (h2 X a w lc hR _ fun a' w' lc' hR' => hQ a' w' lc' hR')⟩
    | outgrown => exact ⟨_, s1, h1, fun X a w lc hR Q hQ => wp_seq (h2 X a w lc hR _ fun a' w' lc' hR' => hQ a' w' lc' hR')⟩
  | cond c x y ihx ihy =>
    intro ex out s K r hl h
    simp only [ev] at h
    simp only [loopsOf, List.mem_append] at hl
    split at h
    · rename_i t ht
      have hc : ∀ X a w lc, Rel X s a w lc → a.eval c = .bool t := fun X a w lc hR => by
        have := sv_is (eval_rel (X := X) hR.tmps c) ht
        exact this
      cases t with
      | true =>
        obtain ⟨e, s', h1, h2⟩ := ihx _ _ _ _ _ (fun l hx => hl l (.inl hx)) h
        exact ⟨e, s', h1, fun X a w lc hR Q hQ => wp_cond_true (hc X a w lc hR) (h2 X a w lc hR Q hQ)⟩
      | false =>
        obtain ⟨e, s', h1, h2⟩ := ihy _ _ _ _ _ (fun l hx => hl l (.inr hx)) h
        exact ⟨e, s', h1, fun X a w lc hR Q hQ => wp_cond_false (hc X a w lc hR) (h2 X a w lc hR Q hQ)⟩
    · cases h
  | block id c ih =>
    intro ex out s K r hl h
    have fin : ∀ (s0 : St) (e : Exit) (s' : St), (∀ X a w lc, Rel X s a w lc → ∃ lc', Rel X s0 a w lc') → (match (generalizing := false) e with | .exit i => cond (Nat.beq i id) (K .normal s') (K (.exit i) s') | e => K e s') = some r → Runs P c s0 e s' →
        ∃ e s', K e s' = some r ∧ Runs P (.block id c) s e s' := by
      intro s0 e s' h0 h1 h2
      cases e with
      | exit i =>
        simp only at h1
        cases hb : Nat.beq i id with
        | true =>
          rw [hb] at h1
          refine ⟨.normal, s', h1, fun X a w lc hR Q hQ => wp_block ?_⟩
          obtain ⟨lc0, hR0⟩ := h0 X a w lc hR
          refine h2 X a w lc0 hR0 _ fun a' w' lc' hR' => ?_
          simp only [Exit.inBlock, Nat.eq_of_beq_eq_true hb, if_true]
          exact hQ a' w' lc' hR'
        | false =>
          rw [hb] at h1
          refine ⟨.exit i, s', h1, fun X a w lc hR Q hQ => wp_block ?_⟩
          obtain ⟨lc0, hR0⟩ := h0 X a w lc hR
          refine h2 X a w lc0 hR0 _ fun a' w' lc' hR' => ?_
          have : ¬ i = id := fun e => by rw [e, show Nat.beq id id = true from Nat.beq_refl id] at hb; cases hb
          simp only [Exit.inBlock, if_neg this]
          exact hQ a' w' lc' hR'
      | normal => exact ⟨_, s', h1, fun X a w lc hR Q hQ => wp_block (by obtain ⟨lc0, hR0⟩ := h0 X a w lc hR; exact h2 X a w lc0 hR0 _ fun a' w' lc' hR' => hQ a' w' lc' hR')⟩
      | goto i => exact ⟨_, s', h1, fun X a w lc hR Q hQ => wp_block (by obtain ⟨lc0, hR0⟩ := h0 X a w lc hR; exact h2 X a w lc0 hR0 _ fun a' w' lc' hR' => hQ a' w' lc' hR')⟩
      | ret => exact ⟨_, s', h1, fun X a w lc hR Q hQ => wp_block (by obtain ⟨lc0, hR0⟩ := h0 X a w lc hR; exact h2 X a w lc0 hR0 _ fun a' w' lc' hR' => hQ a' w' lc' hR')⟩
      | panic i => exact ⟨_, s', h1, fun X a w lc hR Q hQ => wp_block (by obtain ⟨lc0, hR0⟩ := h0 X a w lc hR; exact h2 X a w lc0 hR0 _ fun a' w' lc' hR' => hQ a' w' lc' hR')⟩
      | outgrown => exact ⟨_, s', h1, fun X a w lc hR Q hQ => wp_block (by obtain ⟨lc0, hR0⟩ := h0 X a w lc hR; exact h2 X a w lc0 hR0 _ fun a' w' lc' hR' => hQ a' w' lc' hR')⟩
    have plain : (∀ l ∈ loopsOf ret c ((id, out) :: ex) out, LoopOK P E l) → ev L E ret c ((id, out) :: ex) out s (fun e s' => match e with | .exit i => cond (Nat.beq i id) (K .normal s') (K (.exit i) s') | e => K e s') = some r →
        ∃ e s', K e s' = some r ∧ Runs P (.block id c) s e s' := fun hl h => by
      obtain ⟨e, s', h1, h2⟩ := ih _ _ _ _ _ hl h
      exact fin s e s' (fun X a w lc hR => ⟨lc, hR⟩) h1 h2
    cases c with
    | loop c =>
      simp only [ev] at h
      obtain ⟨e, s', h1, h2⟩ := hl ⟨id, c, (id, out) :: ex⟩ (by simp [loopsOf]) _ _ _ h
      exact fin _ e s' (fun X a w lc hR => hR.tidy _) h1 h2
    | _ => exact plain hl h
  | loop c ih => intro ex out s K r _ h; simp only [ev] at h; cases h
  | exit id =>
    intro ex out s K r _ h
    simp only [ev] at h
    exact ⟨_, _, h, fun X a w lc hR Q hQ => wp_exit (by obtain ⟨lc', hR'⟩ := hR.tidy (lookE ex id); exact hQ a w lc' hR')⟩
  | ret =>
    intro ex out s K r _ h
    simp only [ev] at h
    exact ⟨_, _, h, fun X a w lc hR Q hQ => wp_ret (by obtain ⟨lc', hR'⟩ := hR.tidy ret; exact hQ a w lc' hR')⟩
  | _ => intros; rename_i h; simp only [ev] at h; cases h

/-- Rounds of a loop. -/
theorem rounds_run (hL : LayOK P L) (hm : P.follows .mixedOrders = true) {E : Env β} (hE : SpecsOK P E) (hM : MutsOK P E) {ret : Nat} {l : LoopAt} (hl : ∀ l' ∈ loopsOf ret l.body l.ex (l.lv ret), LoopOK P E l') :
    ∀ (F : Nat) (s : St) (K : Exit → St → Option β) (r : β), l.rounds L E ret F s K = some r → ∃ e s', K e s' = some r ∧ Runs P (.loop l.body) s e s' := by
  have key : ∀ (F : Nat) (s : St) (K : Exit → St → Option β) (r : β), l.rounds L E ret F s K = some r → ∃ e s', K e s' = some r ∧ ∀ X a w lc, Rel X s a w lc → ∀ Q : Exit → Act → World → Prop,
      (∀ a' w' lc', Rel X s' a' w' lc' → Q e a' w') → Code.rounds P l.body Q F a w := by
    intro F
    induction F with
    | zero => intro s K r h; cases h
    | succ F ih =>
      intro s K r h
      simp only [LoopAt.rounds, rounds] at h
      obtain ⟨e, s1, h1, h2⟩ := ev_run hL hm hE hM _ _ _ _ _ _ hl h
      cases e with
      | normal =>
        obtain ⟨e, s', h3, h4⟩ := ih _ _ _ h1
        refine ⟨e, s', h3, fun X a w lc hR Q hQ => h2 X a w lc hR _ fun a' w' lc' hR' => ?_⟩
        obtain ⟨lc2, hR2⟩ := hR'.tidy (l.lv ret)
        exact h4 X a' w' lc2 hR2 Q hQ
      | exit id => exact ⟨_, s1, h1, fun X a w lc hR Q hQ => h2 X a w lc hR _ fun a' w' lc' hR' => hQ a' w' lc' hR'⟩
      | goto id => exact ⟨_, s1, h1, fun X a w lc hR Q hQ => h2 X a w lc hR _ fun a' w' lc' hR' => hQ a' w' lc' hR'⟩
      | ret => exact ⟨_, s1, h1, fun X a w lc hR Q hQ => h2 X a w lc hR _ fun a' w' lc' hR' => hQ a' w' lc' hR'⟩
      | panic ch => exact ⟨_, s1, h1, fun X a w lc hR Q hQ => h2 X a w lc hR _ fun a' w' lc' hR' => hQ a' w' lc' hR'⟩
      | outgrown => exact ⟨_, s1, h1, fun X a w lc hR Q hQ => h2 X a w lc hR _ fun a' w' lc' hR' => hQ a' w' lc' hR'⟩
  intro F s K r h
  obtain ⟨e, s', h1, h2⟩ := key F s K r h
  exact ⟨e, s', h1, fun X a w lc hR Q hQ => wp_loop_rounds F (h2 X a w lc hR Q hQ)⟩
end
end Go.Rv
