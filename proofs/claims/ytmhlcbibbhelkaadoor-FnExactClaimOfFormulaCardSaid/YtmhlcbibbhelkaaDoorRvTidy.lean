/- Blocks told anew, in the slots' order. -/
import Derived.Test.YtmhlcbibbhelkaaDoorRvOps
namespace Go.Rv
open Go.RowKit (Below)
section
variable {I : World → Prop} {P : Program} {L : Lay} {β : Type}


theorem memL_iff {n : Nat} : ∀ {l : List Nat}, memL n l = true ↔ n ∈ l
  | [] => by simp [memL]
  | x :: l => by
    simp only [memL, List.mem_cons]
    cases h : Nat.beq x n with
    | true => simp [(Nat.eq_of_beq_eq_true h).symm]
    | false =>
      have : ¬ n = x := fun e => by
        rw [e, show Nat.beq x x = true from Nat.beq_refl x] at h
        cases h
      simp only [cond_false, memL_iff, this, false_or]

theorem addL_nodup {acc : List Nat} (h : acc.Nodup) (n : Nat) : (addL acc n).Nodup := by
  unfold addL
  cases hm : memL n acc with
  | true => exact h
  | false =>
    simp only [cond_false]
    refine List.nodup_append.2 ⟨h, by simp, fun a ha b hb => ?_⟩
    simp at hb
    intro e
    rw [e, hb] at ha
    rw [memL_iff.2 ha] at hm
    cases hm
theorem addAll_nodup : ∀ (l : List Nat) {acc : List Nat}, acc.Nodup → (addAll acc l).Nodup
  | [], _, h => h
  | n :: l, _, h => addAll_nodup l (addL_nodup h n)
theorem refsAll_nodup : ∀ (l : List TV) {acc : List Nat}, acc.Nodup → (refsAll acc l).Nodup
  | [], _, h => h
  | _ :: l, _, h => refsAll_nodup l (addAll_nodup _ h)
theorem close_nodup (bl : List Blk) : ∀ (n : Nat) {acc : List Nat}, acc.Nodup → (close bl n acc).Nodup
  | 0, _, h => h
  | n + 1, acc, h => by
    refine close_nodup bl n ?_
    have key : ∀ (l : List Nat) {acc : List Nat}, acc.Nodup → (l.foldl (fun a j => addAll a (refsB (nth .dead bl j))) acc).Nodup := by
      intro l
      induction l with
      | nil => intro acc h; exact h
      | cons j l ih => intro acc h; exact ih (addAll_nodup _ h)
    exact key acc h

theorem pinsL_ge : ∀ (l : List Blk) (n j : Nat), j ∈ pinsL l n → n ≤ j
  | [], _, _, h => by cases h
  | b :: l, n, j, h => by
    simp only [pinsL] at h
    cases hb : b.pin with
    | true =>
      rw [hb] at h
      rcases List.mem_cons.1 h with rfl | h
      · exact Nat.le_refl _
      · exact Nat.le_of_succ_le (pinsL_ge l (n + 1) j h)
    | false =>
      rw [hb] at h
      exact Nat.le_of_succ_le (pinsL_ge l (n + 1) j h)
theorem pinsL_nodup : ∀ (l : List Blk) (n : Nat), (pinsL l n).Nodup
  | [], _ => .nil
  | b :: l, n => by
    simp only [pinsL]
    cases b.pin with
    | true => exact List.nodup_cons.2 ⟨fun h => by have := pinsL_ge l (n + 1) n h; omega, pinsL_nodup l (n + 1)⟩
    | false => exact pinsL_nodup l (n + 1)

theorem idxL_spec {n : Nat} : ∀ {l : List Nat} {i k : Nat}, idxL n l i = some k → ∃ m, k = i + m ∧ l[m]? = some n
  | [], i, k, h => by cases h
  | x :: l, i, k, h => by
    simp only [idxL] at h
    cases hb : Nat.beq x n with
    | true =>
      rw [hb] at h
      simp only [cond_true, Option.some.injEq] at h
      exact ⟨0, by omega, by simp [Nat.eq_of_beq_eq_true hb]⟩
    | false =>
      rw [hb] at h
      simp only [cond_false] at h
      obtain ⟨m, h1, h2⟩ := idxL_spec h
      exact ⟨m + 1, by omega, by simpa using h2⟩

def selLoc (lc : List Loc) (sel : List Nat) : List Loc := sel.map fun j => (lc[j]?).getD (.c 0)

theorem selLoc_get {lc : List Loc} {sel : List Nat} {i j : Nat} {ℓ : Loc} (h : sel[i]? = some j) (hl : lc[j]? = some ℓ) : (selLoc lc sel)[i]? = some ℓ := by simp [selLoc, h, hl]

theorem renCaps_rel {lc : List Loc} {sel : List Nat} : ∀ (caps l : List (Nat × Nat)) (vs : List Value), renCaps sel caps = some l → All2 (placeOK lc) caps vs → All2 (placeOK (selLoc lc sel)) l vs
  | [], l, vs, h, hv => by cases hv; simp only [renCaps, Option.some.injEq] at h; subst h; exact .nil
  | (j, o) :: caps, l, vs, h, hv => by
    cases hv with
    | cons h1 h2 =>
    simp only [renCaps] at h
    split at h
    · rename_i i l' hi hl
      simp only [Option.some.injEq] at h
      subst h
      obtain ⟨m, hm, hj⟩ := idxL_spec hi
      obtain ⟨g, hg, he⟩ := h1
      exact .cons ⟨g, selLoc_get (by rw [hm]; simpa using hj) hg, he⟩ (renCaps_rel caps l' _ hl h2)
    · cases h

theorem renS_rel {X : Cx I} {lc : List Loc} {sel : List Nat} {s : SV} {v : Value} (h : relS X lc s v) : relS X (selLoc lc sel) (renS sel s) v := by
  cases s <;> try exact h
  · rename_i j o
    obtain ⟨g, hg, he⟩ := h
    simp only [renS]
    split
    · rename_i i hi
      obtain ⟨m, hm, hj⟩ := idxL_spec hi
      exact ⟨g, selLoc_get (by rw [hm]; simpa using hj) hg, he⟩
    · trivial
  · rename_i j
    obtain ⟨hg, he⟩ := h
    simp only [renS]
    split
    · rename_i i hi
      obtain ⟨m, hm, hj⟩ := idxL_spec hi
      exact ⟨selLoc_get (by rw [hm]; simpa using hj) hg, he⟩
    · trivial
  · rename_i j z i o
    obtain ⟨g, n, c, hg, he⟩ := h
    simp only [renS]
    split
    · rename_i k hi
      obtain ⟨m, hm, hj⟩ := idxL_spec hi
      exact ⟨g, n, c, selLoc_get (by rw [hm]; simpa using hj) hg, he⟩
    · trivial
  · rename_i f caps
    obtain ⟨vs, h1, h2⟩ := h
    simp only [renS]
    split
    · rename_i c hc
      exact ⟨vs, h1, renCaps_rel _ _ _ hc h2⟩
    · trivial
  · rename_i j
    obtain ⟨g, hg, he⟩ := h
    simp only [renS]
    split
    · rename_i i hi
      obtain ⟨m, hm, hj⟩ := idxL_spec hi
      exact ⟨g, selLoc_get (by rw [hm]; simpa using hj) hg, he⟩
    · trivial
  · rename_i j i
    obtain ⟨g, n, c, hg, he⟩ := h
    simp only [renS]
    split
    · rename_i k hi
      obtain ⟨m, hm, hj⟩ := idxL_spec hi
      exact ⟨g, n, c, selLoc_get (by rw [hm]; simpa using hj) hg, he⟩
    · trivial

theorem renL_rel {X : Cx I} {lc : List Loc} {sel : List Nat} {l : List SV} {vs : List Value} (h : All2 (relS X lc) l vs) : All2 (relS X (selLoc lc sel)) (l.map (renS sel)) vs :=
  All2.map_left (h.mono fun _ _ h => renS_rel h)
theorem renA_rel {X : Cx I} {lc : List Loc} {sel : List Nat} {x : AV} {v : Value} (h : relA X lc x v) : relA X (selLoc lc sel) (renA sel x) v := by
  cases x with
  | one s => exact renS_rel h
  | agg l =>
    obtain ⟨cs, h1, h2⟩ := h
    exact ⟨cs, h1, renL_rel h2⟩
theorem renT_rel {X : Cx I} {lc : List Loc} {sel : List Nat} {x : TV} {v : Value} (h : relT X lc x v) : relT X (selLoc lc sel) (renT sel x) v := by
  cases x with
  | v x => exact renA_rel h
  | tup l =>
    obtain ⟨cs, h1, h2⟩ := h
    exact ⟨cs, h1, All2.map_left (h2.mono fun _ _ h => renA_rel h)⟩

theorem renB_rel {X : Cx I} {lc : List Loc} {sel : List Nat} {w : World} {b : Blk} {ℓ : Loc} (h : relB X lc w b ℓ) : relB X (selLoc lc sel) w (renB sel b) ℓ := by
  cases b <;> cases ℓ <;> try exact h
  · obtain ⟨h1, cs, h2, h3⟩ := h
    exact ⟨h1, cs, h2, renL_rel h3⟩
  · obtain ⟨h1, cs, h2, h3⟩ := h
    exact ⟨h1, cs, h2, renL_rel h3⟩

theorem renB_on {sel : List Nat} {b : Blk} : (renB sel b).on = b.on := by cases b <;> rfl

theorem RelW.sel {X : Cx I} {bl : List Blk} {w : World} {lc : List Loc} (h : RelW X bl w lc) {sel : List Nat} (hn : sel.Nodup) : RelW X (sel.map fun j => renB sel (nth .dead bl j)) w (selLoc lc sel) := by
  have at_ : ∀ (i : Nat) b, (sel.map fun j => renB sel (nth .dead bl j))[i]? = some b → ∃ j, sel[i]? = some j ∧ b = renB sel (nth .dead bl j) := fun i b hb => by
    rw [List.getElem?_map] at hb
    cases hs : sel[i]? with
    | none => rw [hs] at hb; cases hb
    | some j =>
      rw [hs] at hb
      simp only [Option.map_some, Option.some.injEq] at hb
      exact ⟨j, rfl, hb.symm⟩
  have on_ : ∀ (j : Nat), (nth Blk.dead bl j).on = true → bl[j]? = some (nth .dead bl j) := fun j hj => nth_some rfl (fun e => by rw [e] at hj; cases hj)
  have lc_ : ∀ (i j : Nat) ℓ, sel[i]? = some j → bl[j]?.isSome → (selLoc lc sel)[i]? = some ℓ → lc[j]? = some ℓ := fun i j ℓ hi hb hl => by
    have hj : j < lc.length := by
      rw [h.len]
      cases hbj : bl[j]? with
      | none => rw [hbj] at hb; cases hb
      | some b => exact (List.getElem?_eq_some_iff.1 hbj).1
    simp only [selLoc, List.getElem?_map, hi, Option.map_some, List.getElem?_eq_getElem hj, Option.getD_some, Option.some.injEq] at hl
    rw [List.getElem?_eq_getElem hj, hl]
  refine ⟨by simp [selLoc], fun i b ℓ hb hl => ?_, fun i k bi bk li lk g hik hi hk oni onk hli hlk hgi hgk => ?_, h.below, h.frz, fun i b ℓ g hb hon hl hg => by
    obtain ⟨j, hj, rfl⟩ := at_ i b hb
    rw [renB_on] at hon
    have h1 := on_ j hon
    exact h.frn j _ ℓ g h1 hon (lc_ i j ℓ hj (by rw [h1]; rfl) hl) hg⟩
  · obtain ⟨j, hj, rfl⟩ := at_ i b hb
    cases hon : (nth Blk.dead bl j).on with
    | false =>
      cases hbj : nth Blk.dead bl j with
      | dead => cases ℓ <;> trivial
      | cells _ _ => rw [hbj] at hon; cases hon
      | prow _ _ _ => rw [hbj] at hon; cases hon
      | row _ _ => rw [hbj] at hon; cases hon
      | mp _ _ => rw [hbj] at hon; cases hon
      | pcells _ _ _ => rw [hbj] at hon; cases hon
      | pmp _ _ _ => rw [hbj] at hon; cases hon
      | srow _ _ => rw [hbj] at hon; cases hon
    | true =>
      have := on_ j hon
      exact renB_rel (h.blks j _ ℓ this (lc_ i j ℓ hj (by rw [this]; rfl) hl))
  · obtain ⟨j, hj, rfl⟩ := at_ i bi hi
    obtain ⟨m, hm, rfl⟩ := at_ k bk hk
    rw [renB_on] at oni onk
    have h1 := on_ j oni
    have h2 := on_ m onk
    have hjm : j ≠ m := fun e => by
      subst e
      obtain ⟨hi', ei⟩ := List.getElem?_eq_some_iff.1 hj
      obtain ⟨hk', ek⟩ := List.getElem?_eq_some_iff.1 hm
      rcases Nat.lt_or_gt_of_ne hik with hlt | hlt
      · exact List.pairwise_iff_getElem.1 hn i k hi' hk' hlt (by rw [ei, ek])
      · exact List.pairwise_iff_getElem.1 hn k i hk' hi' hlt (by rw [ei, ek])
    exact h.apart j m _ _ li lk g hjm h1 h2 oni onk (lc_ i j li hj (by rw [h1]; rfl) hli) (lc_ k m lk hm (by rw [h2]; rfl) hlk) hgi hgk

theorem forget_rel {X : Cx I} {lc : List Loc} {lv : Nat} {l : List TV} {vs : List Value} (h : All2 (relT X lc) l vs) : ∀ n, All2 (relT X lc) (forget lv l n) vs := by
  induction h with
  | nil => intro n; exact .nil
  | @cons x y _ _ h1 _ ih =>
    intro n
    refine .cons ?_ (ih (n + 1))
    cases inN lv n with
    | true => exact h1
    | false => exact relT_und _

theorem Rel.tidy {X : Cx I} {s : St} {a : Act} {w : World} {lc : List Loc} (h : Rel X s a w lc) (lv : Nat) : ∃ lc', Rel X (s.tidy lv) a w lc' :=
  ⟨_, All2.map_left ((forget_rel h.tmps 0).mono fun _ _ h => renT_rel h), h.world.sel (close_nodup _ _ (refsAll_nodup _ (pinsL_nodup _ _))), h.defers⟩

end
end Go.Rv
