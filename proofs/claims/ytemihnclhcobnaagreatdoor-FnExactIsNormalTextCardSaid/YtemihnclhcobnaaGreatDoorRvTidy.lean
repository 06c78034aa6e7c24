/- Blocks told anew, in the slots' order. -/
import Derived.Test.YtemihnclhcobnaaGreatDoorRvOps
namespace Go.Rv
set_option linter.unusedSimpArgs false
open Go.RowKit (Below)
section
variable {I : World -> Prop} {P : Program} {L : Lay} {β : Type}


theorem Ca {n : Nat} : ∀ {l : List Nat}, jT n l = true ↔ n ∈ l
 | [] => by simp [jT]
 | x :: l => by
  simp only [jT, akf]
  cases h : Nat.beq x n with
  | true => simp [(aj3 h).symm]
  | false =>
   have : ¬ n = x := fun e => by
    rw [e, show Nat.beq x x = true from alV x] at h
    cases h
   simp only [ajY, Ca, this, false_or]

theorem DR {acc : List Nat} (h : acc.Nodup) (n : Nat) : (DQ acc n).Nodup := by
 unfold DQ
 cases hm : jT n acc with
 | true => exact h
 | false =>
  simp only [ajY]
  refine amc.2 ⟨h, by simp, fun a ha b hb => ?_⟩
  simp at hb
  intro e
  rw [e, hb] at ha
  rw [Ca.2 ha] at hm
  cases hm
theorem jc : ∀ (l : List Nat) {acc : List Nat}, acc.Nodup -> (eJ acc l).Nodup
 | [], _, h => h
 | n :: l, _, h => jc l (DR h n)
theorem gI : ∀ (l : List TV) {acc : List Nat}, acc.Nodup -> (jA acc l).Nodup
 | [], _, h => h
 | _ :: l, _, h => gI l (jc _ h)
theorem j0 (bl : List Blk) : ∀ (n : Nat) {acc : List Nat}, acc.Nodup -> (close bl n acc).Nodup
 | 0, _, h => h
 | n + 1, acc, h => by
  refine j0 bl n ?_
  have key : ∀ (l : List Nat) {acc : List Nat}, acc.Nodup -> (l.foldl (fun a j => eJ a (uT (nth .dead bl j))) acc).Nodup := by
   intro l
   induction l with
   | nil => intro acc h; exact h
   | cons j l ih => intro acc h; exact ih (jc _ h)
  exact key acc h

theorem uM : ∀ (l : List Blk) (n j : Nat), j ∈ uL l n -> n <= j
 | [], _, _, h => by cases h
 | b :: l, n, j, h => by
  simp only [uL] at h
  cases hb : b.pin with
  | true =>
   rw [hb] at h
   rcases akf.1 h with rfl | h
   ·exact aj8 _
   ·exact Nat.le_of_succ_le (uM l (n + 1) j h)
  | false =>
   rw [hb] at h
   exact Nat.le_of_succ_le (uM l (n + 1) j h)
theorem kg : ∀ (l : List Blk) (n : Nat), (uL l n).Nodup
 | [], _ => .nil
 | b :: l, n => by
  simp only [uL]
  cases b.pin with
  | true => exact alN.2 ⟨fun h => by have := uM l (n + 1) n h; omega, kg l (n + 1)⟩
  | false => exact kg l (n + 1)

theorem dO {n : Nat} : ∀ {l : List Nat} {i k : Nat}, nF n l i = some k -> ∃ m, k = i + m /\ l[m]? = some n
 | [], i, k, h => by cases h
 | x :: l, i, k, h => by
  simp only [nF] at h
  cases hb : Nat.beq x n with
  | true =>
   rw [hb] at h
   simp only [ajZ, aj1] at h
   exact ⟨0, by omega, by simp [aj3 hb]⟩
  | false =>
   rw [hb] at h
   simp only [ajY] at h
   obtain ⟨m, h1, h2⟩ := dO h
   exact ⟨m + 1, by omega, by simpa using h2⟩

def ba (lc : List Loc) (sel : List Nat) : List Loc := sel.map fun j => (lc[j]?).getD (.c 0)

theorem di {lc : List Loc} {sel : List Nat} {i j : Nat} {ℓ : Loc} (h : sel[i]? = some j) (hl : lc[j]? = some ℓ) : (ba lc sel)[i]? = some ℓ := by simp [ba, h, hl]

theorem rh {lc : List Loc} {sel : List Nat} : ∀ (caps l : List (Nat × Nat)) (vs : List Value), px sel caps = some l -> aB (dC lc) caps vs -> aB (dC (ba lc sel)) l vs
 | [], l, vs, h, hv => by cases hv; simp only [px, aj1] at h; subst h; exact .nil
 | (j, o) :: caps, l, vs, h, hv => by
  cases hv with
  | cons h1 h2 =>
  simp only [px] at h
  split at h
  ·rename_i i l' hi hl
   simp only [aj1] at h
   subst h
   obtain ⟨m, hm, hj⟩ := dO hi
   obtain ⟨g, hg, he⟩ := h1
   exact .cons ⟨g, di (by rw [hm]; simpa using hj) hg, he⟩ (rh caps l' _ hl h2)
  ·cases h

theorem CE {X : Cx I} {lc : List Loc} {sel : List Nat} {s : SV} {v : Value} (h : aD X lc s v) : aD X (ba lc sel) (gJ sel s) v := by
 cases s <;> try exact h
 ·rename_i j o
  obtain ⟨g, hg, he⟩ := h
  simp only [gJ]
  split
  ·rename_i i hi
   obtain ⟨m, hm, hj⟩ := dO hi
   exact ⟨g, di (by rw [hm]; simpa using hj) hg, he⟩
  ·trivial
 ·rename_i j
  obtain ⟨hg, he⟩ := h
  simp only [gJ]
  split
  ·rename_i i hi
   obtain ⟨m, hm, hj⟩ := dO hi
   exact ⟨di (by rw [hm]; simpa using hj) hg, he⟩
  ·trivial
 ·rename_i j z i o
  obtain ⟨g, n, c, hg, he⟩ := h
  simp only [gJ]
  split
  ·rename_i k hi
   obtain ⟨m, hm, hj⟩ := dO hi
   exact ⟨g, n, c, di (by rw [hm]; simpa using hj) hg, he⟩
  ·trivial
 ·rename_i f caps
  obtain ⟨vs, h1, h2⟩ := h
  simp only [gJ]
  split
  ·rename_i c hc
   exact ⟨vs, h1, rh _ _ _ hc h2⟩
  ·trivial
 ·rename_i j
  obtain ⟨g, hg, he⟩ := h
  simp only [gJ]
  split
  ·rename_i i hi
   obtain ⟨m, hm, hj⟩ := dO hi
   exact ⟨g, di (by rw [hm]; simpa using hj) hg, he⟩
  ·trivial
 ·rename_i j i
  obtain ⟨g, n, c, hg, he⟩ := h
  simp only [gJ]
  split
  ·rename_i k hi
   obtain ⟨m, hm, hj⟩ := dO hi
   exact ⟨g, n, c, di (by rw [hm]; simpa using hj) hg, he⟩
  ·trivial

theorem uX {X : Cx I} {lc : List Loc} {sel : List Nat} {l : List SV} {vs : List Value} (h : aB (aD X lc) l vs) : aB (aD X (ba lc sel)) (l.map (gJ sel)) vs :=
 aB.map_left (h.mono fun _ _ h => CE h)
theorem CD {X : Cx I} {lc : List Loc} {sel : List Nat} {x : AV} {v : Value} (h : a7 X lc x v) : a7 X (ba lc sel) (uW sel x) v := by
 cases x with
 | one s => exact CE h
 | agg l =>
  obtain ⟨cs, h1, h2⟩ := h
  exact ⟨cs, h1, uX h2⟩
theorem py {X : Cx I} {lc : List Loc} {sel : List Nat} {x : TV} {v : Value} (h : aC X lc x v) : aC X (ba lc sel) (nL sel x) v := by
 cases x with
 | v x => exact CD h
 | tup l =>
  obtain ⟨cs, h1, h2⟩ := h
  exact ⟨cs, h1, aB.map_left (h2.mono fun _ _ h => CD h)⟩

theorem Oi {X : Cx I} {lc : List Loc} {sel : List Nat} {w : World} {b : Blk} {ℓ : Loc} (h : dh X lc w b ℓ) : dh X (ba lc sel) w (Ac sel b) ℓ := by
 cases b <;> cases ℓ <;> try exact h
 ·obtain ⟨h1, cs, h2, h3⟩ := h
  exact ⟨h1, cs, h2, uX h3⟩
 ·obtain ⟨h1, cs, h2, h3⟩ := h
  exact ⟨h1, cs, h2, uX h3⟩

theorem Ad {sel : List Nat} {b : Blk} : (Ac sel b).on = b.on := by cases b <;> rfl

theorem aK.sel {X : Cx I} {bl : List Blk} {w : World} {lc : List Loc} (h : aK X bl w lc) {sel : List Nat} (hn : sel.Nodup) : aK X (sel.map fun j => Ac sel (nth .dead bl j)) w (ba lc sel) := by
 have at_ : ∀ (i : Nat) b, (sel.map fun j => Ac sel (nth .dead bl j))[i]? = some b -> ∃ j, sel[i]? = some j /\ b = Ac sel (nth .dead bl j) := fun i b hb => by
  rw [amI] at hb
  cases hs : sel[i]? with
  | none => rw [hs] at hb; cases hb
  | some j =>
   rw [hs] at hb
   simp only [akB, aj1] at hb
   exact ⟨j, rfl, hb.symm⟩
 have on_ : ∀ (j : Nat), (nth Blk.dead bl j).on = true -> bl[j]? = some (nth .dead bl j) := fun j hj => cn rfl (fun e => by rw [e] at hj; cases hj)
 have lc_ : ∀ (i j : Nat) ℓ, sel[i]? = some j -> bl[j]?.isSome -> (ba lc sel)[i]? = some ℓ -> lc[j]? = some ℓ := fun i j ℓ hi hb hl => by
  have hj : j < lc.length := by
   rw [h.len]
   cases hbj : bl[j]? with
   | none => rw [hbj] at hb; cases hb
   | some b => exact (amH.1 hbj).1
  simp only [ba, amI, hi, akB, amF hj, ak1, aj1] at hl
  rw [amF hj, hl]
 refine ⟨by simp [ba], fun i b ℓ hb hl => ?_, fun i k bi bk li lk g hik hi hk oni onk hli hlk hgi hgk => ?_, h.below, h.frz, fun i b ℓ g hb hon hl hg => by
  obtain ⟨j, hj, rfl⟩ := at_ i b hb
  rw [Ad] at hon
  have h1 := on_ j hon
  exact h.frn j _ ℓ g h1 hon (lc_ i j ℓ hj (by rw [h1]; rfl) hl) hg⟩
 ·obtain ⟨j, hj, rfl⟩ := at_ i b hb
  cases hon : (nth Blk.dead bl j).on with
  | false =>
   cases hbj : nth Blk.dead bl j with
   | dead => cases ℓ <;> trivial
   | cells _ _ => rw [hbj] at hon; cases hon
   | prow _ _ _ => rw [hbj] at hon; cases hon
   | row _ _ => rw [hbj] at hon; cases hon
   | mp _ _ => rw [hbj] at hon; cases hon
   | pcells _ _ _ => rw [hbj] at hon; cases hon
   | pmp _ _ _ => rw [hbj] at hon; cases hon
   | srow _ _ => rw [hbj] at hon; cases hon
  | true =>
   have := on_ j hon
   exact Oi (h.blks j _ ℓ this (lc_ i j ℓ hj (by rw [this]; rfl) hl))
 ·obtain ⟨j, hj, rfl⟩ := at_ i bi hi
  obtain ⟨m, hm, rfl⟩ := at_ k bk hk
  rw [Ad] at oni onk
  have h1 := on_ j oni
  have h2 := on_ m onk
  have hjm : j ≠ m := fun e => by
   subst e
   obtain ⟨hi', ei⟩ := amH.1 hj
   obtain ⟨hk', ek⟩ := amH.1 hm
   rcases Nat.lt_or_gt_of_ne hik with hlt | hlt
   ·exact aln.1 hn i k hi' hk' hlt (by rw [ei, ek])
   ·exact aln.1 hn k i hk' hi' hlt (by rw [ei, ek])
  exact h.apart j m _ _ li lk g hjm h1 h2 oni onk (lc_ i j li hj (by rw [h1]; rfl) hli) (lc_ k m lk hm (by rw [h2]; rfl) hlk) hgi hgk

theorem D7 {X : Cx I} {lc : List Loc} {lv : Nat} {l : List TV} {vs : List Value} (h : aB (aC X lc) l vs) : ∀ n, aB (aC X lc) (forget lv l n) vs := by
 induction h with
 | nil => intro n; exact .nil
 | @cons x y _ _ h1 _ ih =>
  intro n
  refine .cons ?_ (ih (n + 1))
  cases inN lv n with
  | true => exact h1
  | false => exact CB _

theorem Rel.tidy {X : Cx I} {s : St} {a : Act} {w : World} {lc : List Loc} (h : Rel X s a w lc) (lv : Nat) : ∃ lc', Rel X (s.tidy lv) a w lc' :=
 ⟨_, aB.map_left ((D7 h.tmps 0).mono fun _ _ h => py h), h.world.sel (j0 _ _ (gI _ (kg _ _))), h.defers⟩

end
end Go.Rv
