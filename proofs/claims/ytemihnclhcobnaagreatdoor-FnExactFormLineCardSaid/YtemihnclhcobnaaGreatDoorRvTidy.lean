/- Blocks told anew, in the slots' order. -/
import Derived.Test.YtemihnclhcobnaaGreatDoorRvOps
namespace Go.Rv
set_option linter.unusedSimpArgs false
open Go.RowKit (Below)
section
variable {I : World → Prop} {P : Program} {L : Lay} {β : Type}


theorem zk {n : Nat} : ∀ {l : List Nat}, jd n l = true ↔ n ∈ l
 | [] => by simp [jd]
 | x :: l => by
  simp only [jd, YN]
  cases h : Nat.beq x n with
  | true => simp [(YA h).symm]
  | false =>
   have : ¬ n = x := fun e => by
    rw [e, show Nat.beq x x = true from aar x] at h
    cases h
   simp only [YB, zk, this, false_or]

theorem AR {acc : List Nat} (h : acc.Nodup) (n : Nat) : (AQ acc n).Nodup := by
 unfold AQ
 cases hm : jd n acc with
 | true => exact h
 | false =>
  simp only [YB]
  refine aaJ.2 ⟨h, by simp, fun a ha b hb => ?_⟩
  simp at hb
  intro e
  rw [e, hb] at ha
  rw [zk.2 ha] at hm
  cases hm
theorem ix : ∀ (l : List Nat) {acc : List Nat}, acc.Nodup → (ee acc l).Nodup
 | [], _, h => h
 | n :: l, _, h => ix l (AR h n)
theorem f4 : ∀ (l : List TV) {acc : List Nat}, acc.Nodup → (iR acc l).Nodup
 | [], _, h => h
 | _ :: l, _, h => f4 l (ix _ h)
theorem jl (bl : List Blk) : ∀ (n : Nat) {acc : List Nat}, acc.Nodup → (close bl n acc).Nodup
 | 0, _, h => h
 | n + 1, acc, h => by
  refine jl bl n ?_
  have key : ∀ (l : List Nat) {acc : List Nat}, acc.Nodup → (l.foldl (fun a j => ee a (sh (nth .dead bl j))) acc).Nodup := by
   intro l
   induction l with
   | nil => intro acc h; exact h
   | cons j l ih => intro acc h; exact ih (ix _ h)
  exact key acc h

theorem r0 : ∀ (l : List Blk) (n j : Nat), j ∈ rZ l n → n ≤ j
 | [], _, _, h => by cases h
 | b :: l, n, j, h => by
  simp only [rZ] at h
  cases hb : b.pin with
  | true =>
   rw [hb] at h
   rcases YN.1 h with rfl | h
   ·exact YG _
   ·exact Nat.le_of_succ_le (r0 l (n + 1) j h)
  | false =>
   rw [hb] at h
   exact Nat.le_of_succ_le (r0 l (n + 1) j h)
theorem jA : ∀ (l : List Blk) (n : Nat), (rZ l n).Nodup
 | [], _ => .nil
 | b :: l, n => by
  simp only [rZ]
  cases b.pin with
  | true => exact aal.2 ⟨fun h => by have := r0 l (n + 1) n h; omega, jA l (n + 1)⟩
  | false => exact jA l (n + 1)

theorem dB {n : Nat} : ∀ {l : List Nat} {i k : Nat}, mt n l i = some k → ∃ m, k = i + m ∧ l[m]? = some n
 | [], i, k, h => by cases h
 | x :: l, i, k, h => by
  simp only [mt] at h
  cases hb : Nat.beq x n with
  | true =>
   rw [hb] at h
   simp only [YC, Yy] at h
   exact ⟨0, by omega, by simp [YA hb]⟩
  | false =>
   rw [hb] at h
   simp only [YB] at h
   obtain ⟨m, h1, h2⟩ := dB h
   exact ⟨m + 1, by omega, by simpa using h2⟩

def a8 (lc : List Loc) (sel : List Nat) : List Loc := sel.map fun j => (lc[j]?).getD (.c 0)

theorem cT {lc : List Loc} {sel : List Nat} {i j : Nat} {ℓ : Loc} (h : sel[i]? = some j) (hl : lc[j]? = some ℓ) : (a8 lc sel)[i]? = some ℓ := by simp [a8, h, hl]

theorem pm {lc : List Loc} {sel : List Nat} : ∀ (caps l : List (Nat × Nat)) (vs : List Value), nF sel caps = some l → aw (dk lc) caps vs → aw (dk (a8 lc sel)) l vs
 | [], l, vs, h, hv => by cases hv; simp only [nF, Yy] at h; subst h; exact .nil
 | (j, o) :: caps, l, vs, h, hv => by
  cases hv with
  | cons h1 h2 =>
  simp only [nF] at h
  split at h
  ·rename_i i l' hi hl
   simp only [Yy] at h
   subst h
   obtain ⟨m, hm, hj⟩ := dB hi
   obtain ⟨g, hg, he⟩ := h1
   exact .cons ⟨g, cT (by rw [hm]; simpa using hj) hg, he⟩ (pm caps l' _ hl h2)
  ·cases h

theorem zM {X : Cx I} {lc : List Loc} {sel : List Nat} {s : SV} {v : Value} (h : aD X lc s v) : aD X (a8 lc sel) (f5 sel s) v := by
 cases s <;> try exact h
 ·rename_i j o
  obtain ⟨g, hg, he⟩ := h
  simp only [f5]
  split
  ·rename_i i hi
   obtain ⟨m, hm, hj⟩ := dB hi
   exact ⟨g, cT (by rw [hm]; simpa using hj) hg, he⟩
  ·trivial
 ·rename_i j
  obtain ⟨hg, he⟩ := h
  simp only [f5]
  split
  ·rename_i i hi
   obtain ⟨m, hm, hj⟩ := dB hi
   exact ⟨cT (by rw [hm]; simpa using hj) hg, he⟩
  ·trivial
 ·rename_i j z i o
  obtain ⟨g, n, c, hg, he⟩ := h
  simp only [f5]
  split
  ·rename_i k hi
   obtain ⟨m, hm, hj⟩ := dB hi
   exact ⟨g, n, c, cT (by rw [hm]; simpa using hj) hg, he⟩
  ·trivial
 ·rename_i f caps
  obtain ⟨vs, h1, h2⟩ := h
  simp only [f5]
  split
  ·rename_i c hc
   exact ⟨vs, h1, pm _ _ _ hc h2⟩
  ·trivial
 ·rename_i j
  obtain ⟨g, hg, he⟩ := h
  simp only [f5]
  split
  ·rename_i i hi
   obtain ⟨m, hm, hj⟩ := dB hi
   exact ⟨g, cT (by rw [hm]; simpa using hj) hg, he⟩
  ·trivial
 ·rename_i j i
  obtain ⟨g, n, c, hg, he⟩ := h
  simp only [f5]
  split
  ·rename_i k hi
   obtain ⟨m, hm, hj⟩ := dB hi
   exact ⟨g, n, c, cT (by rw [hm]; simpa using hj) hg, he⟩
  ·trivial

theorem sm {X : Cx I} {lc : List Loc} {sel : List Nat} {l : List SV} {vs : List Value} (h : aw (aD X lc) l vs) : aw (aD X (a8 lc sel)) (l.map (f5 sel)) vs :=
 aw.map_left (h.mono fun _ _ h => zM h)
theorem zL {X : Cx I} {lc : List Loc} {sel : List Nat} {x : AV} {v : Value} (h : a6 X lc x v) : a6 X (a8 lc sel) (sk sel x) v := by
 cases x with
 | one s => exact zM h
 | agg l =>
  obtain ⟨cs, h1, h2⟩ := h
  exact ⟨cs, h1, sm h2⟩
theorem nG {X : Cx I} {lc : List Loc} {sel : List Nat} {x : TV} {v : Value} (h : aC X lc x v) : aC X (a8 lc sel) (mB sel x) v := by
 cases x with
 | v x => exact zL h
 | tup l =>
  obtain ⟨cs, h1, h2⟩ := h
  exact ⟨cs, h1, aw.map_left (h2.mono fun _ _ h => zL h)⟩

theorem J2 {X : Cx I} {lc : List Loc} {sel : List Nat} {w : World} {b : Blk} {ℓ : Loc} (h : cS X lc w b ℓ) : cS X (a8 lc sel) w (wZ sel b) ℓ := by
 cases b <;> cases ℓ <;> try exact h
 ·obtain ⟨h1, cs, h2, h3⟩ := h
  exact ⟨h1, cs, h2, sm h3⟩
 ·obtain ⟨h1, cs, h2, h3⟩ := h
  exact ⟨h1, cs, h2, sm h3⟩

theorem w7 {sel : List Nat} {b : Blk} : (wZ sel b).on = b.on := by cases b <;> rfl

theorem aH.sel {X : Cx I} {bl : List Blk} {w : World} {lc : List Loc} (h : aH X bl w lc) {sel : List Nat} (hn : sel.Nodup) : aH X (sel.map fun j => wZ sel (nth .dead bl j)) w (a8 lc sel) := by
 have at_ : ∀ (i : Nat) b, (sel.map fun j => wZ sel (nth .dead bl j))[i]? = some b → ∃ j, sel[i]? = some j ∧ b = wZ sel (nth .dead bl j) := fun i b hb => by
  rw [abe] at hb
  cases hs : sel[i]? with
  | none => rw [hs] at hb; cases hb
  | some j =>
   rw [hs] at hb
   simp only [Zf, Yy] at hb
   exact ⟨j, rfl, hb.symm⟩
 have on_ : ∀ (j : Nat), (nth Blk.dead bl j).on = true → bl[j]? = some (nth .dead bl j) := fun j hj => b8 rfl (fun e => by rw [e] at hj; cases hj)
 have lc_ : ∀ (i j : Nat) ℓ, sel[i]? = some j → bl[j]?.isSome → (a8 lc sel)[i]? = some ℓ → lc[j]? = some ℓ := fun i j ℓ hi hb hl => by
  have hj : j < lc.length := by
   rw [h.len]
   cases hbj : bl[j]? with
   | none => rw [hbj] at hb; cases hb
   | some b => exact (abd.1 hbj).1
  simp only [a8, abe, hi, Zf, abb hj, ZB, Yy] at hl
  rw [abb hj, hl]
 refine ⟨by simp [a8], fun i b ℓ hb hl => ?_, fun i k bi bk li lk g hik hi hk oni onk hli hlk hgi hgk => ?_, h.below, h.frz, fun i b ℓ g hb hon hl hg => by
  obtain ⟨j, hj, rfl⟩ := at_ i b hb
  rw [w7] at hon
  have h1 := on_ j hon
  exact h.frn j _ ℓ g h1 hon (lc_ i j ℓ hj (by rw [h1]; rfl) hl) hg⟩
 ·obtain ⟨j, hj, rfl⟩ := at_ i b hb
  cases hon : (nth Blk.dead bl j).on with
  | false =>
   cases hbj : nth Blk.dead bl j with
   | dead => cases ℓ <;> trivial
   | cells _ _ => rw [hbj] at hon; cases hon
   | prow _ _ _ => rw [hbj] at hon; cases hon
   | row _ _ => rw [hbj] at hon; cases hon
   | mp _ _ => rw [hbj] at hon; cases hon
   | pcells _ _ _ => rw [hbj] at hon; cases hon
   | pmp _ _ _ => rw [hbj] at hon; cases hon
   | srow _ _ => rw [hbj] at hon; cases hon
  | true =>
   have := on_ j hon
   exact J2 (h.blks j _ ℓ this (lc_ i j ℓ hj (by rw [this]; rfl) hl))
 ·obtain ⟨j, hj, rfl⟩ := at_ i bi hi
  obtain ⟨m, hm, rfl⟩ := at_ k bk hk
  rw [w7] at oni onk
  have h1 := on_ j oni
  have h2 := on_ m onk
  have hjm : j ≠ m := fun e => by
   subst e
   obtain ⟨hi', ei⟩ := abd.1 hj
   obtain ⟨hk', ek⟩ := abd.1 hm
   rcases Nat.lt_or_gt_of_ne hik with hlt | hlt
   ·exact ZY.1 hn i k hi' hk' hlt (by rw [ei, ek])
   ·exact ZY.1 hn k i hk' hi' hlt (by rw [ei, ek])
  exact h.apart j m _ _ li lk g hjm h1 h2 oni onk (lc_ i j li hj (by rw [h1]; rfl) hli) (lc_ k m lk hm (by rw [h2]; rfl) hlk) hgi hgk

theorem Bc {X : Cx I} {lc : List Loc} {lv : Nat} {l : List TV} {vs : List Value} (h : aw (aC X lc) l vs) : ∀ n, aw (aC X lc) (forget lv l n) vs := by
 induction h with
 | nil => intro n; exact .nil
 | @cons x y _ _ h1 _ ih =>
  intro n
  refine .cons ?_ (ih (n + 1))
  cases inN lv n with
  | true => exact h1
  | false => exact zJ _

theorem Rel.tidy {X : Cx I} {s : St} {a : Act} {w : World} {lc : List Loc} (h : Rel X s a w lc) (lv : Nat) : ∃ lc', Rel X (s.tidy lv) a w lc' :=
 ⟨_, aw.map_left ((Bc h.tmps 0).mono fun _ _ h => nG h), h.world.sel (jl _ _ (f4 _ (jA _ _))), h.defers⟩

end
end Go.Rv
