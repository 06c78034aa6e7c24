/- What the evaluator says of an operation is what the machine does, in every world that fits. -/
import Derived.Test.YtemihnclhcobnaaGreatDoorRvNat
namespace Go.Rv
set_option linter.unusedSimpArgs false
open Go.RowKit (Below)
section
variable {I : World -> Prop} {P : Program} {L : Lay} {β : Type}

def SQ (I : World -> Prop) (P : Program) (o : Oper) (s : St) (x : TV) : Prop := ∀ (X : Cx I) a w lc, Rel X s a w lc ->
 ∃ v, aC X lc x v /\ ∀ G, vZ X s.blks lc (d6 s o) G -> ∀ w', Lat G w w' -> (execOp a.eval o).run P w' = .ok (.value v) w'

def SR (I : World -> Prop) (P : Program) (o : Oper) (s : St) (x : TV) (bl : List Blk) : Prop := ∀ (X : Cx I) a w lc, Rel X s a w lc ->
 ∃ more n v w' X', (execOp a.eval o).run P w = .ok n w' /\ (fo o.op = true -> Below w.heap.size w w') /\ NY n = some v /\ X.Le X' /\ aC X' (lc ++ more) x v /\ aK X' bl w' (lc ++ more)

theorem aeg {o : Oper} {s s' : St} {x : TV} (h : ∀ (X : Cx I) a w lc, Rel X s a w lc -> fU P X o a w lc s qB (x, s')) : SQ I P o s x := fun X a w lc hR => by
 obtain ⟨x', v, h1, h2, h3⟩ := h X a w lc hR
 simp only [qB, aj1, akp] at h1
 rw [<- h1.1]
 exact ⟨v, h2, h3⟩

theorem aek {o : Oper} {s : St} {x : TV} {bl : List Blk} (h : ∀ (X : Cx I) a w lc, Rel X s a w lc -> Lz P X o a w lc s qB (x, ⟨s.tmps, bl⟩)) : SR I P o s x bl := fun X a w lc hR => by
 obtain ⟨x', b', more, n, v, w', X', h1, h2, hb, h3, hle, h4, h5⟩ := h X a w lc hR
 simp only [qB, aj1, akp, St.mk.injEq, true_and] at h1
 rw [<- h1.1, <- h1.2]
 exact ⟨more, n, v, w', X', h2, hb, h3, hle, h4, h5⟩

theorem T6 {o : Oper} {s : St} {x : TV} (h : SQ I P o s x) : SR I P o s x s.blks := fun X a w lc hR => by
 obtain ⟨v, h2, h3⟩ := h X a w lc hR
 exact ⟨[], .value v, v, w, X, h3 _ (vZ.nil _ _ _ _) w (Lat.refl _), fun _ => akG _ _, rfl, .refl X, by simpa using h2, by simpa using hR.world⟩

theorem agy {H : eN} (hL : aO P L) {o : Oper} {s s' : St} {x : TV} (hq : bB o.op = true) (hc : cg o.op = false) (h : dM L (⟨[], [], [], [], H⟩ : Env Ans) o s qB = some (x, s')) : SQ I P o s x := by
 refine aeg (s' := s') fun X a w lc hR => ?_
 unfold dM at h
 split at h
 ·rename_i y ho
  rw [ho] at hq
  unfold fk at h
  split at h
  ·simp [bB] at hq
  ·exact (qE (.inl ho) hR h).q
 ·rename_i y ho
  rw [ho] at hq
  unfold fk at h
  split at h
  ·simp [bB] at hq
  ·exact (qE (.inr ho) hR h).q
 ·rename_i ho; exact (Ob ho hR h).q
 ·rename_i ho; rw [ho] at hq; cases hq
 ·rename_i ho; rw [ho] at hq; cases hq
 ·rename_i ho; rw [ho] at hq; cases hq
 ·rename_i ho; exact MJ hL ho hR h
 ·rename_i ho; rw [ho] at hq; cases hq
 ·rename_i ho; exact (WU hL ho hR h).q
 ·rename_i ho; exact (ad9 ho hR h).q
 ·rename_i ho
  rcases xO hL ho hR h with h | ⟨he, _⟩
  ·exact h
  ·rw [ho] at hq; simp [bB, he] at hq
 ·rename_i ho; exact (rc hL ho hR h).q
 ·rename_i ho; exact (G9 hL ho hR h).q
 ·rename_i ho; exact Cr hL ho hR h
 ·rename_i ho; exact Td hL ho hR h
 ·rename_i ho; rw [ho] at hq; cases hq
 ·rename_i ho; rw [ho] at hq; cases hq
 ·rename_i ho; rw [ho] at hq; cases hq
 ·rename_i ho; exact (xH ho hR h).q
 ·rename_i ho; rw [ho] at hq; cases hq
 ·rename_i ho; exact Oa hL ho hR h
 ·rename_i ho; rw [ho] at hq; cases hq
 ·rename_i ho; exact EB ho hR h
 ·rename_i ho; exact (uQ ho hR h).q
 ·rename_i c ho
  rw [ho] at hc hq
  unfold nz at h
  split at h
  ·rename_i f hf
   exfalso
   revert hc
   obtain ⟨callee, args, ts⟩ := c
   simp only at hf
   subst hf
   simp [cg]
  ·rename_i hf
   split at h
   ·rename_i y hy; exact ad8 hL ho hf hy hR h
   ·cases h
  ·rename_i hf
   split at h
   ·rename_i y z hy; exact Cs ho true hf hy hR h
   ·cases h
  ·rename_i hf
   split at h
   ·rename_i y z hy; exact Cs ho false hf hy hR h
   ·cases h
  ·rename_i hf
   obtain ⟨callee, args, ts⟩ := c
   simp only at hf
   subst hf
   simp [bB] at hq
  ·rename_i hf
   obtain ⟨callee, args, ts⟩ := c
   simp only at hf
   subst hf
   simp [bB] at hq
  ·cases h
 ·cases h

def SP (I : World -> Prop) (P : Program) (o : Oper) (s : St) (x : TV) : Prop := ∀ (X : Cx I) a w lc, Rel X s a w lc -> ∃ v, aC X lc x v /\ ∀ w', (execOp a.eval o).run P w' = .ok (.value v) w'
theorem aef {o : Oper} {s s' : St} {x : TV} (h : ∀ (X : Cx I) a w lc, Rel X s a w lc -> fe P X o a w lc s qB (x, s')) : SP I P o s x := fun X a w lc hR => by
 obtain ⟨x', v, h1, h2, h3⟩ := h X a w lc hR
 simp only [qB, aj1, akp] at h1
 rw [<- h1.1]
 exact ⟨v, h2, h3⟩
theorem agx {H : eN} (hL : aO P L) {o : Oper} {s s' : St} {x : TV} (hq : xG o.op = true) (h : dM L (⟨[], [], [], [], H⟩ : Env Ans) o s qB = some (x, s')) : SP I P o s x := by
 refine aef (s' := s') fun X a w lc hR => ?_
 unfold dM at h
 split at h
 ·rename_i y ho
  rw [ho] at hq
  unfold fk at h
  split at h
  ·simp [xG] at hq
  ·exact qE (.inl ho) hR h
 ·rename_i y ho
  rw [ho] at hq
  unfold fk at h
  split at h
  ·simp [xG] at hq
  ·exact qE (.inr ho) hR h
 ·rename_i ho; exact Ob ho hR h
 ·rename_i ho; rw [ho] at hq; cases hq
 ·rename_i ho; rw [ho] at hq; cases hq
 ·rename_i ho; rw [ho] at hq; cases hq
 ·rename_i ho; rw [ho] at hq; cases hq
 ·rename_i ho; rw [ho] at hq; cases hq
 ·rename_i ho; exact WU hL ho hR h
 ·rename_i ho; exact ad9 ho hR h
 ·rename_i ho; rw [ho] at hq; cases hq
 ·rename_i ho; exact rc hL ho hR h
 ·rename_i ho; exact G9 hL ho hR h
 ·rename_i ho; rw [ho] at hq; cases hq
 ·rename_i ho; rw [ho] at hq; cases hq
 ·rename_i ho; rw [ho] at hq; cases hq
 ·rename_i ho; rw [ho] at hq; cases hq
 ·rename_i ho; rw [ho] at hq; cases hq
 ·rename_i ho; exact xH ho hR h
 ·rename_i ho; rw [ho] at hq; cases hq
 ·rename_i ho; rw [ho] at hq; cases hq
 ·rename_i ho; rw [ho] at hq; cases hq
 ·rename_i ho; rw [ho] at hq; cases hq
 ·rename_i ho; exact uQ ho hR h
 ·rename_i ho; rw [ho] at hq; cases hq
 ·cases h

theorem agz {H : eN} (hL : aO P L) {o : Oper} {s : St} {bl : List Blk} {x : TV} (hq : bB o.op = false) (hc : cg o.op = false) (h : dM L (⟨[], [], [], [], H⟩ : Env Ans) o s qB = some (x, ⟨s.tmps, bl⟩)) : SR I P o s x bl := by
 refine aek fun X a w lc hR => ?_
 unfold dM at h
 split at h
 ·rename_i y ho
  rw [ho] at hq
  unfold fk at h
  split at h
  ·exact (WV hL (.inl ho) hR h).f
  ·exact (((qE (.inl ho) hR h).q).step hR.world).f
 ·rename_i y ho
  rw [ho] at hq
  unfold fk at h
  split at h
  ·exact (WV hL (.inr ho) hR h).f
  ·exact (((qE (.inr ho) hR h).q).step hR.world).f
 ·rename_i ho; rw [ho] at hq; cases hq
 ·rename_i ho; exact (TU hL ho hR h).f
 ·rename_i ho; exact (aec ho hR h).f
 ·rename_i ho; exact (TW hL ho hR h).f
 ·rename_i ho; rw [ho] at hq; cases hq
 ·rename_i ho; exact (TY hL ho hR h).f
 ·rename_i ho; rw [ho] at hq; cases hq
 ·rename_i ho; rw [ho] at hq; cases hq
 ·rename_i ho
  rcases xO hL ho hR h with h | ⟨_, h⟩
  ·exact (h.step hR.world).f
  ·exact h.f
 ·rename_i ho; rw [ho] at hq; cases hq
 ·rename_i ho; rw [ho] at hq; cases hq
 ·rename_i ho; rw [ho] at hq; cases hq
 ·rename_i ho; rw [ho] at hq; cases hq
 ·rename_i ho; exact ((GB hL ho hR h).step).f
 ·rename_i ho; exact (CJ hL ho hR h).f
 ·rename_i ho; exact Af hL ho hR h
 ·rename_i ho; rw [ho] at hq; cases hq
 ·rename_i ho; exact (Kx ho hR h).f
 ·rename_i ho; rw [ho] at hq; cases hq
 ·rename_i ho; exact (CK hL ho hR h).f
 ·rename_i ho; rw [ho] at hq; cases hq
 ·rename_i ho; rw [ho] at hq; cases hq
 ·rename_i c ho
  rw [ho] at hc hq
  unfold nz at h
  split at h
  ·rename_i f hf
   exfalso
   revert hc
   obtain ⟨callee, args, ts⟩ := c
   simp only at hf
   subst hf
   simp [cg]
  ·rename_i hf
   obtain ⟨callee, args, ts⟩ := c
   simp only at hf
   subst hf
   simp [bB] at hq
  ·rename_i hf
   obtain ⟨callee, args, ts⟩ := c
   simp only at hf
   subst hf
   simp [bB] at hq
  ·rename_i hf
   obtain ⟨callee, args, ts⟩ := c
   simp only at hf
   subst hf
   simp [bB] at hq
  ·rename_i hf
   split at h
   ·rename_i y z hy; exact (OL hL ho hf hy hR h).f
   ·cases h
  ·rename_i hf
   split at h
   ·rename_i y hy; exact (TX hL ho hf hy hR h).f
   ·cases h
  ·cases h
 ·cases h

def SB (I : World -> Prop) (P : Program) (o : Oper) (s : St) (x : TV) (bl : List Blk) : Prop := ∀ (X : Cx I) a w lc, Rel X s a w lc ->
 ∃ v more, aC X (lc ++ more) x v /\ aK X bl w (lc ++ more) /\ ∀ w', (execOp a.eval o).run P w' = .ok (.value v) w'
theorem TZ {o : Oper} {s : St} {x : TV} (h : SP I P o s x) : SB I P o s x s.blks := fun X a w lc hR => by
 obtain ⟨v, h1, h2⟩ := h X a w lc hR
 exact ⟨v, [], by simpa using h1, by simpa using hR.world, h2⟩
theorem EA {o : Op} (h : xG o = true) : bB o = true := by
 cases o with
 | move x => cases x with
  | const v => cases v <;> first | rfl | cases h
  | _ => rfl
 | assign x => cases x with
  | const v => cases v <;> first | rfl | cases h
  | _ => rfl
 | _ => first | rfl | cases h
theorem agw {H : eN} (hL : aO P L) {o : Oper} {s : St} {bl : List Blk} {x : TV} (hq : nw o.op = true) (h : dM L (⟨[], [], [], [], H⟩ : Env Ans) o s qB = some (x, ⟨s.tmps, bl⟩)) : SB I P o s x bl := by
 intro X a w lc hR
 have fin : wF P X o a w lc s qB (x, ⟨s.tmps, bl⟩) -> ∃ v more, aC X (lc ++ more) x v /\ aK X bl w (lc ++ more) /\ ∀ w', (execOp a.eval o).run P w' = .ok (.value v) w' := by
  rintro ⟨x', b', more, v, h1, h2, h3, h4⟩
  simp only [qB, aj1, akp, St.mk.injEq, true_and] at h1
  rw [<- h1.1, <- h1.2]
  exact ⟨v, more, h2, h3, h4⟩
 unfold nw at hq
 split at hq
 ·rename_i t parts ho
  simp only [dM, ho] at h
  exact fin (ri hL ho hR h)
 ·rename_i t y lo hi mx ho
  cases mx with
  | some _ => simp only [dM, ho] at h; cases h
  | none =>
   simp only [dM, ho] at h
   exact fin (GB hL ho hR h)
 ·cases hq

theorem MM (E : Env β) {o : Oper} (s : St) (K : TV -> St -> Option β) (hc : cg o.op = false) : dM L E o s K = dM L ⟨[], [], [], [], E.hints⟩ o s K := by
 unfold dM
 split <;> first | rfl | skip
 rename_i c ho
 rw [ho] at hc
 unfold nz
 split <;> first | rfl | skip
 rename_i f hf
 exfalso
 revert hc
 obtain ⟨callee, args, ts⟩ := c
 simp only at hf
 subst hf
 simp [cg]

theorem zG (hL : aO P L) {E : Env β} {o : Oper} {s : St} {K : TV -> St -> Option β} {r : β} (hc : cg o.op = false) (h : dM L E o s K = some r) :
  ∃ x bl, K x ⟨s.tmps, bl⟩ = some r /\ SR I P o s x bl /\ (bB o.op = true -> bl = s.blks /\ SQ I P o s x) /\ (fR o.op = true -> SB I P o s x bl) := by
 rw [MM E s K hc] at h
 obtain ⟨x, bl, h1, h2, h3⟩ := Zi (L := L) (bB o.op) E.hints o s hc id β K r h
 have hany : (bB o.op = true -> bl = s.blks) -> fR o.op = true -> SB I P o s x bl := fun hb ha => by
  cases hbb : nw o.op with
  | true => exact agw hL hbb h1
  | false =>
   have hp : xG o.op = true := by simpa [fR, hbb] using ha
   have hqq : bB o.op = true := EA hp
   rw [hb hqq]
   exact TZ (agx hL hp h1)
 cases hq : bB o.op with
 | false => exact ⟨x, bl, h2, agz hL hq hc h1, fun h => (by cases h), hany fun h => by rw [hq] at h; cases h⟩
 | true =>
  have hb := h3 hq
  have ha := hany fun _ => hb
  subst hb
  have := agy (I := I) hL hq hc h1
  exact ⟨x, _, h2, T6 this, fun _ => ⟨rfl, this⟩, ha⟩
end
end Go.Rv
