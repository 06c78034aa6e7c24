/- What the evaluator says of an operation is what the machine does, in every world that fits. -/
import Derived.Test.YtmhlcbibbhelkaaGreatDoorRvNat
namespace Go.Rv
set_option linter.unusedSimpArgs false
open Go.RowKit (Below)
section
variable {I : World → Prop} {P : Program} {L : Lay} {β : Type}

def SQ (I : World → Prop) (P : Program) (o : Oper) (s : St) (x : TV) : Prop := ∀ (X : Cx I) a w lc, Rel X s a w lc →
 ∃ v, aC X lc x v ∧ ∀ G, uZ X s.blks lc (d6 s o) G → ∀ w', Lat G w w' → (execOp a.eval o).run P w' = .ok (.value v) w'

def SR (I : World → Prop) (P : Program) (o : Oper) (s : St) (x : TV) (bl : List Blk) : Prop := ∀ (X : Cx I) a w lc, Rel X s a w lc →
 ∃ more n v w' X', (execOp a.eval o).run P w = .ok n w' ∧ (fp o.op = true → Below w.heap.size w w') ∧ MA n = some v ∧ X.Le X' ∧ aC X' (lc ++ more) x v ∧ aK X' bl w' (lc ++ more)

theorem ab9 {o : Oper} {s s' : St} {x : TV} (h : ∀ (X : Cx I) a w lc, Rel X s a w lc → fM P X o a w lc s qG (x, s')) : SQ I P o s x := fun X a w lc hR => by
 obtain ⟨x', v, h1, h2, h3⟩ := h X a w lc hR
 simp only [qG, ag0, aho] at h1
 rw [← h1.1]
 exact ⟨v, h2, h3⟩

theorem ace {o : Oper} {s : St} {x : TV} {bl : List Blk} (h : ∀ (X : Cx I) a w lc, Rel X s a w lc → J7 P X o a w lc s qG (x, ⟨s.tmps, bl⟩)) : SR I P o s x bl := fun X a w lc hR => by
 obtain ⟨x', b', more, n, v, w', X', h1, h2, hb, h3, hle, h4, h5⟩ := h X a w lc hR
 simp only [qG, ag0, aho, St.mk.injEq, true_and] at h1
 rw [← h1.1, ← h1.2]
 exact ⟨more, n, v, w', X', h2, hb, h3, hle, h4, h5⟩

theorem RH {o : Oper} {s : St} {x : TV} (h : SQ I P o s x) : SR I P o s x s.blks := fun X a w lc hR => by
 obtain ⟨v, h2, h3⟩ := h X a w lc hR
 exact ⟨[], .value v, v, w, X, h3 _ (uZ.nil _ _ _ _) w (Lat.refl _), fun _ => ahF _ _, rfl, .refl X, by simpa using h2, by simpa using hR.world⟩

theorem adL {H : eO} (hL : aO P L) {o : Oper} {s s' : St} {x : TV} (hq : bB o.op = true) (hc : ce o.op = false) (h : dM L (⟨[], [], [], [], H⟩ : Env Ans) o s qG = some (x, s')) : SQ I P o s x := by
 refine ab9 (s' := s') fun X a w lc hR => ?_
 unfold dM at h
 split at h
 ·rename_i y ho
  rw [ho] at hq
  unfold fm at h
  split at h
  ·simp [bB] at hq
  ·exact (qJ (.inl ho) hR h).q
 ·rename_i y ho
  rw [ho] at hq
  unfold fm at h
  split at h
  ·simp [bB] at hq
  ·exact (qJ (.inr ho) hR h).q
 ·rename_i ho; exact (MF ho hR h).q
 ·rename_i ho; rw [ho] at hq; cases hq
 ·rename_i ho; rw [ho] at hq; cases hq
 ·rename_i ho; rw [ho] at hq; cases hq
 ·rename_i ho; exact KO hL ho hR h
 ·rename_i ho; rw [ho] at hq; cases hq
 ·rename_i ho; exact (Ti hL ho hR h).q
 ·rename_i ho; exact (ab2 ho hR h).q
 ·rename_i ho
  rcases wT hL ho hR h with h | ⟨he, _⟩
  ·exact h
  ·rw [ho] at hq; simp [bB, he] at hq
 ·rename_i ho; exact (rh hL ho hR h).q
 ·rename_i ho; exact (FR hL ho hR h).q
 ·rename_i ho; exact BL hL ho hR h
 ·rename_i ho; exact Rk hL ho hR h
 ·rename_i ho; rw [ho] at hq; cases hq
 ·rename_i ho; rw [ho] at hq; cases hq
 ·rename_i ho; rw [ho] at hq; cases hq
 ·rename_i ho; exact (wM ho hR h).q
 ·rename_i ho; rw [ho] at hq; cases hq
 ·rename_i ho; exact ME hL ho hR h
 ·rename_i ho; rw [ho] at hq; cases hq
 ·rename_i ho; exact DT ho hR h
 ·rename_i ho; exact (t1 ho hR h).q
 ·rename_i c ho
  rw [ho] at hc hq
  unfold mJ at h
  split at h
  ·rename_i f hf
   exfalso
   revert hc
   obtain ⟨callee, args, ts⟩ := c
   simp only at hf
   subst hf
   simp [ce]
  ·rename_i hf
   split at h
   ·rename_i y hy; exact ab1 hL ho hf hy hR h
   ·cases h
  ·rename_i hf
   split at h
   ·rename_i y z hy; exact BM ho true hf hy hR h
   ·cases h
  ·rename_i hf
   split at h
   ·rename_i y z hy; exact BM ho false hf hy hR h
   ·cases h
  ·rename_i hf
   obtain ⟨callee, args, ts⟩ := c
   simp only at hf
   subst hf
   simp [bB] at hq
  ·rename_i hf
   obtain ⟨callee, args, ts⟩ := c
   simp only at hf
   subst hf
   simp [bB] at hq
  ·cases h
 ·cases h

def SP (I : World → Prop) (P : Program) (o : Oper) (s : St) (x : TV) : Prop := ∀ (X : Cx I) a w lc, Rel X s a w lc → ∃ v, aC X lc x v ∧ ∀ w', (execOp a.eval o).run P w' = .ok (.value v) w'
theorem ab8 {o : Oper} {s s' : St} {x : TV} (h : ∀ (X : Cx I) a w lc, Rel X s a w lc → fg P X o a w lc s qG (x, s')) : SP I P o s x := fun X a w lc hR => by
 obtain ⟨x', v, h1, h2, h3⟩ := h X a w lc hR
 simp only [qG, ag0, aho] at h1
 rw [← h1.1]
 exact ⟨v, h2, h3⟩
theorem adK {H : eO} (hL : aO P L) {o : Oper} {s s' : St} {x : TV} (hq : wL o.op = true) (h : dM L (⟨[], [], [], [], H⟩ : Env Ans) o s qG = some (x, s')) : SP I P o s x := by
 refine ab8 (s' := s') fun X a w lc hR => ?_
 unfold dM at h
 split at h
 ·rename_i y ho
  rw [ho] at hq
  unfold fm at h
  split at h
  ·simp [wL] at hq
  ·exact qJ (.inl ho) hR h
 ·rename_i y ho
  rw [ho] at hq
  unfold fm at h
  split at h
  ·simp [wL] at hq
  ·exact qJ (.inr ho) hR h
 ·rename_i ho; exact MF ho hR h
 ·rename_i ho; rw [ho] at hq; cases hq
 ·rename_i ho; rw [ho] at hq; cases hq
 ·rename_i ho; rw [ho] at hq; cases hq
 ·rename_i ho; rw [ho] at hq; cases hq
 ·rename_i ho; rw [ho] at hq; cases hq
 ·rename_i ho; exact Ti hL ho hR h
 ·rename_i ho; exact ab2 ho hR h
 ·rename_i ho; rw [ho] at hq; cases hq
 ·rename_i ho; exact rh hL ho hR h
 ·rename_i ho; exact FR hL ho hR h
 ·rename_i ho; rw [ho] at hq; cases hq
 ·rename_i ho; rw [ho] at hq; cases hq
 ·rename_i ho; rw [ho] at hq; cases hq
 ·rename_i ho; rw [ho] at hq; cases hq
 ·rename_i ho; rw [ho] at hq; cases hq
 ·rename_i ho; exact wM ho hR h
 ·rename_i ho; rw [ho] at hq; cases hq
 ·rename_i ho; rw [ho] at hq; cases hq
 ·rename_i ho; rw [ho] at hq; cases hq
 ·rename_i ho; rw [ho] at hq; cases hq
 ·rename_i ho; exact t1 ho hR h
 ·rename_i ho; rw [ho] at hq; cases hq
 ·cases h

theorem adM {H : eO} (hL : aO P L) {o : Oper} {s : St} {bl : List Blk} {x : TV} (hq : bB o.op = false) (hc : ce o.op = false) (h : dM L (⟨[], [], [], [], H⟩ : Env Ans) o s qG = some (x, ⟨s.tmps, bl⟩)) : SR I P o s x bl := by
 refine ace fun X a w lc hR => ?_
 unfold dM at h
 split at h
 ·rename_i y ho
  rw [ho] at hq
  unfold fm at h
  split at h
  ·exact (Tj hL (.inl ho) hR h).f
  ·exact (((qJ (.inl ho) hR h).q).step hR.world).f
 ·rename_i y ho
  rw [ho] at hq
  unfold fm at h
  split at h
  ·exact (Tj hL (.inr ho) hR h).f
  ·exact (((qJ (.inr ho) hR h).q).step hR.world).f
 ·rename_i ho; rw [ho] at hq; cases hq
 ·rename_i ho; exact (Ru hL ho hR h).f
 ·rename_i ho; exact (ab5 ho hR h).f
 ·rename_i ho; exact (Rw hL ho hR h).f
 ·rename_i ho; rw [ho] at hq; cases hq
 ·rename_i ho; exact (Ry hL ho hR h).f
 ·rename_i ho; rw [ho] at hq; cases hq
 ·rename_i ho; rw [ho] at hq; cases hq
 ·rename_i ho
  rcases wT hL ho hR h with h | ⟨_, h⟩
  ·exact (h.step hR.world).f
  ·exact h.f
 ·rename_i ho; rw [ho] at hq; cases hq
 ·rename_i ho; rw [ho] at hq; cases hq
 ·rename_i ho; rw [ho] at hq; cases hq
 ·rename_i ho; rw [ho] at hq; cases hq
 ·rename_i ho; exact ((Fl hL ho hR h).step).f
 ·rename_i ho; exact (B3 hL ho hR h).f
 ·rename_i ho; exact zT hL ho hR h
 ·rename_i ho; rw [ho] at hq; cases hq
 ·rename_i ho; exact (Ic ho hR h).f
 ·rename_i ho; rw [ho] at hq; cases hq
 ·rename_i ho; exact (B4 hL ho hR h).f
 ·rename_i ho; rw [ho] at hq; cases hq
 ·rename_i ho; rw [ho] at hq; cases hq
 ·rename_i c ho
  rw [ho] at hc hq
  unfold mJ at h
  split at h
  ·rename_i f hf
   exfalso
   revert hc
   obtain ⟨callee, args, ts⟩ := c
   simp only at hf
   subst hf
   simp [ce]
  ·rename_i hf
   obtain ⟨callee, args, ts⟩ := c
   simp only at hf
   subst hf
   simp [bB] at hq
  ·rename_i hf
   obtain ⟨callee, args, ts⟩ := c
   simp only at hf
   subst hf
   simp [bB] at hq
  ·rename_i hf
   obtain ⟨callee, args, ts⟩ := c
   simp only at hf
   subst hf
   simp [bB] at hq
  ·rename_i hf
   split at h
   ·rename_i y z hy; exact (NP hL ho hf hy hR h).f
   ·cases h
  ·rename_i hf
   split at h
   ·rename_i y hy; exact (Rx hL ho hf hy hR h).f
   ·cases h
  ·cases h
 ·cases h

def SB (I : World → Prop) (P : Program) (o : Oper) (s : St) (x : TV) (bl : List Blk) : Prop := ∀ (X : Cx I) a w lc, Rel X s a w lc →
 ∃ v more, aC X (lc ++ more) x v ∧ aK X bl w (lc ++ more) ∧ ∀ w', (execOp a.eval o).run P w' = .ok (.value v) w'
theorem Rz {o : Oper} {s : St} {x : TV} (h : SP I P o s x) : SB I P o s x s.blks := fun X a w lc hR => by
 obtain ⟨v, h1, h2⟩ := h X a w lc hR
 exact ⟨v, [], by simpa using h1, by simpa using hR.world, h2⟩
theorem DS {o : Op} (h : wL o = true) : bB o = true := by
 cases o with
 | move x => cases x with
  | const v => cases v <;> first | rfl | cases h
  | _ => rfl
 | assign x => cases x with
  | const v => cases v <;> first | rfl | cases h
  | _ => rfl
 | _ => first | rfl | cases h
theorem adJ {H : eO} (hL : aO P L) {o : Oper} {s : St} {bl : List Blk} {x : TV} (hq : mH o.op = true) (h : dM L (⟨[], [], [], [], H⟩ : Env Ans) o s qG = some (x, ⟨s.tmps, bl⟩)) : SB I P o s x bl := by
 intro X a w lc hR
 have fin : vF P X o a w lc s qG (x, ⟨s.tmps, bl⟩) → ∃ v more, aC X (lc ++ more) x v ∧ aK X bl w (lc ++ more) ∧ ∀ w', (execOp a.eval o).run P w' = .ok (.value v) w' := by
  rintro ⟨x', b', more, v, h1, h2, h3, h4⟩
  simp only [qG, ag0, aho, St.mk.injEq, true_and] at h1
  rw [← h1.1, ← h1.2]
  exact ⟨v, more, h2, h3, h4⟩
 unfold mH at hq
 split at hq
 ·rename_i t parts ho
  simp only [dM, ho] at h
  exact fin (rm hL ho hR h)
 ·rename_i t y lo hi mx ho
  cases mx with
  | some _ => simp only [dM, ho] at h; cases h
  | none =>
   simp only [dM, ho] at h
   exact fin (Fl hL ho hR h)
 ·cases hq

theorem KQ (E : Env β) {o : Oper} (s : St) (K : TV → St → Option β) (hc : ce o.op = false) : dM L E o s K = dM L ⟨[], [], [], [], E.hints⟩ o s K := by
 unfold dM
 split <;> first | rfl | skip
 rename_i c ho
 rw [ho] at hc
 unfold mJ
 split <;> first | rfl | skip
 rename_i f hf
 exfalso
 revert hc
 obtain ⟨callee, args, ts⟩ := c
 simp only at hf
 subst hf
 simp [ce]

theorem yL (hL : aO P L) {E : Env β} {o : Oper} {s : St} {K : TV → St → Option β} {r : β} (hc : ce o.op = false) (h : dM L E o s K = some r) :
  ∃ x bl, K x ⟨s.tmps, bl⟩ = some r ∧ SR I P o s x bl ∧ (bB o.op = true → bl = s.blks ∧ SQ I P o s x) ∧ (fJ o.op = true → SB I P o s x bl) := by
 rw [KQ E s K hc] at h
 obtain ⟨x, bl, h1, h2, h3⟩ := WL (L := L) (bB o.op) E.hints o s hc id β K r h
 have hany : (bB o.op = true → bl = s.blks) → fJ o.op = true → SB I P o s x bl := fun hb ha => by
  cases hbb : mH o.op with
  | true => exact adJ hL hbb h1
  | false =>
   have hp : wL o.op = true := by simpa [fJ, hbb] using ha
   have hqq : bB o.op = true := DS hp
   rw [hb hqq]
   exact Rz (adK hL hp h1)
 cases hq : bB o.op with
 | false => exact ⟨x, bl, h2, adM hL hq hc h1, fun h => (by cases h), hany fun h => by rw [hq] at h; cases h⟩
 | true =>
  have hb := h3 hq
  have ha := hany fun _ => hb
  subst hb
  have := adL (I := I) hL hq hc h1
  exact ⟨x, _, h2, RH this, fun _ => ⟨rfl, this⟩, ha⟩
end
end Go.Rv
