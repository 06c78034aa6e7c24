/- What the evaluator says of an operation is what the machine does, in every world that fits. -/
import Derived.Test.YtemihnclhcobnaaGreatDoorRvNat
namespace Go.Rv
set_option linter.unusedSimpArgs false
open Go.RowKit (Below)
section
variable {I : World → Prop} {P : Program} {L : Lay} {β : Type}

def SQ (I : World → Prop) (P : Program) (o : Oper) (s : St) (x : TV) : Prop := ∀ (X : Cx I) a w lc, Rel X s a w lc →
 ∃ v, aC X lc x v ∧ ∀ G, th X s.blks lc (dN s o) G → ∀ w', Lat G w w' → (execOp a.eval o).run P w' = .ok (.value v) w'

def SR (I : World → Prop) (P : Program) (o : Oper) (s : St) (x : TV) (bl : List Blk) : Prop := ∀ (X : Cx I) a w lc, Rel X s a w lc →
 ∃ more n v w' X', (execOp a.eval o).run P w = .ok n w' ∧ (eT o.op = true → Below w.heap.size w w') ∧ JF n = some v ∧ X.Le X' ∧ aC X' (lc ++ more) x v ∧ aH X' bl w' (lc ++ more)

theorem WH {o : Oper} {s s' : St} {x : TV} (h : ∀ (X : Cx I) a w lc, Rel X s a w lc → fC P X o a w lc s oE (x, s')) : SQ I P o s x := fun X a w lc hR => by
 obtain ⟨x', v, h1, h2, h3⟩ := h X a w lc hR
 simp only [oE, Yy, YU] at h1
 rw [← h1.1]
 exact ⟨v, h2, h3⟩

theorem WL {o : Oper} {s : St} {x : TV} {bl : List Blk} (h : ∀ (X : Cx I) a w lc, Rel X s a w lc → HD P X o a w lc s oE (x, ⟨s.tmps, bl⟩)) : SR I P o s x bl := fun X a w lc hR => by
 obtain ⟨x', b', more, n, v, w', X', h1, h2, hb, h3, hle, h4, h5⟩ := h X a w lc hR
 simp only [oE, Yy, YU, St.mk.injEq, true_and] at h1
 rw [← h1.1, ← h1.2]
 exact ⟨more, n, v, w', X', h2, hb, h3, hle, h4, h5⟩

theorem O3 {o : Oper} {s : St} {x : TV} (h : SQ I P o s x) : SR I P o s x s.blks := fun X a w lc hR => by
 obtain ⟨v, h2, h3⟩ := h X a w lc hR
 exact ⟨[], .value v, v, w, X, h3 _ (th.nil _ _ _ _) w (Lat.refl _), fun _ => Zk _ _, rfl, .refl X, by simpa using h2, by simpa using hR.world⟩

theorem Yf {H : ej} (hL : aJ P L) {o : Oper} {s s' : St} {x : TV} (hq : bx o.op = true) (hc : bY o.op = false) (h : dy L (⟨[], [], [], [], H⟩ : Env Ans) o s oE = some (x, s')) : SQ I P o s x := by
 refine WH (s' := s') fun X a w lc hR => ?_
 unfold dy at h
 split at h
 ·rename_i y ho
  rw [ho] at hq
  unfold eR at h
  split at h
  ·simp [bx] at hq
  ·exact (oH (.inl ho) hR h).q
 ·rename_i y ho
  rw [ho] at hq
  unfold eR at h
  split at h
  ·simp [bx] at hq
  ·exact (oH (.inr ho) hR h).q
 ·rename_i ho; exact (JU ho hR h).q
 ·rename_i ho; rw [ho] at hq; cases hq
 ·rename_i ho; rw [ho] at hq; cases hq
 ·rename_i ho; rw [ho] at hq; cases hq
 ·rename_i ho; exact IK hL ho hR h
 ·rename_i ho; rw [ho] at hq; cases hq
 ·rename_i ho; exact (Rb hL ho hR h).q
 ·rename_i ho; exact (WB ho hR h).q
 ·rename_i ho
  rcases uX hL ho hR h with h | ⟨he, _⟩
  ·exact h
  ·rw [ho] at hq; simp [bx, he] at hq
 ·rename_i ho; exact (ph hL ho hR h).q
 ·rename_i ho; exact (DV hL ho hR h).q
 ·rename_i ho; exact zD hL ho hR h
 ·rename_i ho; exact N7 hL ho hR h
 ·rename_i ho; rw [ho] at hq; cases hq
 ·rename_i ho; rw [ho] at hq; cases hq
 ·rename_i ho; rw [ho] at hq; cases hq
 ·rename_i ho; exact (uS ho hR h).q
 ·rename_i ho; rw [ho] at hq; cases hq
 ·rename_i ho; exact JT hL ho hR h
 ·rename_i ho; rw [ho] at hq; cases hq
 ·rename_i ho; exact BF ho hR h
 ·rename_i ho; exact (sd ho hR h).q
 ·rename_i c ho
  rw [ho] at hc hq
  unfold mo at h
  split at h
  ·rename_i f hf
   exfalso
   revert hc
   obtain ⟨callee, args, ts⟩ := c
   simp only at hf
   subst hf
   simp [bY]
  ·rename_i hf
   split at h
   ·rename_i y hy; exact WA hL ho hf hy hR h
   ·cases h
  ·rename_i hf
   split at h
   ·rename_i y z hy; exact zE ho true hf hy hR h
   ·cases h
  ·rename_i hf
   split at h
   ·rename_i y z hy; exact zE ho false hf hy hR h
   ·cases h
  ·rename_i hf
   obtain ⟨callee, args, ts⟩ := c
   simp only at hf
   subst hf
   simp [bx] at hq
  ·rename_i hf
   obtain ⟨callee, args, ts⟩ := c
   simp only at hf
   subst hf
   simp [bx] at hq
  ·cases h
 ·cases h

def SP (I : World → Prop) (P : Program) (o : Oper) (s : St) (x : TV) : Prop := ∀ (X : Cx I) a w lc, Rel X s a w lc → ∃ v, aC X lc x v ∧ ∀ w', (execOp a.eval o).run P w' = .ok (.value v) w'
theorem WG {o : Oper} {s s' : St} {x : TV} (h : ∀ (X : Cx I) a w lc, Rel X s a w lc → eN P X o a w lc s oE (x, s')) : SP I P o s x := fun X a w lc hR => by
 obtain ⟨x', v, h1, h2, h3⟩ := h X a w lc hR
 simp only [oE, Yy, YU] at h1
 rw [← h1.1]
 exact ⟨v, h2, h3⟩
theorem Ye {H : ej} (hL : aJ P L) {o : Oper} {s s' : St} {x : TV} (hq : uR o.op = true) (h : dy L (⟨[], [], [], [], H⟩ : Env Ans) o s oE = some (x, s')) : SP I P o s x := by
 refine WG (s' := s') fun X a w lc hR => ?_
 unfold dy at h
 split at h
 ·rename_i y ho
  rw [ho] at hq
  unfold eR at h
  split at h
  ·simp [uR] at hq
  ·exact oH (.inl ho) hR h
 ·rename_i y ho
  rw [ho] at hq
  unfold eR at h
  split at h
  ·simp [uR] at hq
  ·exact oH (.inr ho) hR h
 ·rename_i ho; exact JU ho hR h
 ·rename_i ho; rw [ho] at hq; cases hq
 ·rename_i ho; rw [ho] at hq; cases hq
 ·rename_i ho; rw [ho] at hq; cases hq
 ·rename_i ho; rw [ho] at hq; cases hq
 ·rename_i ho; rw [ho] at hq; cases hq
 ·rename_i ho; exact Rb hL ho hR h
 ·rename_i ho; exact WB ho hR h
 ·rename_i ho; rw [ho] at hq; cases hq
 ·rename_i ho; exact ph hL ho hR h
 ·rename_i ho; exact DV hL ho hR h
 ·rename_i ho; rw [ho] at hq; cases hq
 ·rename_i ho; rw [ho] at hq; cases hq
 ·rename_i ho; rw [ho] at hq; cases hq
 ·rename_i ho; rw [ho] at hq; cases hq
 ·rename_i ho; rw [ho] at hq; cases hq
 ·rename_i ho; exact uS ho hR h
 ·rename_i ho; rw [ho] at hq; cases hq
 ·rename_i ho; rw [ho] at hq; cases hq
 ·rename_i ho; rw [ho] at hq; cases hq
 ·rename_i ho; rw [ho] at hq; cases hq
 ·rename_i ho; exact sd ho hR h
 ·rename_i ho; rw [ho] at hq; cases hq
 ·cases h

theorem Yg {H : ej} (hL : aJ P L) {o : Oper} {s : St} {bl : List Blk} {x : TV} (hq : bx o.op = false) (hc : bY o.op = false) (h : dy L (⟨[], [], [], [], H⟩ : Env Ans) o s oE = some (x, ⟨s.tmps, bl⟩)) : SR I P o s x bl := by
 refine WL fun X a w lc hR => ?_
 unfold dy at h
 split at h
 ·rename_i y ho
  rw [ho] at hq
  unfold eR at h
  split at h
  ·exact (Rc hL (.inl ho) hR h).f
  ·exact (((oH (.inl ho) hR h).q).step hR.world).f
 ·rename_i y ho
  rw [ho] at hq
  unfold eR at h
  split at h
  ·exact (Rc hL (.inr ho) hR h).f
  ·exact (((oH (.inr ho) hR h).q).step hR.world).f
 ·rename_i ho; rw [ho] at hq; cases hq
 ·rename_i ho; exact (OS hL ho hR h).f
 ·rename_i ho; exact (WD ho hR h).f
 ·rename_i ho; exact (OT hL ho hR h).f
 ·rename_i ho; rw [ho] at hq; cases hq
 ·rename_i ho; exact (OV hL ho hR h).f
 ·rename_i ho; rw [ho] at hq; cases hq
 ·rename_i ho; rw [ho] at hq; cases hq
 ·rename_i ho
  rcases uX hL ho hR h with h | ⟨_, h⟩
  ·exact (h.step hR.world).f
  ·exact h.f
 ·rename_i ho; rw [ho] at hq; cases hq
 ·rename_i ho; rw [ho] at hq; cases hq
 ·rename_i ho; rw [ho] at hq; cases hq
 ·rename_i ho; rw [ho] at hq; cases hq
 ·rename_i ho; exact ((Dr hL ho hR h).step).f
 ·rename_i ho; exact (zR hL ho hR h).f
 ·rename_i ho; exact xa hL ho hR h
 ·rename_i ho; rw [ho] at hq; cases hq
 ·rename_i ho; exact (GW ho hR h).f
 ·rename_i ho; rw [ho] at hq; cases hq
 ·rename_i ho; exact (zS hL ho hR h).f
 ·rename_i ho; rw [ho] at hq; cases hq
 ·rename_i ho; rw [ho] at hq; cases hq
 ·rename_i c ho
  rw [ho] at hc hq
  unfold mo at h
  split at h
  ·rename_i f hf
   exfalso
   revert hc
   obtain ⟨callee, args, ts⟩ := c
   simp only at hf
   subst hf
   simp [bY]
  ·rename_i hf
   obtain ⟨callee, args, ts⟩ := c
   simp only at hf
   subst hf
   simp [bx] at hq
  ·rename_i hf
   obtain ⟨callee, args, ts⟩ := c
   simp only at hf
   subst hf
   simp [bx] at hq
  ·rename_i hf
   obtain ⟨callee, args, ts⟩ := c
   simp only at hf
   subst hf
   simp [bx] at hq
  ·rename_i hf
   split at h
   ·rename_i y z hy; exact (Kh hL ho hf hy hR h).f
   ·cases h
  ·rename_i hf
   split at h
   ·rename_i y hy; exact (OU hL ho hf hy hR h).f
   ·cases h
  ·cases h
 ·cases h

def SB (I : World → Prop) (P : Program) (o : Oper) (s : St) (x : TV) (bl : List Blk) : Prop := ∀ (X : Cx I) a w lc, Rel X s a w lc →
 ∃ v more, aC X (lc ++ more) x v ∧ aH X bl w (lc ++ more) ∧ ∀ w', (execOp a.eval o).run P w' = .ok (.value v) w'
theorem OW {o : Oper} {s : St} {x : TV} (h : SP I P o s x) : SB I P o s x s.blks := fun X a w lc hR => by
 obtain ⟨v, h1, h2⟩ := h X a w lc hR
 exact ⟨v, [], by simpa using h1, by simpa using hR.world, h2⟩
theorem BE {o : Op} (h : uR o = true) : bx o = true := by
 cases o with
 | move x => cases x with
  | const v => cases v <;> first | rfl | cases h
  | _ => rfl
 | assign x => cases x with
  | const v => cases v <;> first | rfl | cases h
  | _ => rfl
 | _ => first | rfl | cases h
theorem Yd {H : ej} (hL : aJ P L) {o : Oper} {s : St} {bl : List Blk} {x : TV} (hq : ml o.op = true) (h : dy L (⟨[], [], [], [], H⟩ : Env Ans) o s oE = some (x, ⟨s.tmps, bl⟩)) : SB I P o s x bl := by
 intro X a w lc hR
 have fin : tS P X o a w lc s oE (x, ⟨s.tmps, bl⟩) → ∃ v more, aC X (lc ++ more) x v ∧ aH X bl w (lc ++ more) ∧ ∀ w', (execOp a.eval o).run P w' = .ok (.value v) w' := by
  rintro ⟨x', b', more, v, h1, h2, h3, h4⟩
  simp only [oE, Yy, YU, St.mk.injEq, true_and] at h1
  rw [← h1.1, ← h1.2]
  exact ⟨v, more, h2, h3, h4⟩
 unfold ml at hq
 split at hq
 ·rename_i t parts ho
  simp only [dy, ho] at h
  exact fin (pn hL ho hR h)
 ·rename_i t y lo hi mx ho
  cases mx with
  | some _ => simp only [dy, ho] at h; cases h
  | none =>
   simp only [dy, ho] at h
   exact fin (Dr hL ho hR h)
 ·cases hq

theorem IM (E : Env β) {o : Oper} (s : St) (K : TV → St → Option β) (hc : bY o.op = false) : dy L E o s K = dy L ⟨[], [], [], [], E.hints⟩ o s K := by
 unfold dy
 split <;> first | rfl | skip
 rename_i c ho
 rw [ho] at hc
 unfold mo
 split <;> first | rfl | skip
 rename_i f hf
 exfalso
 revert hc
 obtain ⟨callee, args, ts⟩ := c
 simp only at hf
 subst hf
 simp [bY]

theorem wK (hL : aJ P L) {E : Env β} {o : Oper} {s : St} {K : TV → St → Option β} {r : β} (hc : bY o.op = false) (h : dy L E o s K = some r) :
  ∃ x bl, K x ⟨s.tmps, bl⟩ = some r ∧ SR I P o s x bl ∧ (bx o.op = true → bl = s.blks ∧ SQ I P o s x) ∧ (fA o.op = true → SB I P o s x bl) := by
 rw [IM E s K hc] at h
 obtain ⟨x, bl, h1, h2, h3⟩ := SF (L := L) (bx o.op) E.hints o s hc id β K r h
 have hany : (bx o.op = true → bl = s.blks) → fA o.op = true → SB I P o s x bl := fun hb ha => by
  cases hbb : ml o.op with
  | true => exact Yd hL hbb h1
  | false =>
   have hp : uR o.op = true := by simpa [fA, hbb] using ha
   have hqq : bx o.op = true := BE hp
   rw [hb hqq]
   exact OW (Ye hL hp h1)
 cases hq : bx o.op with
 | false => exact ⟨x, bl, h2, Yg hL hq hc h1, fun h => (by cases h), hany fun h => by rw [hq] at h; cases h⟩
 | true =>
  have hb := h3 hq
  have ha := hany fun _ => hb
  subst hb
  have := Yf (I := I) hL hq hc h1
  exact ⟨x, _, h2, O3 this, fun _ => ⟨rfl, this⟩, ha⟩
end
end Go.Rv
