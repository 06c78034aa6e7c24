/- What the evaluator says of an operation is what the machine does, in every world that fits. -/
import Derived.Test.YtmhlcbibbhelkaaDoorRvNat
namespace Go.Rv
open Go.RowKit (Below)
section
variable {I : World → Prop} {P : Program} {L : Lay} {β : Type}

def SQ (I : World → Prop) (P : Program) (o : Oper) (s : St) (x : TV) : Prop := ∀ (X : Cx I) a w lc, Rel X s a w lc →
  ∃ v, relT X lc x v ∧ ∀ G, Calm X s.blks lc (opRefs1 s o) G → ∀ w', Lat G w w' → (execOp a.eval o).run P w' = .ok (.value v) w'

def SR (I : World → Prop) (P : Program) (o : Oper) (s : St) (x : TV) (bl : List Blk) : Prop := ∀ (X : Cx I) a w lc, Rel X s a w lc →
  ∃ more n v w' X', (execOp a.eval o).run P w = .ok n w' ∧ (freshB o.op = true → Below w.heap.size w w') ∧ outV n = some v ∧ X.Le X' ∧ relT X' (lc ++ more) x v ∧ RelW X' bl w' (lc ++ more)

theorem sq_of {o : Oper} {s s' : St} {x : TV} (h : ∀ (X : Cx I) a w lc, Rel X s a w lc → StepQ P X o a w lc s pair (x, s')) : SQ I P o s x := fun X a w lc hR => by
  obtain ⟨x', v, h1, h2, h3⟩ := h X a w lc hR
  simp only [pair, Option.some.injEq, Prod.mk.injEq] at h1
  rw [← h1.1]
  exact ⟨v, h2, h3⟩

theorem sr_of {o : Oper} {s : St} {x : TV} {bl : List Blk} (h : ∀ (X : Cx I) a w lc, Rel X s a w lc → StepF P X o a w lc s pair (x, ⟨s.tmps, bl⟩)) : SR I P o s x bl := fun X a w lc hR => by
  obtain ⟨x', b', more, n, v, w', X', h1, h2, hb, h3, hle, h4, h5⟩ := h X a w lc hR
  simp only [pair, Option.some.injEq, Prod.mk.injEq, St.mk.injEq, true_and] at h1
  rw [← h1.1, ← h1.2]
  exact ⟨more, n, v, w', X', h2, hb, h3, hle, h4, h5⟩

theorem sr_of_q {o : Oper} {s : St} {x : TV} (h : SQ I P o s x) : SR I P o s x s.blks := fun X a w lc hR => by
  obtain ⟨v, h2, h3⟩ := h X a w lc hR
  exact ⟨[], .value v, v, w, X, h3 _ (Calm.nil _ _ _ _) w (Lat.refl _), fun _ => Below.refl _ _, rfl, .refl X, by simpa using h2, by simpa using hR.world⟩

theorem op_q {H : Hints} (hL : LayOK P L) {o : Oper} {s s' : St} {x : TV} (hq : quietB o.op = true) (hc : callB o.op = false) (h : evOp L (⟨[], [], [], [], H⟩ : Env Ans) o s pair = some (x, s')) : SQ I P o s x := by
  refine sq_of (s' := s') fun X a w lc hR => ?_
  unfold evOp at h
  split at h
  · rename_i y ho
    rw [ho] at hq
    unfold evMove at h
    split at h
    · simp [quietB] at hq
    · exact (q_move (.inl ho) hR h).q
  · rename_i y ho
    rw [ho] at hq
    unfold evMove at h
    split at h
    · simp [quietB] at hq
    · exact (q_move (.inr ho) hR h).q
  · rename_i ho; exact (q_pick ho hR h).q
  · rename_i ho; rw [ho] at hq; cases hq
  · rename_i ho; rw [ho] at hq; cases hq
  · rename_i ho; rw [ho] at hq; cases hq
  · rename_i ho; exact evLoad_q hL ho hR h
  · rename_i ho; rw [ho] at hq; cases hq
  · rename_i ho; exact (q_bin hL ho hR h).q
  · rename_i ho; exact (q_un ho hR h).q
  · rename_i ho
    rcases s_convert hL ho hR h with h | ⟨he, _⟩
    · exact h
    · rw [ho] at hq; simp [quietB, he] at hq
  · rename_i ho; exact (q_fieldAddr hL ho hR h).q
  · rename_i ho; exact (q_field hL ho hR h).q
  · rename_i ho; exact q_indexAddr hL ho hR h
  · rename_i ho; exact q_index hL ho hR h
  · rename_i ho; rw [ho] at hq; cases hq
  · rename_i ho; rw [ho] at hq; cases hq
  · rename_i ho; rw [ho] at hq; cases hq
  · rename_i ho; exact (q_extract ho hR h).q
  · rename_i ho; rw [ho] at hq; cases hq
  · rename_i ho; exact q_lookup hL ho hR h
  · rename_i ho; rw [ho] at hq; cases hq
  · rename_i ho; exact q_makeFunc ho hR h
  · rename_i ho; exact (q_nilCheck ho hR h).q
  · rename_i c ho
    rw [ho] at hc hq
    unfold evCall at h
    split at h
    · rename_i f hf
      exfalso
      revert hc
      obtain ⟨callee, args, ts⟩ := c
      simp only at hf
      subst hf
      simp [callB]
    · rename_i hf
      split at h
      · rename_i y hy; exact q_len hL ho hf hy hR h
      · cases h
    · rename_i hf
      split at h
      · rename_i y z hy; exact q_minmax ho true hf hy hR h
      · cases h
    · rename_i hf
      split at h
      · rename_i y z hy; exact q_minmax ho false hf hy hR h
      · cases h
    · rename_i hf
      obtain ⟨callee, args, ts⟩ := c
      simp only at hf
      subst hf
      simp [quietB] at hq
    · rename_i hf
      obtain ⟨callee, args, ts⟩ := c
      simp only at hf
      subst hf
      simp [quietB] at hq
    · cases h
  · cases h

def SP (I : World → Prop) (P : Program) (o : Oper) (s : St) (x : TV) : Prop := ∀ (X : Cx I) a w lc, Rel X s a w lc → ∃ v, relT X lc x v ∧ ∀ w', (execOp a.eval o).run P w' = .ok (.value v) w'
theorem sp_of {o : Oper} {s s' : St} {x : TV} (h : ∀ (X : Cx I) a w lc, Rel X s a w lc → StepP P X o a w lc s pair (x, s')) : SP I P o s x := fun X a w lc hR => by
  obtain ⟨x', v, h1, h2, h3⟩ := h X a w lc hR
  simp only [pair, Option.some.injEq, Prod.mk.injEq] at h1
  rw [← h1.1]
  exact ⟨v, h2, h3⟩
theorem op_p {H : Hints} (hL : LayOK P L) {o : Oper} {s s' : St} {x : TV} (hq : pureB o.op = true) (h : evOp L (⟨[], [], [], [], H⟩ : Env Ans) o s pair = some (x, s')) : SP I P o s x := by
  refine sp_of (s' := s') fun X a w lc hR => ?_
  unfold evOp at h
  split at h
  · rename_i y ho
    rw [ho] at hq
    unfold evMove at h
    split at h
    · simp [pureB] at hq
    · exact q_move (.inl ho) hR h
  · rename_i y ho
    rw [ho] at hq
    unfold evMove at h
    split at h
    · simp [pureB] at hq
    · exact q_move (.inr ho) hR h
  · rename_i ho; exact q_pick ho hR h
  · rename_i ho; rw [ho] at hq; cases hq
  · rename_i ho; rw [ho] at hq; cases hq
  · rename_i ho; rw [ho] at hq; cases hq
  · rename_i ho; rw [ho] at hq; cases hq
  · rename_i ho; rw [ho] at hq; cases hq
  · rename_i ho; exact q_bin hL ho hR h
  · rename_i ho; exact q_un ho hR h
  · rename_i ho; rw [ho] at hq; cases hq
  · rename_i ho; exact q_fieldAddr hL ho hR h
  · rename_i ho; exact q_field hL ho hR h
  · rename_i ho; rw [ho] at hq; cases hq
  · rename_i ho; rw [ho] at hq; cases hq
  · rename_i ho; rw [ho] at hq; cases hq
  · rename_i ho; rw [ho] at hq; cases hq
  · rename_i ho; rw [ho] at hq; cases hq
  · rename_i ho; exact q_extract ho hR h
  · rename_i ho; rw [ho] at hq; cases hq
  · rename_i ho; rw [ho] at hq; cases hq
  · rename_i ho; rw [ho] at hq; cases hq
  · rename_i ho; rw [ho] at hq; cases hq
  · rename_i ho; exact q_nilCheck ho hR h
  · rename_i ho; rw [ho] at hq; cases hq
  · cases h

theorem op_r {H : Hints} (hL : LayOK P L) {o : Oper} {s : St} {bl : List Blk} {x : TV} (hq : quietB o.op = false) (hc : callB o.op = false) (h : evOp L (⟨[], [], [], [], H⟩ : Env Ans) o s pair = some (x, ⟨s.tmps, bl⟩)) : SR I P o s x bl := by
  refine sr_of fun X a w lc hR => ?_
  unfold evOp at h
  split at h
  · rename_i y ho
    rw [ho] at hq
    unfold evMove at h
    split at h
    · exact (s_nil hL (.inl ho) hR h).f
    · exact (((q_move (.inl ho) hR h).q).step hR.world).f
  · rename_i y ho
    rw [ho] at hq
    unfold evMove at h
    split at h
    · exact (s_nil hL (.inr ho) hR h).f
    · exact (((q_move (.inr ho) hR h).q).step hR.world).f
  · rename_i ho; rw [ho] at hq; cases hq
  · rename_i ho; exact (s_alloc hL ho hR h).f
  · rename_i ho; exact (s_box ho hR h).f
  · rename_i ho; exact (s_build hL ho hR h).f
  · rename_i ho; rw [ho] at hq; cases hq
  · rename_i ho; exact (s_store hL ho hR h).f
  · rename_i ho; rw [ho] at hq; cases hq
  · rename_i ho; rw [ho] at hq; cases hq
  · rename_i ho
    rcases s_convert hL ho hR h with h | ⟨_, h⟩
    · exact (h.step hR.world).f
    · exact h.f
  · rename_i ho; rw [ho] at hq; cases hq
  · rename_i ho; rw [ho] at hq; cases hq
  · rename_i ho; rw [ho] at hq; cases hq
  · rename_i ho; rw [ho] at hq; cases hq
  · rename_i ho; exact ((b_slice hL ho hR h).step).f
  · rename_i ho; exact (s_makeSlice hL ho hR h).f
  · rename_i ho; exact s_buildSlice hL ho hR h
  · rename_i ho; rw [ho] at hq; cases hq
  · rename_i ho; exact (s_makeMap ho hR h).f
  · rename_i ho; rw [ho] at hq; cases hq
  · rename_i ho; exact (s_mapUpdate hL ho hR h).f
  · rename_i ho; rw [ho] at hq; cases hq
  · rename_i ho; rw [ho] at hq; cases hq
  · rename_i c ho
    rw [ho] at hc hq
    unfold evCall at h
    split at h
    · rename_i f hf
      exfalso
      revert hc
      obtain ⟨callee, args, ts⟩ := c
      simp only at hf
      subst hf
      simp [callB]
    · rename_i hf
      obtain ⟨callee, args, ts⟩ := c
      simp only at hf
      subst hf
      simp [quietB] at hq
    · rename_i hf
      obtain ⟨callee, args, ts⟩ := c
      simp only at hf
      subst hf
      simp [quietB] at hq
    · rename_i hf
      obtain ⟨callee, args, ts⟩ := c
      simp only at hf
      subst hf
      simp [quietB] at hq
    · rename_i hf
      split at h
      · rename_i y z hy; exact (s_append hL ho hf hy hR h).f
      · cases h
    · rename_i hf
      split at h
      · rename_i y hy; exact (s_clear hL ho hf hy hR h).f
      · cases h
    · cases h
  · cases h

def SB (I : World → Prop) (P : Program) (o : Oper) (s : St) (x : TV) (bl : List Blk) : Prop := ∀ (X : Cx I) a w lc, Rel X s a w lc →
  ∃ v more, relT X (lc ++ more) x v ∧ RelW X bl w (lc ++ more) ∧ ∀ w', (execOp a.eval o).run P w' = .ok (.value v) w'
theorem sb_of_p {o : Oper} {s : St} {x : TV} (h : SP I P o s x) : SB I P o s x s.blks := fun X a w lc hR => by
  obtain ⟨v, h1, h2⟩ := h X a w lc hR
  exact ⟨v, [], by simpa using h1, by simpa using hR.world, h2⟩
theorem pure_quiet {o : Op} (h : pureB o = true) : quietB o = true := by
  cases o with
  | move x => cases x with
    | const v => cases v <;> first | rfl | cases h
    | _ => rfl
  | assign x => cases x with
    | const v => cases v <;> first | rfl | cases h
    | _ => rfl
  | _ => first | rfl | cases h
theorem op_b {H : Hints} (hL : LayOK P L) {o : Oper} {s : St} {bl : List Blk} {x : TV} (hq : buildB o.op = true) (h : evOp L (⟨[], [], [], [], H⟩ : Env Ans) o s pair = some (x, ⟨s.tmps, bl⟩)) : SB I P o s x bl := by
  intro X a w lc hR
  have fin : StepB P X o a w lc s pair (x, ⟨s.tmps, bl⟩) → ∃ v more, relT X (lc ++ more) x v ∧ RelW X bl w (lc ++ more) ∧ ∀ w', (execOp a.eval o).run P w' = .ok (.value v) w' := by
    rintro ⟨x', b', more, v, h1, h2, h3, h4⟩
    simp only [pair, Option.some.injEq, Prod.mk.injEq, St.mk.injEq, true_and] at h1
    rw [← h1.1, ← h1.2]
    exact ⟨v, more, h2, h3, h4⟩
  unfold buildB at hq
  split at hq
  · rename_i t parts ho
    simp only [evOp, ho] at h
    exact fin (s_build_all hL ho hR h)
  · rename_i t y lo hi mx ho
    cases mx with
    | some _ => simp only [evOp, ho] at h; cases h
    | none =>
      simp only [evOp, ho] at h
      exact fin (b_slice hL ho hR h)
  · cases hq

theorem evOp_env (E : Env β) {o : Oper} (s : St) (K : TV → St → Option β) (hc : callB o.op = false) : evOp L E o s K = evOp L ⟨[], [], [], [], E.hints⟩ o s K := by
  unfold evOp
  split <;> first | rfl | skip
  rename_i c ho
  rw [ho] at hc
  unfold evCall
  split <;> first | rfl | skip
  rename_i f hf
  exfalso
  revert hc
  obtain ⟨callee, args, ts⟩ := c
  simp only at hf
  subst hf
  simp [callB]

theorem op_run (hL : LayOK P L) {E : Env β} {o : Oper} {s : St} {K : TV → St → Option β} {r : β} (hc : callB o.op = false) (h : evOp L E o s K = some r) :
    ∃ x bl, K x ⟨s.tmps, bl⟩ = some r ∧ SR I P o s x bl ∧ (quietB o.op = true → bl = s.blks ∧ SQ I P o s x) ∧ (anyB o.op = true → SB I P o s x bl) := by
  rw [evOp_env E s K hc] at h
  obtain ⟨x, bl, h1, h2, h3⟩ := nat_op (L := L) (quietB o.op) E.hints o s hc id β K r h
  have hany : (quietB o.op = true → bl = s.blks) → anyB o.op = true → SB I P o s x bl := fun hb ha => by
    cases hbb : buildB o.op with
    | true => exact op_b hL hbb h1
    | false =>
      have hp : pureB o.op = true := by simpa [anyB, hbb] using ha
      have hqq : quietB o.op = true := pure_quiet hp
      rw [hb hqq]
      exact sb_of_p (op_p hL hp h1)
  cases hq : quietB o.op with
  | false => exact ⟨x, bl, h2, op_r hL hq hc h1, fun h => (by cases h), hany fun h => by rw [hq] at h; cases h⟩
  | true =>
    have hb := h3 hq
    have ha := hany fun _ => hb
    subst hb
    have := op_q (I := I) hL hq hc h1
    exact ⟨x, _, h2, sr_of_q this, fun _ => ⟨rfl, this⟩, ha⟩
end
end Go.Rv
