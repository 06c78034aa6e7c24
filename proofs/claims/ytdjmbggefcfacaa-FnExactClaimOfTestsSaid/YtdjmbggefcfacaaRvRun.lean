/- What the evaluator says of an operation is what the machine does, in every world that fits. -/
import Derived.Test.YtdjmbggefcfacaaRvNat
namespace Go.Rv
open Go.RowKit (Below)
section
variable {P : Program} {L : Lay} {β : Type}

/-- An operation that only reads, in every world that fits. -/
def SQ (P : Program) (o : Oper) (s : St) (x : TV) : Prop := ∀ X a w lc, Rel X s a w lc →
  ∃ v, relT X lc x v ∧ ∀ w', Below w.heap.size w w' → (execOp a.eval o).run P w' = .ok (.value v) w'

/-- An operation, in every world that fits. -/
def SR (P : Program) (o : Oper) (s : St) (x : TV) (bl : List Blk) : Prop := ∀ X a w lc, Rel X s a w lc →
  ∃ more n v w', (execOp a.eval o).run P w = .ok n w' ∧ (freshB o.op = true → Below w.heap.size w w') ∧ outV n = some v ∧ relT X (lc ++ more) x v ∧ RelW X bl w' (lc ++ more)

theorem sq_of {o : Oper} {s s' : St} {x : TV} (h : ∀ X a w lc, Rel X s a w lc → StepQ P X o a w lc s pair (x, s')) : SQ P o s x := fun X a w lc hR => by
  obtain ⟨x', v, h1, h2, h3⟩ := h X a w lc hR
  simp only [pair, Option.some.injEq, Prod.mk.injEq] at h1
  rw [← h1.1]
  exact ⟨v, h2, h3⟩

theorem sr_of {o : Oper} {s : St} {x : TV} {bl : List Blk} (h : ∀ X a w lc, Rel X s a w lc → Step P X o a w lc s pair (x, ⟨s.tmps, bl⟩)) : SR P o s x bl := fun X a w lc hR => by
  obtain ⟨x', b', more, n, v, w', h1, h2, hb, h3, h4, h5⟩ := h X a w lc hR
  simp only [pair, Option.some.injEq, Prod.mk.injEq, St.mk.injEq, true_and] at h1
  rw [← h1.1, ← h1.2]
  exact ⟨more, n, v, w', h2, hb, h3, h4, h5⟩

theorem sr_of_q {o : Oper} {s : St} {x : TV} (h : SQ P o s x) : SR P o s x s.blks := fun X a w lc hR => by
  obtain ⟨v, h2, h3⟩ := h X a w lc hR
  exact ⟨[], .value v, v, w, h3 w (Below.refl _ _), fun _ => Below.refl _ _, rfl, by simpa using h2, by simpa using hR.world⟩

theorem op_q (hL : LayOK P L) {o : Oper} {s s' : St} {x : TV} (hq : quietB o.op = true) (hc : callB o.op = false) (h : evOp L (⟨[], [], []⟩ : Env Ans) o s pair = some (x, s')) : SQ P o s x := by
  refine sq_of (s' := s') fun X a w lc hR => ?_
  unfold evOp at h
  split at h
  · rename_i y ho
    rw [ho] at hq
    unfold evMove at h
    split at h
    · simp [quietB] at hq
    · exact q_move (.inl ho) hR h
  · rename_i y ho
    rw [ho] at hq
    unfold evMove at h
    split at h
    · simp [quietB] at hq
    · exact q_move (.inr ho) hR h
  · rename_i ho; exact q_pick ho hR h
  · rename_i ho; rw [ho] at hq; cases hq
  · rename_i ho; rw [ho] at hq; cases hq
  · rename_i ho; rw [ho] at hq; cases hq
  · rename_i ho; exact evLoad_q hL ho hR h
  · rename_i ho; rw [ho] at hq; cases hq
  · rename_i ho; exact q_bin hL ho hR h
  · rename_i ho; exact q_un ho hR h
  · rename_i ho; exact s_convert hL ho hR h
  · rename_i ho; exact q_fieldAddr hL ho hR h
  · rename_i ho; exact q_field hL ho hR h
  · rename_i ho; exact q_indexAddr hL ho hR h
  · rename_i ho; exact q_index hL ho hR h
  · rename_i ho; exact q_sliceStr hL ho hR h
  · rename_i ho; rw [ho] at hq; cases hq
  · rename_i ho; rw [ho] at hq; cases hq
  · rename_i ho; exact q_extract ho hR h
  · rename_i ho; exact q_makeFunc ho hR h
  · rename_i c ho
    rw [ho] at hc hq
    unfold evCall at h
    split at h
    · rename_i f hf
      exfalso
      revert hc
      obtain ⟨callee, args, ts⟩ := c
      simp only at hf
      subst hf
      simp [callB]
    · rename_i hf
      split at h
      · rename_i y hy; exact q_len hL ho hf hy hR h
      · cases h
    · rename_i hf
      split at h
      · rename_i y z hy; exact q_minmax ho true hf hy hR h
      · cases h
    · rename_i hf
      split at h
      · rename_i y z hy; exact q_minmax ho false hf hy hR h
      · cases h
    · rename_i hf
      obtain ⟨callee, args, ts⟩ := c
      simp only at hf
      subst hf
      simp [quietB] at hq
    · cases h
  · cases h

theorem op_r (hL : LayOK P L) {o : Oper} {s : St} {bl : List Blk} {x : TV} (hq : quietB o.op = false) (hc : callB o.op = false) (h : evOp L (⟨[], [], []⟩ : Env Ans) o s pair = some (x, ⟨s.tmps, bl⟩)) : SR P o s x bl := by
  refine sr_of fun X a w lc hR => ?_
  unfold evOp at h
  split at h
  · rename_i y ho
    rw [ho] at hq
    unfold evMove at h
    split at h
    · exact s_nil hL (.inl ho) hR h
    · exact (q_move (.inl ho) hR h).step hR.world
  · rename_i y ho
    rw [ho] at hq
    unfold evMove at h
    split at h
    · exact s_nil hL (.inr ho) hR h
    · exact (q_move (.inr ho) hR h).step hR.world
  · rename_i ho; rw [ho] at hq; cases hq
  · rename_i ho; exact s_alloc hL ho hR h
  · rename_i ho; exact s_box ho hR h
  · rename_i ho; exact s_build hL ho hR h
  · rename_i ho; rw [ho] at hq; cases hq
  · rename_i ho; exact s_store hL ho hR h
  · rename_i ho; rw [ho] at hq; cases hq
  · rename_i ho; rw [ho] at hq; cases hq
  · rename_i ho; rw [ho] at hq; cases hq
  · rename_i ho; rw [ho] at hq; cases hq
  · rename_i ho; rw [ho] at hq; cases hq
  · rename_i ho; rw [ho] at hq; cases hq
  · rename_i ho; rw [ho] at hq; cases hq
  · rename_i ho; rw [ho] at hq; cases hq
  · rename_i ho; exact s_makeSlice hL ho hR h
  · rename_i ho; exact s_buildSlice hL ho hR h
  · rename_i ho; rw [ho] at hq; cases hq
  · rename_i ho; rw [ho] at hq; cases hq
  · rename_i c ho
    rw [ho] at hc hq
    unfold evCall at h
    split at h
    · rename_i f hf
      exfalso
      revert hc
      obtain ⟨callee, args, ts⟩ := c
      simp only at hf
      subst hf
      simp [callB]
    · rename_i hf
      obtain ⟨callee, args, ts⟩ := c
      simp only at hf
      subst hf
      simp [quietB] at hq
    · rename_i hf
      obtain ⟨callee, args, ts⟩ := c
      simp only at hf
      subst hf
      simp [quietB] at hq
    · rename_i hf
      obtain ⟨callee, args, ts⟩ := c
      simp only at hf
      subst hf
      simp [quietB] at hq
    · rename_i hf
      split at h
      · rename_i y z hy; exact s_append hL ho hf hy hR h
      · cases h
    · cases h
  · cases h

theorem evOp_env (E : Env β) {o : Oper} (s : St) (K : TV → St → Option β) (hc : callB o.op = false) : evOp L E o s K = evOp L ⟨[], [], []⟩ o s K := by
  unfold evOp
  split <;> first | rfl | skip
  rename_i c ho
  rw [ho] at hc
  unfold evCall
  split <;> first | rfl | skip
  rename_i f hf
  exfalso
  revert hc
  obtain ⟨callee, args, ts⟩ := c
  simp only at hf
  subst hf
  simp [callB]

/-- An operation that is no call. -/
theorem op_run (hL : LayOK P L) {E : Env β} {o : Oper} {s : St} {K : TV → St → Option β} {r : β} (hc : callB o.op = false) (h : evOp L E o s K = some r) :
    ∃ x bl, K x ⟨s.tmps, bl⟩ = some r ∧ SR P o s x bl ∧ (quietB o.op = true → bl = s.blks ∧ SQ P o s x) := by
  rw [evOp_env E s K hc] at h
  obtain ⟨x, bl, h1, h2, h3⟩ := nat_op (L := L) (quietB o.op) (fun _ => ⟨[], [], []⟩) o s hc id β K r h
  cases hq : quietB o.op with
  | false => exact ⟨x, bl, h2, op_r hL hq hc h1, fun h => by cases h⟩
  | true =>
    have hb := h3 hq
    subst hb
    have := op_q hL hq hc h1
    exact ⟨x, _, h2, sr_of_q this, fun _ => ⟨rfl, this⟩⟩
end
end Go.Rv
