/- Regions that draw their order: operations that only read or make new memory, in whatever order; the others when nothing else is ready. -/
import Derived.WalkKit
import Derived.StillTail
import Derived.Deep.Quiet
import Derived.Below
namespace Go.Rv
open Go.RowKit (Below)

/-- Operations that only read. -/
def quietB : Op → Bool
  | .move (.const (.slice ..)) | .assign (.const (.slice ..)) => false
  | .move _ | .assign _ | .pick .. | .load .. | .binOp .. | .unOp .. | .fieldAddr .. | .field .. | .indexAddr .. | .index .. | .extract .. | .slice .. => true
  | .convert .. | .makeFunc .. => true
  | .call { callee := .value _, .. } => true
  | .call { callee := .builtin .len, .. } | .call { callee := .builtin .max, .. } | .call { callee := .builtin .min, .. } => true
  | _ => false
/-- Whether an operation calls a function. -/
def callB : Op → Bool
  | .call { callee := .value _, .. } => true
  | _ => false
/-- Operations that turn no older memory. -/
def freshB (o : Op) : Bool :=
  quietB o || match o with
  | .move _ | .assign _ | .alloc _ | .box .. | .build .. | .makeSlice .. | .buildSlice .. => true
  | _ => false

section
variable {P : Program} {ops : Array Oper} {md : Region.Mode} {Q' : Exit → Act → World → Prop}

/-- What an operation that hands back a value leaves. -/
def retUpon (P : Program) (K : Value → World → Prop) : Result Next → Prop
  | .ok (.value u) w' => K u w'
  | .ok .skip w' => K undef w'
  | .ok (.enter f args) w' => Calls P f args w' (fun e w'' => ∃ u, e = .returned u ∧ K u w'')
  | _ => False
def retAt (P : Program) (o : Oper) (a : Act) (w : World) (K : Value → World → Prop) : Prop := retUpon P K ((execOp a.eval o).run P w)

theorem retUpon_mono {K K' : Value → World → Prop} (h : ∀ v w, K v w → K' v w) {r : Result Next} (hr : retUpon P K r) : retUpon P K' r := by
  cases r with
  | halt x w => exact hr
  | ok n w =>
    cases n <;> first | exact h _ _ hr | exact hr | skip
    exact Calls.mono hr fun e w' ⟨u, h1, h2⟩ => ⟨u, h1, h _ _ h2⟩
theorem retAt_mono {o : Oper} {a : Act} {w : World} {K K' : Value → World → Prop} (h : ∀ v w, K v w → K' v w) (hr : retAt P o a w K) : retAt P o a w K' := retUpon_mono h hr

theorem wp_of_ret {o : Oper} {a : Act} {w : World} {K : Act → World → Prop} (h : retAt P o a w fun v w' => K (a.put o.dst v) w') : o.wp P a w K Q' := by
  unfold retAt at h
  unfold Oper.wp
  generalize (execOp a.eval o).run P w = r at h
  cases r with
  | halt x w => exact h.elim
  | ok n w =>
    cases n <;> first | exact h | exact h.elim | skip
    exact Calls.mono h fun e w' ⟨u, h1, h2⟩ => by subst h1; exact h2

/-- One value in every later world; whatever is called turns no older memory. -/
def stillAt (P : Program) (o : Oper) (a : Act) (w : World) (v : Value) : Prop := retAt P o a w fun u w' => u = v ∧ Below w.heap.size w w'

def Yb (P : Program) (ops : Array Oper) (o : Oper) (v : Value) (a : Act) (w : World) : Prop :=
  (Region.wanted o (yielded ops a.tmps) = true ∧ ∀ w', Below w.heap.size w w' → stillAt P o a w' v) ∨ (Region.wanted o (yielded ops a.tmps) = false ∧ v = undef)

theorem after_trans {w w1 w2 : World} (h : Below w.heap.size w w1) (h' : Below w1.heap.size w1 w2) : Below w.heap.size w w2 := h.trans (h'.mono h.size)

theorem Yb.later {o : Oper} {v : Value} {a : Act} {w w1 : World} (h : Yb P ops o v a w) (hb : Below w.heap.size w w1) : Yb P ops o v a w1 :=
  h.imp (fun ⟨h1, h2⟩ => ⟨h1, fun w' hb' => h2 w' (after_trans hb hb')⟩) id

/-- Operation number i comes up. -/
def opF (P : Program) (ops : Array Oper) (i : Nat) (K : Act → World → Prop) (a : Act) (w : World) : Prop :=
  match ops[i]? with
  | none => K a w
  | some o => if Region.wanted o (yielded ops a.tmps) then retAt P o a w (fun v w' => (freshB o.op = true → Below w.heap.size w w') ∧ K (a.put o.dst v) w') else K (a.put o.dst undef) w

theorem wpOp_of_opF {i : Nat} {K K' : Act → World → Prop} {a : Act} {w : World} (hK : ∀ a w, K a w → K' a w) (h : opF P ops i K a w) : wpOp P ops Q' i K' a w := by
  unfold opF at h
  unfold wpOp
  split at h
  · rename_i ho
    simp only [ho]
    exact hK _ _ h
  · rename_i o ho
    simp only [ho]
    split at h
    · rename_i hw
      simp only [hw, if_true]
      exact .inl (wp_of_ret (retAt_mono (fun v w h => hK _ _ h.2) h))
    · rename_i hw
      simp only [hw]
      exact hK _ _ h

/-- Whatever order is picked from here on, and in whatever later world. -/
def anyF (P : Program) (md : Region.Mode) (ops : Array Oper) (Q' : Exit → Act → World → Prop) : Nat → Array Bool → Act → World → Prop
  | 0, listed, a, w => ∀ w', Below w.heap.size w w' → Region.ready md ops listed = [] ∧ Q' .normal a w'
  | f + 1, listed, a, w => ∀ w', Below w.heap.size w w' → (Region.ready md ops listed = [] → Q' .normal a w') ∧
      ∀ i ∈ Region.ready md ops listed, opF P ops i (anyF P md ops Q' f (listed.setIfInBounds i true)) a w'

theorem anyF_later : ∀ {f : Nat} {listed : Array Bool} {a : Act} {w w1 : World}, anyF P md ops Q' f listed a w → Below w.heap.size w w1 → anyF P md ops Q' f listed a w1
  | 0, _, _, _, _, h, hb => fun w' hb' => h w' (after_trans hb hb')
  | _ + 1, _, _, _, _, h, hb => fun w' hb' => h w' (after_trans hb hb')

theorem wpAny_of_anyF : ∀ {f : Nat} {listed : Array Bool} {a : Act} {w : World}, anyF P md ops Q' f listed a w → wpAny P md ops Q' f listed a w
  | 0, _, _, w, h => h w (Below.refl _ _)
  | _ + 1, _, _, w, h => ⟨(h w (Below.refl _ _)).1, fun i hi => wpOp_of_opF (fun _ _ h => wpAny_of_anyF h) ((h w (Below.refl _ _)).2 i hi)⟩

theorem opF_of_yb {i : Nat} {oi : Oper} {v : Value} {a : Act} {w : World} {K : Act → World → Prop} (hi : ops[i]? = some oi) (hy : Yb P ops oi v a w) (hK : ∀ w', Below w.heap.size w w' → K (a.put oi.dst v) w') : opF P ops i K a w := by
  unfold opF
  simp only [hi]
  rcases hy with ⟨hw, hs⟩ | ⟨hw, rfl⟩
  · simp only [hw, if_true]
    exact retAt_mono (fun u w' ⟨e, hb⟩ => ⟨fun _ => hb, by rw [e]; exact hK _ hb⟩) (hs w (Below.refl _ _))
  · simp only [hw]
    exact hK _ (Below.refl _ _)

/-- An operation that only reads may be taken first. -/
theorem anyF_first {i : Nat} {oi : Oper} {v : Value} (hi : ops[i]? = some oi) (hsel : ∀ (j : Nat) (o : Oper) cs b, ops[j]? = some o → o.op ≠ .select cs b) :
    ∀ (f : Nat) (listed : Array Bool) (a : Act) (w : World),
      (∀ j oj, ops[j]? = some oj → j ≠ i → listed.getD j true = false → (∀ e ∈ oj.after, Region.binds md e = true → e.on ≠ i) → oi.apart ops oj = true ∧ freshB oj.op = true) →
      i ∈ Region.ready md ops listed → Yb P ops oi v a w →
      anyF P md ops Q' f (listed.setIfInBounds i true) (a.put oi.dst v) w → anyF P md ops Q' (f + 1) listed a w := by
  intro f
  induction f with
  | zero =>
    intro listed a w _ hr hy H w' hb
    refine ⟨fun h => (by rw [h] at hr; cases hr), fun j hj => ?_⟩
    by_cases hji : j = i
    · subst hji
      exact opF_of_yb hi (hy.later hb) fun w'' hb' => anyF_later H (after_trans hb hb')
    · have := (H w (Below.refl _ _)).1
      have h2 := ready_mono hj hji
      rw [this] at h2
      cases h2
  | succ f ih =>
    intro listed a w hfree hr hy H w' hb
    have hun := (mem_ready.1 hr).1
    refine ⟨fun h => (by rw [h] at hr; cases hr), fun j hj => ?_⟩
    by_cases hji : j = i
    · subst hji
      exact opF_of_yb hi (hy.later hb) fun w'' hb' => anyF_later H (after_trans hb hb')
    · have h1 := (H w' hb).2 j (ready_mono hj hji)
      obtain ⟨hjun, oj, hoj, hall⟩ := mem_ready.1 hj
      have hnot : ∀ e ∈ oj.after, Region.binds md e = true → e.on ≠ i := fun e he hb heq => by
        have h1 := hall e he hb
        rw [heq, getD_both hun] at h1
        cases h1
      obtain ⟨hap, hfr⟩ := hfree j oj hoj hji hjun hnot
      obtain ⟨p1, p2, p3⟩ := Oper.apart_spec hap
      have hfree' : ∀ k ok, ops[k]? = some ok → k ≠ i → (listed.setIfInBounds j true).getD k true = false →
          (∀ e ∈ ok.after, Region.binds md e = true → e.on ≠ i) → oi.apart ops ok = true ∧ freshB ok.op = true := fun k ok hk hki hu hno => by
        refine hfree k ok hk hki ?_ hno
        by_cases hjk : j = k
        · subst hjk; exact hjun
        · rw [getD_set_ne true hjk] at hu; exact hu
      have hyp : ∀ u w2, Below w'.heap.size w' w2 → Yb P ops oi v (a.put oj.dst u) w2 := fun u w2 hb2 => by
        have h := hy.later (after_trans hb hb2)
        rcases h with ⟨h1, h2⟩ | ⟨h1, h2⟩
        · refine .inl ⟨by rw [wanted_put oi a oj.dst u p3]; exact h1, fun w3 hb3 => ?_⟩
          have := h2 w3 hb3
          unfold stillAt retAt at *
          rw [execOp_put oi (fun cs b => hsel i oi cs b hi) a oj.dst u p3]
          exact this
        · exact .inr ⟨by rw [wanted_put oi a oj.dst u p3]; exact h1, h2⟩
      have go : ∀ u w2, Below w'.heap.size w' w2 → anyF P md ops Q' f ((listed.setIfInBounds i true).setIfInBounds j true) ((a.put oi.dst v).put oj.dst u) w2 → anyF P md ops Q' (f + 1) (listed.setIfInBounds j true) (a.put oj.dst u) w2 := fun u w2 hb2 h => by
        refine ih (listed.setIfInBounds j true) (a.put oj.dst u) w2 hfree' (ready_mono hr (Ne.symm hji)) (hyp u w2 hb2) ?_
        rw [← Act.put_comm a v u p2, Array.setIfInBounds_comm _ _ hji]
        exact h
      unfold opF at h1 ⊢
      simp only [hoj] at h1 ⊢
      rw [wanted_put oj a oi.dst v p1] at h1
      split
      · rename_i hw
        simp only [hw, if_true] at h1
        unfold retAt at h1 ⊢
        rw [execOp_put oj (fun cs b => hsel j oj cs b hoj) a oi.dst v p1] at h1
        exact retUpon_mono (fun u w2 ⟨hbf, hK⟩ => ⟨hbf, go u w2 (hbf hfr) hK⟩) h1
      · rename_i hw
        simp only [hw] at h1
        exact go _ _ (Below.refl _ _) h1

/-- Whether all that may come before an operation leaves older memory alone. -/
def freeF (md : Region.Mode) (ops : Array Oper) (listed : Array Bool) (i : Nat) : Bool :=
  Region.free md ops listed i && (List.range ops.size).all fun j => j == i || listed.getD j true || match ops[j]? with
    | some oj => oj.after.any (fun e => Region.binds md e && e.on == i) || freshB oj.op
    | none => true

theorem freeF_spec {i : Nat} {oi : Oper} {listed : Array Bool} (hi : ops[i]? = some oi) (h : freeF md ops listed i = true) (j : Nat) (oj : Oper)
    (hj : ops[j]? = some oj) (hne : j ≠ i) (hun : listed.getD j true = false) (hno : ∀ e ∈ oj.after, Region.binds md e = true → e.on ≠ i) : oi.apart ops oj = true ∧ freshB oj.op = true := by
  simp only [freeF, Bool.and_eq_true, List.all_eq_true, List.mem_range] at h
  refine ⟨Region.free_spec hi h.1 j oj hj hne hun hno, ?_⟩
  have h1 := h.2 j (Array.getElem?_eq_some_iff.1 hj).1
  simp only [hj, Bool.or_eq_true, beq_iff_eq, hne, false_or, hun, Bool.false_eq_true] at h1
  rcases h1 with h1 | h1
  · exfalso
    obtain ⟨k, hk, hk2⟩ := Array.any_eq_true.1 h1
    simp only [Bool.and_eq_true, beq_iff_eq] at hk2
    exact hno _ (Array.getElem_mem hk) hk2.1 hk2.2
  · exact h1

/-- An order in which a region is walked: what only reads, where it may come first; else what comes alone. -/
def planB (md : Region.Mode) (ops : Array Oper) : List (Nat × Bool) → Array Bool → Bool
  | [], listed => Region.ready md ops listed == []
  | (i, true) :: l, listed => Region.ready md ops listed == [i] && planB md ops l (listed.setIfInBounds i true)
  | (i, false) :: l, listed => (Region.ready md ops listed).contains i && freeF md ops listed i && planB md ops l (listed.setIfInBounds i true)

def WPlan (P : Program) (ops : Array Oper) (Q' : Exit → Act → World → Prop) : List (Nat × Bool) → Act → World → Prop
  | [], a, w => ∀ w', Below w.heap.size w w' → Q' .normal a w'
  | (i, true) :: l, a, w => ∀ w', Below w.heap.size w w' → opF P ops i (WPlan P ops Q' l) a w'
  | (i, false) :: l, a, w => ∃ o v, ops[i]? = some o ∧ Yb P ops o v a w ∧ WPlan P ops Q' l (a.put o.dst v) w

theorem opF_mono {i : Nat} {K K' : Act → World → Prop} {a : Act} {w : World} (hK : ∀ a w, K a w → K' a w) (h : opF P ops i K a w) : opF P ops i K' a w := by
  unfold opF at h ⊢
  split at h
  · rename_i ho
    exact hK _ _ h
  · rename_i o ho
    split at h
    · rename_i hw
      simp only [hw, if_true]
      exact retAt_mono (fun v w h => ⟨h.1, hK _ _ h.2⟩) h
    · rename_i hw
      simp only [hw]
      exact hK _ _ h

theorem plan_any (hsel : Region.noSelect ops = true) : ∀ (l : List (Nat × Bool)) (listed : Array Bool) (a : Act) (w : World), planB md ops l listed = true → WPlan P ops Q' l a w → anyF P md ops Q' l.length listed a w
  | [], listed, a, w, hB, h => fun w' hb => ⟨by simpa [planB] using hB, h w' hb⟩
  | (i, true) :: l, listed, a, w, hB, h => by
    simp only [planB, Bool.and_eq_true, beq_iff_eq] at hB
    intro w' hb
    refine ⟨fun h0 => (by rw [hB.1] at h0; cases h0), fun j hj => ?_⟩
    rw [hB.1] at hj
    simp only [List.mem_singleton] at hj
    subst hj
    exact opF_mono (fun a' w' hw => plan_any hsel l _ a' w' hB.2 hw) (h w' hb)
  | (i, false) :: l, listed, a, w, hB, h => by
    simp only [planB, Bool.and_eq_true] at hB
    obtain ⟨⟨h1, h2⟩, h3⟩ := hB
    obtain ⟨o, v, ho, hy, hK⟩ := h
    exact anyF_first ho (Region.noSelect_spec hsel) _ listed a w (fun j oj => freeF_spec ho h2 j oj) (by simpa using h1) hy (plan_any hsel l _ _ w h3 hK)

/-- The order in which the evaluator goes. -/
def planOf (md : Region.Mode) (ops : Array Oper) : Nat → Array Bool → List (Nat × Bool)
  | 0, _ => []
  | f + 1, listed => match Region.ready md ops listed with
    | [] => []
    | [i] => (i, true) :: planOf md ops f (listed.setIfInBounds i true)
    | r => match r.find? fun i => match ops[i]? with | some o => quietB o.op && !(callB o.op) | none => false with
      | some i => (i, false) :: planOf md ops f (listed.setIfInBounds i true)
      | none => match r.find? fun i => match ops[i]? with | some o => callB o.op | none => false with
        | some i => (i, false) :: planOf md ops f (listed.setIfInBounds i true)
        | none => []

def planChk (ops : Array Oper) (l : List (Nat × Bool)) : Option (List (Nat × Bool)) :=
  cond (Region.noSelect ops && Nat.beq l.length ops.size && planB .any ops l (Array.replicate ops.size false)) (some l) none
def planFor (ops : Array Oper) : Option (List (Nat × Bool)) := planChk ops (planOf .any ops ops.size (Array.replicate ops.size false))

theorem region_plan {id : Nat} {a : Act} {w : World} {l : List (Nat × Bool)} (hm : P.follows .mixedOrders = true) (hp : planFor ops = some l) (h : WPlan P ops Q' l a w) : (Code.region id ops true).wp P Q' a w := by
  unfold planFor at hp
  generalize planOf .any ops ops.size (Array.replicate ops.size false) = l' at hp
  unfold planChk at hp
  cases hc : (Region.noSelect ops && Nat.beq l'.length ops.size && planB .any ops l' (Array.replicate ops.size false)) with
  | false => rw [hc] at hp; cases hp
  | true =>
    rw [hc] at hp
    simp only [cond_true, Option.some.injEq] at hp
    subst hp
    simp only [Bool.and_eq_true] at hc
    obtain ⟨⟨h1, h2⟩, h3⟩ := hc
    refine wp_region_any hm ?_
    have := wpAny_of_anyF (anyF_later (plan_any h1 _ _ a w h3 h) (Below.refl w.heap.size w).drew)
    rw [Nat.eq_of_beq_eq_true h2] at this
    exact this
end
end Go.Rv
