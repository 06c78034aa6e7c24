/- Regions that draw their order: operations that only read or make new memory, in whatever order; the others when nothing else is ready. -/
import Derived.WalkKit
import Derived.StillTail
import Derived.Deep.Quiet
import Derived.Below
namespace Go.Rv
open Go.RowKit (Below)

def quietB : Op → Bool
  | .move (.const (.slice ..)) | .assign (.const (.slice ..)) => false
  | .move _ | .assign _ | .pick .. | .load .. | .binOp .. | .unOp .. | .fieldAddr .. | .field .. | .indexAddr .. | .index .. | .extract .. => true
  | .convert src dst _ => !(Nat.beq src dst)
  | .makeFunc .. | .lookup .. | .nilCheck .. => true
  | .call { callee := .value _, .. } => true
  | .call { callee := .builtin .len, .. } | .call { callee := .builtin .max, .. } | .call { callee := .builtin .min, .. } => true
  | _ => false
def pureB : Op → Bool
  | .move (.const (.slice ..)) | .assign (.const (.slice ..)) => false
  | .move _ | .assign _ | .pick .. | .binOp .. | .unOp .. | .fieldAddr .. | .field .. | .extract .. | .nilCheck .. => true
  | _ => false
def buildB : Op → Bool
  | .build .. | .slice .. => true
  | _ => false
def anyB (o : Op) : Bool := pureB o || buildB o
def aheadB (o : Op) : Bool := quietB o || buildB o
def callB : Op → Bool
  | .call { callee := .value _, .. } => true
  | _ => false
def freshB (o : Op) : Bool :=
  quietB o || match o with
  | .move _ | .assign _ | .alloc _ | .box .. | .build .. | .slice .. | .makeSlice .. | .buildSlice .. | .makeMap .. => true
  | _ => false

def appendB : Op → Bool
  | .call { callee := .builtin .append, .. } => true
  | _ => false
def frOf (c : Bool) (o : Op) : Bool := cond c (freshB o) (freshB o || appendB o)

structure Lat (G : Nat → Prop) (w w' : World) : Prop where
  os : w'.os = w.os
  tape : w'.tape = w.tape
  output : w'.output = w.output
  size : w.heap.size ≤ w'.heap.size
  block : ∀ k, k < w.heap.size → ¬ G k → w'.heap[k]? = w.heap[k]?
theorem Lat.of {G : Nat → Prop} {w w' : World} (h : Below w.heap.size w w') : Lat G w w' := ⟨h.os, h.tape, h.output, h.size, fun k hk _ => h.block k hk⟩
theorem Lat.refl {G : Nat → Prop} (w : World) : Lat G w w := Lat.of (Below.refl _ _)
theorem Lat.trans {G : Nat → Prop} {a b c : World} (h : Lat G a b) (k : Lat G b c) : Lat G a c :=
  ⟨k.os.trans h.os, k.tape.trans h.tape, k.output.trans h.output, Nat.le_trans h.size k.size, fun i hi hg => (k.block i (Nat.lt_of_lt_of_le hi h.size) hg).trans (h.block i hi hg)⟩
theorem Lat.cell {G : Nat → Prop} {w w' : World} (h : Lat G w w') {p : Addr} (hp : p.block < w.heap.size) (hg : ¬ G p.block) : w'.cell? p = w.cell? p := World.cell?_of_block (w := w) (h.block p.block hp hg)
theorem Lat.weak {G G' : Nat → Prop} {w w' : World} (h : Lat G w w') (hg : ∀ k, G k → G' k) : Lat G' w w' := ⟨h.os, h.tape, h.output, h.size, fun k hk hn => h.block k hk fun hG => hn (hg k hG)⟩
theorem Lat.below {w w' : World} (h : Lat (fun _ => False) w w') : Below w.heap.size w w' := ⟨h.os, h.tape, h.output, h.size, fun k hk => h.block k hk id⟩

section
variable {P : Program} {ops : Array Oper} {md : Region.Mode} {Q' : Exit → Act → World → Prop} {G : Nat → Prop} {fr : Op → Bool}

def retUpon (P : Program) (K : Value → World → Prop) : Result Next → Prop
  | .ok (.value u) w' => K u w'
  | .ok .skip w' => K undef w'
  | .ok (.enter f args) w' => Calls P f args w' (fun e w'' => ∃ u, e = .returned u ∧ K u w'')
  | _ => False
def retAt (P : Program) (o : Oper) (a : Act) (w : World) (K : Value → World → Prop) : Prop := retUpon P K ((execOp a.eval o).run P w)

theorem retUpon_mono {K K' : Value → World → Prop} (h : ∀ v w, K v w → K' v w) {r : Result Next} (hr : retUpon P K r) : retUpon P K' r := by
  cases r with
  | halt x w => exact hr
  | ok n w =>
    cases n <;> first | exact h _ _ hr | exact hr | skip
    exact Calls.mono hr fun e w' ⟨u, h1, h2⟩ => ⟨u, h1, h _ _ h2⟩
theorem retAt_mono {o : Oper} {a : Act} {w : World} {K K' : Value → World → Prop} (h : ∀ v w, K v w → K' v w) (hr : retAt P o a w K) : retAt P o a w K' := retUpon_mono h hr

theorem wp_of_ret {o : Oper} {a : Act} {w : World} {K : Act → World → Prop} (h : retAt P o a w fun v w' => K (a.put o.dst v) w') : o.wp P a w K Q' := by
  unfold retAt at h
  unfold Oper.wp
  generalize (execOp a.eval o).run P w = r at h
  cases r with
  | halt x w => exact h.elim
  | ok n w =>
    cases n <;> first | exact h | exact h.elim | skip
    exact Calls.mono h fun e w' ⟨u, h1, h2⟩ => by subst h1; exact h2

def stillAt (P : Program) (o : Oper) (a : Act) (w : World) (v : Value) : Prop := retAt P o a w fun u w' => u = v ∧ Below w.heap.size w w'

def Yb (P : Program) (G : Nat → Prop) (ops : Array Oper) (o : Oper) (v : Value) (a : Act) (w : World) : Prop :=
  (Region.wanted o (yielded ops a.tmps) = true ∧ (∀ w', Lat G w w' → stillAt P o a w' v) ∧ (anyB o.op = true → ∀ w', stillAt P o a w' v)) ∨ (Region.wanted o (yielded ops a.tmps) = false ∧ v = undef)

theorem after_trans {w w1 w2 : World} (h : Below w.heap.size w w1) (h' : Below w1.heap.size w1 w2) : Below w.heap.size w w2 := h.trans (h'.mono h.size)

theorem Yb.later {o : Oper} {v : Value} {a : Act} {w w1 : World} (h : Yb P G ops o v a w) (hb : Lat G w w1) : Yb P G ops o v a w1 :=
  h.imp (fun ⟨h1, h2, h3⟩ => ⟨h1, fun w' hb' => h2 w' (hb.trans hb'), h3⟩) id

def opF (P : Program) (G : Nat → Prop) (fr : Op → Bool) (ops : Array Oper) (i : Nat) (K : Act → World → Prop) (a : Act) (w : World) : Prop :=
  match ops[i]? with
  | none => K a w
  | some o => if Region.wanted o (yielded ops a.tmps) then retAt P o a w (fun v w' => (fr o.op = true → Lat G w w') ∧ K (a.put o.dst v) w') else K (a.put o.dst undef) w

theorem wpOp_of_opF {i : Nat} {K K' : Act → World → Prop} {a : Act} {w : World} (hK : ∀ a w, K a w → K' a w) (h : opF P G fr ops i K a w) : wpOp P ops Q' i K' a w := by
  unfold opF at h
  unfold wpOp
  split at h
  · rename_i ho
    simp only [ho]
    exact hK _ _ h
  · rename_i o ho
    simp only [ho]
    split at h
    · rename_i hw
      simp only [hw, if_true]
      exact .inl (wp_of_ret (retAt_mono (fun v w h => hK _ _ h.2) h))
    · rename_i hw
      simp only [hw]
      exact hK _ _ h

def anyF (P : Program) (G : Nat → Prop) (fr : Op → Bool) (md : Region.Mode) (ops : Array Oper) (Q' : Exit → Act → World → Prop) : Nat → Array Bool → Act → World → Prop
  | 0, listed, a, w => ∀ w', Below w.heap.size w w' → Region.ready md ops listed = [] ∧ Q' .normal a w'
  | f + 1, listed, a, w => ∀ w', Below w.heap.size w w' → (Region.ready md ops listed = [] → Q' .normal a w') ∧
      ∀ i ∈ Region.ready md ops listed, opF P G fr ops i (anyF P G fr md ops Q' f (listed.setIfInBounds i true)) a w'

theorem anyF_later : ∀ {f : Nat} {listed : Array Bool} {a : Act} {w w1 : World}, anyF P G fr md ops Q' f listed a w → Below w.heap.size w w1 → anyF P G fr md ops Q' f listed a w1
  | 0, _, _, _, _, h, hb => fun w' hb' => h w' (after_trans hb hb')
  | _ + 1, _, _, _, _, h, hb => fun w' hb' => h w' (after_trans hb hb')

theorem wpAny_of_anyF : ∀ {f : Nat} {listed : Array Bool} {a : Act} {w : World}, anyF P G fr md ops Q' f listed a w → wpAny P md ops Q' f listed a w
  | 0, _, _, w, h => h w (Below.refl _ _)
  | _ + 1, _, _, w, h => ⟨(h w (Below.refl _ _)).1, fun i hi => wpOp_of_opF (fun _ _ h => wpAny_of_anyF h) ((h w (Below.refl _ _)).2 i hi)⟩

theorem opF_of_yb {i : Nat} {oi : Oper} {v : Value} {a : Act} {w : World} {K : Act → World → Prop} (hi : ops[i]? = some oi) (hy : Yb P G ops oi v a w) (hK : ∀ w', Below w.heap.size w w' → K (a.put oi.dst v) w') : opF P G fr ops i K a w := by
  unfold opF
  simp only [hi]
  rcases hy with ⟨hw, hs, _⟩ | ⟨hw, rfl⟩
  · simp only [hw, if_true]
    exact retAt_mono (fun u w' ⟨e, hb⟩ => ⟨fun _ => Lat.of hb, by rw [e]; exact hK _ hb⟩) (hs w (Lat.refl _))
  · simp only [hw]
    exact hK _ (Below.refl _ _)

theorem anyF_first {i : Nat} {oi : Oper} {v : Value} {D : Nat → Bool} (hi : ops[i]? = some oi)
    (hD : ∀ j oj, ops[j]? = some oj → D j = true → ∃ e ∈ oj.after, Region.binds md e = true ∧ (e.on = i ∨ D e.on = true)) (hsel : ∀ (j : Nat) (o : Oper) cs b, ops[j]? = some o → o.op ≠ .select cs b) :
    ∀ (f : Nat) (listed : Array Bool) (a : Act) (w : World),
      (∀ j oj, ops[j]? = some oj → j ≠ i → listed.getD j true = false → D j = false → oi.apart ops oj = true ∧ (fr oj.op = true ∨ anyB oi.op = true)) →
      (∀ j, D j = true → listed.getD j true = false) →
      i ∈ Region.ready md ops listed → Yb P G ops oi v a w →
      anyF P G fr md ops Q' f (listed.setIfInBounds i true) (a.put oi.dst v) w → anyF P G fr md ops Q' (f + 1) listed a w := by
  intro f
  induction f with
  | zero =>
    intro listed a w _ _ hr hy H w' hb
    refine ⟨fun h => (by rw [h] at hr; cases hr), fun j hj => ?_⟩
    by_cases hji : j = i
    · subst hji
      exact opF_of_yb hi (hy.later (Lat.of hb)) fun w'' hb' => anyF_later H (after_trans hb hb')
    · have := (H w (Below.refl _ _)).1
      have h2 := ready_mono hj hji
      rw [this] at h2
      cases h2
  | succ f ih =>
    intro listed a w hfree hund hr hy H w' hb
    have hun := (mem_ready.1 hr).1
    refine ⟨fun h => (by rw [h] at hr; cases hr), fun j hj => ?_⟩
    by_cases hji : j = i
    · subst hji
      exact opF_of_yb hi (hy.later (Lat.of hb)) fun w'' hb' => anyF_later H (after_trans hb hb')
    · have h1 := (H w' hb).2 j (ready_mono hj hji)
      obtain ⟨hjun, oj, hoj, hall⟩ := mem_ready.1 hj
      have hnot : D j = false := by
        cases hd : D j with
        | false => rfl
        | true =>
          exfalso
          obtain ⟨e, he, hbd, hor⟩ := hD j oj hoj hd
          have h1 := hall e he hbd
          rcases hor with heq | hde
          · rw [heq, getD_both hun] at h1
            cases h1
          · rw [getD_both (hund _ hde)] at h1
            cases h1
      obtain ⟨hap, hfr⟩ := hfree j oj hoj hji hjun hnot
      obtain ⟨p1, p2, p3⟩ := Oper.apart_spec hap
      have hfree' : ∀ k ok, ops[k]? = some ok → k ≠ i → (listed.setIfInBounds j true).getD k true = false → D k = false → oi.apart ops ok = true ∧ (fr ok.op = true ∨ anyB oi.op = true) := fun k ok hk hki hu hno => by
        refine hfree k ok hk hki ?_ hno
        by_cases hjk : j = k
        · subst hjk; exact hjun
        · rw [getD_set_ne true hjk] at hu; exact hu
      have hund' : ∀ k, D k = true → (listed.setIfInBounds j true).getD k true = false := fun k hk => by
        have hjk : j ≠ k := fun e => by rw [e, hk] at hnot; cases hnot
        rw [getD_set_ne true hjk]
        exact hund k hk
      have hyp : ∀ u w2, (Lat G w' w2 ∨ anyB oi.op = true) → Yb P G ops oi v (a.put oj.dst u) w2 := fun u w2 hb2 => by
        have still : ∀ w3, stillAt P oi a w3 v → stillAt P oi (a.put oj.dst u) w3 v := fun w3 h => by
          unfold stillAt retAt at *
          rw [execOp_put oi (fun cs b => hsel i oi cs b hi) a oj.dst u p3]
          exact h
        rcases hy with ⟨h1, h2, h3⟩ | ⟨h1, h2⟩
        · refine .inl ⟨by rw [wanted_put oi a oj.dst u p3]; exact h1, fun w3 hb3 => still w3 ?_, fun hp w3 => still w3 (h3 hp w3)⟩
          rcases hb2 with hb2 | hp
          · exact h2 w3 (((Lat.of hb).trans hb2).trans hb3)
          · exact h3 hp w3
        · exact .inr ⟨by rw [wanted_put oi a oj.dst u p3]; exact h1, h2⟩
      have go : ∀ u w2, (Lat G w' w2 ∨ anyB oi.op = true) → anyF P G fr md ops Q' f ((listed.setIfInBounds i true).setIfInBounds j true) ((a.put oi.dst v).put oj.dst u) w2 → anyF P G fr md ops Q' (f + 1) (listed.setIfInBounds j true) (a.put oj.dst u) w2 := fun u w2 hb2 h => by
        refine ih (listed.setIfInBounds j true) (a.put oj.dst u) w2 hfree' hund' (ready_mono hr (Ne.symm hji)) (hyp u w2 hb2) ?_
        rw [← Act.put_comm a v u p2, Array.setIfInBounds_comm _ _ hji]
        exact h
      unfold opF at h1 ⊢
      simp only [hoj] at h1 ⊢
      rw [wanted_put oj a oi.dst v p1] at h1
      split
      · rename_i hw
        simp only [hw, if_true] at h1
        unfold retAt at h1 ⊢
        rw [execOp_put oj (fun cs b => hsel j oj cs b hoj) a oi.dst v p1] at h1
        exact retUpon_mono (fun u w2 ⟨hbf, hK⟩ => ⟨hbf, go u w2 (hfr.imp hbf id) hK⟩) h1
      · rename_i hw
        simp only [hw] at h1
        exact go _ _ (.inl (Lat.refl _)) h1

def descs (md : Region.Mode) (ops : Array Oper) (i : Nat) : List Nat :=
  (List.range ops.size).foldl (fun D j => match ops[j]? with
    | some oj => cond (oj.after.any fun e => Region.binds md e && (e.on == i || D.contains e.on)) (j :: D) D
    | none => D) []
def freeD (fr : Op → Bool) (md : Region.Mode) (ops : Array Oper) (listed : Array Bool) (i : Nat) (D : List Nat) : Bool :=
  (D.all fun j => !listed.getD j true && match ops[j]? with
    | some oj => oj.after.any fun e => Region.binds md e && (e.on == i || D.contains e.on)
    | none => false) &&
  (List.range ops.size).all fun j => j == i || listed.getD j true || D.contains j || match ops[j]?, ops[i]? with
    | some oj, some oi => oi.apart ops oj && (fr oj.op || anyB oi.op)
    | _, _ => true
def freeF (fr : Op → Bool) (md : Region.Mode) (ops : Array Oper) (listed : Array Bool) (i : Nat) : Bool := freeD fr md ops listed i (descs md ops i)

theorem freeF_spec {i : Nat} {oi : Oper} {listed : Array Bool} (hi : ops[i]? = some oi) (h : freeF fr md ops listed i = true) :
    ∃ D : Nat → Bool, (∀ j oj, ops[j]? = some oj → D j = true → ∃ e ∈ oj.after, Region.binds md e = true ∧ (e.on = i ∨ D e.on = true)) ∧ (∀ j, D j = true → listed.getD j true = false) ∧
      ∀ j oj, ops[j]? = some oj → j ≠ i → listed.getD j true = false → D j = false → oi.apart ops oj = true ∧ (fr oj.op = true ∨ anyB oi.op = true) := by
  unfold freeF at h
  generalize descs md ops i = D at h
  simp only [freeD, Bool.and_eq_true, List.all_eq_true, List.mem_range, Bool.not_eq_true'] at h
  obtain ⟨h1, h2⟩ := h
  refine ⟨fun j => D.contains j, fun j oj hj hd => ?_, fun j hd => (h1 j (by simpa using hd)).1, fun j oj hj hne hun hno => ?_⟩
  · have := (h1 j (by simpa using hd)).2
    rw [hj] at this
    obtain ⟨k, hk, hk2⟩ := Array.any_eq_true.1 this
    simp only [Bool.and_eq_true, Bool.or_eq_true, beq_iff_eq] at hk2
    exact ⟨_, Array.getElem_mem hk, hk2.1, hk2.2⟩
  · have := h2 j (Array.getElem?_eq_some_iff.1 hj).1
    simp only [hj, hi, Bool.or_eq_true, beq_iff_eq, hne, false_or, hun, Bool.false_eq_true, hno, Bool.and_eq_true] at this
    exact this

def planB (fr : Op → Bool) (md : Region.Mode) (ops : Array Oper) : List (Nat × Bool) → Array Bool → Bool
  | [], listed => Region.ready md ops listed == []
  | (i, true) :: l, listed => Region.ready md ops listed == [i] && planB fr md ops l (listed.setIfInBounds i true)
  | (i, false) :: l, listed => (Region.ready md ops listed).contains i && freeF fr md ops listed i && planB fr md ops l (listed.setIfInBounds i true)

def WPlan (P : Program) (G : Nat → Prop) (fr : Op → Bool) (ops : Array Oper) (Q' : Exit → Act → World → Prop) : List (Nat × Bool) → Act → World → Prop
  | [], a, w => ∀ w', Below w.heap.size w w' → Q' .normal a w'
  | (i, true) :: l, a, w => ∀ w', Below w.heap.size w w' → opF P G fr ops i (WPlan P G fr ops Q' l) a w'
  | (i, false) :: l, a, w => ∃ o v, ops[i]? = some o ∧ Yb P G ops o v a w ∧ WPlan P G fr ops Q' l (a.put o.dst v) w

theorem opF_mono {i : Nat} {K K' : Act → World → Prop} {a : Act} {w : World} (hK : ∀ a w, K a w → K' a w) (h : opF P G fr ops i K a w) : opF P G fr ops i K' a w := by
  unfold opF at h ⊢
  split at h
  · rename_i ho
    exact hK _ _ h
  · rename_i o ho
    split at h
    · rename_i hw
      simp only [hw, if_true]
      exact retAt_mono (fun v w h => ⟨h.1, hK _ _ h.2⟩) h
    · rename_i hw
      simp only [hw]
      exact hK _ _ h

theorem plan_any (hsel : Region.noSelect ops = true) : ∀ (l : List (Nat × Bool)) (listed : Array Bool) (a : Act) (w : World), planB fr md ops l listed = true → WPlan P G fr ops Q' l a w → anyF P G fr md ops Q' l.length listed a w
  | [], listed, a, w, hB, h => fun w' hb => ⟨by simpa [planB] using hB, h w' hb⟩
  | (i, true) :: l, listed, a, w, hB, h => by
    simp only [planB, Bool.and_eq_true, beq_iff_eq] at hB
    intro w' hb
    refine ⟨fun h0 => (by rw [hB.1] at h0; cases h0), fun j hj => ?_⟩
    rw [hB.1] at hj
    simp only [List.mem_singleton] at hj
    subst hj
    exact opF_mono (fun a' w' hw => plan_any hsel l _ a' w' hB.2 hw) (h w' hb)
  | (i, false) :: l, listed, a, w, hB, h => by
    simp only [planB, Bool.and_eq_true] at hB
    obtain ⟨⟨h1, h2⟩, h3⟩ := hB
    obtain ⟨o, v, ho, hy, hK⟩ := h
    obtain ⟨D, d1, d2, d3⟩ := freeF_spec ho h2
    exact anyF_first ho d1 (Region.noSelect_spec hsel) _ listed a w d3 d2 (by simpa using h1) hy (plan_any hsel l _ _ w h3 hK)

def planOf (md : Region.Mode) (ops : Array Oper) : Nat → Array Bool → List (Nat × Bool)
  | 0, _ => []
  | f + 1, listed => match Region.ready md ops listed with
    | [] => []
    | [i] => (i, true) :: planOf md ops f (listed.setIfInBounds i true)
    | r => match r.find? fun i => match ops[i]? with | some o => aheadB o.op && !(callB o.op) | none => false with
      | some i => (i, false) :: planOf md ops f (listed.setIfInBounds i true)
      | none => match r.find? fun i => match ops[i]? with | some o => callB o.op | none => false with
        | some i => (i, false) :: planOf md ops f (listed.setIfInBounds i true)
        | none => []

def planChk (ops : Array Oper) (l : List (Nat × Bool)) : Option (List (Nat × Bool)) :=
  cond (Region.noSelect ops && Nat.beq l.length ops.size && planB freshB .any ops l (Array.replicate ops.size false)) (some l) none
def planFor (ops : Array Oper) : Option (List (Nat × Bool)) := planChk ops (planOf .any ops ops.size (Array.replicate ops.size false))

theorem region_plan {id : Nat} {a : Act} {w : World} {l : List (Nat × Bool)} (hm : P.follows .mixedOrders = true) (hp : planFor ops = some l) (h : WPlan P G freshB ops Q' l a w) : (Code.region id ops true).wp P Q' a w := by
  unfold planFor at hp
  generalize planOf .any ops ops.size (Array.replicate ops.size false) = l' at hp
  unfold planChk at hp
  cases hc : (Region.noSelect ops && Nat.beq l'.length ops.size && planB freshB .any ops l' (Array.replicate ops.size false)) with
  | false => rw [hc] at hp; cases hp
  | true =>
    rw [hc] at hp
    simp only [cond_true, Option.some.injEq] at hp
    subst hp
    simp only [Bool.and_eq_true] at hc
    obtain ⟨⟨h1, h2⟩, h3⟩ := hc
    refine wp_region_any hm ?_
    have := wpAny_of_anyF (anyF_later (plan_any h1 _ _ a w h3 h) (Below.refl w.heap.size w).drew)
    rw [Nat.eq_of_beq_eq_true h2] at this
    exact this
inductive PT where
  | done
  | quiet (i : Nat) (t : PT)
  | all (c : PT)
  | pick (i : Nat) (t alt : PT)
  | nil

def PT.alts : PT → List Nat
  | .pick i _ alt => i :: alt.alts
  | _ => []

def treeB (fr : Op → Bool) (md : Region.Mode) (ops : Array Oper) : PT → Nat → Array Bool → Bool
  | .done, n, listed => Nat.beq n 0 && Region.ready md ops listed == []
  | .quiet i t, n, listed => match n with
    | 0 => false
    | m + 1 => (Region.ready md ops listed).contains i && freeF fr md ops listed i && treeB fr md ops t m (listed.setIfInBounds i true)
  | .all c, n, listed => match n with
    | 0 => false
    | _ + 1 => !c.alts.isEmpty && Region.ready md ops listed == c.alts && treeB fr md ops c n listed
  | .pick i t alt, n, listed => match n with
    | 0 => false
    | m + 1 => treeB fr md ops t m (listed.setIfInBounds i true) && treeB fr md ops alt n listed
  | .nil, _, _ => true

def WTree (P : Program) (G : Nat → Prop) (fr : Op → Bool) (ops : Array Oper) (Q' : Exit → Act → World → Prop) : PT → Act → World → Prop
  | .done, a, w => ∀ w', Below w.heap.size w w' → Q' .normal a w'
  | .quiet i t, a, w => ∃ (G' : Nat → Prop) (o : Oper) (v : Value), (∀ k, G' k → G k) ∧ ops[i]? = some o ∧ Yb P G' ops o v a w ∧ WTree P G' fr ops Q' t (a.put o.dst v) w
  | .all c, a, w => ∀ w', Below w.heap.size w w' → WTree P G fr ops Q' c a w'
  | .pick i t alt, a, w => opF P G fr ops i (WTree P G fr ops Q' t) a w ∧ WTree P G fr ops Q' alt a w
  | .nil, _, _ => True

def PT.chain : PT → Bool
  | .pick .. | .nil => true
  | _ => false
def PT.ok : PT → Bool
  | .done => true
  | .quiet _ t => t.ok && !t.chain
  | .all c => c.chain && c.ok
  | .pick _ t alt => t.ok && !t.chain && alt.ok && alt.chain
  | .nil => true

theorem opF_weak {G' : Nat → Prop} (hg : ∀ k, G' k → G k) {i : Nat} {K K' : Act → World → Prop} (hK : ∀ a w, K a w → K' a w) {a : Act} {w : World} (h : opF P G' fr ops i K a w) : opF P G fr ops i K' a w := by
  unfold opF at h ⊢
  split at h
  · exact hK _ _ h
  · split at h
    · rename_i hw
      simp only [hw, if_true]
      exact retAt_mono (fun v w h => ⟨fun hf => (h.1 hf).weak hg, hK _ _ h.2⟩) h
    · rename_i hw
      simp only [hw]
      exact hK _ _ h
theorem WTree_weak {fr : Op → Bool} : ∀ (t : PT) {G G' : Nat → Prop} (_ : ∀ k, G' k → G k) (a : Act) (w : World), WTree P G' fr ops Q' t a w → WTree P G fr ops Q' t a w
  | .done, _, _, _, _, _, h => h
  | .quiet _ _, _, _, hg, _, _, ⟨G2, o, v, h1, h2⟩ => ⟨G2, o, v, fun k hk => hg k (h1 k hk), h2⟩
  | .all c, _, _, hg, a, _, h => fun w' hb => WTree_weak c hg a w' (h w' hb)
  | .pick _ t alt, _, _, hg, a, w, ⟨h1, h2⟩ => ⟨opF_weak hg (fun a w h => WTree_weak t hg a w h) h1, WTree_weak alt hg a w h2⟩
  | .nil, _, _, _, _, _, h => h
theorem anyF_weak {G' : Nat → Prop} (hg : ∀ k, G' k → G k) : ∀ (f : Nat) (listed : Array Bool) (a : Act) (w : World), anyF P G' fr md ops Q' f listed a w → anyF P G fr md ops Q' f listed a w
  | 0, _, _, _, h => h
  | f + 1, _, _, _, h => fun w' hb => ⟨(h w' hb).1, fun i hi => opF_weak hg (fun a w h => anyF_weak hg f _ a w h) ((h w' hb).2 i hi)⟩

theorem tree_any (hsel : Region.noSelect ops = true) : ∀ (t : PT) (G : Nat → Prop), t.ok = true →
    (t.chain = false → ∀ (n : Nat) (listed : Array Bool) (a : Act) (w : World), treeB fr md ops t n listed = true → WTree P G fr ops Q' t a w → anyF P G fr md ops Q' n listed a w) ∧
    (t.chain = true → ∀ (m : Nat) (listed : Array Bool) (a : Act) (w : World), treeB fr md ops t (m + 1) listed = true → WTree P G fr ops Q' t a w → ∀ i ∈ t.alts, opF P G fr ops i (anyF P G fr md ops Q' m (listed.setIfInBounds i true)) a w)
  | .done, G, _ => ⟨fun _ n listed a w hB h => by
      simp only [treeB, Bool.and_eq_true, beq_iff_eq] at hB
      obtain rfl := Nat.eq_of_beq_eq_true hB.1
      exact fun w' hb => ⟨hB.2, h w' hb⟩, fun h => by cases h⟩
  | .quiet i t, G, hok => ⟨fun _ n listed a w hB h => by
      simp only [PT.ok, Bool.and_eq_true, Bool.not_eq_true'] at hok
      cases n with
      | zero => cases hB
      | succ m =>
        simp only [treeB, Bool.and_eq_true] at hB
        obtain ⟨⟨h1, h2⟩, h3⟩ := hB
        obtain ⟨G', o, v, hgg, ho, hy, hK⟩ := h
        obtain ⟨D, d1, d2, d3⟩ := freeF_spec ho h2
        exact anyF_weak hgg _ _ _ _ (anyF_first ho d1 (Region.noSelect_spec hsel) _ listed a w d3 d2 (by simpa using h1) hy ((tree_any hsel t G' hok.1).1 hok.2 m _ _ w h3 hK)), fun h => by cases h⟩
  | .all c, G, hok => ⟨fun _ n listed a w hB h => by
      simp only [PT.ok, Bool.and_eq_true] at hok
      cases n with
      | zero => cases hB
      | succ m =>
        simp only [treeB, Bool.and_eq_true, beq_iff_eq, Bool.not_eq_true'] at hB
        obtain ⟨⟨h1, h2⟩, h3⟩ := hB
        intro w' hb
        refine ⟨fun h0 => (by rw [h2] at h0; rw [h0] at h1; cases h1), fun j hj => ?_⟩
        rw [h2] at hj
        exact (tree_any hsel c G hok.2).2 hok.1 m listed a w' h3 (h w' hb) j hj, fun h => by cases h⟩
  | .pick i t alt, G, hok => ⟨fun h => (by cases h), fun _ m listed a w hB h => by
      simp only [PT.ok, Bool.and_eq_true, Bool.not_eq_true'] at hok
      obtain ⟨⟨⟨k1, k2⟩, k3⟩, k4⟩ := hok
      simp only [treeB, Bool.and_eq_true] at hB
      intro j hj
      simp only [PT.alts, List.mem_cons] at hj
      rcases hj with rfl | hj
      · exact opF_mono (fun a' w' hw => (tree_any hsel t G k1).1 k2 m _ a' w' hB.1 hw) h.1
      · exact (tree_any hsel alt G k3).2 k4 m listed a w hB.2 h.2 j hj⟩
  | .nil, G, _ => ⟨fun h => (by cases h), fun _ m listed a w hB h i hi => by simp [PT.alts] at hi⟩

def treeOf (c : Bool) (md : Region.Mode) (ops : Array Oper) : Nat → Array Bool → PT
  | 0, _ => .done
  | f + 1, listed => match Region.ready md ops listed with
    | [] => .done
    | [i] => .all (.pick i (treeOf c md ops f (listed.setIfInBounds i true)) .nil)
    | r => match r.find? fun i => match ops[i]? with | some o => aheadB o.op && !(callB o.op) && freeF (frOf c) md ops listed i | none => false with
      | some i => .quiet i (treeOf c md ops f (listed.setIfInBounds i true))
      | none => match r.find? fun i => match ops[i]? with | some o => c && callB o.op && freeF (frOf c) md ops listed i | none => false with
        | some i => .quiet i (treeOf c md ops f (listed.setIfInBounds i true))
        | none => .all (r.foldr (fun i acc => .pick i (treeOf c md ops f (listed.setIfInBounds i true)) acc) .nil)

def quietT (ops : Array Oper) : PT → Bool
  | .done | .nil => true
  | .quiet i t => (match ops[i]? with | some o => aheadB o.op | none => false) && quietT ops t
  | .all c => quietT ops c
  | .pick _ t alt => quietT ops t && quietT ops alt

def treeChk (c : Bool) (ops : Array Oper) (t : PT) : Option PT :=
  cond (Region.noSelect ops && t.ok && !t.chain && quietT ops t && treeB (frOf c) .any ops t ops.size (Array.replicate ops.size false)) (some t) none
def treeFor (c : Bool) (ops : Array Oper) : Option PT := treeChk c ops (treeOf c .any ops ops.size (Array.replicate ops.size false))

theorem region_tree {id : Nat} {a : Act} {w : World} {t : PT} (hm : P.follows .mixedOrders = true) {c : Bool} (hp : treeFor c ops = some t) (h : WTree P G (frOf c) ops Q' t a w) : (Code.region id ops true).wp P Q' a w := by
  unfold treeFor at hp
  generalize treeOf c .any ops ops.size (Array.replicate ops.size false) = t' at hp
  unfold treeChk at hp
  cases hc : (Region.noSelect ops && t'.ok && !t'.chain && quietT ops t' && treeB (frOf c) .any ops t' ops.size (Array.replicate ops.size false)) with
  | false => rw [hc] at hp; cases hp
  | true =>
    rw [hc] at hp
    simp only [cond_true, Option.some.injEq] at hp
    subst hp
    simp only [Bool.and_eq_true, Bool.not_eq_true'] at hc
    obtain ⟨⟨⟨⟨h1, h2⟩, h3⟩, _⟩, h5⟩ := hc
    refine wp_region_any hm ?_
    exact wpAny_of_anyF (anyF_later ((tree_any h1 t' G h2).1 h3 _ _ a w h5 h) (Below.refl w.heap.size w).drew)
theorem treeFor_quiet {t : PT} {c : Bool} (hp : treeFor c ops = some t) : quietT ops t = true := by
  unfold treeFor at hp
  generalize treeOf c .any ops ops.size (Array.replicate ops.size false) = t' at hp
  unfold treeChk at hp
  cases hc : (Region.noSelect ops && t'.ok && !t'.chain && quietT ops t' && treeB (frOf c) .any ops t' ops.size (Array.replicate ops.size false)) with
  | false => rw [hc] at hp; cases hp
  | true =>
    rw [hc] at hp
    simp only [cond_true, Option.some.injEq] at hp
    subst hp
    simp only [Bool.and_eq_true] at hc
    exact hc.1.2
end
end Go.Rv
