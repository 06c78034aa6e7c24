/- Regions that draw their order: operations that only read or make new memory, in whatever order; the others when nothing else is ready. -/
import Derived.WalkKit
import Derived.StillTail
import Derived.Deep.Quiet
import Derived.Below
namespace Go.Rv
set_option linter.unusedSimpArgs false
open Go.RowKit (Below)
abbrev agW := @decide_eq_true
abbrev agX := @cond_false
abbrev agY := @cond_true
abbrev agZ := @Bool.and_eq_true
abbrev ag0 := @Option.some.injEq
abbrev ag1 := @decide_eq_false
abbrev ag2 := @Nat.eq_of_beq_eq_true
abbrev ag3 := @List.length_cons
abbrev ag4 := @List.length_append
abbrev ag5 := @Bool.not_true
abbrev ag6 := @Nat.pow_le_pow_right
abbrev ag7 := @Nat.le_refl
abbrev ag8 := @Bool.true_and
abbrev ag9 := @Nat.lt_of_lt_of_le
abbrev aha := @Result.andThen_ok
abbrev ahb := @Int.toNat_natCast
abbrev ahc := @List.all_cons
abbrev ahd := @List.mem_cons_of_mem
abbrev ahe := @List.mem_cons
abbrev ahf := @Nat.lt_or_ge
abbrev ahg := @List.append_nil
abbrev ahh := @List.length_nil
abbrev ahi := @Int.natCast_nonneg
abbrev ahj := @Sem.run_bind
abbrev ahk := @Bool.not_false
abbrev ahl := @Bool.not_eq_true'
abbrev ahm := @List.getElem_mem
abbrev ahn := @List.mem_cons_self
abbrev aho := @Prod.mk.injEq
abbrev ahp := @List.mem_map
abbrev ahq := @Sem.run_pure
abbrev ahr := @Nat.zero_le
abbrev ahs := @List.append_assoc
abbrev aht := @List.all_eq_true
abbrev ahu := @Bool.false_and
abbrev ahv := @List.eq_nil_of_length_eq_zero
abbrev ahw := @List.length_map
abbrev ahx := @Nat.eq_of_testBit_eq
abbrev ahy := @Nat.le_trans
abbrev ahz := @List.length_set
abbrev ahA := @Option.map_some
abbrev ahB := @List.mem_append
abbrev ahC := @List.map_cons
abbrev ahD := @Nat.zero_add
abbrev ahE := @Nat.pow_lt_pow_right
abbrev ahF := @Below.refl
abbrev ahG := @List.nil_append
abbrev ahH := @Bool.or_eq_true
abbrev ahI := @List.mem_singleton
abbrev ahJ := @Nat.two_pow_pos
abbrev ahK := @Nat.or_lt_two_pow
abbrev ahL := @Addr.add_lit
abbrev ahM := @Bool.false_eq_true
abbrev ahN := @Int.natCast_zero
abbrev ahO := @List.countP_cons
abbrev ahP := @Nat.zero_testBit
abbrev ahQ := @List.flatMap_cons
abbrev ahR := @List.take_succ_eq_append_getElem
abbrev ahS := @Int.eq_ofNat_of_zero_le
abbrev ahT := @List.mem_range
abbrev ahU := @Nat.mul_one
abbrev ahV := @Nat.not_lt_zero
abbrev ahW := @Nat.testBit_and
abbrev ahX := @Array.toList_map
abbrev ahY := @List.take_of_length_le
abbrev ahZ := @Nat.add_zero
abbrev ah0 := @Option.getD_some
abbrev ah1 := @Nat.add_assoc
abbrev ah2 := @Bool.or_eq_false_iff
abbrev ah3 := @List.cons_append
abbrev ah4 := @List.mem_of_mem_take
abbrev ah5 := @Nat.mul_le_mul_right
abbrev ah6 := @Bool.false_or
abbrev ah7 := @List.map_nil
abbrev ah8 := @List.range_succ
abbrev ah9 := @List.not_mem_nil
abbrev aia := @Nat.and_lt_two_pow
abbrev aib := @World.ownsRow_lit
abbrev aic := @Bool.eq_iff_iff
abbrev aid := @Nat.sub_self
abbrev aie := @Nat.mod_eq_of_lt
abbrev aif := @Below.heap_setCell
abbrev aig := @Eq.trans
abbrev aih := @List.drop_zero
abbrev aii := @Nat.testBit_or
abbrev aij := @List.contains_iff_mem
abbrev aik := @List.countP_le_length
abbrev ail := @List.pairwise_iff_getElem
abbrev aim := @Bool.and_self
abbrev ain := @List.length_take
abbrev aio := @List.mem_flatMap
abbrev aip := @List.take_length
abbrev aiq := @Nat.add_mul
abbrev air := @Nat.zero_mul
abbrev ais := @UInt8.toNat_ofNat'
abbrev ait := @List.all_append
abbrev aiu := @List.map_append
abbrev aiv := @Obj.cells.injEq
abbrev aiw := @Result.ok.injEq
abbrev aix := @Bool.and_true
abbrev aiy := @Bool.or_false
abbrev aiz := @List.size_toArray
abbrev aiA := @List.take_add_one
abbrev aiB := @Bool.and_false
abbrev aiC := @Below.heap_alloc
abbrev aiD := @IntKind.wrap_i64
abbrev aiE := @List.length_drop
abbrev aiF := @Nat.and_le_right
abbrev aiG := @List.drop_eq_getElem_cons
abbrev aiH := @List.countP_pos_iff
abbrev aiI := @List.replicate_succ
abbrev aiJ := @Option.isSome_iff_exists
abbrev aiK := @List.nodup_cons
abbrev aiL := @Nat.and_le_left
abbrev aiM := @Nat.testBit_xor
abbrev aiN := @Int.cast_ofNat_Int
abbrev aiO := @Addr.add_add
abbrev aiP := @List.drop_eq_nil_of_le
abbrev aiQ := @List.mapM_cons
abbrev aiR := @List.map_map
abbrev aiS := @Nat.beq_refl
abbrev aiT := @Nat.testBit_lt_two_pow
abbrev aiU := @World.ownsRow_nil
abbrev aiV := @List.length_replicate
abbrev aiW := @Nat.le_of_ble_eq_true
abbrev aiX := @List.mem_iff_getElem
abbrev aiY := @Option.map_none
abbrev aiZ := @Array.toList_append
abbrev ai0 := @List.map_congr_left
abbrev ai1 := @List.replicate_zero
abbrev ai2 := @Bool.or_true
abbrev ai3 := @List.all_nil
abbrev ai4 := @List.map_set
abbrev ai5 := @List.set_cons_succ
abbrev ai6 := @List.set_cons_zero
abbrev ai7 := @Nat.eq_zero_or_pos
abbrev ai8 := @List.length_range
abbrev ai9 := @List.nodup_append
abbrev aja := @Nat.one_mul
abbrev ajb := @UInt8.ofNat_toNat
abbrev ajc := @Value.slice.injEq
abbrev ajd := @run_equalIn_bool'
abbrev aje := @Addr.mk.injEq
abbrev ajf := @List.map_toArray
abbrev ajg := @Nat.testBit_succ
abbrev ajh := @Nat.testBit_zero
abbrev aji := @wp_block
abbrev ajj := @Bool.true_or
abbrev ajk := @Nat.sub_zero
abbrev ajl := @List.foldl_cons
abbrev ajm := @List.mem_filter
abbrev ajn := @Option.some.inj
abbrev ajo := @UInt8.toNat_inj
abbrev ajp := @List.drop_drop
abbrev ajq := @List.drop_take
abbrev ajr := @List.take_take
abbrev ajs := @Bool.beq_comm
abbrev ajt := @List.take_set
abbrev aju := @Array.getElem?_eq_getElem
abbrev ajv := @Array.getElem?_eq_some_iff
abbrev ajw := @List.ext_getElem?
abbrev ajx := @List.getD_eq_getElem?_getD
abbrev ajy := @List.getElem?_append_left
abbrev ajz := @List.getElem?_append_right
abbrev ajA := @List.getElem?_cons_succ
abbrev ajB := @List.getElem?_cons_zero
abbrev ajC := @List.getElem?_eq_getElem
abbrev ajD := @List.getElem?_eq_none
abbrev ajE := @List.getElem?_eq_some_iff
abbrev ajF := @List.getElem?_map
abbrev ajG := @List.getElem?_set
abbrev ajH := @List.getElem?_set_ne
abbrev ajI := @List.getElem?_set_self
abbrev ajJ := @List.getElem?_take
abbrev ajK := @List.getElem?_take_of_lt
abbrev ajL := @List.mem_iff_getElem?
abbrev ajM := @List.mem_of_getElem?
abbrev ajN := @World.block_lt_of_cell?
abbrev ajO := @World.cell?_alloc_old
abbrev ajP := @World.cell?_of_block

def bB : Op → Bool
 | .move (.const (.slice ..)) | .assign (.const (.slice ..)) => false
 | .move _ | .assign _ | .pick .. | .load .. | .binOp .. | .unOp .. | .fieldAddr .. | .field .. | .indexAddr .. | .index .. | .extract .. => true
 | .convert src dst _ => !(Nat.beq src dst)
 | .makeFunc .. | .lookup .. | .nilCheck .. => true
 | .call { callee := .value _, .. } => true
 | .call { callee := .builtin .len, .. } | .call { callee := .builtin .max, .. } | .call { callee := .builtin .min, .. } => true
 | _ => false
def wL : Op → Bool
 | .move (.const (.slice ..)) | .assign (.const (.slice ..)) => false
 | .move _ | .assign _ | .pick .. | .binOp .. | .unOp .. | .fieldAddr .. | .field .. | .extract .. | .nilCheck .. => true
 | _ => false
def mH : Op → Bool
 | .build .. | .slice .. => true
 | _ => false
def fJ (o : Op) : Bool := wL o || mH o
def fj (o : Op) : Bool := bB o || mH o
def ce : Op → Bool
 | .call { callee := .value _, .. } => true
 | _ => false
def fp (o : Op) : Bool :=
 bB o || match o with
 | .move _ | .assign _ | .alloc _ | .box .. | .build .. | .slice .. | .makeSlice .. | .buildSlice .. | .makeMap .. => true
 | _ => false

def fP : Op → Bool
 | .call { callee := .builtin .append, .. } => true
 | _ => false
def yn (c : Bool) (o : Op) : Bool := cond c (fp o) (fp o || fP o)

structure Lat (G : Nat → Prop) (w w' : World) : Prop where
 os : w'.os = w.os
 tape : w'.tape = w.tape
 output : w'.output = w.output
 size : w.heap.size ≤ w'.heap.size
 block : ∀ k, k < w.heap.size → ¬ G k → w'.heap[k]? = w.heap[k]?
theorem Lat.of {G : Nat → Prop} {w w' : World} (h : Below w.heap.size w w') : Lat G w w' := ⟨h.os, h.tape, h.output, h.size, fun k hk _ => h.block k hk⟩
theorem Lat.refl {G : Nat → Prop} (w : World) : Lat G w w := Lat.of (ahF _ _)
theorem Lat.trans {G : Nat → Prop} {a b c : World} (h : Lat G a b) (k : Lat G b c) : Lat G a c :=
 ⟨k.os.trans h.os, k.tape.trans h.tape, k.output.trans h.output, ahy h.size k.size, fun i hi hg => (k.block i (ag9 hi h.size) hg).trans (h.block i hi hg)⟩
theorem Lat.cell {G : Nat → Prop} {w w' : World} (h : Lat G w w') {p : Addr} (hp : p.block < w.heap.size) (hg : ¬ G p.block) : w'.cell? p = w.cell? p := ajP (w := w) (h.block p.block hp hg)
theorem Lat.weak {G G' : Nat → Prop} {w w' : World} (h : Lat G w w') (hg : ∀ k, G k → G' k) : Lat G' w w' := ⟨h.os, h.tape, h.output, h.size, fun k hk hn => h.block k hk fun hG => hn (hg k hG)⟩
theorem Lat.below {w w' : World} (h : Lat (fun _ => False) w w') : Below w.heap.size w w' := ⟨h.os, h.tape, h.output, h.size, fun k hk => h.block k hk id⟩

section
variable {P : Program} {ops : Array Oper} {md : Region.Mode} {Q' : Exit → Act → World → Prop} {G : Nat → Prop} {fr : Op → Bool}

def zS (P : Program) (K : Value → World → Prop) : Result Next → Prop
 | .ok (.value u) w' => K u w'
 | .ok .skip w' => K undef w'
 | .ok (.enter f args) w' => Calls P f args w' (fun e w'' => ∃ u, e = .returned u ∧ K u w'')
 | _ => False
def dF (P : Program) (o : Oper) (a : Act) (w : World) (K : Value → World → Prop) : Prop := zS P K ((execOp a.eval o).run P w)

theorem pH {K K' : Value → World → Prop} (h : ∀ v w, K v w → K' v w) {r : Result Next} (hr : zS P K r) : zS P K' r := by
 cases r with
 | halt x w => exact hr
 | ok n w =>
  cases n <;> first | exact h _ _ hr | exact hr | skip
  exact Calls.mono hr fun e w' ⟨u, h1, h2⟩ => ⟨u, h1, h _ _ h2⟩
theorem cR {o : Oper} {a : Act} {w : World} {K K' : Value → World → Prop} (h : ∀ v w, K v w → K' v w) (hr : dF P o a w K) : dF P o a w K' := pH h hr

theorem xj {o : Oper} {a : Act} {w : World} {K : Act → World → Prop} (h : dF P o a w fun v w' => K (a.put o.dst v) w') : o.wp P a w K Q' := by
 unfold dF at h
 unfold Oper.wp
 generalize (execOp a.eval o).run P w = r at h
 cases r with
 | halt x w => exact h.elim
 | ok n w =>
  cases n <;> first | exact h | exact h.elim | skip
  exact Calls.mono h fun e w' ⟨u, h1, h2⟩ => by subst h1; exact h2

def dI (P : Program) (o : Oper) (a : Act) (w : World) (v : Value) : Prop := dF P o a w fun u w' => u = v ∧ Below w.heap.size w w'

def Yb (P : Program) (G : Nat → Prop) (ops : Array Oper) (o : Oper) (v : Value) (a : Act) (w : World) : Prop :=
 (Region.wanted o (yielded ops a.tmps) = true ∧ (∀ w', Lat G w w' → dI P o a w' v) ∧ (fJ o.op = true → ∀ w', dI P o a w' v)) ∨ (Region.wanted o (yielded ops a.tmps) = false ∧ v = undef)

theorem fN {w w1 w2 : World} (h : Below w.heap.size w w1) (h' : Below w1.heap.size w1 w2) : Below w.heap.size w w2 := h.trans (h'.mono h.size)

theorem Yb.later {o : Oper} {v : Value} {a : Act} {w w1 : World} (h : Yb P G ops o v a w) (hb : Lat G w w1) : Yb P G ops o v a w1 :=
 h.imp (fun ⟨h1, h2, h3⟩ => ⟨h1, fun w' hb' => h2 w' (hb.trans hb'), h3⟩) id

def opF (P : Program) (G : Nat → Prop) (fr : Op → Bool) (ops : Array Oper) (i : Nat) (K : Act → World → Prop) (a : Act) (w : World) : Prop :=
 match ops[i]? with
 | none => K a w
 | some o => if Region.wanted o (yielded ops a.tmps) then dF P o a w (fun v w' => (fr o.op = true → Lat G w w') ∧ K (a.put o.dst v) w') else K (a.put o.dst undef) w

theorem CB {i : Nat} {K K' : Act → World → Prop} {a : Act} {w : World} (hK : ∀ a w, K a w → K' a w) (h : opF P G fr ops i K a w) : wpOp P ops Q' i K' a w := by
 unfold opF at h
 unfold wpOp
 split at h
 ·rename_i ho
  simp only [ho]
  exact hK _ _ h
 ·rename_i o ho
  simp only [ho]
  split at h
  ·rename_i hw
   simp only [hw, if_true]
   exact .inl (xj (cR (fun v w h => hK _ _ h.2) h))
  ·rename_i hw
   simp only [hw]
   exact hK _ _ h

def qd (P : Program) (G : Nat → Prop) (fr : Op → Bool) (md : Region.Mode) (ops : Array Oper) (Q' : Exit → Act → World → Prop) : Nat → Array Bool → Act → World → Prop
 | 0, listed, a, w => ∀ w', Below w.heap.size w w' → Region.ready md ops listed = [] ∧ Q' .normal a w'
 | f + 1, listed, a, w => ∀ w', Below w.heap.size w w' → (Region.ready md ops listed = [] → Q' .normal a w') ∧
   ∀ i ∈ Region.ready md ops listed, opF P G fr ops i (qd P G fr md ops Q' f (listed.setIfInBounds i true)) a w'

theorem iA : ∀ {f : Nat} {listed : Array Bool} {a : Act} {w w1 : World}, qd P G fr md ops Q' f listed a w → Below w.heap.size w w1 → qd P G fr md ops Q' f listed a w1
 | 0, _, _, _, _, h, hb => fun w' hb' => h w' (fN hb hb')
 | _ + 1, _, _, _, _, h, hb => fun w' hb' => h w' (fN hb hb')

theorem gJ : ∀ {f : Nat} {listed : Array Bool} {a : Act} {w : World}, qd P G fr md ops Q' f listed a w → wpAny P md ops Q' f listed a w
 | 0, _, _, w, h => h w (ahF _ _)
 | _ + 1, _, _, w, h => ⟨(h w (ahF _ _)).1, fun i hi => CB (fun _ _ h => gJ h) ((h w (ahF _ _)).2 i hi)⟩

theorem wG {i : Nat} {oi : Oper} {v : Value} {a : Act} {w : World} {K : Act → World → Prop} (hi : ops[i]? = some oi) (hy : Yb P G ops oi v a w) (hK : ∀ w', Below w.heap.size w w' → K (a.put oi.dst v) w') : opF P G fr ops i K a w := by
 unfold opF
 simp only [hi]
 rcases hy with ⟨hw, hs, _⟩ | ⟨hw, rfl⟩
 ·simp only [hw, if_true]
  exact cR (fun u w' ⟨e, hb⟩ => ⟨fun _ => Lat.of hb, by rw [e]; exact hK _ hb⟩) (hs w (Lat.refl _))
 ·simp only [hw]
  exact hK _ (ahF _ _)

theorem su {i : Nat} {oi : Oper} {v : Value} {D : Nat → Bool} (hi : ops[i]? = some oi)
  (hD : ∀ j oj, ops[j]? = some oj → D j = true → ∃ e ∈ oj.after, Region.binds md e = true ∧ (e.on = i ∨ D e.on = true)) (hsel : ∀ (j : Nat) (o : Oper) cs b, ops[j]? = some o → o.op ≠ .select cs b) :
  ∀ (f : Nat) (listed : Array Bool) (a : Act) (w : World),
   (∀ j oj, ops[j]? = some oj → j ≠ i → listed.getD j true = false → D j = false → oi.apart ops oj = true ∧ (fr oj.op = true ∨ fJ oi.op = true)) →
   (∀ j, D j = true → listed.getD j true = false) →
   i ∈ Region.ready md ops listed → Yb P G ops oi v a w →
   qd P G fr md ops Q' f (listed.setIfInBounds i true) (a.put oi.dst v) w → qd P G fr md ops Q' (f + 1) listed a w := by
 intro f
 induction f with
 | zero =>
  intro listed a w _ _ hr hy H w' hb
  refine ⟨fun h => (by rw [h] at hr; cases hr), fun j hj => ?_⟩
  by_cases hji : j = i
  ·subst hji
   exact wG hi (hy.later (Lat.of hb)) fun w'' hb' => iA H (fN hb hb')
  ·have := (H w (ahF _ _)).1
   have h2 := ready_mono hj hji
   rw [this] at h2
   cases h2
 | succ f ih =>
  intro listed a w hfree hund hr hy H w' hb
  have hun := (mem_ready.1 hr).1
  refine ⟨fun h => (by rw [h] at hr; cases hr), fun j hj => ?_⟩
  by_cases hji : j = i
  ·subst hji
   exact wG hi (hy.later (Lat.of hb)) fun w'' hb' => iA H (fN hb hb')
  ·have h1 := (H w' hb).2 j (ready_mono hj hji)
   obtain ⟨hjun, oj, hoj, hall⟩ := mem_ready.1 hj
   have hnot : D j = false := by
    cases hd : D j with
    | false => rfl
    | true =>
     exfalso
     obtain ⟨e, he, hbd, hor⟩ := hD j oj hoj hd
     have h1 := hall e he hbd
     rcases hor with heq | hde
     ·rw [heq, getD_both hun] at h1
      cases h1
     ·rw [getD_both (hund _ hde)] at h1
      cases h1
   obtain ⟨hap, hfr⟩ := hfree j oj hoj hji hjun hnot
   obtain ⟨p1, p2, p3⟩ := Oper.apart_spec hap
   have hfree' : ∀ k ok, ops[k]? = some ok → k ≠ i → (listed.setIfInBounds j true).getD k true = false → D k = false → oi.apart ops ok = true ∧ (fr ok.op = true ∨ fJ oi.op = true) := fun k ok hk hki hu hno => by
    refine hfree k ok hk hki ?_ hno
    by_cases hjk : j = k
    ·subst hjk; exact hjun
    ·rw [getD_set_ne true hjk] at hu; exact hu
   have hund' : ∀ k, D k = true → (listed.setIfInBounds j true).getD k true = false := fun k hk => by
    have hjk : j ≠ k := fun e => by rw [e, hk] at hnot; cases hnot
    rw [getD_set_ne true hjk]
    exact hund k hk
   have hyp : ∀ u w2, (Lat G w' w2 ∨ fJ oi.op = true) → Yb P G ops oi v (a.put oj.dst u) w2 := fun u w2 hb2 => by
    have still : ∀ w3, dI P oi a w3 v → dI P oi (a.put oj.dst u) w3 v := fun w3 h => by
     unfold dI dF at *
     rw [execOp_put oi (fun cs b => hsel i oi cs b hi) a oj.dst u p3]
     exact h
    rcases hy with ⟨h1, h2, h3⟩ | ⟨h1, h2⟩
    ·refine .inl ⟨by rw [wanted_put oi a oj.dst u p3]; exact h1, fun w3 hb3 => still w3 ?_, fun hp w3 => still w3 (h3 hp w3)⟩
     rcases hb2 with hb2 | hp
     ·exact h2 w3 (((Lat.of hb).trans hb2).trans hb3)
     ·exact h3 hp w3
    ·exact .inr ⟨by rw [wanted_put oi a oj.dst u p3]; exact h1, h2⟩
   have go : ∀ u w2, (Lat G w' w2 ∨ fJ oi.op = true) → qd P G fr md ops Q' f ((listed.setIfInBounds i true).setIfInBounds j true) ((a.put oi.dst v).put oj.dst u) w2 → qd P G fr md ops Q' (f + 1) (listed.setIfInBounds j true) (a.put oj.dst u) w2 := fun u w2 hb2 h => by
    refine ih (listed.setIfInBounds j true) (a.put oj.dst u) w2 hfree' hund' (ready_mono hr (Ne.symm hji)) (hyp u w2 hb2) ?_
    rw [← Act.put_comm a v u p2, Array.setIfInBounds_comm _ _ hji]
    exact h
   unfold opF at h1 ⊢
   simp only [hoj] at h1 ⊢
   rw [wanted_put oj a oi.dst v p1] at h1
   split
   ·rename_i hw
    simp only [hw, if_true] at h1
    unfold dF at h1 ⊢
    rw [execOp_put oj (fun cs b => hsel j oj cs b hoj) a oi.dst v p1] at h1
    exact pH (fun u w2 ⟨hbf, hK⟩ => ⟨hbf, go u w2 (hfr.imp hbf id) hK⟩) h1
   ·rename_i hw
    simp only [hw] at h1
    exact go _ _ (.inl (Lat.refl _)) h1

def Td (md : Region.Mode) (ops : Array Oper) (i : Nat) : List Nat :=
 (List.range ops.size).foldl (fun D j => match ops[j]? with
  | some oj => cond (oj.after.any fun e => Region.binds md e && (e.on == i || D.contains e.on)) (j :: D) D
  | none => D) []
def Te (fr : Op → Bool) (md : Region.Mode) (ops : Array Oper) (listed : Array Bool) (i : Nat) (D : List Nat) : Bool :=
 (D.all fun j => !listed.getD j true && match ops[j]? with
  | some oj => oj.after.any fun e => Region.binds md e && (e.on == i || D.contains e.on)
  | none => false) &&
 (List.range ops.size).all fun j => j == i || listed.getD j true || D.contains j || match ops[j]?, ops[i]? with
  | some oj, some oi => oi.apart ops oj && (fr oj.op || fJ oi.op)
  | _, _ => true
def wa (fr : Op → Bool) (md : Region.Mode) (ops : Array Oper) (listed : Array Bool) (i : Nat) : Bool := Te fr md ops listed i (Td md ops i)

theorem sM {i : Nat} {oi : Oper} {listed : Array Bool} (hi : ops[i]? = some oi) (h : wa fr md ops listed i = true) :
  ∃ D : Nat → Bool, (∀ j oj, ops[j]? = some oj → D j = true → ∃ e ∈ oj.after, Region.binds md e = true ∧ (e.on = i ∨ D e.on = true)) ∧ (∀ j, D j = true → listed.getD j true = false) ∧
   ∀ j oj, ops[j]? = some oj → j ≠ i → listed.getD j true = false → D j = false → oi.apart ops oj = true ∧ (fr oj.op = true ∨ fJ oi.op = true) := by
 unfold wa at h
 generalize Td md ops i = D at h
 simp only [Te, agZ, aht, ahT, ahl] at h
 obtain ⟨h1, h2⟩ := h
 refine ⟨fun j => D.contains j, fun j oj hj hd => ?_, fun j hd => (h1 j (by simpa using hd)).1, fun j oj hj hne hun hno => ?_⟩
 ·have := (h1 j (by simpa using hd)).2
  rw [hj] at this
  obtain ⟨k, hk, hk2⟩ := Array.any_eq_true.1 this
  simp only [agZ, ahH, beq_iff_eq] at hk2
  exact ⟨_, Array.getElem_mem hk, hk2.1, hk2.2⟩
 ·have := h2 j (ajv.1 hj).1
  simp only [hj, hi, ahH, beq_iff_eq, hne, false_or, hun, ahM, hno, agZ] at this
  exact this

def rf (fr : Op → Bool) (md : Region.Mode) (ops : Array Oper) : List (Nat × Bool) → Array Bool → Bool
 | [], listed => Region.ready md ops listed == []
 | (i, true) :: l, listed => Region.ready md ops listed == [i] && rf fr md ops l (listed.setIfInBounds i true)
 | (i, false) :: l, listed => (Region.ready md ops listed).contains i && wa fr md ops listed i && rf fr md ops l (listed.setIfInBounds i true)

def vG (P : Program) (G : Nat → Prop) (fr : Op → Bool) (ops : Array Oper) (Q' : Exit → Act → World → Prop) : List (Nat × Bool) → Act → World → Prop
 | [], a, w => ∀ w', Below w.heap.size w w' → Q' .normal a w'
 | (i, true) :: l, a, w => ∀ w', Below w.heap.size w w' → opF P G fr ops i (vG P G fr ops Q' l) a w'
 | (i, false) :: l, a, w => ∃ o v, ops[i]? = some o ∧ Yb P G ops o v a w ∧ vG P G fr ops Q' l (a.put o.dst v) w

theorem BC {i : Nat} {K K' : Act → World → Prop} {a : Act} {w : World} (hK : ∀ a w, K a w → K' a w) (h : opF P G fr ops i K a w) : opF P G fr ops i K' a w := by
 unfold opF at h ⊢
 split at h
 ·rename_i ho
  exact hK _ _ h
 ·rename_i o ho
  split at h
  ·rename_i hw
   simp only [hw, if_true]
   exact cR (fun v w h => ⟨h.1, hK _ _ h.2⟩) h
  ·rename_i hw
   simp only [hw]
   exact hK _ _ h

theorem tX (hsel : Region.noSelect ops = true) : ∀ (l : List (Nat × Bool)) (listed : Array Bool) (a : Act) (w : World), rf fr md ops l listed = true → vG P G fr ops Q' l a w → qd P G fr md ops Q' l.length listed a w
 | [], listed, a, w, hB, h => fun w' hb => ⟨by simpa [rf] using hB, h w' hb⟩
 | (i, true) :: l, listed, a, w, hB, h => by
  simp only [rf, agZ, beq_iff_eq] at hB
  intro w' hb
  refine ⟨fun h0 => (by rw [hB.1] at h0; cases h0), fun j hj => ?_⟩
  rw [hB.1] at hj
  simp only [ahI] at hj
  subst hj
  exact BC (fun a' w' hw => tX hsel l _ a' w' hB.2 hw) (h w' hb)
 | (i, false) :: l, listed, a, w, hB, h => by
  simp only [rf, agZ] at hB
  obtain ⟨⟨h1, h2⟩, h3⟩ := hB
  obtain ⟨o, v, ho, hy, hK⟩ := h
  obtain ⟨D, d1, d2, d3⟩ := sM ho h2
  exact su ho d1 (Region.noSelect_spec hsel) _ listed a w d3 d2 (by simpa using h1) hy (tX hsel l _ _ w h3 hK)

def jQ (md : Region.Mode) (ops : Array Oper) : Nat → Array Bool → List (Nat × Bool)
 | 0, _ => []
 | f + 1, listed => match Region.ready md ops listed with
  | [] => []
  | [i] => (i, true) :: jQ md ops f (listed.setIfInBounds i true)
  | r => match r.find? fun i => match ops[i]? with | some o => fj o.op && !(ce o.op) | none => false with
   | some i => (i, false) :: jQ md ops f (listed.setIfInBounds i true)
   | none => match r.find? fun i => match ops[i]? with | some o => ce o.op | none => false with
    | some i => (i, false) :: jQ md ops f (listed.setIfInBounds i true)
    | none => []

def zL (ops : Array Oper) (l : List (Nat × Bool)) : Option (List (Nat × Bool)) :=
 cond (Region.noSelect ops && Nat.beq l.length ops.size && rf fp .any ops l (Array.replicate ops.size false)) (some l) none
def pC (ops : Array Oper) : Option (List (Nat × Bool)) := zL ops (jQ .any ops ops.size (Array.replicate ops.size false))

theorem BR {id : Nat} {a : Act} {w : World} {l : List (Nat × Bool)} (hm : P.follows .mixedOrders = true) (hp : pC ops = some l) (h : vG P G fp ops Q' l a w) : (Code.region id ops true).wp P Q' a w := by
 unfold pC at hp
 generalize jQ .any ops ops.size (Array.replicate ops.size false) = l' at hp
 unfold zL at hp
 cases hc : (Region.noSelect ops && Nat.beq l'.length ops.size && rf fp .any ops l' (Array.replicate ops.size false)) with
 | false => rw [hc] at hp; cases hp
 | true =>
  rw [hc] at hp
  simp only [agY, ag0] at hp
  subst hp
  simp only [agZ] at hc
  obtain ⟨⟨h1, h2⟩, h3⟩ := hc
  refine wp_region_any hm ?_
  have := gJ (iA (tX h1 _ _ a w h3 h) (ahF w.heap.size w).drew)
  rw [ag2 h2] at this
  exact this
inductive PT where
 | done
 | quiet (i : Nat) (t : PT)
 | all (c : PT)
 | pick (i : Nat) (t alt : PT)
 | nil

def PT.alts : PT → List Nat
 | .pick i _ alt => i :: alt.alts
 | _ => []

def ig (fr : Op → Bool) (md : Region.Mode) (ops : Array Oper) : PT → Nat → Array Bool → Bool
 | .done, n, listed => Nat.beq n 0 && Region.ready md ops listed == []
 | .quiet i t, n, listed => match n with
  | 0 => false
  | m + 1 => (Region.ready md ops listed).contains i && wa fr md ops listed i && ig fr md ops t m (listed.setIfInBounds i true)
 | .all c, n, listed => match n with
  | 0 => false
  | _ + 1 => !c.alts.isEmpty && Region.ready md ops listed == c.alts && ig fr md ops c n listed
 | .pick i t alt, n, listed => match n with
  | 0 => false
  | m + 1 => ig fr md ops t m (listed.setIfInBounds i true) && ig fr md ops alt n listed
 | .nil, _, _ => true

def gN (P : Program) (G : Nat → Prop) (fr : Op → Bool) (ops : Array Oper) (Q' : Exit → Act → World → Prop) : PT → Act → World → Prop
 | .done, a, w => ∀ w', Below w.heap.size w w' → Q' .normal a w'
 | .quiet i t, a, w => ∃ (G' : Nat → Prop) (o : Oper) (v : Value), (∀ k, G' k → G k) ∧ ops[i]? = some o ∧ Yb P G' ops o v a w ∧ gN P G' fr ops Q' t (a.put o.dst v) w
 | .all c, a, w => ∀ w', Below w.heap.size w w' → gN P G fr ops Q' c a w'
 | .pick i t alt, a, w => opF P G fr ops i (gN P G fr ops Q' t) a w ∧ gN P G fr ops Q' alt a w
 | .nil, _, _ => True

def PT.chain : PT → Bool
 | .pick .. | .nil => true
 | _ => false
def PT.ok : PT → Bool
 | .done => true
 | .quiet _ t => t.ok && !t.chain
 | .all c => c.chain && c.ok
 | .pick _ t alt => t.ok && !t.chain && alt.ok && alt.chain
 | .nil => true

theorem BD {G' : Nat → Prop} (hg : ∀ k, G' k → G k) {i : Nat} {K K' : Act → World → Prop} (hK : ∀ a w, K a w → K' a w) {a : Act} {w : World} (h : opF P G' fr ops i K a w) : opF P G fr ops i K' a w := by
 unfold opF at h ⊢
 split at h
 ·exact hK _ _ h
 ·split at h
  ·rename_i hw
   simp only [hw, if_true]
   exact cR (fun v w h => ⟨fun hf => (h.1 hf).weak hg, hK _ _ h.2⟩) h
  ·rename_i hw
   simp only [hw]
   exact hK _ _ h
theorem fi {fr : Op → Bool} : ∀ (t : PT) {G G' : Nat → Prop} (_ : ∀ k, G' k → G k) (a : Act) (w : World), gN P G' fr ops Q' t a w → gN P G fr ops Q' t a w
 | .done, _, _, _, _, _, h => h
 | .quiet _ _, _, _, hg, _, _, ⟨G2, o, v, h1, h2⟩ => ⟨G2, o, v, fun k hk => hg k (h1 k hk), h2⟩
 | .all c, _, _, hg, a, _, h => fun w' hb => fi c hg a w' (h w' hb)
 | .pick _ t alt, _, _, hg, a, w, ⟨h1, h2⟩ => ⟨BD hg (fun a w h => fi t hg a w h) h1, fi alt hg a w h2⟩
 | .nil, _, _, _, _, _, h => h
theorem vK {G' : Nat → Prop} (hg : ∀ k, G' k → G k) : ∀ (f : Nat) (listed : Array Bool) (a : Act) (w : World), qd P G' fr md ops Q' f listed a w → qd P G fr md ops Q' f listed a w
 | 0, _, _, _, h => h
 | f + 1, _, _, _, h => fun w' hb => ⟨(h w' hb).1, fun i hi => BD hg (fun a w h => vK hg f _ a w h) ((h w' hb).2 i hi)⟩

theorem j5 (hsel : Region.noSelect ops = true) : ∀ (t : PT) (G : Nat → Prop), t.ok = true →
  (t.chain = false → ∀ (n : Nat) (listed : Array Bool) (a : Act) (w : World), ig fr md ops t n listed = true → gN P G fr ops Q' t a w → qd P G fr md ops Q' n listed a w) ∧
  (t.chain = true → ∀ (m : Nat) (listed : Array Bool) (a : Act) (w : World), ig fr md ops t (m + 1) listed = true → gN P G fr ops Q' t a w → ∀ i ∈ t.alts, opF P G fr ops i (qd P G fr md ops Q' m (listed.setIfInBounds i true)) a w)
 | .done, G, _ => ⟨fun _ n listed a w hB h => by
   simp only [ig, agZ, beq_iff_eq] at hB
   obtain rfl := ag2 hB.1
   exact fun w' hb => ⟨hB.2, h w' hb⟩, fun h => by cases h⟩
 | .quiet i t, G, hok => ⟨fun _ n listed a w hB h => by
   simp only [PT.ok, agZ, ahl] at hok
   cases n with
   | zero => cases hB
   | succ m =>
    simp only [ig, agZ] at hB
    obtain ⟨⟨h1, h2⟩, h3⟩ := hB
    obtain ⟨G', o, v, hgg, ho, hy, hK⟩ := h
    obtain ⟨D, d1, d2, d3⟩ := sM ho h2
    exact vK hgg _ _ _ _ (su ho d1 (Region.noSelect_spec hsel) _ listed a w d3 d2 (by simpa using h1) hy ((j5 hsel t G' hok.1).1 hok.2 m _ _ w h3 hK)), fun h => by cases h⟩
 | .all c, G, hok => ⟨fun _ n listed a w hB h => by
   simp only [PT.ok, agZ] at hok
   cases n with
   | zero => cases hB
   | succ m =>
    simp only [ig, agZ, beq_iff_eq, ahl] at hB
    obtain ⟨⟨h1, h2⟩, h3⟩ := hB
    intro w' hb
    refine ⟨fun h0 => (by rw [h2] at h0; rw [h0] at h1; cases h1), fun j hj => ?_⟩
    rw [h2] at hj
    exact (j5 hsel c G hok.2).2 hok.1 m listed a w' h3 (h w' hb) j hj, fun h => by cases h⟩
 | .pick i t alt, G, hok => ⟨fun h => (by cases h), fun _ m listed a w hB h => by
   simp only [PT.ok, agZ, ahl] at hok
   obtain ⟨⟨⟨k1, k2⟩, k3⟩, k4⟩ := hok
   simp only [ig, agZ] at hB
   intro j hj
   simp only [PT.alts, ahe] at hj
   rcases hj with rfl | hj
   ·exact BC (fun a' w' hw => (j5 hsel t G k1).1 k2 m _ a' w' hB.1 hw) h.1
   ·exact (j5 hsel alt G k3).2 k4 m listed a w hB.2 h.2 j hj⟩
 | .nil, G, _ => ⟨fun h => (by cases h), fun _ m listed a w hB h i hi => by simp [PT.alts] at hi⟩

def m4 (c : Bool) (md : Region.Mode) (ops : Array Oper) : Nat → Array Bool → PT
 | 0, _ => .done
 | f + 1, listed => match Region.ready md ops listed with
  | [] => .done
  | [i] => .all (.pick i (m4 c md ops f (listed.setIfInBounds i true)) .nil)
  | r => match r.find? fun i => match ops[i]? with | some o => fj o.op && !(ce o.op) && wa (yn c) md ops listed i | none => false with
   | some i => .quiet i (m4 c md ops f (listed.setIfInBounds i true))
   | none => match r.find? fun i => match ops[i]? with | some o => c && ce o.op && wa (yn c) md ops listed i | none => false with
    | some i => .quiet i (m4 c md ops f (listed.setIfInBounds i true))
    | none => .all (r.foldr (fun i acc => .pick i (m4 c md ops f (listed.setIfInBounds i true)) acc) .nil)

def fD (ops : Array Oper) : PT → Bool
 | .done | .nil => true
 | .quiet i t => (match ops[i]? with | some o => fj o.op | none => false) && fD ops t
 | .all c => fD ops c
 | .pick _ t alt => fD ops t && fD ops alt

def Ag (c : Bool) (ops : Array Oper) (t : PT) : Option PT :=
 cond (Region.noSelect ops && t.ok && !t.chain && fD ops t && ig (yn c) .any ops t ops.size (Array.replicate ops.size false)) (some t) none
def fW (c : Bool) (ops : Array Oper) : Option PT := Ag c ops (m4 c .any ops ops.size (Array.replicate ops.size false))

theorem rj {id : Nat} {a : Act} {w : World} {t : PT} (hm : P.follows .mixedOrders = true) {c : Bool} (hp : fW c ops = some t) (h : gN P G (yn c) ops Q' t a w) : (Code.region id ops true).wp P Q' a w := by
 unfold fW at hp
 generalize m4 c .any ops ops.size (Array.replicate ops.size false) = t' at hp
 unfold Ag at hp
 cases hc : (Region.noSelect ops && t'.ok && !t'.chain && fD ops t' && ig (yn c) .any ops t' ops.size (Array.replicate ops.size false)) with
 | false => rw [hc] at hp; cases hp
 | true =>
  rw [hc] at hp
  simp only [agY, ag0] at hp
  subst hp
  simp only [agZ, ahl] at hc
  obtain ⟨⟨⟨⟨h1, h2⟩, h3⟩, _⟩, h5⟩ := hc
  refine wp_region_any hm ?_
  exact gJ (iA ((j5 h1 t' G h2).1 h3 _ _ a w h5 h) (ahF w.heap.size w).drew)
theorem l9 {t : PT} {c : Bool} (hp : fW c ops = some t) : fD ops t = true := by
 unfold fW at hp
 generalize m4 c .any ops ops.size (Array.replicate ops.size false) = t' at hp
 unfold Ag at hp
 cases hc : (Region.noSelect ops && t'.ok && !t'.chain && fD ops t' && ig (yn c) .any ops t' ops.size (Array.replicate ops.size false)) with
 | false => rw [hc] at hp; cases hp
 | true =>
  rw [hc] at hp
  simp only [agY, ag0] at hp
  subst hp
  simp only [agZ] at hc
  exact hc.1.2
end
end Go.Rv
