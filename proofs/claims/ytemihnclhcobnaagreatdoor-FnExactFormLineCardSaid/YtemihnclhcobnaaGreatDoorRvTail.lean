/- Regions that draw their order: operations that only read or make new memory, in whatever order; the others when nothing else is ready. -/
import Derived.WalkKit
import Derived.StillTail
import Derived.Deep.Quiet
import Derived.Below
namespace Go.Rv
set_option linter.unusedSimpArgs false
open Go.RowKit (Below)
abbrev Yx := @decide_eq_true
abbrev Yy := @Option.some.injEq
abbrev Yz := @Bool.and_eq_true
abbrev YA := @Nat.eq_of_beq_eq_true
abbrev YB := @cond_false
abbrev YC := @cond_true
abbrev YD := @decide_eq_false
abbrev YE := @Nat.pow_le_pow_right
abbrev YF := @List.length_append
abbrev YG := @Nat.le_refl
abbrev YH := @Result.andThen_ok
abbrev YI := @Bool.true_and
abbrev YJ := @Nat.lt_of_lt_of_le
abbrev YK := @List.all_cons
abbrev YL := @List.mem_cons_of_mem
abbrev YM := @Nat.lt_or_ge
abbrev YN := @List.mem_cons
abbrev YO := @Sem.run_bind
abbrev YP := @Bool.not_true
abbrev YQ := @List.length_cons
abbrev YR := @List.append_nil
abbrev YS := @List.getElem_mem
abbrev YT := @Bool.not_eq_true'
abbrev YU := @Prod.mk.injEq
abbrev YV := @Nat.zero_le
abbrev YW := @List.mem_cons_self
abbrev YX := @Sem.run_pure
abbrev YY := @List.mem_map
abbrev YZ := @Bool.false_and
abbrev Za := @Int.natCast_nonneg
abbrev Zb := @Int.toNat_natCast
abbrev Zc := @List.all_eq_true
abbrev Zd := @Nat.le_trans
abbrev Ze := @List.length_set
abbrev Zf := @Option.map_some
abbrev Zg := @List.append_assoc
abbrev Zh := @List.map_cons
abbrev Zi := @List.length_nil
abbrev Zj := @List.eq_nil_of_length_eq_zero
abbrev Zk := @Below.refl
abbrev Zl := @List.mem_append
abbrev Zm := @List.length_map
abbrev Zn := @Nat.two_pow_pos
abbrev Zo := @List.mem_range
abbrev Zp := @Nat.eq_of_testBit_eq
abbrev Zq := @Nat.zero_testBit
abbrev Zr := @Addr.add_lit
abbrev Zs := @Bool.false_eq_true
abbrev Zt := @List.nil_append
abbrev Zu := @List.countP_cons
abbrev Zv := @List.flatMap_cons
abbrev Zw := @List.take_succ_eq_append_getElem
abbrev Zx := @Bool.not_false
abbrev Zy := @List.mem_of_mem_take
abbrev Zz := @Nat.not_lt_zero
abbrev ZA := @Array.toList_map
abbrev ZB := @Option.getD_some
abbrev ZC := @Nat.add_assoc
abbrev ZD := @Bool.or_eq_true
abbrev ZE := @Nat.add_zero
abbrev ZF := @Nat.testBit_and
abbrev ZG := @List.mem_singleton
abbrev ZH := @List.length_take
abbrev ZI := @Nat.mul_le_mul_right
abbrev ZJ := @Nat.pow_lt_pow_right
abbrev ZK := @List.map_nil
abbrev ZL := @List.take_of_length_le
abbrev ZM := @Nat.or_lt_two_pow
abbrev ZN := @Nat.zero_add
abbrev ZO := @Nat.mul_one
abbrev ZP := @List.not_mem_nil
abbrev ZQ := @Nat.and_lt_two_pow
abbrev ZR := @Bool.or_eq_false_iff
abbrev ZS := @Int.eq_ofNat_of_zero_le
abbrev ZT := @World.ownsRow_lit
abbrev ZU := @Eq.trans
abbrev ZV := @Below.heap_setCell
abbrev ZW := @List.countP_le_length
abbrev ZX := @List.drop_eq_getElem_cons
abbrev ZY := @List.pairwise_iff_getElem
abbrev ZZ := @Bool.eq_iff_iff
abbrev Z0 := @List.map_append
abbrev Z1 := @List.range_succ
abbrev Z2 := @Nat.sub_self
abbrev Z3 := @Bool.false_or
abbrev Z4 := @List.drop_zero
abbrev Z5 := @List.mem_flatMap
abbrev Z6 := @List.take_length
abbrev Z7 := @Nat.add_mul
abbrev Z8 := @Nat.lt_of_le_of_lt
abbrev Z9 := @Nat.and_le_left
abbrev aaa := @Obj.cells.injEq
abbrev aab := @Result.ok.injEq
abbrev aac := @List.contains_iff_mem
abbrev aad := @World.ownsRow_nil
abbrev aae := @Below.heap_alloc
abbrev aaf := @IntKind.wrap_i64
abbrev aag := @Nat.and_le_right
abbrev aah := @Nat.mod_eq_of_lt
abbrev aai := @List.countP_pos_iff
abbrev aaj := @Bool.or_false
abbrev aak := @Option.isSome_iff_exists
abbrev aal := @List.nodup_cons
abbrev aam := @Addr.add_add
abbrev aan := @List.drop_of_length_le
abbrev aao := @List.mapM_cons
abbrev aap := @List.size_toArray
abbrev aaq := @List.take_add_one
abbrev aar := @Nat.beq_refl
abbrev aas := @Nat.testBit_lt_two_pow
abbrev aat := @Nat.testBit_or
abbrev aau := @Nat.zero_mul
abbrev aav := @Nat.le_of_ble_eq_true
abbrev aaw := @Int.natCast_zero
abbrev aax := @Bool.and_self
abbrev aay := @Bool.and_true
abbrev aaz := @Option.map_none
abbrev aaA := @Array.toList_append
abbrev aaB := @List.replicate_succ
abbrev aaC := @List.map_map
abbrev aaD := @List.map_set
abbrev aaE := @Bool.and_false
abbrev aaF := @List.set_cons_succ
abbrev aaG := @List.set_cons_zero
abbrev aaH := @Nat.eq_zero_or_pos
abbrev aaI := @List.length_range
abbrev aaJ := @List.nodup_append
abbrev aaK := @Nat.one_mul
abbrev aaL := @Value.slice.injEq
abbrev aaM := @run_equalIn_bool'
abbrev aaN := @Addr.mk.injEq
abbrev aaO := @List.cons_append
abbrev aaP := @List.map_toArray
abbrev aaQ := @Nat.testBit_succ
abbrev aaR := @Nat.testBit_zero
abbrev aaS := @wp_block
abbrev aaT := @Nat.pow_succ
abbrev aaU := @Nat.sub_zero
abbrev aaV := @List.all_append
abbrev aaW := @List.foldl_cons
abbrev aaX := @List.mem_filter
abbrev aaY := @Nat.testBit_xor
abbrev aaZ := @List.take_take
abbrev aa0 := @Nat.mul_le_mul
abbrev aa1 := @Bool.beq_comm
abbrev aa2 := @List.take_set
abbrev aa3 := @bne_iff_ne
abbrev aa4 := @Array.getElem?_eq_getElem
abbrev aa5 := @Array.getElem?_eq_some_iff
abbrev aa6 := @List.ext_getElem?
abbrev aa7 := @List.getElem?_append_left
abbrev aa8 := @List.getElem?_append_right
abbrev aa9 := @List.getElem?_cons_succ
abbrev aba := @List.getElem?_cons_zero
abbrev abb := @List.getElem?_eq_getElem
abbrev abc := @List.getElem?_eq_none
abbrev abd := @List.getElem?_eq_some_iff
abbrev abe := @List.getElem?_map
abbrev abf := @List.getElem?_set
abbrev abg := @List.getElem?_set_ne
abbrev abh := @List.getElem?_set_self
abbrev abi := @List.getElem?_take
abbrev abj := @List.getElem?_take_of_lt
abbrev abk := @List.mem_iff_getElem?
abbrev abl := @List.mem_of_getElem?
abbrev abm := @World.block_lt_of_cell?
abbrev abn := @World.cell?_alloc_old
abbrev abo := @World.cell?_of_block

def bx : Op → Bool
 | .move (.const (.slice ..)) | .assign (.const (.slice ..)) => false
 | .move _ | .assign _ | .pick .. | .load .. | .binOp .. | .unOp .. | .fieldAddr .. | .field .. | .indexAddr .. | .index .. | .extract .. => true
 | .convert src dst _ => !(Nat.beq src dst)
 | .makeFunc .. | .lookup .. | .nilCheck .. => true
 | .call { callee := .value _, .. } => true
 | .call { callee := .builtin .len, .. } | .call { callee := .builtin .max, .. } | .call { callee := .builtin .min, .. } => true
 | _ => false
def uR : Op → Bool
 | .move (.const (.slice ..)) | .assign (.const (.slice ..)) => false
 | .move _ | .assign _ | .pick .. | .binOp .. | .unOp .. | .fieldAddr .. | .field .. | .extract .. | .nilCheck .. => true
 | _ => false
def ml : Op → Bool
 | .build .. | .slice .. => true
 | _ => false
def fA (o : Op) : Bool := uR o || ml o
def eP (o : Op) : Bool := bx o || ml o
def bY : Op → Bool
 | .call { callee := .value _, .. } => true
 | _ => false
def eT (o : Op) : Bool :=
 bx o || match o with
 | .move _ | .assign _ | .alloc _ | .box .. | .build .. | .slice .. | .makeSlice .. | .buildSlice .. | .makeMap .. => true
 | _ => false

def fG : Op → Bool
 | .call { callee := .builtin .append, .. } => true
 | _ => false
def wh (c : Bool) (o : Op) : Bool := cond c (eT o) (eT o || fG o)

structure Lat (G : Nat → Prop) (w w' : World) : Prop where
 os : w'.os = w.os
 tape : w'.tape = w.tape
 output : w'.output = w.output
 size : w.heap.size ≤ w'.heap.size
 block : ∀ k, k < w.heap.size → ¬ G k → w'.heap[k]? = w.heap[k]?
theorem Lat.of {G : Nat → Prop} {w w' : World} (h : Below w.heap.size w w') : Lat G w w' := ⟨h.os, h.tape, h.output, h.size, fun k hk _ => h.block k hk⟩
theorem Lat.refl {G : Nat → Prop} (w : World) : Lat G w w := Lat.of (Zk _ _)
theorem Lat.trans {G : Nat → Prop} {a b c : World} (h : Lat G a b) (k : Lat G b c) : Lat G a c :=
 ⟨k.os.trans h.os, k.tape.trans h.tape, k.output.trans h.output, Zd h.size k.size, fun i hi hg => (k.block i (YJ hi h.size) hg).trans (h.block i hi hg)⟩
theorem Lat.cell {G : Nat → Prop} {w w' : World} (h : Lat G w w') {p : Addr} (hp : p.block < w.heap.size) (hg : ¬ G p.block) : w'.cell? p = w.cell? p := abo (w := w) (h.block p.block hp hg)
theorem Lat.weak {G G' : Nat → Prop} {w w' : World} (h : Lat G w w') (hg : ∀ k, G k → G' k) : Lat G' w w' := ⟨h.os, h.tape, h.output, h.size, fun k hk hn => h.block k hk fun hG => hn (hg k hG)⟩
theorem Lat.below {w w' : World} (h : Lat (fun _ => False) w w') : Below w.heap.size w w' := ⟨h.os, h.tape, h.output, h.size, fun k hk => h.block k hk id⟩

section
variable {P : Program} {ops : Array Oper} {md : Region.Mode} {Q' : Exit → Act → World → Prop} {G : Nat → Prop} {fr : Op → Bool}

def w9 (P : Program) (K : Value → World → Prop) : Result Next → Prop
 | .ok (.value u) w' => K u w'
 | .ok .skip w' => K undef w'
 | .ok (.enter f args) w' => Calls P f args w' (fun e w'' => ∃ u, e = .returned u ∧ K u w'')
 | _ => False
def dp (P : Program) (o : Oper) (a : Act) (w : World) (K : Value → World → Prop) : Prop := w9 P K ((execOp a.eval o).run P w)

theorem nH {K K' : Value → World → Prop} (h : ∀ v w, K v w → K' v w) {r : Result Next} (hr : w9 P K r) : w9 P K' r := by
 cases r with
 | halt x w => exact hr
 | ok n w =>
  cases n <;> first | exact h _ _ hr | exact hr | skip
  exact Calls.mono hr fun e w' ⟨u, h1, h2⟩ => ⟨u, h1, h _ _ h2⟩
theorem cG {o : Oper} {a : Act} {w : World} {K K' : Value → World → Prop} (h : ∀ v w, K v w → K' v w) (hr : dp P o a w K) : dp P o a w K' := nH h hr

theorem vp {o : Oper} {a : Act} {w : World} {K : Act → World → Prop} (h : dp P o a w fun v w' => K (a.put o.dst v) w') : o.wp P a w K Q' := by
 unfold dp at h
 unfold Oper.wp
 generalize (execOp a.eval o).run P w = r at h
 cases r with
 | halt x w => exact h.elim
 | ok n w =>
  cases n <;> first | exact h | exact h.elim | skip
  exact Calls.mono h fun e w' ⟨u, h1, h2⟩ => by subst h1; exact h2

def dt (P : Program) (o : Oper) (a : Act) (w : World) (v : Value) : Prop := dp P o a w fun u w' => u = v ∧ Below w.heap.size w w'

def Yb (P : Program) (G : Nat → Prop) (ops : Array Oper) (o : Oper) (v : Value) (a : Act) (w : World) : Prop :=
 (Region.wanted o (yielded ops a.tmps) = true ∧ (∀ w', Lat G w w' → dt P o a w' v) ∧ (fA o.op = true → ∀ w', dt P o a w' v)) ∨ (Region.wanted o (yielded ops a.tmps) = false ∧ v = undef)

theorem fD {w w1 w2 : World} (h : Below w.heap.size w w1) (h' : Below w1.heap.size w1 w2) : Below w.heap.size w w2 := h.trans (h'.mono h.size)

theorem Yb.later {o : Oper} {v : Value} {a : Act} {w w1 : World} (h : Yb P G ops o v a w) (hb : Lat G w w1) : Yb P G ops o v a w1 :=
 h.imp (fun ⟨h1, h2, h3⟩ => ⟨h1, fun w' hb' => h2 w' (hb.trans hb'), h3⟩) id

def opF (P : Program) (G : Nat → Prop) (fr : Op → Bool) (ops : Array Oper) (i : Nat) (K : Act → World → Prop) (a : Act) (w : World) : Prop :=
 match ops[i]? with
 | none => K a w
 | some o => if Region.wanted o (yielded ops a.tmps) then dp P o a w (fun v w' => (fr o.op = true → Lat G w w') ∧ K (a.put o.dst v) w') else K (a.put o.dst undef) w

theorem As {i : Nat} {K K' : Act → World → Prop} {a : Act} {w : World} (hK : ∀ a w, K a w → K' a w) (h : opF P G fr ops i K a w) : wpOp P ops Q' i K' a w := by
 unfold opF at h
 unfold wpOp
 split at h
 ·rename_i ho
  simp only [ho]
  exact hK _ _ h
 ·rename_i o ho
  simp only [ho]
  split at h
  ·rename_i hw
   simp only [hw, if_true]
   exact .inl (vp (cG (fun v w h => hK _ _ h.2) h))
  ·rename_i hw
   simp only [hw]
   exact hK _ _ h

def n3 (P : Program) (G : Nat → Prop) (fr : Op → Bool) (md : Region.Mode) (ops : Array Oper) (Q' : Exit → Act → World → Prop) : Nat → Array Bool → Act → World → Prop
 | 0, listed, a, w => ∀ w', Below w.heap.size w w' → Region.ready md ops listed = [] ∧ Q' .normal a w'
 | f + 1, listed, a, w => ∀ w', Below w.heap.size w w' → (Region.ready md ops listed = [] → Q' .normal a w') ∧
   ∀ i ∈ Region.ready md ops listed, opF P G fr ops i (n3 P G fr md ops Q' f (listed.setIfInBounds i true)) a w'

theorem iy : ∀ {f : Nat} {listed : Array Bool} {a : Act} {w w1 : World}, n3 P G fr md ops Q' f listed a w → Below w.heap.size w w1 → n3 P G fr md ops Q' f listed a w1
 | 0, _, _, _, _, h, hb => fun w' hb' => h w' (fD hb hb')
 | _ + 1, _, _, _, _, h, hb => fun w' hb' => h w' (fD hb hb')

theorem gf : ∀ {f : Nat} {listed : Array Bool} {a : Act} {w : World}, n3 P G fr md ops Q' f listed a w → wpAny P md ops Q' f listed a w
 | 0, _, _, w, h => h w (Zk _ _)
 | _ + 1, _, _, w, h => ⟨(h w (Zk _ _)).1, fun i hi => As (fun _ _ h => gf h) ((h w (Zk _ _)).2 i hi)⟩

theorem uM {i : Nat} {oi : Oper} {v : Value} {a : Act} {w : World} {K : Act → World → Prop} (hi : ops[i]? = some oi) (hy : Yb P G ops oi v a w) (hK : ∀ w', Below w.heap.size w w' → K (a.put oi.dst v) w') : opF P G fr ops i K a w := by
 unfold opF
 simp only [hi]
 rcases hy with ⟨hw, hs, _⟩ | ⟨hw, rfl⟩
 ·simp only [hw, if_true]
  exact cG (fun u w' ⟨e, hb⟩ => ⟨fun _ => Lat.of hb, by rw [e]; exact hK _ hb⟩) (hs w (Lat.refl _))
 ·simp only [hw]
  exact hK _ (Zk _ _)

theorem qs {i : Nat} {oi : Oper} {v : Value} {D : Nat → Bool} (hi : ops[i]? = some oi)
  (hD : ∀ j oj, ops[j]? = some oj → D j = true → ∃ e ∈ oj.after, Region.binds md e = true ∧ (e.on = i ∨ D e.on = true)) (hsel : ∀ (j : Nat) (o : Oper) cs b, ops[j]? = some o → o.op ≠ .select cs b) :
  ∀ (f : Nat) (listed : Array Bool) (a : Act) (w : World),
   (∀ j oj, ops[j]? = some oj → j ≠ i → listed.getD j true = false → D j = false → oi.apart ops oj = true ∧ (fr oj.op = true ∨ fA oi.op = true)) →
   (∀ j, D j = true → listed.getD j true = false) →
   i ∈ Region.ready md ops listed → Yb P G ops oi v a w →
   n3 P G fr md ops Q' f (listed.setIfInBounds i true) (a.put oi.dst v) w → n3 P G fr md ops Q' (f + 1) listed a w := by
 intro f
 induction f with
 | zero =>
  intro listed a w _ _ hr hy H w' hb
  refine ⟨fun h => (by rw [h] at hr; cases hr), fun j hj => ?_⟩
  by_cases hji : j = i
  ·subst hji
   exact uM hi (hy.later (Lat.of hb)) fun w'' hb' => iy H (fD hb hb')
  ·have := (H w (Zk _ _)).1
   have h2 := ready_mono hj hji
   rw [this] at h2
   cases h2
 | succ f ih =>
  intro listed a w hfree hund hr hy H w' hb
  have hun := (mem_ready.1 hr).1
  refine ⟨fun h => (by rw [h] at hr; cases hr), fun j hj => ?_⟩
  by_cases hji : j = i
  ·subst hji
   exact uM hi (hy.later (Lat.of hb)) fun w'' hb' => iy H (fD hb hb')
  ·have h1 := (H w' hb).2 j (ready_mono hj hji)
   obtain ⟨hjun, oj, hoj, hall⟩ := mem_ready.1 hj
   have hnot : D j = false := by
    cases hd : D j with
    | false => rfl
    | true =>
     exfalso
     obtain ⟨e, he, hbd, hor⟩ := hD j oj hoj hd
     have h1 := hall e he hbd
     rcases hor with heq | hde
     ·rw [heq, getD_both hun] at h1
      cases h1
     ·rw [getD_both (hund _ hde)] at h1
      cases h1
   obtain ⟨hap, hfr⟩ := hfree j oj hoj hji hjun hnot
   obtain ⟨p1, p2, p3⟩ := Oper.apart_spec hap
   have hfree' : ∀ k ok, ops[k]? = some ok → k ≠ i → (listed.setIfInBounds j true).getD k true = false → D k = false → oi.apart ops ok = true ∧ (fr ok.op = true ∨ fA oi.op = true) := fun k ok hk hki hu hno => by
    refine hfree k ok hk hki ?_ hno
    by_cases hjk : j = k
    ·subst hjk; exact hjun
    ·rw [getD_set_ne true hjk] at hu; exact hu
   have hund' : ∀ k, D k = true → (listed.setIfInBounds j true).getD k true = false := fun k hk => by
    have hjk : j ≠ k := fun e => by rw [e, hk] at hnot; cases hnot
    rw [getD_set_ne true hjk]
    exact hund k hk
   have hyp : ∀ u w2, (Lat G w' w2 ∨ fA oi.op = true) → Yb P G ops oi v (a.put oj.dst u) w2 := fun u w2 hb2 => by
    have still : ∀ w3, dt P oi a w3 v → dt P oi (a.put oj.dst u) w3 v := fun w3 h => by
     unfold dt dp at *
     rw [execOp_put oi (fun cs b => hsel i oi cs b hi) a oj.dst u p3]
     exact h
    rcases hy with ⟨h1, h2, h3⟩ | ⟨h1, h2⟩
    ·refine .inl ⟨by rw [wanted_put oi a oj.dst u p3]; exact h1, fun w3 hb3 => still w3 ?_, fun hp w3 => still w3 (h3 hp w3)⟩
     rcases hb2 with hb2 | hp
     ·exact h2 w3 (((Lat.of hb).trans hb2).trans hb3)
     ·exact h3 hp w3
    ·exact .inr ⟨by rw [wanted_put oi a oj.dst u p3]; exact h1, h2⟩
   have go : ∀ u w2, (Lat G w' w2 ∨ fA oi.op = true) → n3 P G fr md ops Q' f ((listed.setIfInBounds i true).setIfInBounds j true) ((a.put oi.dst v).put oj.dst u) w2 → n3 P G fr md ops Q' (f + 1) (listed.setIfInBounds j true) (a.put oj.dst u) w2 := fun u w2 hb2 h => by
    refine ih (listed.setIfInBounds j true) (a.put oj.dst u) w2 hfree' hund' (ready_mono hr (Ne.symm hji)) (hyp u w2 hb2) ?_
    rw [← Act.put_comm a v u p2, Array.setIfInBounds_comm _ _ hji]
    exact h
   unfold opF at h1 ⊢
   simp only [hoj] at h1 ⊢
   rw [wanted_put oj a oi.dst v p1] at h1
   split
   ·rename_i hw
    simp only [hw, if_true] at h1
    unfold dp at h1 ⊢
    rw [execOp_put oj (fun cs b => hsel j oj cs b hoj) a oi.dst v p1] at h1
    exact nH (fun u w2 ⟨hbf, hK⟩ => ⟨hbf, go u w2 (hfr.imp hbf id) hK⟩) h1
   ·rename_i hw
    simp only [hw] at h1
    exact go _ _ (.inl (Lat.refl _)) h1

def Q5 (md : Region.Mode) (ops : Array Oper) (i : Nat) : List Nat :=
 (List.range ops.size).foldl (fun D j => match ops[j]? with
  | some oj => cond (oj.after.any fun e => Region.binds md e && (e.on == i || D.contains e.on)) (j :: D) D
  | none => D) []
def Q6 (fr : Op → Bool) (md : Region.Mode) (ops : Array Oper) (listed : Array Bool) (i : Nat) (D : List Nat) : Bool :=
 (D.all fun j => !listed.getD j true && match ops[j]? with
  | some oj => oj.after.any fun e => Region.binds md e && (e.on == i || D.contains e.on)
  | none => false) &&
 (List.range ops.size).all fun j => j == i || listed.getD j true || D.contains j || match ops[j]?, ops[i]? with
  | some oj, some oi => oi.apart ops oj && (fr oj.op || fA oi.op)
  | _, _ => true
def ul (fr : Op → Bool) (md : Region.Mode) (ops : Array Oper) (listed : Array Bool) (i : Nat) : Bool := Q6 fr md ops listed i (Q5 md ops i)

theorem qI {i : Nat} {oi : Oper} {listed : Array Bool} (hi : ops[i]? = some oi) (h : ul fr md ops listed i = true) :
  ∃ D : Nat → Bool, (∀ j oj, ops[j]? = some oj → D j = true → ∃ e ∈ oj.after, Region.binds md e = true ∧ (e.on = i ∨ D e.on = true)) ∧ (∀ j, D j = true → listed.getD j true = false) ∧
   ∀ j oj, ops[j]? = some oj → j ≠ i → listed.getD j true = false → D j = false → oi.apart ops oj = true ∧ (fr oj.op = true ∨ fA oi.op = true) := by
 unfold ul at h
 generalize Q5 md ops i = D at h
 simp only [Q6, Yz, Zc, Zo, YT] at h
 obtain ⟨h1, h2⟩ := h
 refine ⟨fun j => D.contains j, fun j oj hj hd => ?_, fun j hd => (h1 j (by simpa using hd)).1, fun j oj hj hne hun hno => ?_⟩
 ·have := (h1 j (by simpa using hd)).2
  rw [hj] at this
  obtain ⟨k, hk, hk2⟩ := Array.any_eq_true.1 this
  simp only [Yz, ZD, beq_iff_eq] at hk2
  exact ⟨_, Array.getElem_mem hk, hk2.1, hk2.2⟩
 ·have := h2 j (aa5.1 hj).1
  simp only [hj, hi, ZD, beq_iff_eq, hne, false_or, hun, Zs, hno, Yz] at this
  exact this

def pg (fr : Op → Bool) (md : Region.Mode) (ops : Array Oper) : List (Nat × Bool) → Array Bool → Bool
 | [], listed => Region.ready md ops listed == []
 | (i, true) :: l, listed => Region.ready md ops listed == [i] && pg fr md ops l (listed.setIfInBounds i true)
 | (i, false) :: l, listed => (Region.ready md ops listed).contains i && ul fr md ops listed i && pg fr md ops l (listed.setIfInBounds i true)

def tW (P : Program) (G : Nat → Prop) (fr : Op → Bool) (ops : Array Oper) (Q' : Exit → Act → World → Prop) : List (Nat × Bool) → Act → World → Prop
 | [], a, w => ∀ w', Below w.heap.size w w' → Q' .normal a w'
 | (i, true) :: l, a, w => ∀ w', Below w.heap.size w w' → opF P G fr ops i (tW P G fr ops Q' l) a w'
 | (i, false) :: l, a, w => ∃ o v, ops[i]? = some o ∧ Yb P G ops o v a w ∧ tW P G fr ops Q' l (a.put o.dst v) w

theorem zr {i : Nat} {K K' : Act → World → Prop} {a : Act} {w : World} (hK : ∀ a w, K a w → K' a w) (h : opF P G fr ops i K a w) : opF P G fr ops i K' a w := by
 unfold opF at h ⊢
 split at h
 ·rename_i ho
  exact hK _ _ h
 ·rename_i o ho
  split at h
  ·rename_i hw
   simp only [hw, if_true]
   exact cG (fun v w h => ⟨h.1, hK _ _ h.2⟩) h
  ·rename_i hw
   simp only [hw]
   exact hK _ _ h

theorem sa (hsel : Region.noSelect ops = true) : ∀ (l : List (Nat × Bool)) (listed : Array Bool) (a : Act) (w : World), pg fr md ops l listed = true → tW P G fr ops Q' l a w → n3 P G fr md ops Q' l.length listed a w
 | [], listed, a, w, hB, h => fun w' hb => ⟨by simpa [pg] using hB, h w' hb⟩
 | (i, true) :: l, listed, a, w, hB, h => by
  simp only [pg, Yz, beq_iff_eq] at hB
  intro w' hb
  refine ⟨fun h0 => (by rw [hB.1] at h0; cases h0), fun j hj => ?_⟩
  rw [hB.1] at hj
  simp only [ZG] at hj
  subst hj
  exact zr (fun a' w' hw => sa hsel l _ a' w' hB.2 hw) (h w' hb)
 | (i, false) :: l, listed, a, w, hB, h => by
  simp only [pg, Yz] at hB
  obtain ⟨⟨h1, h2⟩, h3⟩ := hB
  obtain ⟨o, v, ho, hy, hK⟩ := h
  obtain ⟨D, d1, d2, d3⟩ := qI ho h2
  exact qs ho d1 (Region.noSelect_spec hsel) _ listed a w d3 d2 (by simpa using h1) hy (sa hsel l _ _ w h3 hK)

def jB (md : Region.Mode) (ops : Array Oper) : Nat → Array Bool → List (Nat × Bool)
 | 0, _ => []
 | f + 1, listed => match Region.ready md ops listed with
  | [] => []
  | [i] => (i, true) :: jB md ops f (listed.setIfInBounds i true)
  | r => match r.find? fun i => match ops[i]? with | some o => eP o.op && !(bY o.op) | none => false with
   | some i => (i, false) :: jB md ops f (listed.setIfInBounds i true)
   | none => match r.find? fun i => match ops[i]? with | some o => bY o.op | none => false with
    | some i => (i, false) :: jB md ops f (listed.setIfInBounds i true)
    | none => []

def wU (ops : Array Oper) (l : List (Nat × Bool)) : Option (List (Nat × Bool)) :=
 cond (Region.noSelect ops && Nat.beq l.length ops.size && pg eT .any ops l (Array.replicate ops.size false)) (some l) none
def nE (ops : Array Oper) : Option (List (Nat × Bool)) := wU ops (jB .any ops ops.size (Array.replicate ops.size false))

theorem zG {id : Nat} {a : Act} {w : World} {l : List (Nat × Bool)} (hm : P.follows .mixedOrders = true) (hp : nE ops = some l) (h : tW P G eT ops Q' l a w) : (Code.region id ops true).wp P Q' a w := by
 unfold nE at hp
 generalize jB .any ops ops.size (Array.replicate ops.size false) = l' at hp
 unfold wU at hp
 cases hc : (Region.noSelect ops && Nat.beq l'.length ops.size && pg eT .any ops l' (Array.replicate ops.size false)) with
 | false => rw [hc] at hp; cases hp
 | true =>
  rw [hc] at hp
  simp only [YC, Yy] at hp
  subst hp
  simp only [Yz] at hc
  obtain ⟨⟨h1, h2⟩, h3⟩ := hc
  refine wp_region_any hm ?_
  have := gf (iy (sa h1 _ _ a w h3 h) (Zk w.heap.size w).drew)
  rw [YA h2] at this
  exact this
inductive PT where
 | done
 | quiet (i : Nat) (t : PT)
 | all (c : PT)
 | pick (i : Nat) (t alt : PT)
 | nil

def PT.alts : PT → List Nat
 | .pick i _ alt => i :: alt.alts
 | _ => []

def ii (fr : Op → Bool) (md : Region.Mode) (ops : Array Oper) : PT → Nat → Array Bool → Bool
 | .done, n, listed => Nat.beq n 0 && Region.ready md ops listed == []
 | .quiet i t, n, listed => match n with
  | 0 => false
  | m + 1 => (Region.ready md ops listed).contains i && ul fr md ops listed i && ii fr md ops t m (listed.setIfInBounds i true)
 | .all c, n, listed => match n with
  | 0 => false
  | _ + 1 => !c.alts.isEmpty && Region.ready md ops listed == c.alts && ii fr md ops c n listed
 | .pick i t alt, n, listed => match n with
  | 0 => false
  | m + 1 => ii fr md ops t m (listed.setIfInBounds i true) && ii fr md ops alt n listed
 | .nil, _, _ => true

def gm (P : Program) (G : Nat → Prop) (fr : Op → Bool) (ops : Array Oper) (Q' : Exit → Act → World → Prop) : PT → Act → World → Prop
 | .done, a, w => ∀ w', Below w.heap.size w w' → Q' .normal a w'
 | .quiet i t, a, w => ∃ (G' : Nat → Prop) (o : Oper) (v : Value), (∀ k, G' k → G k) ∧ ops[i]? = some o ∧ Yb P G' ops o v a w ∧ gm P G' fr ops Q' t (a.put o.dst v) w
 | .all c, a, w => ∀ w', Below w.heap.size w w' → gm P G fr ops Q' c a w'
 | .pick i t alt, a, w => opF P G fr ops i (gm P G fr ops Q' t) a w ∧ gm P G fr ops Q' alt a w
 | .nil, _, _ => True

def PT.chain : PT → Bool
 | .pick .. | .nil => true
 | _ => false
def PT.ok : PT → Bool
 | .done => true
 | .quiet _ t => t.ok && !t.chain
 | .all c => c.chain && c.ok
 | .pick _ t alt => t.ok && !t.chain && alt.ok && alt.chain
 | .nil => true

theorem zu {G' : Nat → Prop} (hg : ∀ k, G' k → G k) {i : Nat} {K K' : Act → World → Prop} (hK : ∀ a w, K a w → K' a w) {a : Act} {w : World} (h : opF P G' fr ops i K a w) : opF P G fr ops i K' a w := by
 unfold opF at h ⊢
 split at h
 ·exact hK _ _ h
 ·split at h
  ·rename_i hw
   simp only [hw, if_true]
   exact cG (fun v w h => ⟨fun hf => (h.1 hf).weak hg, hK _ _ h.2⟩) h
  ·rename_i hw
   simp only [hw]
   exact hK _ _ h
theorem eO {fr : Op → Bool} : ∀ (t : PT) {G G' : Nat → Prop} (_ : ∀ k, G' k → G k) (a : Act) (w : World), gm P G' fr ops Q' t a w → gm P G fr ops Q' t a w
 | .done, _, _, _, _, _, h => h
 | .quiet _ _, _, _, hg, _, _, ⟨G2, o, v, h1, h2⟩ => ⟨G2, o, v, fun k hk => hg k (h1 k hk), h2⟩
 | .all c, _, _, hg, a, _, h => fun w' hb => eO c hg a w' (h w' hb)
 | .pick _ t alt, _, _, hg, a, w, ⟨h1, h2⟩ => ⟨zu hg (fun a w h => eO t hg a w h) h1, eO alt hg a w h2⟩
 | .nil, _, _, _, _, _, h => h
theorem tZ {G' : Nat → Prop} (hg : ∀ k, G' k → G k) : ∀ (f : Nat) (listed : Array Bool) (a : Act) (w : World), n3 P G' fr md ops Q' f listed a w → n3 P G fr md ops Q' f listed a w
 | 0, _, _, _, h => h
 | f + 1, _, _, _, h => fun w' hb => ⟨(h w' hb).1, fun i hi => zu hg (fun a w h => tZ hg f _ a w h) ((h w' hb).2 i hi)⟩

theorem jM (hsel : Region.noSelect ops = true) : ∀ (t : PT) (G : Nat → Prop), t.ok = true →
  (t.chain = false → ∀ (n : Nat) (listed : Array Bool) (a : Act) (w : World), ii fr md ops t n listed = true → gm P G fr ops Q' t a w → n3 P G fr md ops Q' n listed a w) ∧
  (t.chain = true → ∀ (m : Nat) (listed : Array Bool) (a : Act) (w : World), ii fr md ops t (m + 1) listed = true → gm P G fr ops Q' t a w → ∀ i ∈ t.alts, opF P G fr ops i (n3 P G fr md ops Q' m (listed.setIfInBounds i true)) a w)
 | .done, G, _ => ⟨fun _ n listed a w hB h => by
   simp only [ii, Yz, beq_iff_eq] at hB
   obtain rfl := YA hB.1
   exact fun w' hb => ⟨hB.2, h w' hb⟩, fun h => by cases h⟩
 | .quiet i t, G, hok => ⟨fun _ n listed a w hB h => by
   simp only [PT.ok, Yz, YT] at hok
   cases n with
   | zero => cases hB
   | succ m =>
    simp only [ii, Yz] at hB
    obtain ⟨⟨h1, h2⟩, h3⟩ := hB
    obtain ⟨G', o, v, hgg, ho, hy, hK⟩ := h
    obtain ⟨D, d1, d2, d3⟩ := qI ho h2
    exact tZ hgg _ _ _ _ (qs ho d1 (Region.noSelect_spec hsel) _ listed a w d3 d2 (by simpa using h1) hy ((jM hsel t G' hok.1).1 hok.2 m _ _ w h3 hK)), fun h => by cases h⟩
 | .all c, G, hok => ⟨fun _ n listed a w hB h => by
   simp only [PT.ok, Yz] at hok
   cases n with
   | zero => cases hB
   | succ m =>
    simp only [ii, Yz, beq_iff_eq, YT] at hB
    obtain ⟨⟨h1, h2⟩, h3⟩ := hB
    intro w' hb
    refine ⟨fun h0 => (by rw [h2] at h0; rw [h0] at h1; cases h1), fun j hj => ?_⟩
    rw [h2] at hj
    exact (jM hsel c G hok.2).2 hok.1 m listed a w' h3 (h w' hb) j hj, fun h => by cases h⟩
 | .pick i t alt, G, hok => ⟨fun h => (by cases h), fun _ m listed a w hB h => by
   simp only [PT.ok, Yz, YT] at hok
   obtain ⟨⟨⟨k1, k2⟩, k3⟩, k4⟩ := hok
   simp only [ii, Yz] at hB
   intro j hj
   simp only [PT.alts, YN] at hj
   rcases hj with rfl | hj
   ·exact zr (fun a' w' hw => (jM hsel t G k1).1 k2 m _ a' w' hB.1 hw) h.1
   ·exact (jM hsel alt G k3).2 k4 m listed a w hB.2 h.2 j hj⟩
 | .nil, G, _ => ⟨fun h => (by cases h), fun _ m listed a w hB h i hi => by simp [PT.alts] at hi⟩

def mE (c : Bool) (md : Region.Mode) (ops : Array Oper) : Nat → Array Bool → PT
 | 0, _ => .done
 | f + 1, listed => match Region.ready md ops listed with
  | [] => .done
  | [i] => .all (.pick i (mE c md ops f (listed.setIfInBounds i true)) .nil)
  | r => match r.find? fun i => match ops[i]? with | some o => eP o.op && !(bY o.op) && ul (wh c) md ops listed i | none => false with
   | some i => .quiet i (mE c md ops f (listed.setIfInBounds i true))
   | none => match r.find? fun i => match ops[i]? with | some o => c && bY o.op && ul (wh c) md ops listed i | none => false with
    | some i => .quiet i (mE c md ops f (listed.setIfInBounds i true))
    | none => .all (r.foldr (fun i acc => .pick i (mE c md ops f (listed.setIfInBounds i true)) acc) .nil)

def fp (ops : Array Oper) : PT → Bool
 | .done | .nil => true
 | .quiet i t => (match ops[i]? with | some o => eP o.op | none => false) && fp ops t
 | .all c => fp ops c
 | .pick _ t alt => fp ops t && fp ops alt

def xo (c : Bool) (ops : Array Oper) (t : PT) : Option PT :=
 cond (Region.noSelect ops && t.ok && !t.chain && fp ops t && ii (wh c) .any ops t ops.size (Array.replicate ops.size false)) (some t) none
def fN (c : Bool) (ops : Array Oper) : Option PT := xo c ops (mE c .any ops ops.size (Array.replicate ops.size false))

theorem pj {id : Nat} {a : Act} {w : World} {t : PT} (hm : P.follows .mixedOrders = true) {c : Bool} (hp : fN c ops = some t) (h : gm P G (wh c) ops Q' t a w) : (Code.region id ops true).wp P Q' a w := by
 unfold fN at hp
 generalize mE c .any ops ops.size (Array.replicate ops.size false) = t' at hp
 unfold xo at hp
 cases hc : (Region.noSelect ops && t'.ok && !t'.chain && fp ops t' && ii (wh c) .any ops t' ops.size (Array.replicate ops.size false)) with
 | false => rw [hc] at hp; cases hp
 | true =>
  rw [hc] at hp
  simp only [YC, Yy] at hp
  subst hp
  simp only [Yz, YT] at hc
  obtain ⟨⟨⟨⟨h1, h2⟩, h3⟩, _⟩, h5⟩ := hc
  refine wp_region_any hm ?_
  exact gf (iy ((jM h1 t' G h2).1 h3 _ _ a w h5 h) (Zk w.heap.size w).drew)
theorem lY {t : PT} {c : Bool} (hp : fN c ops = some t) : fp ops t = true := by
 unfold fN at hp
 generalize mE c .any ops ops.size (Array.replicate ops.size false) = t' at hp
 unfold xo at hp
 cases hc : (Region.noSelect ops && t'.ok && !t'.chain && fp ops t' && ii (wh c) .any ops t' ops.size (Array.replicate ops.size false)) with
 | false => rw [hc] at hp; cases hp
 | true =>
  rw [hc] at hp
  simp only [YC, Yy] at hp
  subst hp
  simp only [Yz] at hc
  exact hc.1.2
end
end Go.Rv
