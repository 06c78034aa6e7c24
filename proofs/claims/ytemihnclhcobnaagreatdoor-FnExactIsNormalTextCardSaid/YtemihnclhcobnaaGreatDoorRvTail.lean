/- Regions that draw their order: operations that only read or make new memory, in whatever order; the others when nothing else is ready. -/
import Derived.WalkKit
import Derived.StillTail
import Derived.Deep.Quiet
import Derived.Below
namespace Go.Rv
set_option linter.unusedSimpArgs false
open Go.RowKit (Below)
abbrev ajX := @decide_eq_true
abbrev ajY := @cond_false
abbrev ajZ := @cond_true
abbrev aj0 := @Bool.and_eq_true
abbrev aj1 := @Option.some.injEq
abbrev aj2 := @decide_eq_false
abbrev aj3 := @Nat.eq_of_beq_eq_true
abbrev aj4 := @List.length_cons
abbrev aj5 := @Bool.not_true
abbrev aj6 := @List.length_append
abbrev aj7 := @Nat.pow_le_pow_right
abbrev aj8 := @Nat.le_refl
abbrev aj9 := @Bool.true_and
abbrev aka := @Nat.lt_of_lt_of_le
abbrev akb := @Result.andThen_ok
abbrev akc := @Int.toNat_natCast
abbrev akd := @List.all_cons
abbrev ake := @List.mem_cons_of_mem
abbrev akf := @List.mem_cons
abbrev akg := @Nat.lt_or_ge
abbrev akh := @List.append_nil
abbrev aki := @List.length_nil
abbrev akj := @Int.natCast_nonneg
abbrev akk := @Sem.run_bind
abbrev akl := @Bool.not_false
abbrev akm := @Bool.not_eq_true'
abbrev akn := @List.getElem_mem
abbrev ako := @List.mem_cons_self
abbrev akp := @Prod.mk.injEq
abbrev akq := @List.mem_map
abbrev akr := @Sem.run_pure
abbrev aks := @Nat.zero_le
abbrev akt := @List.append_assoc
abbrev aku := @List.all_eq_true
abbrev akv := @Bool.false_and
abbrev akw := @List.eq_nil_of_length_eq_zero
abbrev akx := @List.length_map
abbrev aky := @Nat.eq_of_testBit_eq
abbrev akz := @Nat.le_trans
abbrev akA := @List.length_set
abbrev akB := @Option.map_some
abbrev akC := @List.mem_append
abbrev akD := @List.map_cons
abbrev akE := @Nat.zero_add
abbrev akF := @Nat.pow_lt_pow_right
abbrev akG := @Below.refl
abbrev akH := @List.nil_append
abbrev akI := @Bool.or_eq_true
abbrev akJ := @List.mem_singleton
abbrev akK := @Nat.two_pow_pos
abbrev akL := @Nat.or_lt_two_pow
abbrev akM := @Addr.add_lit
abbrev akN := @Bool.false_eq_true
abbrev akO := @Int.natCast_zero
abbrev akP := @List.countP_cons
abbrev akQ := @Nat.zero_testBit
abbrev akR := @List.flatMap_cons
abbrev akS := @List.take_succ_eq_append_getElem
abbrev akT := @Int.eq_ofNat_of_zero_le
abbrev akU := @List.mem_range
abbrev akV := @Nat.mul_one
abbrev akW := @Nat.not_lt_zero
abbrev akX := @Nat.testBit_and
abbrev akY := @Array.toList_map
abbrev akZ := @List.take_of_length_le
abbrev ak0 := @Nat.add_zero
abbrev ak1 := @Option.getD_some
abbrev ak2 := @Nat.add_assoc
abbrev ak3 := @Bool.or_eq_false_iff
abbrev ak4 := @List.cons_append
abbrev ak5 := @List.mem_of_mem_take
abbrev ak6 := @Nat.mul_le_mul_right
abbrev ak7 := @Bool.false_or
abbrev ak8 := @List.map_nil
abbrev ak9 := @List.range_succ
abbrev ala := @List.not_mem_nil
abbrev alb := @Nat.and_lt_two_pow
abbrev alc := @World.ownsRow_lit
abbrev ald := @Bool.eq_iff_iff
abbrev ale := @Nat.sub_self
abbrev alf := @Nat.mod_eq_of_lt
abbrev alg := @Below.heap_setCell
abbrev alh := @Eq.trans
abbrev ali := @List.drop_zero
abbrev alj := @Nat.testBit_or
abbrev alk := @List.contains_iff_mem
abbrev alm := @List.countP_le_length
abbrev aln := @List.pairwise_iff_getElem
abbrev alo := @Bool.and_self
abbrev alp := @List.length_take
abbrev alq := @List.mem_flatMap
abbrev alr := @List.take_length
abbrev als := @Nat.add_mul
abbrev alu := @Nat.zero_mul
abbrev alv := @UInt8.toNat_ofNat'
abbrev alw := @List.all_append
abbrev alx := @List.map_append
abbrev aly := @Obj.cells.injEq
abbrev alz := @Result.ok.injEq
abbrev alA := @Bool.and_true
abbrev alB := @Bool.or_false
abbrev alC := @List.size_toArray
abbrev alD := @List.take_add_one
abbrev alE := @Bool.and_false
abbrev alF := @Below.heap_alloc
abbrev alG := @IntKind.wrap_i64
abbrev alH := @List.length_drop
abbrev alI := @Nat.and_le_right
abbrev alJ := @List.drop_eq_getElem_cons
abbrev alK := @List.countP_pos_iff
abbrev alL := @List.replicate_succ
abbrev alM := @Option.isSome_iff_exists
abbrev alN := @List.nodup_cons
abbrev alO := @Nat.and_le_left
abbrev alP := @Nat.testBit_xor
abbrev alQ := @Int.cast_ofNat_Int
abbrev alR := @Addr.add_add
abbrev alS := @List.drop_eq_nil_of_le
abbrev alT := @List.mapM_cons
abbrev alU := @List.map_map
abbrev alV := @Nat.beq_refl
abbrev alW := @Nat.testBit_lt_two_pow
abbrev alX := @World.ownsRow_nil
abbrev alY := @List.length_replicate
abbrev alZ := @Nat.le_of_ble_eq_true
abbrev al0 := @List.mem_iff_getElem
abbrev al1 := @Option.map_none
abbrev al2 := @Array.toList_append
abbrev al3 := @List.map_congr_left
abbrev al4 := @List.replicate_zero
abbrev al5 := @Bool.or_true
abbrev al6 := @List.all_nil
abbrev al7 := @List.map_set
abbrev al8 := @List.set_cons_succ
abbrev al9 := @List.set_cons_zero
abbrev ama := @Nat.eq_zero_or_pos
abbrev amb := @List.length_range
abbrev amc := @List.nodup_append
abbrev amd := @Nat.one_mul
abbrev ame := @UInt8.ofNat_toNat
abbrev amf := @Value.slice.injEq
abbrev amg := @run_equalIn_bool'
abbrev amh := @Addr.mk.injEq
abbrev ami := @List.map_toArray
abbrev amj := @Nat.testBit_succ
abbrev amk := @Nat.testBit_zero
abbrev aml := @wp_block
abbrev amm := @Bool.true_or
abbrev amn := @Nat.sub_zero
abbrev amo := @List.foldl_cons
abbrev amp := @List.mem_filter
abbrev amq := @Option.some.inj
abbrev amr := @UInt8.toNat_inj
abbrev ams := @List.drop_drop
abbrev amt := @List.drop_take
abbrev amu := @List.take_take
abbrev amv := @Bool.beq_comm
abbrev amw := @List.take_set
abbrev amx := @Array.getElem?_eq_getElem
abbrev amy := @Array.getElem?_eq_some_iff
abbrev amz := @List.ext_getElem?
abbrev amA := @List.getD_eq_getElem?_getD
abbrev amB := @List.getElem?_append_left
abbrev amC := @List.getElem?_append_right
abbrev amD := @List.getElem?_cons_succ
abbrev amE := @List.getElem?_cons_zero
abbrev amF := @List.getElem?_eq_getElem
abbrev amG := @List.getElem?_eq_none
abbrev amH := @List.getElem?_eq_some_iff
abbrev amI := @List.getElem?_map
abbrev amJ := @List.getElem?_set
abbrev amK := @List.getElem?_set_ne
abbrev amL := @List.getElem?_set_self
abbrev amM := @List.getElem?_take
abbrev amN := @List.getElem?_take_of_lt
abbrev amO := @List.mem_iff_getElem?
abbrev amP := @List.mem_of_getElem?
abbrev amQ := @World.block_lt_of_cell?
abbrev amR := @World.cell?_alloc_old
abbrev amS := @World.cell?_of_block

def bB : Op -> Bool
 | .move (.const (.slice ..)) | .assign (.const (.slice ..)) => false
 | .move _ | .assign _ | .pick .. | .load .. | .binOp .. | .unOp .. | .fieldAddr .. | .field .. | .indexAddr .. | .index .. | .extract .. => true
 | .convert src dst _ => !(Nat.beq src dst)
 | .makeFunc .. | .lookup .. | .nilCheck .. => true
 | .call { callee := .value _, .. } => true
 | .call { callee := .builtin .len, .. } | .call { callee := .builtin .max, .. } | .call { callee := .builtin .min, .. } => true
 | _ => false
def xG : Op -> Bool
 | .move (.const (.slice ..)) | .assign (.const (.slice ..)) => false
 | .move _ | .assign _ | .pick .. | .binOp .. | .unOp .. | .fieldAddr .. | .field .. | .extract .. | .nilCheck .. => true
 | _ => false
def nw : Op -> Bool
 | .build .. | .slice .. => true
 | _ => false
def fR (o : Op) : Bool := xG o || nw o
def fi (o : Op) : Bool := bB o || nw o
def cg : Op -> Bool
 | .call { callee := .value _, .. } => true
 | _ => false
def fo (o : Op) : Bool :=
 bB o || match o with
 | .move _ | .assign _ | .alloc _ | .box .. | .build .. | .slice .. | .makeSlice .. | .buildSlice .. | .makeMap .. => true
 | _ => false

def fX : Op -> Bool
 | .call { callee := .builtin .append, .. } => true
 | _ => false
def ze (c : Bool) (o : Op) : Bool := cond c (fo o) (fo o || fX o)

structure Lat (G : Nat -> Prop) (w w' : World) : Prop where
 os : w'.os = w.os
 tape : w'.tape = w.tape
 output : w'.output = w.output
 size : w.heap.size <= w'.heap.size
 block : ∀ k, k < w.heap.size -> ¬ G k -> w'.heap[k]? = w.heap[k]?
theorem Lat.of {G : Nat -> Prop} {w w' : World} (h : Below w.heap.size w w') : Lat G w w' := ⟨h.os, h.tape, h.output, h.size, fun k hk _ => h.block k hk⟩
theorem Lat.refl {G : Nat -> Prop} (w : World) : Lat G w w := Lat.of (akG _ _)
theorem Lat.trans {G : Nat -> Prop} {a b c : World} (h : Lat G a b) (k : Lat G b c) : Lat G a c :=
 ⟨k.os.trans h.os, k.tape.trans h.tape, k.output.trans h.output, akz h.size k.size, fun i hi hg => (k.block i (aka hi h.size) hg).trans (h.block i hi hg)⟩
theorem Lat.cell {G : Nat -> Prop} {w w' : World} (h : Lat G w w') {p : Addr} (hp : p.block < w.heap.size) (hg : ¬ G p.block) : w'.cell? p = w.cell? p := amS (w := w) (h.block p.block hp hg)
theorem Lat.weak {G G' : Nat -> Prop} {w w' : World} (h : Lat G w w') (hg : ∀ k, G k -> G' k) : Lat G' w w' := ⟨h.os, h.tape, h.output, h.size, fun k hk hn => h.block k hk fun hG => hn (hg k hG)⟩
theorem Lat.below {w w' : World} (h : Lat (fun _ => False) w w') : Below w.heap.size w w' := ⟨h.os, h.tape, h.output, h.size, fun k hk => h.block k hk id⟩

section
variable {P : Program} {ops : Array Oper} {md : Region.Mode} {Q' : Exit -> Act -> World -> Prop} {G : Nat -> Prop} {fr : Op -> Bool}

def Ae (P : Program) (K : Value -> World -> Prop) : Result Next -> Prop
 | .ok (.value u) w' => K u w'
 | .ok .skip w' => K undef w'
 | .ok (.enter f args) w' => Calls P f args w' (fun e w'' => ∃ u, e = .returned u /\ K u w'')
 | _ => False
def dF (P : Program) (o : Oper) (a : Act) (w : World) (K : Value -> World -> Prop) : Prop := Ae P K ((execOp a.eval o).run P w)

theorem pz {K K' : Value -> World -> Prop} (h : ∀ v w, K v w -> K' v w) {r : Result Next} (hr : Ae P K r) : Ae P K' r := by
 cases r with
 | halt x w => exact hr
 | ok n w =>
  cases n <;> first | exact h _ _ hr | exact hr | skip
  exact Calls.mono hr fun e w' ⟨u, h1, h2⟩ => ⟨u, h1, h _ _ h2⟩
theorem cR {o : Oper} {a : Act} {w : World} {K K' : Value -> World -> Prop} (h : ∀ v w, K v w -> K' v w) (hr : dF P o a w K) : dF P o a w K' := pz h hr

theorem yh {o : Oper} {a : Act} {w : World} {K : Act -> World -> Prop} (h : dF P o a w fun v w' => K (a.put o.dst v) w') : o.wp P a w K Q' := by
 unfold dF at h
 unfold Oper.wp
 generalize (execOp a.eval o).run P w = r at h
 cases r with
 | halt x w => exact h.elim
 | ok n w =>
  cases n <;> first | exact h | exact h.elim | skip
  exact Calls.mono h fun e w' ⟨u, h1, h2⟩ => by subst h1; exact h2

def dI (P : Program) (o : Oper) (a : Act) (w : World) (v : Value) : Prop := dF P o a w fun u w' => u = v /\ Below w.heap.size w w'

def Yb (P : Program) (G : Nat -> Prop) (ops : Array Oper) (o : Oper) (v : Value) (a : Act) (w : World) : Prop :=
 (Region.wanted o (yielded ops a.tmps) = true /\ (∀ w', Lat G w w' -> dI P o a w' v) /\ (fR o.op = true -> ∀ w', dI P o a w' v)) \/ (Region.wanted o (yielded ops a.tmps) = false /\ v = undef)

theorem fV {w w1 w2 : World} (h : Below w.heap.size w w1) (h' : Below w1.heap.size w1 w2) : Below w.heap.size w w2 := h.trans (h'.mono h.size)

theorem Yb.later {o : Oper} {v : Value} {a : Act} {w w1 : World} (h : Yb P G ops o v a w) (hb : Lat G w w1) : Yb P G ops o v a w1 :=
 h.imp (fun ⟨h1, h2, h3⟩ => ⟨h1, fun w' hb' => h2 w' (hb.trans hb'), h3⟩) id

def opF (P : Program) (G : Nat -> Prop) (fr : Op -> Bool) (ops : Array Oper) (i : Nat) (K : Act -> World -> Prop) (a : Act) (w : World) : Prop :=
 match ops[i]? with
 | none => K a w
 | some o => if Region.wanted o (yielded ops a.tmps) then dF P o a w (fun v w' => (fr o.op = true -> Lat G w w') /\ K (a.put o.dst v) w') else K (a.put o.dst undef) w

theorem De {i : Nat} {K K' : Act -> World -> Prop} {a : Act} {w : World} (hK : ∀ a w, K a w -> K' a w) (h : opF P G fr ops i K a w) : wpOp P ops Q' i K' a w := by
 unfold opF at h
 unfold wpOp
 split at h
 ·rename_i ho
  simp only [ho]
  exact hK _ _ h
 ·rename_i o ho
  simp only [ho]
  split at h
  ·rename_i hw
   simp only [hw, if_true]
   exact .inl (yh (cR (fun v w h => hK _ _ h.2) h))
  ·rename_i hw
   simp only [hw]
   exact hK _ _ h

def p7 (P : Program) (G : Nat -> Prop) (fr : Op -> Bool) (md : Region.Mode) (ops : Array Oper) (Q' : Exit -> Act -> World -> Prop) : Nat -> Array Bool -> Act -> World -> Prop
 | 0, listed, a, w => ∀ w', Below w.heap.size w w' -> Region.ready md ops listed = [] /\ Q' .normal a w'
 | f + 1, listed, a, w => ∀ w', Below w.heap.size w w' -> (Region.ready md ops listed = [] -> Q' .normal a w') /\
   ∀ i ∈ Region.ready md ops listed, opF P G fr ops i (p7 P G fr md ops Q' f (listed.setIfInBounds i true)) a w'

theorem je : ∀ {f : Nat} {listed : Array Bool} {a : Act} {w w1 : World}, p7 P G fr md ops Q' f listed a w -> Below w.heap.size w w1 -> p7 P G fr md ops Q' f listed a w1
 | 0, _, _, _, _, h, hb => fun w' hb' => h w' (fV hb hb')
 | _ + 1, _, _, _, _, h, hb => fun w' hb' => h w' (fV hb hb')

theorem gN : ∀ {f : Nat} {listed : Array Bool} {a : Act} {w : World}, p7 P G fr md ops Q' f listed a w -> wpAny P md ops Q' f listed a w
 | 0, _, _, w, h => h w (akG _ _)
 | _ + 1, _, _, w, h => ⟨(h w (akG _ _)).1, fun i hi => De (fun _ _ h => gN h) ((h w (akG _ _)).2 i hi)⟩

theorem xB {i : Nat} {oi : Oper} {v : Value} {a : Act} {w : World} {K : Act -> World -> Prop} (hi : ops[i]? = some oi) (hy : Yb P G ops oi v a w) (hK : ∀ w', Below w.heap.size w w' -> K (a.put oi.dst v) w') : opF P G fr ops i K a w := by
 unfold opF
 simp only [hi]
 rcases hy with ⟨hw, hs, _⟩ | ⟨hw, rfl⟩
 ·simp only [hw, if_true]
  exact cR (fun u w' ⟨e, hb⟩ => ⟨fun _ => Lat.of hb, by rw [e]; exact hK _ hb⟩) (hs w (Lat.refl _))
 ·simp only [hw]
  exact hK _ (akG _ _)

theorem sO {i : Nat} {oi : Oper} {v : Value} {D : Nat -> Bool} (hi : ops[i]? = some oi)
  (hD : ∀ j oj, ops[j]? = some oj -> D j = true -> ∃ e ∈ oj.after, Region.binds md e = true /\ (e.on = i \/ D e.on = true)) (hsel : ∀ (j : Nat) (o : Oper) cs b, ops[j]? = some o -> o.op ≠ .select cs b) :
  ∀ (f : Nat) (listed : Array Bool) (a : Act) (w : World),
   (∀ j oj, ops[j]? = some oj -> j ≠ i -> listed.getD j true = false -> D j = false -> oi.apart ops oj = true /\ (fr oj.op = true \/ fR oi.op = true)) ->
   (∀ j, D j = true -> listed.getD j true = false) ->
   i ∈ Region.ready md ops listed -> Yb P G ops oi v a w ->
   p7 P G fr md ops Q' f (listed.setIfInBounds i true) (a.put oi.dst v) w -> p7 P G fr md ops Q' (f + 1) listed a w := by
 intro f
 induction f with
 | zero =>
  intro listed a w _ _ hr hy H w' hb
  refine ⟨fun h => (by rw [h] at hr; cases hr), fun j hj => ?_⟩
  by_cases hji : j = i
  ·subst hji
   exact xB hi (hy.later (Lat.of hb)) fun w'' hb' => je H (fV hb hb')
  ·have := (H w (akG _ _)).1
   have h2 := ready_mono hj hji
   rw [this] at h2
   cases h2
 | succ f ih =>
  intro listed a w hfree hund hr hy H w' hb
  have hun := (mem_ready.1 hr).1
  refine ⟨fun h => (by rw [h] at hr; cases hr), fun j hj => ?_⟩
  by_cases hji : j = i
  ·subst hji
   exact xB hi (hy.later (Lat.of hb)) fun w'' hb' => je H (fV hb hb')
  ·have h1 := (H w' hb).2 j (ready_mono hj hji)
   obtain ⟨hjun, oj, hoj, hall⟩ := mem_ready.1 hj
   have hnot : D j = false := by
    cases hd : D j with
    | false => rfl
    | true =>
     exfalso
     obtain ⟨e, he, hbd, hor⟩ := hD j oj hoj hd
     have h1 := hall e he hbd
     rcases hor with heq | hde
     ·rw [heq, getD_both hun] at h1
      cases h1
     ·rw [getD_both (hund _ hde)] at h1
      cases h1
   obtain ⟨hap, hfr⟩ := hfree j oj hoj hji hjun hnot
   obtain ⟨p1, p2, p3⟩ := Oper.apart_spec hap
   have hfree' : ∀ k ok, ops[k]? = some ok -> k ≠ i -> (listed.setIfInBounds j true).getD k true = false -> D k = false -> oi.apart ops ok = true /\ (fr ok.op = true \/ fR oi.op = true) := fun k ok hk hki hu hno => by
    refine hfree k ok hk hki ?_ hno
    by_cases hjk : j = k
    ·subst hjk; exact hjun
    ·rw [getD_set_ne true hjk] at hu; exact hu
   have hund' : ∀ k, D k = true -> (listed.setIfInBounds j true).getD k true = false := fun k hk => by
    have hjk : j ≠ k := fun e => by rw [e, hk] at hnot; cases hnot
    rw [getD_set_ne true hjk]
    exact hund k hk
   have hyp : ∀ u w2, (Lat G w' w2 \/ fR oi.op = true) -> Yb P G ops oi v (a.put oj.dst u) w2 := fun u w2 hb2 => by
    have still : ∀ w3, dI P oi a w3 v -> dI P oi (a.put oj.dst u) w3 v := fun w3 h => by
     unfold dI dF at *
     rw [execOp_put oi (fun cs b => hsel i oi cs b hi) a oj.dst u p3]
     exact h
    rcases hy with ⟨h1, h2, h3⟩ | ⟨h1, h2⟩
    ·refine .inl ⟨by rw [wanted_put oi a oj.dst u p3]; exact h1, fun w3 hb3 => still w3 ?_, fun hp w3 => still w3 (h3 hp w3)⟩
     rcases hb2 with hb2 | hp
     ·exact h2 w3 (((Lat.of hb).trans hb2).trans hb3)
     ·exact h3 hp w3
    ·exact .inr ⟨by rw [wanted_put oi a oj.dst u p3]; exact h1, h2⟩
   have go : ∀ u w2, (Lat G w' w2 \/ fR oi.op = true) -> p7 P G fr md ops Q' f ((listed.setIfInBounds i true).setIfInBounds j true) ((a.put oi.dst v).put oj.dst u) w2 -> p7 P G fr md ops Q' (f + 1) (listed.setIfInBounds j true) (a.put oj.dst u) w2 := fun u w2 hb2 h => by
    refine ih (listed.setIfInBounds j true) (a.put oj.dst u) w2 hfree' hund' (ready_mono hr (Ne.symm hji)) (hyp u w2 hb2) ?_
    rw [<- Act.put_comm a v u p2, Array.setIfInBounds_comm _ _ hji]
    exact h
   unfold opF at h1 ⊢
   simp only [hoj] at h1 ⊢
   rw [wanted_put oj a oi.dst v p1] at h1
   split
   ·rename_i hw
    simp only [hw, if_true] at h1
    unfold dF at h1 ⊢
    rw [execOp_put oj (fun cs b => hsel j oj cs b hoj) a oi.dst v p1] at h1
    exact pz (fun u w2 ⟨hbf, hK⟩ => ⟨hbf, go u w2 (hfr.imp hbf id) hK⟩) h1
   ·rename_i hw
    simp only [hw] at h1
    exact go _ _ (.inl (Lat.refl _)) h1

def WP (md : Region.Mode) (ops : Array Oper) (i : Nat) : List Nat :=
 (List.range ops.size).foldl (fun D j => match ops[j]? with
  | some oj => cond (oj.after.any fun e => Region.binds md e && (e.on == i || D.contains e.on)) (j :: D) D
  | none => D) []
def WQ (fr : Op -> Bool) (md : Region.Mode) (ops : Array Oper) (listed : Array Bool) (i : Nat) (D : List Nat) : Bool :=
 (D.all fun j => !listed.getD j true && match ops[j]? with
  | some oj => oj.after.any fun e => Region.binds md e && (e.on == i || D.contains e.on)
  | none => false) &&
 (List.range ops.size).all fun j => j == i || listed.getD j true || D.contains j || match ops[j]?, ops[i]? with
  | some oj, some oi => oi.apart ops oj && (fr oj.op || fR oi.op)
  | _, _ => true
def xa (fr : Op -> Bool) (md : Region.Mode) (ops : Array Oper) (listed : Array Bool) (i : Nat) : Bool := WQ fr md ops listed i (WP md ops i)

theorem tf {i : Nat} {oi : Oper} {listed : Array Bool} (hi : ops[i]? = some oi) (h : xa fr md ops listed i = true) :
  ∃ D : Nat -> Bool, (∀ j oj, ops[j]? = some oj -> D j = true -> ∃ e ∈ oj.after, Region.binds md e = true /\ (e.on = i \/ D e.on = true)) /\ (∀ j, D j = true -> listed.getD j true = false) /\
   ∀ j oj, ops[j]? = some oj -> j ≠ i -> listed.getD j true = false -> D j = false -> oi.apart ops oj = true /\ (fr oj.op = true \/ fR oi.op = true) := by
 unfold xa at h
 generalize WP md ops i = D at h
 simp only [WQ, aj0, aku, akU, akm] at h
 obtain ⟨h1, h2⟩ := h
 refine ⟨fun j => D.contains j, fun j oj hj hd => ?_, fun j hd => (h1 j (by simpa using hd)).1, fun j oj hj hne hun hno => ?_⟩
 ·have := (h1 j (by simpa using hd)).2
  rw [hj] at this
  obtain ⟨k, hk, hk2⟩ := Array.any_eq_true.1 this
  simp only [aj0, akI, beq_iff_eq] at hk2
  exact ⟨_, Array.getElem_mem hk, hk2.1, hk2.2⟩
 ·have := h2 j (amy.1 hj).1
  simp only [hj, hi, akI, beq_iff_eq, hne, false_or, hun, akN, hno, aj0] at this
  exact this

def q8 (fr : Op -> Bool) (md : Region.Mode) (ops : Array Oper) : List (Nat × Bool) -> Array Bool -> Bool
 | [], listed => Region.ready md ops listed == []
 | (i, true) :: l, listed => Region.ready md ops listed == [i] && q8 fr md ops l (listed.setIfInBounds i true)
 | (i, false) :: l, listed => (Region.ready md ops listed).contains i && xa fr md ops listed i && q8 fr md ops l (listed.setIfInBounds i true)

def wJ (P : Program) (G : Nat -> Prop) (fr : Op -> Bool) (ops : Array Oper) (Q' : Exit -> Act -> World -> Prop) : List (Nat × Bool) -> Act -> World -> Prop
 | [], a, w => ∀ w', Below w.heap.size w w' -> Q' .normal a w'
 | (i, true) :: l, a, w => ∀ w', Below w.heap.size w w' -> opF P G fr ops i (wJ P G fr ops Q' l) a w'
 | (i, false) :: l, a, w => ∃ o v, ops[i]? = some o /\ Yb P G ops o v a w /\ wJ P G fr ops Q' l (a.put o.dst v) w

theorem Ch {i : Nat} {K K' : Act -> World -> Prop} {a : Act} {w : World} (hK : ∀ a w, K a w -> K' a w) (h : opF P G fr ops i K a w) : opF P G fr ops i K' a w := by
 unfold opF at h ⊢
 split at h
 ·rename_i ho
  exact hK _ _ h
 ·rename_i o ho
  split at h
  ·rename_i hw
   simp only [hw, if_true]
   exact cR (fun v w h => ⟨h.1, hK _ _ h.2⟩) h
  ·rename_i hw
   simp only [hw]
   exact hK _ _ h

theorem uN (hsel : Region.noSelect ops = true) : ∀ (l : List (Nat × Bool)) (listed : Array Bool) (a : Act) (w : World), q8 fr md ops l listed = true -> wJ P G fr ops Q' l a w -> p7 P G fr md ops Q' l.length listed a w
 | [], listed, a, w, hB, h => fun w' hb => ⟨by simpa [q8] using hB, h w' hb⟩
 | (i, true) :: l, listed, a, w, hB, h => by
  simp only [q8, aj0, beq_iff_eq] at hB
  intro w' hb
  refine ⟨fun h0 => (by rw [hB.1] at h0; cases h0), fun j hj => ?_⟩
  rw [hB.1] at hj
  simp only [akJ] at hj
  subst hj
  exact Ch (fun a' w' hw => uN hsel l _ a' w' hB.2 hw) (h w' hb)
 | (i, false) :: l, listed, a, w, hB, h => by
  simp only [q8, aj0] at hB
  obtain ⟨⟨h1, h2⟩, h3⟩ := hB
  obtain ⟨o, v, ho, hy, hK⟩ := h
  obtain ⟨D, d1, d2, d3⟩ := tf ho h2
  exact sO ho d1 (Region.noSelect_spec hsel) _ listed a w d3 d2 (by simpa using h1) hy (uN hsel l _ _ w h3 hK)

def kh (md : Region.Mode) (ops : Array Oper) : Nat -> Array Bool -> List (Nat × Bool)
 | 0, _ => []
 | f + 1, listed => match Region.ready md ops listed with
  | [] => []
  | [i] => (i, true) :: kh md ops f (listed.setIfInBounds i true)
  | r => match r.find? fun i => match ops[i]? with | some o => fi o.op && !(cg o.op) | none => false with
   | some i => (i, false) :: kh md ops f (listed.setIfInBounds i true)
   | none => match r.find? fun i => match ops[i]? with | some o => cg o.op | none => false with
    | some i => (i, false) :: kh md ops f (listed.setIfInBounds i true)
    | none => []

def zY (ops : Array Oper) (l : List (Nat × Bool)) : Option (List (Nat × Bool)) :=
 cond (Region.noSelect ops && Nat.beq l.length ops.size && q8 fo .any ops l (Array.replicate ops.size false)) (some l) none
def pu (ops : Array Oper) : Option (List (Nat × Bool)) := zY ops (kh .any ops ops.size (Array.replicate ops.size false))

theorem Cy {id : Nat} {a : Act} {w : World} {l : List (Nat × Bool)} (hm : P.follows .mixedOrders = true) (hp : pu ops = some l) (h : wJ P G fo ops Q' l a w) : (Code.region id ops true).wp P Q' a w := by
 unfold pu at hp
 generalize kh .any ops ops.size (Array.replicate ops.size false) = l' at hp
 unfold zY at hp
 cases hc : (Region.noSelect ops && Nat.beq l'.length ops.size && q8 fo .any ops l' (Array.replicate ops.size false)) with
 | false => rw [hc] at hp; cases hp
 | true =>
  rw [hc] at hp
  simp only [ajZ, aj1] at hp
  subst hp
  simp only [aj0] at hc
  obtain ⟨⟨h1, h2⟩, h3⟩ := hc
  refine wp_region_any hm ?_
  have := gN (je (uN h1 _ _ a w h3 h) (akG w.heap.size w).drew)
  rw [aj3 h2] at this
  exact this
inductive PT where
 | done
 | quiet (i : Nat) (t : PT)
 | all (c : PT)
 | pick (i : Nat) (t alt : PT)
 | nil

def PT.alts : PT -> List Nat
 | .pick i _ alt => i :: alt.alts
 | _ => []

def iQ (fr : Op -> Bool) (md : Region.Mode) (ops : Array Oper) : PT -> Nat -> Array Bool -> Bool
 | .done, n, listed => Nat.beq n 0 && Region.ready md ops listed == []
 | .quiet i t, n, listed => match n with
  | 0 => false
  | m + 1 => (Region.ready md ops listed).contains i && xa fr md ops listed i && iQ fr md ops t m (listed.setIfInBounds i true)
 | .all c, n, listed => match n with
  | 0 => false
  | _ + 1 => !c.alts.isEmpty && Region.ready md ops listed == c.alts && iQ fr md ops c n listed
 | .pick i t alt, n, listed => match n with
  | 0 => false
  | m + 1 => iQ fr md ops t m (listed.setIfInBounds i true) && iQ fr md ops alt n listed
 | .nil, _, _ => true

def gT (P : Program) (G : Nat -> Prop) (fr : Op -> Bool) (ops : Array Oper) (Q' : Exit -> Act -> World -> Prop) : PT -> Act -> World -> Prop
 | .done, a, w => ∀ w', Below w.heap.size w w' -> Q' .normal a w'
 | .quiet i t, a, w => ∃ (G' : Nat -> Prop) (o : Oper) (v : Value), (∀ k, G' k -> G k) /\ ops[i]? = some o /\ Yb P G' ops o v a w /\ gT P G' fr ops Q' t (a.put o.dst v) w
 | .all c, a, w => ∀ w', Below w.heap.size w w' -> gT P G fr ops Q' c a w'
 | .pick i t alt, a, w => opF P G fr ops i (gT P G fr ops Q' t) a w /\ gT P G fr ops Q' alt a w
 | .nil, _, _ => True

def PT.chain : PT -> Bool
 | .pick .. | .nil => true
 | _ => false
def PT.ok : PT -> Bool
 | .done => true
 | .quiet _ t => t.ok && !t.chain
 | .all c => c.chain && c.ok
 | .pick _ t alt => t.ok && !t.chain && alt.ok && alt.chain
 | .nil => true

theorem Ci {G' : Nat -> Prop} (hg : ∀ k, G' k -> G k) {i : Nat} {K K' : Act -> World -> Prop} (hK : ∀ a w, K a w -> K' a w) {a : Act} {w : World} (h : opF P G' fr ops i K a w) : opF P G fr ops i K' a w := by
 unfold opF at h ⊢
 split at h
 ·exact hK _ _ h
 ·split at h
  ·rename_i hw
   simp only [hw, if_true]
   exact cR (fun v w h => ⟨fun hf => (h.1 hf).weak hg, hK _ _ h.2⟩) h
  ·rename_i hw
   simp only [hw]
   exact hK _ _ h
theorem fh {fr : Op -> Bool} : ∀ (t : PT) {G G' : Nat -> Prop} (_ : ∀ k, G' k -> G k) (a : Act) (w : World), gT P G' fr ops Q' t a w -> gT P G fr ops Q' t a w
 | .done, _, _, _, _, _, h => h
 | .quiet _ _, _, _, hg, _, _, ⟨G2, o, v, h1, h2⟩ => ⟨G2, o, v, fun k hk => hg k (h1 k hk), h2⟩
 | .all c, _, _, hg, a, _, h => fun w' hb => fh c hg a w' (h w' hb)
 | .pick _ t alt, _, _, hg, a, w, ⟨h1, h2⟩ => ⟨Ci hg (fun a w h => fh t hg a w h) h1, fh alt hg a w h2⟩
 | .nil, _, _, _, _, _, h => h
theorem wN {G' : Nat -> Prop} (hg : ∀ k, G' k -> G k) : ∀ (f : Nat) (listed : Array Bool) (a : Act) (w : World), p7 P G' fr md ops Q' f listed a w -> p7 P G fr md ops Q' f listed a w
 | 0, _, _, _, h => h
 | f + 1, _, _, _, h => fun w' hb => ⟨(h w' hb).1, fun i hi => Ci hg (fun a w h => wN hg f _ a w h) ((h w' hb).2 i hi)⟩

theorem kv (hsel : Region.noSelect ops = true) : ∀ (t : PT) (G : Nat -> Prop), t.ok = true ->
  (t.chain = false -> ∀ (n : Nat) (listed : Array Bool) (a : Act) (w : World), iQ fr md ops t n listed = true -> gT P G fr ops Q' t a w -> p7 P G fr md ops Q' n listed a w) /\
  (t.chain = true -> ∀ (m : Nat) (listed : Array Bool) (a : Act) (w : World), iQ fr md ops t (m + 1) listed = true -> gT P G fr ops Q' t a w -> ∀ i ∈ t.alts, opF P G fr ops i (p7 P G fr md ops Q' m (listed.setIfInBounds i true)) a w)
 | .done, G, _ => ⟨fun _ n listed a w hB h => by
   simp only [iQ, aj0, beq_iff_eq] at hB
   obtain rfl := aj3 hB.1
   exact fun w' hb => ⟨hB.2, h w' hb⟩, fun h => by cases h⟩
 | .quiet i t, G, hok => ⟨fun _ n listed a w hB h => by
   simp only [PT.ok, aj0, akm] at hok
   cases n with
   | zero => cases hB
   | succ m =>
    simp only [iQ, aj0] at hB
    obtain ⟨⟨h1, h2⟩, h3⟩ := hB
    obtain ⟨G', o, v, hgg, ho, hy, hK⟩ := h
    obtain ⟨D, d1, d2, d3⟩ := tf ho h2
    exact wN hgg _ _ _ _ (sO ho d1 (Region.noSelect_spec hsel) _ listed a w d3 d2 (by simpa using h1) hy ((kv hsel t G' hok.1).1 hok.2 m _ _ w h3 hK)), fun h => by cases h⟩
 | .all c, G, hok => ⟨fun _ n listed a w hB h => by
   simp only [PT.ok, aj0] at hok
   cases n with
   | zero => cases hB
   | succ m =>
    simp only [iQ, aj0, beq_iff_eq, akm] at hB
    obtain ⟨⟨h1, h2⟩, h3⟩ := hB
    intro w' hb
    refine ⟨fun h0 => (by rw [h2] at h0; rw [h0] at h1; cases h1), fun j hj => ?_⟩
    rw [h2] at hj
    exact (kv hsel c G hok.2).2 hok.1 m listed a w' h3 (h w' hb) j hj, fun h => by cases h⟩
 | .pick i t alt, G, hok => ⟨fun h => (by cases h), fun _ m listed a w hB h => by
   simp only [PT.ok, aj0, akm] at hok
   obtain ⟨⟨⟨k1, k2⟩, k3⟩, k4⟩ := hok
   simp only [iQ, aj0] at hB
   intro j hj
   simp only [PT.alts, akf] at hj
   rcases hj with rfl | hj
   ·exact Ch (fun a' w' hw => (kv hsel t G k1).1 k2 m _ a' w' hB.1 hw) h.1
   ·exact (kv hsel alt G k3).2 k4 m listed a w hB.2 h.2 j hj⟩
 | .nil, G, _ => ⟨fun h => (by cases h), fun _ m listed a w hB h i hi => by simp [PT.alts] at hi⟩

def nS (c : Bool) (md : Region.Mode) (ops : Array Oper) : Nat -> Array Bool -> PT
 | 0, _ => .done
 | f + 1, listed => match Region.ready md ops listed with
  | [] => .done
  | [i] => .all (.pick i (nS c md ops f (listed.setIfInBounds i true)) .nil)
  | r => match r.find? fun i => match ops[i]? with | some o => fi o.op && !(cg o.op) && xa (ze c) md ops listed i | none => false with
   | some i => .quiet i (nS c md ops f (listed.setIfInBounds i true))
   | none => match r.find? fun i => match ops[i]? with | some o => c && cg o.op && xa (ze c) md ops listed i | none => false with
    | some i => .quiet i (nS c md ops f (listed.setIfInBounds i true))
    | none => .all (r.foldr (fun i acc => .pick i (nS c md ops f (listed.setIfInBounds i true)) acc) .nil)

def fK (ops : Array Oper) : PT -> Bool
 | .done | .nil => true
 | .quiet i t => (match ops[i]? with | some o => fi o.op | none => false) && fK ops t
 | .all c => fK ops c
 | .pick _ t alt => fK ops t && fK ops alt

def At (c : Bool) (ops : Array Oper) (t : PT) : Option PT :=
 cond (Region.noSelect ops && t.ok && !t.chain && fK ops t && iQ (ze c) .any ops t ops.size (Array.replicate ops.size false)) (some t) none
def ge (c : Bool) (ops : Array Oper) : Option PT := At c ops (nS c .any ops ops.size (Array.replicate ops.size false))

theorem rf {id : Nat} {a : Act} {w : World} {t : PT} (hm : P.follows .mixedOrders = true) {c : Bool} (hp : ge c ops = some t) (h : gT P G (ze c) ops Q' t a w) : (Code.region id ops true).wp P Q' a w := by
 unfold ge at hp
 generalize nS c .any ops ops.size (Array.replicate ops.size false) = t' at hp
 unfold At at hp
 cases hc : (Region.noSelect ops && t'.ok && !t'.chain && fK ops t' && iQ (ze c) .any ops t' ops.size (Array.replicate ops.size false)) with
 | false => rw [hc] at hp; cases hp
 | true =>
  rw [hc] at hp
  simp only [ajZ, aj1] at hp
  subst hp
  simp only [aj0, akm] at hc
  obtain ⟨⟨⟨⟨h1, h2⟩, h3⟩, _⟩, h5⟩ := hc
  refine wp_region_any hm ?_
  exact gN (je ((kv h1 t' G h2).1 h3 _ _ a w h5 h) (akG w.heap.size w).drew)
theorem mZ {t : PT} {c : Bool} (hp : ge c ops = some t) : fK ops t = true := by
 unfold ge at hp
 generalize nS c .any ops ops.size (Array.replicate ops.size false) = t' at hp
 unfold At at hp
 cases hc : (Region.noSelect ops && t'.ok && !t'.chain && fK ops t' && iQ (ze c) .any ops t' ops.size (Array.replicate ops.size false)) with
 | false => rw [hc] at hp; cases hp
 | true =>
  rw [hc] at hp
  simp only [ajZ, aj1] at hp
  subst hp
  simp only [aj0] at hc
  exact hc.1.2
end
end Go.Rv
