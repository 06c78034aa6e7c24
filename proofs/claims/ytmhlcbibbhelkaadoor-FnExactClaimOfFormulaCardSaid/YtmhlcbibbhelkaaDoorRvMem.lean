/- The evaluator's operations do what the machine's do: those that make or turn memory. -/
import Derived.Test.YtmhlcbibbhelkaaDoorRvQuiet
import Derived.Great.BuildSlice
import Derived.Laws.OwnMore
namespace Go.Rv
open Go.RowKit (Below)

theorem below_alloc (w : World) (o : Obj) : Below w.heap.size w (w.alloc o) := (Below.refl _ w).alloc (Nat.le_refl _) o

section
variable {I : World → Prop} {P : Program} {L : Lay} {X : Cx I} {lc : List Loc} {β : Type} {o : Oper} {s : St} {a : Act} {w : World} {K : TV → St → Option β} {r : β}

theorem cellS_rel {x : SV} {v : Value} (hc : cellS x = true) (h : relS X lc x v) : v.oneCell' = true ∧ v.cells = #[v] := by
  cases x <;> simp only [cellS, Bool.false_eq_true] at hc <;> simp only [relS] at h
  · subst h; exact ⟨rfl, rfl⟩
  · subst h; exact ⟨rfl, rfl⟩
  · subst h; exact ⟨rfl, rfl⟩
  · obtain ⟨g, _, rfl⟩ := h; exact ⟨rfl, rfl⟩
  · obtain ⟨_, A, n, c, rfl⟩ := h; exact ⟨rfl, rfl⟩
  · obtain ⟨A, n, c, rfl, _⟩ := h; exact ⟨rfl, rfl⟩
  · obtain ⟨vs, rfl, _⟩ := h; exact ⟨rfl, rfl⟩
  · obtain ⟨vs, rfl, _⟩ := h; exact ⟨rfl, rfl⟩
  · obtain ⟨g, _, rfl⟩ := h; exact ⟨rfl, rfl⟩
  · subst h; exact ⟨rfl, rfl⟩
  · subst h; exact ⟨rfl, rfl⟩
  · obtain ⟨⟨A, n, c, rfl, _⟩, _⟩ := h; exact ⟨rfl, rfl⟩
  · rename_i two T
    cases T with
    | nil => obtain rfl : v = .pointer none := h; exact ⟨rfl, rfl⟩
    | node ta tb tl tr => obtain ⟨g, cs, t, z, vl, vr, rfl, _⟩ := h; exact ⟨rfl, rfl⟩
  · subst h; exact ⟨rfl, rfl⟩

theorem cells_rel {x : TV} {l : List SV} {v : Value} (hx : relT X lc x v) (hl : x.cells = some l) (hc : l.all cellS = true) :
    All2 (relS X lc) l v.cells.toList ∧ ∀ u ∈ v.cells.toList, u.oneCell' = true := by
  have key : ∀ (l : List SV) (m : List Value), All2 (relS X lc) l m → l.all cellS = true → ∀ u ∈ m, u.oneCell' = true := by
    intro l m h
    induction h with
    | nil => intro _ u hu; simp at hu
    | cons h1 _ ih =>
      intro hc u hu
      simp only [List.all_cons, Bool.and_eq_true] at hc
      rcases List.mem_cons.1 hu with rfl | hu
      · exact (cellS_rel hc.1 h1).1
      · exact ih hc.2 u hu
  cases x with
  | tup _ => cases hl
  | v x => cases x with
    | one s =>
      simp only [TV.cells, Option.some.injEq] at hl
      subst hl
      simp only [List.all_cons, List.all_nil, Bool.and_true] at hc
      obtain ⟨h1, h2⟩ := cellS_rel hc hx
      rw [h2]
      exact ⟨.cons hx .nil, fun u hu => by simp at hu; subst hu; exact h1⟩
    | agg m =>
      simp only [TV.cells, Option.some.injEq] at hl
      subst hl
      obtain ⟨cs, rfl, h⟩ := hx
      exact ⟨h, key _ _ h hc⟩

theorem emptyRow_len {e : TypeId} {q : Row} (h : emptyRow L e = some q) : q.len = 0 := by
  unfold emptyRow at h
  split at h <;> try (cases h; rfl)
  · split at h <;> cases h; rfl
  · split at h <;> cases h; rfl
  · split at h <;> cases h; rfl
  · cases h
theorem in_zero {q : Row} (h : q.len = 0) {S : Nat → Prop} {wf : World} : q.cellsIn S wf [] := by
  cases hd : q.deep with
  | false =>
    refine (Row.in_plain hd).2 ?_
    have := Row.cells_len hd
    rw [h, Nat.zero_mul] at this
    exact (List.eq_nil_of_length_eq_zero this).symm
  | true =>
    cases q <;> try cases hd
    rename_i e l
    have : l = [] := List.eq_nil_of_length_eq_zero h
    subst this
    exact .nil
theorem frozen_zero {q : Row} (h : q.len = 0) {S : Nat → Prop} {wf : World} : FrozenIn S wf q (.slice none 0 0) :=
  ⟨none, 0, 0, rfl, h.symm, Nat.le_refl _, [], in_zero h, fun m u hm => by simp at hm⟩

theorem whole_zero {t : TypeId} {sz n : Nat} (h : n = 0) {S : Nat → Prop} {wf : World} : Whole S wf t sz n (.slice none 0 0) := ⟨[], ⟨by simp [h], .inl ⟨rfl, h⟩⟩, fun g hg => by cases hg⟩

theorem RelW.pushNil {bl : List Blk} (h : RelW X bl w lc) {e : TypeId} {q : Row} (hq : emptyRow L e = some q) : RelW X (bl ++ [.row e q]) w (lc ++ [.r (.slice none 0 0)]) := by
  refine h.push (Below.refl _ _) ?_ (fun g hg => by simp [Loc.blk, Value.ownBlock] at hg)
  refine relB_new (in_zero (emptyRow_len hq)) ?_
  rw [emptyRow_len hq]
  exact World.ownsRow_nil _ _ _ _

theorem relS_row {j : Nat} {A : Option Addr} {n c : Nat} {lc : List Loc} (h : lc[j]? = some (.r (.slice A n c))) : relS X lc (.row j) (.slice A n c) := ⟨h, A, n, c, rfl⟩

theorem last_loc {ℓ : Loc} {bl : List Blk} {j : Nat} (h : lc.length = bl.length) (hj : j = bl.length) : (lc ++ [ℓ])[j]? = some ℓ := by
  rw [hj, ← h]; simp

theorem s_nil (_ : LayOK P L) {H : Hints} {d : Option Tmp} {t : TypeId} (ho : o.op = .move (.const (.slice none 0 0)) ∨ o.op = .assign (.const (.slice none 0 0))) (hR : Rel X s a w lc)
    (h : (match L.at_ t with
      | .slice e => match emptyRow L e with
        | some q => cond (match d with | some d => memN d H.nils | none => false) (K (one (.fsl e q)) s) (K (one (.row s.blks.length)) (s.add (.row e q)))
        | none => none
      | _ => none) = some r) : Step P X o a w lc s K r := by
  have hrun : (execOp a.eval o).run P w = .ok (.value (.slice none 0 0)) w := by
    unfold execOp
    rcases ho with ho | ho <;> simp [ho, Act.eval]
  split at h
  · split at h
    · rename_i q hq
      cases hc : (match d with | some d => memN d H.nils | none => false) with
      | true =>
        rw [hc] at h
        exact ⟨_, s.blks, [], .value (.slice none 0 0), _, w, h, hrun, fun _ => Below.refl _ _, rfl, ⟨frozen_zero (emptyRow_len hq), whole_zero (emptyRow_len hq)⟩, by simpa using hR.world⟩
      | false =>
        rw [hc] at h
        exact ⟨_, _, [.r (.slice none 0 0)], .value (.slice none 0 0), _, w, h, hrun, fun _ => Below.refl _ _, rfl, relS_row (X := X) (last_loc hR.world.len rfl), hR.world.pushNil hq⟩
    · cases h
  · cases h

theorem zeroCells_rel {f : Bool} : ∀ (cts : List TypeId) (bl : List Blk) (l : List SV) (b : List Blk) (zs : List Value) (lc : List Loc), zeroCells L f cts bl = some (l, b) → All2 (zeroOK L) cts zs → RelW X bl w lc →
    ∃ more, RelW X b w (lc ++ more) ∧ All2 (relS X (lc ++ more)) l zs ∧ l.all cellS = true := by
  intro cts
  induction cts with
  | nil =>
    intro bl l b zs lc h hz hw
    cases hz
    simp only [zeroCells, Option.some.injEq, Prod.mk.injEq] at h
    obtain ⟨rfl, rfl⟩ := h
    exact ⟨[], by simpa using hw, .nil, rfl⟩
  | cons c cts ih =>
    intro bl l b zs lc h hz hw
    cases hz with
    | @cons _ z _ zs hz1 hz2 =>
    unfold zeroOK at hz1
    simp only [zeroCells] at h
    split at h
    · rename_i k hti
      rw [hti] at hz1
      split at h
      · rename_i l' b' hr
        simp only [Option.some.injEq, Prod.mk.injEq] at h; obtain ⟨rfl, rfl⟩ := h
        obtain ⟨more, h1, h2, h3⟩ := ih bl l' b' zs lc hr hz2 hw
        exact ⟨more, h1, .cons hz1 h2, by simpa [cellS] using h3⟩
      · cases h
    · rename_i hti
      rw [hti] at hz1
      split at h
      · rename_i l' b' hr
        simp only [Option.some.injEq, Prod.mk.injEq] at h; obtain ⟨rfl, rfl⟩ := h
        obtain ⟨more, h1, h2, h3⟩ := ih bl l' b' zs lc hr hz2 hw
        exact ⟨more, h1, .cons hz1 h2, by simpa [cellS] using h3⟩
      · cases h
    · rename_i hti
      rw [hti] at hz1
      split at h
      · rename_i l' b' hr
        simp only [Option.some.injEq, Prod.mk.injEq] at h; obtain ⟨rfl, rfl⟩ := h
        obtain ⟨more, h1, h2, h3⟩ := ih bl l' b' zs lc hr hz2 hw
        exact ⟨more, h1, .cons hz1 h2, by simpa [cellS] using h3⟩
      · cases h
    · rename_i e hti
      rw [hti] at hz1
      split at h
      · rename_i q hq
        cases f with
        | true =>
         simp only [cond_true] at h
         split at h
         · rename_i l' b' hr
           simp only [Option.some.injEq, Prod.mk.injEq] at h; obtain ⟨rfl, rfl⟩ := h
           obtain ⟨more, h1, h2, h3⟩ := ih bl l' b' zs lc hr hz2 hw
           refine ⟨more, h1, .cons ?_ h2, by simpa [cellS] using h3⟩
           simp only at hz1
           subst hz1
           exact ⟨frozen_zero (emptyRow_len hq), whole_zero (emptyRow_len hq)⟩
         · cases h
        | false =>
        simp only [cond_false] at h
        split at h
        · rename_i l' b' hr
          simp only [Option.some.injEq, Prod.mk.injEq] at h; obtain ⟨rfl, rfl⟩ := h
          obtain ⟨more, h1, h2, h3⟩ := ih _ l' b' zs (lc ++ [.r (.slice none 0 0)]) hr hz2 (hw.pushNil hq)
          refine ⟨.r (.slice none 0 0) :: more, by simpa using h1, .cons ?_ (by simpa using h2), by simpa [cellS] using h3⟩
          simp only at hz1
          subst hz1
          refine relS_row ?_
          have := loc_more more (last_loc (ℓ := .r (.slice none 0 0)) hw.len rfl)
          simpa using this
        · cases h
      · cases h
    · rename_i e hti
      rw [hti] at hz1
      split at h
      · rename_i l' b' hr
        simp only [Option.some.injEq, Prod.mk.injEq] at h; obtain ⟨rfl, rfl⟩ := h
        obtain ⟨more, h1, h2, h3⟩ := ih bl l' b' zs lc hr hz2 hw
        exact ⟨more, h1, .cons hz1 h2, by simpa [cellS] using h3⟩
      · cases h
    · rename_i k e hti
      rw [hti] at hz1
      split at h
      · rename_i l' b' hr
        simp only [Option.some.injEq, Prod.mk.injEq] at h; obtain ⟨rfl, rfl⟩ := h
        obtain ⟨more, h1, h2, h3⟩ := ih bl l' b' zs lc hr hz2 hw
        exact ⟨more, h1, .cons hz1 h2, by simpa [cellS] using h3⟩
      · cases h
    · rename_i hti
      rw [hti] at hz1
      split at h
      · rename_i l' b' hr
        simp only [Option.some.injEq, Prod.mk.injEq] at h; obtain ⟨rfl, rfl⟩ := h
        obtain ⟨more, h1, h2, h3⟩ := ih bl l' b' zs lc hr hz2 hw
        exact ⟨more, h1, .cons hz1 h2, by simpa [cellS] using h3⟩
      · cases h
    · cases h

theorem zero_of (hL : LayOK P L) (t : TypeId) {f : Bool} {bl b : List Blk} {l : List SV} (h : zeroCells L f (cellTypes L t) bl = some (l, b)) :
    ∃ i z, P.info? t = some i ∧ i.zero = some z ∧ All2 (zeroOK L) (cellTypes L t) z.cells.toList := by
  have ht := hL t
  unfold cellTypes at h ⊢
  have single : ∀ z, infoOK P t z 1 1 → False → True := fun _ _ _ => trivial
  cases hti : L.at_ t with
  | struct fs cts b cmp =>
    rw [hti] at ht
    obtain ⟨_, zc, _, _, ⟨i, hi, hz, _, _⟩, hzc, _⟩ := ht
    exact ⟨i, .agg zc, hi, hz, hzc⟩
  | int k =>
    rw [hti] at ht
    obtain ⟨_, i, hi, hz, _, _⟩ := ht
    exact ⟨i, _, hi, hz, .cons (by simp [zeroOK, hti]) .nil⟩
  | bool =>
    rw [hti] at ht
    obtain ⟨_, i, hi, hz, _, _⟩ := ht
    exact ⟨i, _, hi, hz, .cons (by simp [zeroOK, hti]) .nil⟩
  | string =>
    rw [hti] at ht
    obtain ⟨_, i, hi, hz, _, _⟩ := ht
    exact ⟨i, _, hi, hz, .cons (by simp [zeroOK, hti]) .nil⟩
  | slice e =>
    rw [hti] at ht
    obtain ⟨_, i, hi, hz, _, _⟩ := ht
    exact ⟨i, _, hi, hz, .cons (by simp [zeroOK, hti]) .nil⟩
  | pointer e =>
    rw [hti] at ht
    obtain ⟨_, i, hi, hz, _, _⟩ := ht
    exact ⟨i, _, hi, hz, .cons (by simp [zeroOK, hti]) .nil⟩
  | map k e =>
    rw [hti] at ht
    obtain ⟨_, i, hi, hz, _, _⟩ := ht
    exact ⟨i, _, hi, hz, .cons (by simp [zeroOK, hti]) .nil⟩
  | array n e =>
    rw [hti] at ht
    obtain ⟨_, _, he, i, hi, hz, _, _⟩ := ht
    exact ⟨i, _, hi, hz, .cons (by simp [zeroOK, he]) (.cons (by simp [zeroOK, he]) .nil)⟩
  | func =>
    rw [hti] at ht
    obtain ⟨_, i, hi, hz, _, _⟩ := ht
    exact ⟨i, _, hi, hz, .cons (by simp [zeroOK, hti]) .nil⟩
  | other => simp [hti, zeroCells] at h

theorem RelW.pushCells {bl : List Blk} (h : RelW X bl w lc) {t : TypeId} {l : List SV} {cs : Array Value} (hl : All2 (relS X lc) l cs.toList) :
    RelW X (bl ++ [.cells t l]) (w.alloc (.cells cs t)) (lc ++ [.c w.heap.size]) :=
  h.push (below_alloc w _) ⟨h.base_le, cs, heap_alloc_new w _, hl.mono fun _ _ h => h.more _⟩ (fun g hg => by simp [Loc.blk] at hg; omega)

theorem s_alloc (hL : LayOK P L) {f : Bool} {t : TypeId} (ho : o.op = .alloc t) (hR : Rel X s a w lc)
    (h : (match zeroCells L f (cellTypes L t) s.blks with
      | some (l, b) => K (one (.ptr b.length 0)) ⟨s.tmps, b ++ [.cells t l]⟩
      | none => none) = some r) : Step P X o a w lc s K r := by
  split at h
  · rename_i l b hz
    obtain ⟨i, z, hi, hzz, hall⟩ := zero_of hL t hz
    obtain ⟨more, h1, h2, _⟩ := zeroCells_rel _ _ _ _ _ lc hz hall hR.world
    refine ⟨_, _, more ++ [.c w.heap.size], .value (.pointer (some ⟨w.heap.size, 0, none⟩)), _, w.alloc (.cells z.cells t), h, ?_, fun _ => below_alloc w _, rfl, ⟨w.heap.size, ?_, rfl⟩, ?_⟩
    · unfold execOp
      simp [ho, Instr.alloc, zeroValue, typeInfo, hi, hzz, newVar, newRow]
    · rw [← List.append_assoc]; exact last_loc h1.len rfl
    · rw [← List.append_assoc]; exact h1.pushCells h2
  · cases h

theorem s_box {t : TypeId} {x : Operand} (ho : o.op = .box t x) (hR : Rel X s a w lc)
    (h : (match (getO s x).cells with
      | some l => cond (l.all cellS) (K (one (.ptr s.blks.length 0)) (s.add (.cells t l))) none
      | none => none) = some r) : Step P X o a w lc s K r := by
  split at h
  · rename_i l hl
    obtain ⟨hc, h2⟩ := cond_none h
    obtain ⟨h3, _⟩ := cells_rel (eval_rel hR.tmps x) hl hc
    refine ⟨_, _, [.c w.heap.size], .value (.pointer (some ⟨w.heap.size, 0, none⟩)), _, w.alloc (.cells (a.eval x).cells t), h2, ?_, fun _ => below_alloc w _, rfl, ⟨w.heap.size, last_loc hR.world.len rfl, rfl⟩, hR.world.pushCells h3⟩
    unfold execOp
    simp [ho, Instr.box, newVar, newRow]
  · cases h


theorem over_rel {R : SV → Value → Prop} : ∀ (l : List SV) (vs : List Value) (cs : List SV) (ds : Array Value) (off k : Nat), All2 R cs ds.toList → All2 R l vs →
    All2 R (over cs (off + k) l) ((vs.zipIdx k).foldl (fun cs (c, j) => cs.setIfInBounds (off + j) c) ds).toList
  | [], vs, cs, ds, off, k, hc, hl => by cases hl; exact hc
  | x :: l, vs, cs, ds, off, k, hc, hl => by
    cases hl with
    | @cons _ v _ vs h1 h2 =>
    simp only [over, List.zipIdx_cons, List.foldl_cons]
    have := over_rel l vs (put cs (off + k) x) (ds.setIfInBounds (off + k) v) off (k + 1) (by rw [Array.toList_setIfInBounds]; exact hc.put _ h1) h2
    simpa [Nat.add_assoc] using this

theorem fillC_rel {fds : List Fd} {places : Array (Nat × Nat)} (hp : All2 (fun fd (p : Nat × Nat) => p = (fd.off, fd.size)) fds places.toList) :
    ∀ (parts : List (Nat × TV)) (vs : List (Nat × Value)) (cs : List SV) (ds : Array Value) (out : List SV), All2 (fun p q => p.1 = q.1 ∧ relT X lc p.2 q.2) parts vs → All2 (relS X lc) cs ds.toList →
    fillC fds cs parts = some out → ∃ ds', Instr.fill (places[·]?) ds vs = some ds' ∧ All2 (relS X lc) out ds'.toList := by
  intro parts
  induction parts with
  | nil =>
    intro vs cs ds out hv hc h
    cases hv
    simp only [fillC, Option.some.injEq] at h
    subst h
    exact ⟨ds, rfl, hc⟩
  | cons p parts ih =>
    intro vs cs ds out hv hc h
    cases hv with
    | @cons _ q _ vs h1 h2 =>
    obtain ⟨i, x⟩ := p
    obtain ⟨i', v⟩ := q
    obtain ⟨rfl, hx⟩ := h1
    simp only [fillC] at h
    split at h
    · rename_i f l hf hl
      obtain ⟨hb, h⟩ := cond_none h
      simp only [Bool.and_eq_true] at hb
      obtain ⟨⟨hb1, hb2⟩, hb3⟩ := hb
      have hb1 := Nat.eq_of_beq_eq_true hb1
      have hb2 := Nat.le_of_ble_eq_true hb2
      obtain ⟨h3, _⟩ := cells_rel hx hl hb3
      obtain ⟨pl, hpl, rfl⟩ := hp.get i f hf
      have hpl' : places[i]? = some (f.off, f.size) := by simpa using hpl
      have e1 := h3.length
      have e2 := hc.length
      have hov := over_rel l v.cells.toList cs ds f.off 0 hc h3
      simp only [Nat.add_zero] at hov
      obtain ⟨ds', h4, h5⟩ := ih vs _ _ out h2 hov h
      refine ⟨ds', ?_, h5⟩
      simp only [Instr.fill, hpl']
      have n1 : v.cells.size = f.size := by rw [← hb1, e1]; simp
      have n2 : ¬ f.off + v.cells.size > ds.size := by
        rw [n1, ← hb1]
        have : cs.length = ds.size := by rw [e2]; simp
        omega
      have hcond : (decide (v.cells.size ≠ f.size) || decide (f.off + v.cells.size > ds.size)) = false := by rw [decide_eq_false (by simpa using n1), decide_eq_false n2]; rfl
      rw [if_neg (by simpa using hcond)]
      rw [← h4]
      congr 1
      rw [← Array.foldl_toList, Array.toList_zipIdx]
    · cases h

theorem places_of {fds : List Fd} {fields : List Field} (h : All2 (FdOK P) fds fields) :
    ∃ places : List (Nat × Nat), fields.mapM (fun f => (P.info? f.type).map fun i => (f.offset, i.size)) = some places ∧ All2 (fun fd (p : Nat × Nat) => p = (fd.off, fd.size)) fds places := by
  induction h with
  | nil => exact ⟨[], rfl, .nil⟩
  | @cons fd f _ _ h1 _ ih =>
    obtain ⟨pl, h2, h3⟩ := ih
    obtain ⟨i, hi, hs⟩ := h1.info
    refine ⟨(f.offset, i.size) :: pl, ?_, .cons (by rw [h1.off, hs]) h3⟩
    simp [List.mapM_cons, hi, h2]

theorem s_build_all (hL : LayOK P L) {f : Bool} {t : TypeId} {parts : Array (Nat × Operand)} (ho : o.op = .build t parts) (hR : Rel X s a w lc)
    (h : (match L.at_ t, zeroCells L f (cellTypes L t) s.blks with
      | .struct fs _ _ _, some (l, b) => match fillC fs l (parts.toList.map fun p => (p.1, getO s p.2)) with
        | some l' => K (.v (.agg l')) ⟨s.tmps, b⟩
        | none => none
      | .array _ _, some (l, b) => match parts.toList with
        | [] => K (.v (.agg l)) ⟨s.tmps, b⟩
        | _ => none
      | _, _ => none) = some r) :
    ∃ x bl more v, K x ⟨s.tmps, bl⟩ = some r ∧ relT X (lc ++ more) x v ∧ RelW X bl w (lc ++ more) ∧ ∀ w', (execOp a.eval o).run P w' = .ok (.value v) w' := by
  split at h
  · rename_i fs cts by_ cmp l b hti hz
    have ht := hL t
    rw [hti] at ht
    obtain ⟨fields, zc, hu, hfs, ⟨i, hi, hzz, _⟩, hzc, _⟩ := ht
    have hct : cellTypes L t = cts := by simp [cellTypes, hti]
    rw [hct] at hz
    obtain ⟨more, h1, h2, _⟩ := zeroCells_rel _ _ _ _ _ lc hz hzc hR.world
    obtain ⟨places, hp1, hp2⟩ := places_of hfs
    split at h
    · rename_i l' hl'
      have hparts : All2 (fun p q => p.1 = q.1 ∧ relT X (lc ++ more) p.2 q.2) (parts.toList.map fun p => (p.1, getO s p.2)) (parts.toList.map fun p => (p.1, a.eval p.2)) := by
        induction parts.toList with
        | nil => exact .nil
        | cons p ps ih => exact .cons ⟨rfl, (eval_rel hR.tmps p.2).more _⟩ ih
      obtain ⟨ds', h4, h5⟩ := fillC_rel (places := places.toArray) hp2 _ _ _ _ _ hparts h2 hl'
      refine ⟨_, _, more, .agg ds', h, ⟨ds', rfl, h5⟩, h1, fun w' => ?_⟩
      have hb : P.built t (parts.map fun (i, x) => (i, a.eval x)).toList = some ds' := by
        unfold Program.built
        simp only [hi, hu, hzz, hp1, Array.toList_map]
        exact h4
      unfold execOp
      simp only [ho, Sem.run_bind, run_build w' t _ ds' hb, Result.andThen_ok, Sem.run_pure]
    · cases h
  · rename_i n e l b hti hz
    have ht := hL t
    rw [hti] at ht
    obtain ⟨hu, hn2, he, i, hi, hzz, _, _⟩ := ht
    have hz2 := hz
    obtain ⟨i', z, hi', hzz', hall⟩ := zero_of hL t hz
    rw [hi] at hi'
    cases hi'
    rw [hzz] at hzz'
    cases hzz'
    obtain ⟨more, h1, h2, _⟩ := zeroCells_rel _ _ _ _ _ lc hz2 hall hR.world
    split at h
    · rename_i hp
      refine ⟨_, _, more, .agg #[.bool false, .bool false], h, ⟨_, rfl, h2⟩, h1, fun w' => ?_⟩
      have hte := hL e
      rw [he] at hte
      obtain ⟨_, ie, hie, _⟩ := hte
      have hb : P.built t (parts.map fun (i, x) => (i, a.eval x)).toList = some #[.bool false, .bool false] := by
        unfold Program.built
        simp only [hi, hu, hzz, hie, Array.toList_map, hp, List.map_nil]
        rfl
      unfold execOp
      simp only [ho, Sem.run_bind, run_build w' t _ _ hb, Result.andThen_ok, Sem.run_pure]
    · cases h
  · cases h

theorem s_build (hL : LayOK P L) {f : Bool} {t : TypeId} {parts : Array (Nat × Operand)} (ho : o.op = .build t parts) (hR : Rel X s a w lc)
    (h : (match L.at_ t, zeroCells L f (cellTypes L t) s.blks with
      | .struct fs _ _ _, some (l, b) => match fillC fs l (parts.toList.map fun p => (p.1, getO s p.2)) with
        | some l' => K (.v (.agg l')) ⟨s.tmps, b⟩
        | none => none
      | .array _ _, some (l, b) => match parts.toList with
        | [] => K (.v (.agg l)) ⟨s.tmps, b⟩
        | _ => none
      | _, _ => none) = some r) : Step P X o a w lc s K r := by
  obtain ⟨x, bl, more, v, h1, h2, h3, h4⟩ := s_build_all hL ho hR h
  exact ⟨x, bl, more, .value v, v, w, h1, h4 w, fun _ => Below.refl _ _, rfl, h2, h3⟩


theorem over_list {R : SV → Value → Prop} : ∀ (l : List SV) (vs : List Value) (cs : List SV) (ds : List Value) (off : Nat), All2 R cs ds → All2 R l vs → off + l.length ≤ cs.length →
    All2 R (over cs off l) (ds.take off ++ vs ++ ds.drop (off + vs.length))
  | [], vs, cs, ds, off, hc, hl, _ => by cases hl; simpa [over] using hc
  | x :: l, vs, cs, ds, off, hc, hl, hle => by
    cases hl with
    | @cons _ v _ vs h1 h2 =>
    have e := hc.length
    have hle' : off + 1 + l.length ≤ cs.length := by simpa [Nat.add_assoc, Nat.add_comm 1] using hle
    have := over_list l vs (put cs off x) (ds.set off v) (off + 1) (hc.put off h1) h2 (by rw [put_eq, List.length_set]; exact hle')
    simp only [over]
    have e1 : (ds.set off v).take (off + 1) = ds.take off ++ [v] := by
      rw [List.take_set, List.set_eq_take_append_cons_drop]
      simp
      have : off < ds.length := by omega
      simp [List.take_take]
      omega
    have e2 : (ds.set off v).drop (off + 1 + vs.length) = ds.drop (off + 1 + vs.length) := by
      rw [List.drop_set_of_lt]; omega
    rw [e1, e2] at this
    simpa [Nat.add_assoc, Nat.add_comm 1] using this

theorem grown_setRow (w : World) (g : Nat) (cs : Array Value) : w.grownBy (w.setRow g cs) (some g) :=
  ⟨rfl, rfl, rfl, by simp, fun k _ hk => setRow_other w g k _ (fun e => hk (by simp [e]))⟩

theorem grownBy_trans {w1 w2 w3 : World} {g : Option Nat} (h : w1.grownBy w2 g) (h' : w2.grownBy w3 g) : w1.grownBy w3 g :=
  ⟨h'.os.trans h.os, h'.tape.trans h.tape, h'.output.trans h.output, Nat.le_trans h.size h'.size, fun k hk hn => (h'.block k (Nat.lt_of_lt_of_le hk h.size) hn).trans (h.block k hk hn)⟩

theorem flatMap_set {α β : Type} {f : α → List β} {n : Nat} (hn : ∀ x, (f x).length = n) {y : α} {v : β} {m : Nat} (hm : m < n) :
    ∀ (l : List α) (i : Nat) (x : α), l[i]? = some x → f y = (f x).set m v → (l.set i y).flatMap f = (l.flatMap f).set (i * n + m) v
  | [], i, x, h, _ => by simp at h
  | z :: l, 0, x, h, e => by
    simp at h; subst h
    simp only [List.set_cons_zero, List.flatMap_cons, Nat.zero_mul, Nat.zero_add, e]
    rw [List.set_append_left _ _ (by rw [hn]; exact hm)]
  | z :: l, i + 1, x, h, e => by
    simp at h
    simp only [List.set_cons_succ, List.flatMap_cons]
    rw [flatMap_set hn hm l i x h e, List.set_append_right _ _ (by rw [hn, Nat.add_mul]; omega), hn]
    congr 2
    rw [Nat.add_mul]; omega

theorem inRow_iff {S : Nat → Prop} {wf : World} {e : TypeId} {l : List Int} {v : Value} : (FrozenIn S wf (.ints .i64 l) v ∧ Whole S wf e 1 l.length v) ↔ inRow S wf e l v := by
  constructor
  · rintro ⟨⟨A, n, c, h1, h2, h3, xs, rfl, h4⟩, h0⟩
    exact ⟨h0, A, n, c, h1, h2, h3, h4⟩
  · rintro ⟨h0, A, n, c, h1, h2, h3, h4⟩
    exact ⟨⟨A, n, c, h1, h2, h3, _, rfl, h4⟩, h0⟩
theorem setc_cells {q q' : Row} {i : Int} {m : Nat} {x : SV} {v : Value} {xs : List Value} (h : q.setc i m x = some q') (h0 : 0 ≤ i) (hi : i < (q.len : Int)) (hx : relS X lc x v) (hin : q.cellsIn X.ft X.fw xs) :
    m < q.sz ∧ q'.len = q.len ∧ q'.sz = q.sz ∧ q'.cellsIn X.ft X.fw (xs.set (i.toNat * q.sz + m) v) ∧ v.oneCell' = true := by
  have flat : ∀ {α : Type} (f : α → Value) (l : List α) (y : α), (wr l i y).map f = (l.map f).set i.toNat (f y) := by
    intro α f l y
    simp [wr, List.map_set]
  unfold Row.setc at h
  split at h <;> first | cases h; done | skip
  · simp only [Option.some.injEq] at h; subst h
    simp only [relS] at hx; subst hx
    obtain rfl : xs = _ := hin
    exact ⟨by simp [Row.sz], by simp [Row.len, wr], rfl, (by show _ = _; simp only [Row.cells, flat, Row.sz, Nat.mul_one, Nat.add_zero]), rfl⟩
  · simp only [Option.some.injEq] at h; subst h
    simp only [relS] at hx; subst hx
    obtain rfl : xs = _ := hin
    exact ⟨by simp [Row.sz], by simp [Row.len, wr], rfl, (by show _ = _; simp only [Row.cells, flat, Row.sz, Nat.mul_one, Nat.add_zero]), rfl⟩
  · simp only [Option.some.injEq] at h; subst h
    simp only [relS] at hx; subst hx
    obtain rfl : xs = _ := hin
    exact ⟨by simp [Row.sz], by simp [Row.len, wr], rfl, (by show _ = _; simp only [Row.cells, flat, Row.sz, Nat.mul_one, Nat.add_zero]), rfl⟩
  · simp only [Option.some.injEq] at h; subst h
    simp only [relS] at hx; subst hx
    obtain rfl : xs = _ := hin
    exact ⟨by simp [Row.sz], by simp [Row.len, wr], rfl, (by show _ = _; simp only [Row.cells, flat, Row.sz, Nat.mul_one, Nat.add_zero]), rfl⟩
  · rename_i l n
    simp only [Option.some.injEq] at h; subst h
    simp only [relS] at hx; subst hx
    obtain rfl : xs = _ := hin
    exact ⟨by simp [Row.sz], by simp [Row.len, wr], rfl, (by show _ = _; exact (flatMap_set (f := fun p : Int × Int => [Value.int .i64 p.1, Value.int .i64 p.2]) (n := 2) (fun _ => rfl) (y := (n, (rd (0, 0) l i).2)) (v := .int .i64 n) (m := 0) (by omega) l i.toNat _ (rd_get (d := ((0, 0) : Int × Int)) h0 hi) rfl).symm), rfl⟩
  · rename_i l n
    simp only [Option.some.injEq] at h; subst h
    simp only [relS] at hx; subst hx
    obtain rfl : xs = _ := hin
    exact ⟨by simp [Row.sz], by simp [Row.len, wr], rfl, (by show _ = _; exact (flatMap_set (f := fun p : Int × Int => [Value.int .i64 p.1, Value.int .i64 p.2]) (n := 2) (fun _ => rfl) (y := ((rd (0, 0) l i).1, n)) (v := .int .i64 n) (m := 1) (by omega) l i.toNat _ (rd_get (d := ((0, 0) : Int × Int)) h0 hi) rfl).symm), rfl⟩
  · rename_i e l e' n
    obtain ⟨hee, h2⟩ := cond_none h
    clear h
    obtain rfl := Nat.eq_of_beq_eq_true hee
    simp only [Option.some.injEq] at h2; subst h2
    have hx : FrozenIn X.ft X.fw (.ints .i64 n) v ∧ Whole X.ft X.fw e 1 n.length v := hx
    have hin : All2 (inRow X.ft X.fw e) l xs := hin
    refine ⟨by simp [Row.sz], by simp [Row.len, wr], rfl, ?_, ?_⟩
    · show All2 (inRow X.ft X.fw e) (wr l i n) _
      simp only [Row.sz, Nat.mul_one, Nat.add_zero]
      have := hin.put i.toNat (inRow_iff.1 hx)
      rwa [put_eq] at this
    · obtain ⟨⟨A, m, c, rfl, _⟩, _⟩ := hx; rfl

theorem setcs_run {g cap base : Nat} {i : Int} (h0 : 0 ≤ i) : ∀ (cs : List SV) (vs : List Value) (q q' : Row) (off : Nat) (k : Nat) (w : World) (xs : List Value), setcs q i (off + k) cs = some q' → All2 (relS X lc) cs vs → i < (q.len : Int) → q.cellsIn X.ft X.fw xs →
    ∀ {u : TypeId}, w.ownsRow base u q.sz (.slice (some ⟨g, 0, none⟩) q.len cap) q.len xs →
    ∃ w' xs', (storeCells ⟨g, i.toNat * q.sz + off, none⟩ vs k).run P w = .ok () w' ∧ q'.len = q.len ∧ q'.cellsIn X.ft X.fw xs' ∧ w'.ownsRow base u q'.sz (.slice (some ⟨g, 0, none⟩) q'.len cap) q'.len xs' ∧ w.grownBy w' (some g) := by
  intro cs
  induction cs with
  | nil =>
    intro vs q q' off k w xs h hv hi hin u ho
    cases hv
    simp only [setcs, Option.some.injEq] at h
    subst h
    exact ⟨w, xs, rfl, rfl, hin, ho, ⟨rfl, rfl, rfl, Nat.le_refl _, fun _ _ _ => rfl⟩⟩
  | cons x cs ih =>
    intro vs q q' off k w xs h hv hi hin u ho
    cases hv with
    | @cons _ v _ vs h1 h2 =>
    simp only [setcs] at h
    split at h
    · rename_i q1 hq1
      obtain ⟨hm, hlen, hsz, hcells, hone⟩ := setc_cells hq1 h0 hi h1 hin
      obtain ⟨h3, h4⟩ := ho.stored (i.toNat * q.sz + (off + k)) v
      rw [← hlen, ← hsz] at h3
      obtain ⟨w', xs', h5, hl', hin', h6, h7⟩ := ih vs q1 q' off (k + 1) _ _ (by rw [← Nat.add_assoc]; exact h) h2 (by rw [hlen]; exact hi) (by rw [← hsz] at hcells; exact hcells) h3
      rw [hsz] at h7
      refine ⟨w', xs', ?_, hl'.trans hlen, hin', h6, grownBy_trans h4 h7⟩
      have hcell : ∃ c, w.cell? ⟨g, i.toNat * q.sz + (off + k), none⟩ = some c := by
        have hlt : i.toNat * q.sz + (off + k) < q.len * q.sz := by
          have : i.toNat + 1 ≤ q.len := by omega
          have := Nat.mul_le_mul_right q.sz this
          rw [Nat.add_mul] at this
          omega
        rw [ho.cellAt _ hlt]
        exact ⟨_, List.getElem?_eq_getElem (by rw [q.in_len hin]; exact hlt)⟩
      obtain ⟨c, hc⟩ := hcell
      have hst : (store ((⟨g, i.toNat * q.sz + off, none⟩ : Addr).add k) v).run P w = .ok () (w.setCell ⟨g, i.toNat * q.sz + (off + k), none⟩ v) := by
        rw [Addr.add_lit, Nat.add_assoc, run_store P w _ v _ hone, hc]
        simp [ho.frozenAt]
      rw [hsz] at h5
      simp only [storeCells, Sem.run_bind, hst, Result.andThen_ok]
      exact h5
    · cases h

theorem s_store (hL : LayOK P L) {t : TypeId} {x y : Operand} (ho : o.op = .store t x y) (hR : Rel X s a w lc)
    (h : evStore t L (getO s x).sv (getO s y) s K = some r) : Step P X o a w lc s K r := by
  have hx := eval_rel (X := X) hR.tmps x
  have hy := eval_rel (X := X) hR.tmps y
  unfold evStore at h
  split at h
  · cases h
  · rename_i cs hcs
    obtain ⟨hb, h⟩ := cond_none h
    simp only [Bool.and_eq_true] at hb
    obtain ⟨⟨hb1, hb2⟩, hb3⟩ := hb
    have hb1 := Nat.eq_of_beq_eq_true hb1
    have hb2 : 0 < sizeT L t := by simpa [Nat.blt_eq] using hb2
    obtain ⟨hrel, hone⟩ := cells_rel hy hcs hb3
    obtain ⟨i, hi, hsz⟩ := eltInfo hL t rfl hb2
    have e1 := hrel.length
    have hvsz : (a.eval y).cells.size = i.size := by rw [hsz, ← hb1, e1]; simp
    have run : ∀ (A : Addr) (w' : World), a.eval x = .pointer (some A) → (storeCells A (a.eval y).cells.toList 0).run P w = .ok () w' → (execOp a.eval o).run P w = .ok .skip w' := by
      intro A w' hA hst
      unfold execOp
      simp [ho, Instr.storeAt, Instr.sureAddr, hA, storeVar, run_sizeOf hi, hvsz, hst]
    split at h
    · rename_i j off hj
      split at h
      · rename_i u l hb
        obtain ⟨hle, h⟩ := cond_none h
        have hle := Nat.le_of_ble_eq_true hle
        have hblk := cellsOf_some hb
        obtain ⟨g, hg, he⟩ := sv_is hx hj
        have hB := hR.world.blks j _ _ hblk.1 hg
        obtain ⟨ds, hh, hds⟩ := cellsOf_rel hB hb
        have e2 := hds.length
        have hst := run_storeCells_at P g off u (a.eval y).cells.toList 0 ds w hh (by rw [← e1]; simp only [Array.length_toList] at e2; omega) hone
        simp only [Nat.add_zero] at hst
        refine ⟨_, _, [], .skip, undef, _, h, run _ _ he hst, (fun hf => by rw [ho] at hf; cases hf), rfl, trivial, ?_⟩
        rw [List.append_nil]
        refine hR.world.turn hblk.1 hg hblk.2 (grown_setRow w g _) ?_
        cases hbb : nth Blk.dead s.blks j <;> rw [hbb] at hb hB <;> simp only [Blk.cellsOf, Option.some.injEq, Prod.mk.injEq, reduceCtorEq] at hb
        · obtain ⟨rfl, rfl⟩ := hb
          exact ⟨hB.1, _, setRow_heap w g ds _ _ (0, 0) hh, over_list _ _ _ _ _ hds hrel hle⟩
        · obtain ⟨rfl, rfl⟩ := hb
          exact ⟨hB.1, _, setRow_heap w g ds _ _ (0, 0) hh, over_list _ _ _ _ _ hds hrel hle⟩
      · cases h
    · rename_i j z n off hj
      split at h
      · rename_i u q hb
        obtain ⟨hz, h2⟩ := cond_none h
        clear h
        have hz := Nat.eq_of_beq_eq_true hz
        subst hz
        obtain ⟨hblk, hon⟩ := rowOf_some hb
        split at h2
        · rename_i q' hq'
          have h := h2
          obtain ⟨g, m, c, hg, h0, hn, he⟩ := sv_is hx hj
          have hB := hR.world.blks j _ _ hblk hg
          obtain ⟨v', hv', xs, hin, hown⟩ := rowOf_rel hB hb
          simp only [Loc.r.injEq] at hv'
          subst hv'
          have hnl : m = q.len := by
            rcases hown.2 with ⟨h', _⟩ | ⟨g', cap', cur, h', _⟩
            · simp at h'
            · simp at h'; omega
          subst hnl
          obtain ⟨w', xs', h5, hl', hin', h6, h7⟩ := setcs_run (lc := lc) h0 cs _ q q' off 0 w xs (by simpa using hq') hrel hn hin hown
          refine ⟨_, _, [], .skip, undef, w', h, run _ _ he h5, (fun hf => by rw [ho] at hf; cases hf), rfl, trivial, ?_⟩
          rw [List.append_nil]
          refine hR.world.turn hblk hg hon h7 ?_
          rw [hl'] at h6
          have hm := Loc.lt hB hon rfl
          cases hbb : nth Blk.dead s.blks j with
          | cells _ _ => rw [hbb] at hb; cases hb
          | dead => rw [hbb] at hb; cases hb
          | mp _ _ => rw [hbb] at hb; cases hb
          | pcells _ _ _ => rw [hbb] at hb; cases hb
          | pmp _ _ _ => rw [hbb] at hb; cases hb
          | srow _ _ => rw [hbb] at hb; cases hb
          | row t2 r2 =>
            rw [hbb] at hb hB
            simp only [Blk.rowOf, Option.some.injEq, Prod.mk.injEq] at hb
            obtain ⟨rfl, rfl⟩ := hb
            refine ⟨hB.1, xs', hin', ?_⟩
            rw [hl']; exact h6
          | prow k2 t2 r2 =>
            rw [hbb] at hb hB
            simp only [Blk.rowOf, Option.some.injEq, Prod.mk.injEq] at hb
            obtain ⟨rfl, rfl⟩ := hb
            refine ⟨hB.1, xs', hin', ?_⟩
            rw [hl']; exact h6
        · cases h2
      · cases h
    · cases h
end
end Go.Rv
