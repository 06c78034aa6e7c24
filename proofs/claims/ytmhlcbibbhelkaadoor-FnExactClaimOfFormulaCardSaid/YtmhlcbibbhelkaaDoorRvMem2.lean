/- The evaluator's operations do what the machine's do: rows made, appended to and converted. -/
import Derived.Test.YtmhlcbibbhelkaaDoorRvMem
import Derived.Lib.SliceRun
import Derived.Laws.BytesString
namespace Go.Rv
open Go.RowKit (Below)
section
variable {I : World → Prop} {P : Program} {L : Lay} {X : Cx I} {lc : List Loc} {β : Type} {o : Oper} {s : St} {a : Act} {w : World} {K : TV → St → Option β} {r : β}

theorem own_cellAt {u : TypeId} {sz n : Nat} {v : Value} {base : Nat} {xs : List Value} (h : w.ownsRow base u sz v n xs) {m : Nat} {x : Value} (hm : xs[m]? = some x) : ∃ g c, v = .slice (some ⟨g, 0, none⟩) n c ∧ w.cell? ⟨g, m, none⟩ = some x := by
  rcases h.2 with ⟨h', h0⟩ | ⟨g, cap, cur, h', _⟩
  · have := h.1
    rw [h0, Nat.zero_mul] at this
    rw [List.eq_nil_of_length_eq_zero this] at hm; simp at hm
  · subst h'
    exact ⟨g, cap, rfl, ownsRow_cells h (Below.refl _ _) hm⟩
theorem own_frozen {u : TypeId} {q : Row} {v : Value} {base : Nat} {xs : List Value} {S : Nat → Prop} (h : w.ownsRow base u q.sz v q.len xs) (hin : q.cellsIn S w xs) (hS : ∀ g, v.ownBlock = some g → S g) : FrozenIn S w q v := by
  rcases h.2 with ⟨h', h0⟩ | ⟨g, cap, cur, h', hb, hg, hnc, _⟩
  · subst h'
    refine ⟨none, 0, 0, rfl, h0.symm, Nat.le_refl _, xs, hin, fun m u hm => ?_⟩
    have := h.1
    rw [h0, Nat.zero_mul] at this
    rw [List.eq_nil_of_length_eq_zero this] at hm; simp at hm
  · subst h'
    refine ⟨_, _, _, rfl, rfl, hnc, xs, hin, fun m u hm => ⟨_, rfl, hS g rfl, ?_⟩⟩
    rw [Addr.add_lit, Nat.zero_add]
    exact ownsRow_cells h (Below.refl _ _) hm
theorem frzS_rel {bl : List Blk} (hW : RelW X bl w lc) {s : SV} {v : Value} (h : relS X lc s v) : ∃ X', X.Le X' ∧ RelW X' (frzS bl s).2 w lc ∧ relS X' lc (frzS bl s).1 v := by
  cases s with
  | row j =>
    simp only [frzS]
    cases hb : nth Blk.dead bl j with
    | row t q =>
      have hblk := nth_some hb (by simp)
      obtain ⟨hm, xs, hin, hown⟩ := hW.blks j _ _ hblk h.1
      cases ho : v.ownBlock with
      | none =>
        refine ⟨X, .refl X, hW.drop j, ?_⟩
        rcases hown.2 with ⟨h', h0⟩ | ⟨g, cap, cur, h', _⟩
        · subst h'; exact ⟨frozen_zero h0, whole_zero h0⟩
        · subst h'; cases ho
      | some g =>
        obtain ⟨hle, hW'⟩ := hW.freeze hblk rfl h.1 ho
        refine ⟨_, hle, hW', ?_⟩
        have hS : ∀ g', v.ownBlock = some g' → X.ft g' ∨ g' = g := fun g' hg' => by
          rw [ho] at hg'
          cases hg'
          exact .inr rfl
        exact ⟨own_frozen (S := fun k => X.ft k ∨ k = g) hown (cellsIn.mono (fun _ h => .inl h) (fun k hk => (hW.frz k hk).2) hin) hS, xs, hown, hS⟩
    | _ => exact ⟨X, .refl X, hW, h⟩
  | _ => exact ⟨X, .refl X, hW, h⟩
theorem frzL_rel : ∀ {l : List SV} {vs : List Value} {X : Cx I} {bl : List Blk}, RelW X bl w lc → All2 (relS X lc) l vs → ∃ X', X.Le X' ∧ RelW X' (frzL bl l).2 w lc ∧ All2 (relS X' lc) (frzL bl l).1 vs
  | [], _, X, bl, hW, h => ⟨X, .refl X, hW, h⟩
  | s :: l, _, X, bl, hW, .cons h1 h2 => by
    obtain ⟨X1, a1, a2, a3⟩ := frzS_rel hW h1
    obtain ⟨X2, b1, b2, b3⟩ := frzL_rel a2 (h2.mono fun _ _ h => relS.grow a1 h)
    exact ⟨X2, a1.trans b1, b2, .cons (relS.grow b1 a3) b3⟩
theorem frzA_rel {bl : List Blk} (hW : RelW X bl w lc) {x : AV} {v : Value} (h : relA X lc x v) : ∃ X', X.Le X' ∧ RelW X' (frzA bl x).2 w lc ∧ relA X' lc (frzA bl x).1 v := by
  cases x with
  | one s => exact frzS_rel hW h
  | agg l =>
    obtain ⟨cs, h1, h2⟩ := h
    obtain ⟨X', a1, a2, a3⟩ := frzL_rel hW h2
    exact ⟨X', a1, a2, cs, h1, a3⟩
theorem frzAs_rel : ∀ {l : List AV} {vs : List Value} {X : Cx I} {bl : List Blk}, RelW X bl w lc → All2 (relA X lc) l vs → ∃ X', X.Le X' ∧ RelW X' (frzAs bl l).2 w lc ∧ All2 (relA X' lc) (frzAs bl l).1 vs
  | [], _, X, bl, hW, h => ⟨X, .refl X, hW, h⟩
  | s :: l, _, X, bl, hW, .cons h1 h2 => by
    obtain ⟨X1, a1, a2, a3⟩ := frzA_rel hW h1
    obtain ⟨X2, b1, b2, b3⟩ := frzAs_rel a2 (h2.mono fun _ _ h => relA.grow a1 h)
    exact ⟨X2, a1.trans b1, b2, .cons (relA.grow b1 a3) b3⟩
theorem frzT_rel {bl : List Blk} (hW : RelW X bl w lc) {x : TV} {v : Value} (h : relT X lc x v) : ∃ X', X.Le X' ∧ RelW X' (frzT bl x).2 w lc ∧ relT X' lc (frzT bl x).1 v := by
  cases x with
  | v s => exact frzA_rel hW h
  | tup l =>
    obtain ⟨cs, h1, h2⟩ := h
    obtain ⟨X', a1, a2, a3⟩ := frzAs_rel hW h2
    exact ⟨X', a1, a2, cs, h1, a3⟩
theorem frzTs_rel : ∀ {l : List TV} {vs : List Value} {X : Cx I} {bl : List Blk}, RelW X bl w lc → All2 (relT X lc) l vs → ∃ X', X.Le X' ∧ RelW X' (frzTs bl l).2 w lc ∧ All2 (relT X' lc) (frzTs bl l).1 vs
  | [], _, X, bl, hW, h => ⟨X, .refl X, hW, h⟩
  | s :: l, _, X, bl, hW, .cons h1 h2 => by
    obtain ⟨X1, a1, a2, a3⟩ := frzT_rel hW h1
    obtain ⟨X2, b1, b2, b3⟩ := frzTs_rel a2 (h2.mono fun _ _ h => relT.grow a1 h)
    exact ⟨X2, a1.trans b1, b2, .cons (relT.grow b1 a3) b3⟩

structure EltInfo (P : Program) (L : Lay) (e : TypeId) (q : Row) : Prop where
  info : ∃ i z, P.info? e = some i ∧ i.zero = some z ∧ i.size = q.sz ∧ i.bytes = rowBytes q ∧ (q.deep = false → z.cells.toList = (q.zeros 1).cells) ∧ (q.deep = true → z = .slice none 0 0)

theorem emptyRow_info (hL : LayOK P L) {e : TypeId} {q : Row} (h : emptyRow L e = some q) : EltInfo P L e q := by
  have ht := hL e
  unfold emptyRow at h
  split at h
  · rename_i k hti
    cases h
    rw [hti] at ht
    obtain ⟨_, i, hi, hz, hs, hb⟩ := ht
    exact ⟨i, _, hi, hz, hs, by rw [hb]; cases k <;> rfl, fun _ => rfl, fun h => by cases h⟩
  · rename_i hti
    cases h
    rw [hti] at ht
    obtain ⟨_, i, hi, hz, hs, hb⟩ := ht
    exact ⟨i, _, hi, hz, hs, hb, fun _ => rfl, fun h => by cases h⟩
  · rename_i hti
    cases h
    rw [hti] at ht
    obtain ⟨_, i, hi, hz, hs, hb⟩ := ht
    exact ⟨i, _, hi, hz, hs, hb, fun _ => rfl, fun h => by cases h⟩
  · rename_i e' hti
    rw [hti] at ht
    obtain ⟨_, i, hi, hz, hs, hb⟩ := ht
    split at h
    · cases h
      exact ⟨i, _, hi, hz, hs, hb, (fun h => by cases h), fun _ => rfl⟩
    · cases h
  · rename_i fs c1 c2 cmp hti
    rw [hti] at ht
    obtain ⟨_, zc, _, _, ⟨i, hi, hz, hs, hb⟩, hzc, _⟩ := ht
    split at h
    · rename_i h1 h2
      cases h
      refine ⟨i, _, hi, hz, hs, hb, fun _ => ?_, fun h => by cases h⟩
      show zc.toList = _
      generalize zc.toList = zl at hzc ⊢
      cases hzc with
      | cons a1 hzc => cases hzc with
        | cons a2 hzc => cases hzc with
          | nil =>
            simp only [zeroOK, h1, h2] at a1 a2
            subst a1; subst a2
            simp [Row.zeros, Row.cells]
    · cases h
  · rename_i fs c1 c2 c3 cmp hti
    rw [hti] at ht
    obtain ⟨_, zc, _, _, ⟨i, hi, hz, hs, hb⟩, hzc, _⟩ := ht
    split at h
    · rename_i h1 h2 h3
      cases h
      refine ⟨i, _, hi, hz, hs, hb, fun _ => ?_, fun h => by cases h⟩
      show zc.toList = _
      generalize zc.toList = zl at hzc ⊢
      cases hzc with
      | cons a1 hzc => cases hzc with
        | cons a2 hzc => cases hzc with
          | cons a3 hzc => cases hzc with
            | nil =>
              simp only [zeroOK, h1, h2, h3] at a1 a2 a3
              subst a1; subst a2; subst a3
              simp [Row.zeros, Row.cells]
    · cases h
  · cases h

theorem zeros_len (q : Row) (n : Nat) : (q.zeros n).len = n := by cases q <;> simp [Row.zeros, Row.len]
theorem zeros_sz (q : Row) (n : Nat) : (q.zeros n).sz = q.sz := by cases q <;> rfl
theorem rowBytes_pos (q : Row) : 0 < rowBytes q := by
  cases q with
  | ints k _ => cases k <;> simp [rowBytes]
  | _ => simp [rowBytes]

theorem zeros_deep (q : Row) (n : Nat) : (q.zeros n).deep = q.deep := by cases q <;> rfl
theorem zeros_cells (q : Row) (hdp : q.deep = false) (n c : Nat) (hnc : n ≤ c) {z : Array Value} (hz : z.toList = (q.zeros 1).cells) :
    ((madeCells z (c * q.sz)).toList.take (n * q.sz)) = (q.zeros n).cells := by
  have hsz : z.size = q.sz := by
    have : z.toList.length = (q.zeros 1).cells.length := by rw [hz]
    rw [Row.cells_len ((zeros_deep q 1).trans hdp), zeros_len, zeros_sz, Nat.one_mul] at this
    simpa using this
  apply List.ext_getElem?
  intro k
  have hle : n * q.sz ≤ c * q.sz := Nat.mul_le_mul_right _ hnc
  have hpos := q.sz_pos
  rw [List.getElem?_take]
  split
  · rename_i hk
    have e1 : (madeCells z (c * q.sz)).toList[k]? = z.toList[k % q.sz]? := by
      have hm : k % z.size < z.size := Nat.mod_lt _ (by omega)
      have hkc : k < c * q.sz := by omega
      have : k % q.sz < z.size := by rw [hsz]; exact Nat.mod_lt _ hpos
      simp [madeCells, hkc, hsz, getElem!_pos z (k % q.sz) this]
    rw [e1, hz]
    have hq : k / q.sz < n := by rw [Nat.div_lt_iff_lt_mul hpos]; exact hk
    have hd : k = k / q.sz * q.sz + k % q.sz := by rw [Nat.mul_comm]; exact (Nat.div_add_mod k q.sz).symm
    have hmod : k % q.sz < q.sz := Nat.mod_lt _ hpos
    have flat : ∀ {α : Type} (f : α → List Value) (hf : ∀ x, (f x).length = q.sz) (x : α), (List.flatMap f [x])[k % q.sz]? = (List.flatMap f (List.replicate n x))[k]? := by
      intro α f hf x
      rw [hd, flatMap_at hf _ _ _ hmod]
      simp [hq]
    have flat1 : ∀ {α : Type} (f : α → Value) (x : α), q.sz = 1 → ([x].map f)[k % q.sz]? = ((List.replicate n x).map f)[k]? := by
      intro α f x h1
      have hkn : k < n := by rw [h1] at hk; omega
      simp [h1, Nat.mod_one, hkn]
    cases q with
    | ints k l => exact flat1 _ _ rfl
    | strs l => exact flat1 _ _ rfl
    | bools l => exact flat1 _ _ rfl
    | pairs l => exact flat _ (fun _ => rfl) _
    | trips l => exact flat _ (fun _ => rfl) _
    | lists _ _ => exact Bool.noConfusion (show true = false from hdp)
  · rename_i hk
    rw [List.getElem?_eq_none]
    rw [Row.cells_len ((zeros_deep q n).trans hdp), zeros_len, zeros_sz]; omega
theorem zeros_in {S : Nat → Prop} {wf : World} (q : Row) (n c : Nat) (hnc : n ≤ c) {z : Value} (h1 : q.deep = false → z.cells.toList = (q.zeros 1).cells) (h2 : q.deep = true → z = .slice none 0 0) :
    (q.zeros n).cellsIn S wf ((madeCells z.cells (c * q.sz)).toList.take (n * q.sz)) := by
  cases hd : q.deep with
  | false => rw [zeros_cells q hd n c hnc (h1 hd)]; exact (Row.in_plain ((zeros_deep q n).trans hd)).2 rfl
  | true =>
    have hz := h2 hd
    subst hz
    cases q <;> try cases hd
    rename_i e l
    show All2 (inRow S wf e) (List.replicate n []) _
    simp only [Row.sz, Nat.mul_one]
    refine .of_get ?_ fun k x y hx hy => ?_
    · simp [size_madeCells]; omega
    · rw [List.getElem?_replicate] at hx
      split at hx
      · rename_i hk
        simp only [Option.some.injEq] at hx
        subst hx
        rw [List.getElem?_take_of_lt hk] at hy
        have hkc : k < c := by omega
        have hy : y = .slice none 0 0 := by
          simp [madeCells, hkc, Value.cells, Nat.mod_one] at hy
          exact hy.symm
        subst hy
        exact ⟨whole_zero rfl, none, 0, 0, rfl, rfl, Nat.le_refl _, fun m u hm => by simp at hm⟩
      · cases hx

theorem maxLen_eq : maxLen = 9223372036854775807 := rfl

theorem s_makeSlice (hL : LayOK P L) {t : TypeId} {x y : Operand} (ho : o.op = .makeSlice t x y) (hR : Rel X s a w lc)
    (h : (match L.at_ t, (getO s x).sv, (getO s y).sv with
      | .slice e, .int .i64 n, .int .i64 c => match emptyRow L e with
        | some r => gd (decide (0 ≤ n)) (gd (decide (n ≤ c)) (gd (decide ((rowBytes r : Int) * c ≤ 281474976710656)) (K (one (.row s.blks.length)) (s.add (.row e (r.zeros n.toNat))))))
        | none => none
      | _, _, _ => none) = some r) : Step P X o a w lc s K r := by
  have hx := eval_rel (X := X) hR.tmps x
  have hy := eval_rel (X := X) hR.tmps y
  split at h
  · rename_i e n c hti hv hn
    have ht := hL t
    rw [hti] at ht
    split at h
    · rename_i q hq
      obtain ⟨h0, h⟩ := gd_some h
      obtain ⟨h1, h⟩ := gd_some h
      obtain ⟨h2, h⟩ := gd_some h
      have h0 := of_decide_eq_true h0
      have h1 := of_decide_eq_true h1
      have h2 := of_decide_eq_true h2
      have ex := sv_is hx hv
      have ey := sv_is hy hn
      simp only [relS] at ex ey
      obtain ⟨i, z, hi, hz, hs, hb, hzc, hzd⟩ := (emptyRow_info hL hq).info
      have hbp := rowBytes_pos q
      have hc : c ≤ 281474976710656 := by
        have : (1 : Int) * c ≤ (rowBytes q : Int) * c := Int.mul_le_mul_of_nonneg_right (by omega) (by omega)
        omega
      have hrun := run_make (P := P) w t e i z ht.1 hi hz .i64 .i64 n c h0 h1 (by rw [hb]; exact h2) (by omega)
      refine ⟨_, _, [.r (.slice (some ⟨w.heap.size, 0, none⟩) n.toNat c.toNat)], .value (.slice (some ⟨w.heap.size, 0, none⟩) n.toNat c.toNat), _, w.alloc (.cells (madeCells z.cells (c.toNat * i.size)) e), h, ?_, fun _ => below_alloc w _, rfl, relS_row (X := X) (last_loc hR.world.len rfl), ?_⟩
      · unfold execOp
        simp only [ho, ex, ey, Sem.run_bind, hrun, Result.andThen_ok, Sem.run_pure]
      · refine hR.world.push (below_alloc w _) ?_ (fun g hg => by simp [Loc.blk, Value.ownBlock] at hg; omega)
        have hin := zeros_in (S := X.ft) (wf := X.fw) q n.toNat c.toNat (by omega) hzc hzd
        refine relB_new hin ⟨Row.in_len hin, .inr ⟨w.heap.size, c.toNat, _, by rw [zeros_len], hR.world.base_le, heap_alloc_new w _, by rw [zeros_len]; omega, by rw [maxLen_eq]; omega, ?_, ?_⟩⟩
        · rw [size_madeCells, hs, zeros_sz]
        · rw [zeros_len, zeros_sz, hs]
    · cases h
  · cases h

theorem snoc_cells {q q' : Row} {cs : List SV} {vs xs : List Value} (h : q.snoc cs = some q') (hv : All2 (relS X lc) cs vs) (hin : q.cellsIn X.ft X.fw xs) :
    q'.len = q.len + 1 ∧ q'.sz = q.sz ∧ q'.cellsIn X.ft X.fw (xs ++ vs) ∧ vs.length = q.sz := by
  unfold Row.snoc at h
  split at h <;> first | cases h; done | skip
  all_goals first
    | (obtain ⟨hee, h2⟩ := cond_none h
       clear h
       obtain rfl := Nat.eq_of_beq_eq_true hee
       simp only [Option.some.injEq] at h2; subst h2
       cases hv with
       | cons h1 hv => cases hv with
         | nil =>
           have hin : All2 (inRow X.ft X.fw _) _ xs := hin
           exact ⟨by simp [Row.len], rfl, hin.append (.cons (inRow_iff.1 h1) .nil), rfl⟩)
    | (simp only [Option.some.injEq] at h; subst h
       obtain rfl : xs = _ := hin
       first
       | (cases hv with
         | cons h1 hv => cases hv with
           | nil => simp only [relS] at h1; subst h1; exact ⟨by simp [Row.len], rfl, (by show _ = _; simp [Row.cells]), rfl⟩)
       | (cases hv with
         | cons h1 hv => cases hv with
           | cons h2 hv => cases hv with
             | nil => simp only [relS] at h1 h2; subst h1; subst h2; exact ⟨by simp [Row.len], rfl, (by show _ = _; simp [Row.cells]), rfl⟩)
       | (cases hv with
         | cons h1 hv => cases hv with
           | cons h2 hv => cases hv with
             | cons h3 hv => cases hv with
               | nil => simp only [relS] at h1 h2 h3; subst h1; subst h2; subst h3; exact ⟨by simp [Row.len], rfl, (by show _ = _; simp [Row.cells]), rfl⟩))

theorem snoc_plain {q q' : Row} {cs : List SV} (h : q.snoc cs = some q') : cs.all cellS = true := by
  unfold Row.snoc at h
  split at h <;> first | cases h; done | rfl

theorem rowOf_go : ∀ (xs : List TV) (vs : List Value) (q q' : Row) (ys : List Value), rowOf.go q xs = some q' → All2 (relT X lc) xs vs → q.cellsIn X.ft X.fw ys →
    q'.len = q.len + xs.length ∧ q'.sz = q.sz ∧ q'.cellsIn X.ft X.fw (ys ++ vs.flatMap (fun v => v.cells.toList)) ∧ ∀ v ∈ vs, v.cells.size = q.sz := by
  intro xs
  induction xs with
  | nil =>
    intro vs q q' ys h hv hin
    cases hv
    simp only [rowOf.go, Option.some.injEq] at h
    subst h
    exact ⟨rfl, rfl, by simpa using hin, fun v hv => by simp at hv⟩
  | cons x xs ih =>
    intro vs q q' ys h hv hin
    cases hv with
    | @cons _ v _ vs h1 h2 =>
    simp only [rowOf.go] at h
    split at h
    · rename_i cs hcs
      split at h
      · rename_i q1 hq1
        obtain ⟨h3, _⟩ := cells_rel h1 hcs (snoc_plain hq1)
        obtain ⟨a1, a2, a3, a4⟩ := snoc_cells hq1 h3 hin
        obtain ⟨b1, b2, b3, b4⟩ := ih vs q1 q' _ h h2 a3
        refine ⟨by rw [b1, a1]; simp; omega, b2.trans a2, by simpa using b3, fun u hu => ?_⟩
        rcases List.mem_cons.1 hu with rfl | hu
        · simpa using a4
        · rw [b4 u hu, a2]
      · cases h
    · cases h

theorem inOrder_parts {a : Act} : ∀ (parts : List (Nat × Operand)) (n : Nat), inOrder n parts = true → (parts.map fun (i, x) => (i, a.eval x)) = ((parts.map fun p => a.eval p.2).zipIdx n).map fun x => (x.2, x.1)
  | [], n, _ => rfl
  | (i, x) :: l, n, h => by
    simp only [inOrder, Bool.and_eq_true] at h
    have := Nat.eq_of_beq_eq_true h.1
    subst this
    simp only [List.map_cons, List.zipIdx_cons]
    rw [inOrder_parts l (n + 1) h.2]

theorem s_buildSlice (hL : LayOK P L) {t : TypeId} {n : Nat} {parts : Array (Nat × Operand)} (ho : o.op = .buildSlice t n parts) (hR : Rel X s a w lc)
    (h : (match L.at_ t with
      | .slice e => cond (inOrder 0 parts.toList && Nat.beq n parts.toList.length && Nat.ble n 4096) (match frzTs s.blks (parts.toList.map fun p => getO s p.2) with
        | (xs, b) => match rowOf L e xs with
          | some r => K (one (.row b.length)) ⟨s.tmps, b ++ [.row e r]⟩
          | none => none) none
      | _ => none) = some r) : StepF P X o a w lc s K r := by
  split at h
  · rename_i e hti
    have ht := hL t
    rw [hti] at ht
    obtain ⟨hb, h⟩ := cond_none h
    simp only [Bool.and_eq_true] at hb
    obtain ⟨⟨hb1, hb2⟩, hb3⟩ := hb
    have hb2 := Nat.eq_of_beq_eq_true hb2
    have hb3 := Nat.le_of_ble_eq_true hb3
    have hvals0 : All2 (relT X lc) (parts.toList.map fun p => getO s p.2) (parts.toList.map fun p => a.eval p.2) := by
      induction parts.toList with
      | nil => exact .nil
      | cons p ps ih => exact .cons (eval_rel hR.tmps p.2) ih
    obtain ⟨X', hle, hW, hvals⟩ := frzTs_rel hR.world hvals0
    have hxl : (frzTs s.blks (parts.toList.map fun p => getO s p.2)).1.length = parts.toList.length := by rw [hvals.length, List.length_map]
    generalize frzTs s.blks (parts.toList.map fun p => getO s p.2) = fz at h hW hvals hxl
    obtain ⟨xs, b⟩ := fz
    simp only at h hW hvals hxl
    split at h
    · rename_i q hq
      unfold rowOf at hq
      split at hq
      · rename_i q0 hq0
        obtain ⟨i, z, hi, hz, hs, hb, _, _⟩ := (emptyRow_info hL hq0).info
        obtain ⟨c1, c2, c3, c4⟩ := rowOf_go _ _ _ _ _ hq hvals (in_zero (emptyRow_len hq0))
        rw [emptyRow_len hq0, Nat.zero_add, hxl, ← hb2] at c1
        rw [List.nil_append] at c3
        generalize hys : (parts.toList.map fun p => a.eval p.2).flatMap (fun v => v.cells.toList) = ys at c3
        have hsz3 : q0.sz ≤ 3 := by cases q0 <;> simp [Row.sz]
        have hsmall : ¬ n * i.size > 2 ^ 24 := by
          rw [hs]
          have : n * q0.sz ≤ 4096 * 3 := Nat.mul_le_mul hb3 hsz3
          omega
        have hpos := q0.sz_pos
        have hrun : (Instr.buildSlice t n (parts.map fun (i, x) => (i, a.eval x))).run P w = .ok (.slice (some ⟨w.heap.size, 0, none⟩) n n) (w.alloc (.cells ys.toArray e)) := by
          by_cases hn : n = 0
          · have hnil : parts = #[] := by
              have : parts.toList.length = 0 := by omega
              cases parts; simp_all
            subst hn
            rw [← hys, hnil]
            simp [Instr.buildSlice, run_underlying ht.1, sizeOf, typeInfo, hi, newRow, Instr.fill, Array.range_zero']
          · refine run_buildSlice w t e n _ _ i z ht.1 hi hz hsmall (by rw [hs]; exact Nat.mul_ne_zero hn (by omega)) ?_
            rw [Array.toList_map, inOrder_parts parts.toList 0 hb1, ← hys, hs]
            exact Great.fill_whole hpos _ _ c4 (by simp [← hb2])
        refine ⟨_, _, [.r (.slice (some ⟨w.heap.size, 0, none⟩) n n)], .value (.slice (some ⟨w.heap.size, 0, none⟩) n n), _, w.alloc (.cells ys.toArray e), X', h, ?_, fun _ => below_alloc w _, rfl, hle, relS_row (X := X') (last_loc hW.len rfl), ?_⟩
        · unfold execOp
          simp only [ho, Sem.run_bind, hrun, Result.andThen_ok, Sem.run_pure]
        · refine hW.push (below_alloc w _) ?_ (fun g hg => by simp [Loc.blk, Value.ownBlock] at hg; omega)
          refine relB_new c3 ?_
          rw [c1]
          have := World.ownsRow_lit (base := X'.base) (e := e) (size := q.sz) w ys.toArray n hW.base_le (by rw [maxLen_eq]; omega) (by simp [Row.in_len c3, c1])
          simpa using this
      · cases hq
    · cases h
  · cases h


theorem cat_cells {q p q' : Row} (h : q.cat p = some q') : q'.len = q.len + p.len ∧ q'.sz = q.sz ∧ p.sz = q.sz ∧ ∀ {S : Nat → Prop} {wf : World} {xs ys : List Value}, q.cellsIn S wf xs → p.cellsIn S wf ys → q'.cellsIn S wf (xs ++ ys) ∧ ∀ u ∈ ys, u.oneCell' = true := by
  unfold Row.cat at h
  split at h <;> first | cases h; done | skip
  iterate 6
    · simp only [Option.some.injEq] at h; subst h
      refine ⟨by simp [Row.len], rfl, rfl, fun {S wf xs ys} h1 h2 => ?_⟩
      obtain rfl : xs = _ := h1
      obtain rfl : ys = _ := h2
      refine ⟨(by show _ = _; simp [Row.cells]), fun u hu => ?_⟩
      first
      | (simp only [Row.cells, List.mem_map] at hu; obtain ⟨_, _, rfl⟩ := hu; rfl)
      | (simp only [Row.cells, List.mem_flatMap] at hu
         obtain ⟨_, _, hu⟩ := hu
         simp only [List.mem_cons, List.not_mem_nil, or_false] at hu
         rcases hu with rfl | rfl <;> rfl)
      | (simp only [Row.cells, List.mem_flatMap] at hu
         obtain ⟨_, _, hu⟩ := hu
         simp only [List.mem_cons, List.not_mem_nil, or_false] at hu
         rcases hu with rfl | rfl | rfl <;> rfl)
  · obtain ⟨hee, h2⟩ := cond_none h
    clear h
    obtain rfl := Nat.eq_of_beq_eq_true hee
    simp only [Option.some.injEq] at h2; subst h2
    refine ⟨by simp [Row.len], rfl, rfl, fun {S wf xs ys} h1 h2 => ?_⟩
    have h1 : All2 (inRow S wf _) _ xs := h1
    have h2 : All2 (inRow S wf _) _ ys := h2
    refine ⟨h1.append h2, ?_⟩
    have key : ∀ (e : TypeId) (l : List (List Int)) (ys : List Value), All2 (inRow S wf e) l ys → ∀ u ∈ ys, u.oneCell' = true := by
      intro e l ys h
      induction h with
      | nil => intro u hu; simp at hu
      | cons h3 _ ih =>
        intro u hu
        rcases List.mem_cons.1 hu with rfl | hu
        · obtain ⟨_, A, n, c, rfl, _⟩ := h3; rfl
        · exact ih u hu
    exact key _ _ _ h2

def RowAt (X : Cx I) (w : World) (q : Row) (v : Value) : Prop := ∃ A c, v = .slice A q.len c ∧ ∃ ys, q.cellsIn X.ft X.fw ys ∧ ∀ m u, ys[m]? = some u → ∃ a, A = some a ∧ w.cell? (a.add m) = some u

theorem own_rowAt {u : TypeId} {q : Row} {v : Value} {base : Nat} {xs : List Value} (hin : q.cellsIn X.ft X.fw xs) (h : w.ownsRow base u q.sz v q.len xs) : RowAt X w q v := by
  rcases h.2 with ⟨h', h0⟩ | ⟨g, cap, cur, h', _⟩
  · refine ⟨none, 0, by rw [h', h0], xs, hin, fun m u hm => ?_⟩
    obtain ⟨g, c, e, _⟩ := own_cellAt h hm
    rw [h'] at e; cases e
  · subst h'
    refine ⟨_, cap, rfl, xs, hin, fun m u hm => ⟨_, rfl, ?_⟩⟩
    rw [Addr.add_lit, Nat.zero_add]
    exact ownsRow_cells h (Below.refl _ _) hm

theorem frozen_rowAt {q : Row} {v : Value} (hd : q.deep = false) (h : Frozen X q v) (hb : BelowP X w) : RowAt X w q v := by
  obtain ⟨A, n, c, rfl, rfl, _, xs, hin, h⟩ := h
  refine ⟨A, c, rfl, xs, (Row.in_plain hd).2 ((Row.in_plain hd).1 hin), fun m u hm => ?_⟩
  obtain ⟨a, ha, hlt, hc⟩ := h m u hm
  refine ⟨a, ha, ?_⟩
  have hbl : X.old ((a.add m).block) := by rw [add_block]; exact X.sub _ hlt
  rw [hb.cell (p := a.add m) hbl]; exact hc
theorem frozenT_rowAt {bl : List Blk} {q : Row} {v : Value} (h : FrozenT X q v) (hW : RelW X bl w lc) : RowAt X w q v := by
  obtain ⟨A, n, c, rfl, rfl, _, xs, hin, h⟩ := h
  refine ⟨A, c, rfl, xs, hin, fun m u hm => ?_⟩
  obtain ⟨a, ha, hlt, hc⟩ := h m u hm
  refine ⟨a, ha, ?_⟩
  rw [World.cell?_of_block (w := X.fw) (by rw [add_block]; exact (hW.frz _ hlt).2)]; exact hc

theorem append_row {base : Nat} {t ty e : TypeId} {q p q' q0 : Row} {v v2 : Value} (hL : LayOK P L) (ht : L.at_ t = .slice e) (hq0 : emptyRow L e = some q0) (hby : rowBytes q0 = rowBytes q) (hsz : q0.sz = q.sz)
    {xs : List Value} (hin : q.cellsIn X.ft X.fw xs) (hown : w.ownsRow base e q.sz v q.len xs) (hp : RowAt X w p v2) (hcat : q.cat p = some q') (hle : (q.len + p.len) * rowBytes q ≤ 140737488355328) (hbase : base ≤ w.heap.size) :
    ∃ v' w', (Builtin.append_ #[t, t] ty #[v, v2]).run P w = .ok v' w' ∧ (∃ A n c, v' = .slice A n c) ∧ (∃ xs', q'.cellsIn X.ft X.fw xs' ∧ w'.ownsRow base e q'.sz v' q'.len xs') ∧ w.grownBy w' v.ownBlock ∧ (v'.ownBlock = v.ownBlock ∨ ∀ g, v'.ownBlock = some g → w.heap.size ≤ g) := by
  have htt := hL t
  rw [ht] at htt
  obtain ⟨i, z, hi, hz, hs, hb, hzc, hzd⟩ := (emptyRow_info hL hq0).info
  obtain ⟨A, c, rfl, ys, hys, hA⟩ := hp
  obtain ⟨c1, c2, c3, c4⟩ := cat_cells hcat
  obtain ⟨c4, c5⟩ := c4 hin hys
  have hpl : ys.length = p.len * q.sz := by rw [p.in_len hys, c3]
  have hpos := q.sz_pos
  have h63 : q.len + p.len ≤ maxLen := by
    have := rowBytes_pos q
    have : (q.len + p.len) * 1 ≤ (q.len + p.len) * rowBytes q := Nat.mul_le_mul_left _ this
    rw [maxLen_eq]; omega
  have h63' : ((q.len + p.len : Nat) : Int) ≤ 9223372036854775807 := by rw [maxLen_eq] at h63; omega
  cases A with
  | none =>
    have h0 : p.len = 0 := by
      rcases Nat.eq_zero_or_pos p.len with h | h
      · exact h
      · have : 0 < ys.length := by rw [hpl]; exact Nat.mul_pos h hpos
        obtain ⟨a, ha, _⟩ := hA 0 _ (List.getElem?_eq_getElem this)
        cases ha
    have hys0 : ys = [] := List.eq_nil_of_length_eq_zero (by rw [hpl, h0, Nat.zero_mul])
    rw [hys0, List.append_nil] at c4
    refine ⟨v, w, ?_, ?_, ⟨xs, c4, by rw [c2, c1, h0, Nat.add_zero]; exact hown⟩, ⟨rfl, rfl, rfl, Nat.le_refl _, fun _ _ _ => rfl⟩, .inl rfl⟩
    · rw [h0]
      rcases hown.2 with ⟨rfl, _⟩ | ⟨g, cap, cur, rfl, _, _, hnc, _⟩
      · simp [Builtin.append_, run_underlying htt.1, sizeOf, typeInfo, hi, Builtin.lenOf, Builtin.firstCells]
      · simp [Builtin.append_, run_underlying htt.1, sizeOf, typeInfo, hi, Builtin.lenOf, Builtin.firstCells, hnc, storeCells]
    · rcases hown.2 with ⟨rfl, _⟩ | ⟨g, cap, cur, rfl, _⟩
      · exact ⟨_, _, _, rfl⟩
      · exact ⟨_, _, _, rfl⟩
  | some A =>
    have hnews : ∀ j u, ys[j]? = some u → w.cell? (A.add j) = some u := fun j u hu => by
      obtain ⟨a, ha, hc⟩ := hA j u hu
      cases ha; exact hc
    have hzs : z.cells.size = q.sz := by
      cases hd : q0.deep with
      | false =>
        have : z.cells.toList.length = (q0.zeros 1).cells.length := by rw [hzc hd]
        rw [Row.cells_len ((zeros_deep q0 1).trans hd), zeros_len, zeros_sz, Nat.one_mul, hsz] at this
        simpa using this
      | true =>
        rw [hzd hd, ← hsz]
        cases q0 <;> first | rfl | cases hd
    obtain ⟨v', w', hr, h2, h3, h4⟩ := run_append_own (P := P) w base t ty e i z q.sz (rowBytes q) htt.1 hi hz (by rw [hs, hsz]) (by rw [hb, hby]) hzs hpos v q.len xs hown A p.len c ys hpl hnews c5 h63 hle hbase
    rw [← c1, ← c2] at h2
    refine ⟨v', w', hr, ?_, ⟨_, c4, h2⟩, h3, ?_⟩
    · rcases h2.2 with ⟨rfl, _⟩ | ⟨g, cap, cur, rfl, _⟩
      · exact ⟨_, _, _, rfl⟩
      · exact ⟨_, _, _, rfl⟩
    · have hisz : i.size = q.sz := by rw [hs, hsz]
      rcases hown.2 with ⟨rfl, hq00⟩ | ⟨g, cap, cur, rfl, hbg, hg, hnc, hcm, hcs, htake⟩
      · by_cases h0 : p.len = 0
        · left; rw [h4.2 ⟨rfl, h0⟩]
        · right
          have hr2 := run_append_nil (P := P) w t ty e i z htt.1 hi hz A p.len c ys (by rw [hisz]; exact hpl) hnews (by omega) (by rw [maxLen_eq] at h63; omega) (by
            rw [hb, hby]
            have : p.len * rowBytes q ≤ (q.len + p.len) * rowBytes q := Nat.mul_le_mul_right _ (by omega)
            omega)
          rw [hr] at hr2
          simp only [Result.ok.injEq] at hr2
          intro g hg
          rw [hr2.1] at hg
          simp [Value.ownBlock] at hg; omega
      · by_cases hroom : q.len + p.len ≤ cap
        · left
          obtain ⟨w2, hr2, _⟩ := run_append_fits (P := P) w base t ty e i q.sz htt.1 hi hisz g q.len cap xs hown A p.len c ys hpl hnews c5 hroom
          rw [hr] at hr2
          simp only [Result.ok.injEq] at hr2
          rw [hr2.1]; rfl
        · right
          have hr2 := run_append_grow (P := P) w t ty e i z htt.1 hi hz ⟨g, 0, none⟩ q.len cap xs (by rw [hisz]; exact hown.1) (hown.cells (g := g) rfl) A p.len c ys (by rw [hisz]; exact hpl) hnews (by omega) h63' (growslice_fits (by omega) (by rw [hb, hby]; exact hle))
          rw [hr] at hr2
          simp only [Result.ok.injEq] at hr2
          intro g' hg'
          rw [hr2.1] at hg'
          simp [Value.ownBlock] at hg'; omega

theorem RelW.move {bl : List Blk} {b : Blk} {t' : TypeId} {q' : Row} {v v' : Value} {j : Nat} {w' : World} {xs : List Value} (h : RelW X bl w lc) (hj : bl[j]? = some b) (hon : b.on = true) (hl : lc[j]? = some (.r v)) (hg : w.grownBy w' v.ownBlock)
    (hin : q'.cellsIn X.ft X.fw xs) (hr : w'.ownsRow 0 t' q'.sz v' q'.len xs) (hb : v'.ownBlock = v.ownBlock ∨ ∀ g, v'.ownBlock = some g → w.heap.size ≤ g) : RelW X (put bl j .dead ++ [.row t' q']) w' (lc ++ [.r v']) := by
  have h1 := h.turn (b' := .dead) hj hl hon hg (by cases v <;> trivial)
  have hmine : ∀ g, v'.ownBlock = some g → X.mine g := fun g hgv => by
    rcases hb with hb | hb
    · exact (Loc.lt (h.blks j b _ hj hl) hon (by rw [← hgv]; exact hb.symm)).1
    · exact .inl (Nat.le_trans h.base_le (hb g hgv))
  refine h1.add ⟨hmine, xs, hin, hr⟩ (fun g hgv i bi li hi oni hli hgi => ?_) fun g _ hgv hf => ?_
  · have hij : i ≠ j := fun e => by
      subst e
      have := (List.getElem?_eq_some_iff.1 hj).1
      rw [put_eq, List.getElem?_set_self this] at hi
      cases hi; simp [Blk.on] at oni
    rw [put_eq, List.getElem?_set_ne (Ne.symm hij)] at hi
    rcases hb with hb | hb
    · exact h.apart i j bi _ li _ g hij hi hj oni hon hli hl hgi (by rw [← hgv]; exact hb.symm)
    · have h3 := (Loc.lt (h.blks i bi li hi hli) oni hgi).2
      have h4 := hb g hgv
      omega
  · rcases hb with hb | hb
    · exact h.frn j b _ g hj hon hl (by rw [← hgv]; exact hb.symm) hf
    · have := (h.frz g hf).1
      have := hb g hgv
      omega

theorem s_append (hL : LayOK P L) {c : Call} {x y : Operand} (ho : o.op = .call c) (hc : c.callee = .builtin .append) (ha : c.args.toList = [x, y]) (hR : Rel X s a w lc)
    (h : evAppend L c.argTypes.toList (getO s x).sv (getO s y).sv s K = some r) : Step P X o a w lc s K r := by
  have hx := eval_rel (X := X) hR.tmps x
  have hy := eval_rel (X := X) hR.tmps y
  obtain ⟨callee, args, argTypes⟩ := c
  simp only at hc ha h
  subst hc
  have ha' : args = #[x, y] := by cases args; simp_all
  subst ha'
  unfold evAppend at h
  split at h
  · rename_i j hj
    split at h
    · rename_i e q hb
      obtain ⟨hblk, hon⟩ := rowOf_some hb
      obtain ⟨hT, hK⟩ := cond_none h
      clear h
      unfold appendT at hT
      split at hT
      · rename_i u u' hts
        simp only [Bool.and_eq_true] at hT
        obtain ⟨hu, hT⟩ := hT
        have hu := Nat.eq_of_beq_eq_true hu
        subst hu
        have hts' : argTypes = #[u, u] := by cases argTypes; simp_all
        subst hts'
        split at hT
        · rename_i e' hti
          simp only [Bool.and_eq_true] at hT
          obtain ⟨he, hT⟩ := hT
          have he := Nat.eq_of_beq_eq_true he
          subst he
          split at hT
          · rename_i q0 hq0
            simp only [Bool.and_eq_true] at hT
            have hby := Nat.eq_of_beq_eq_true hT.1
            have hsz := Nat.eq_of_beq_eq_true hT.2
            obtain ⟨hl, _⟩ := sv_is hx hj
            obtain ⟨v0, hv0, xs, hin, hown⟩ := rowOf_rel (hR.world.blks j _ _ hblk hl) hb
            simp only [Loc.r.injEq] at hv0
            subst hv0
            have go : ∀ p, RowAt X w p (a.eval y) → (match q.cat p with
                | some r' => gd (decide ((q.len + p.len) * rowBytes q ≤ 140737488355328)) (K (one (.row s.blks.length)) ⟨s.tmps, put s.blks j .dead ++ [.row e' r']⟩)
                | none => none) = some r → Step P X o a w lc s K r := by
              intro p hp h
              split at h
              · rename_i q' hcat
                obtain ⟨hle, h⟩ := gd_some h
                have hle := of_decide_eq_true hle
                obtain ⟨v', w', hr, ⟨A, n, c, hv'⟩, ⟨xs', h2, h2'⟩, h3, h4⟩ := append_row (ty := o.type) hL hti hq0 hby hsz hin hown hp hcat hle (Nat.zero_le _)
                subst hv'
                refine ⟨_, _, [.r (.slice A n c)], .value (.slice A n c), _, w', h, ?_, (fun hf => by rw [ho] at hf; cases hf), rfl, ?_, ?_⟩
                · unfold execOp
                  simp [ho, resolve, invoke, builtin, hr]
                · exact relS_row (X := X) (last_loc hR.world.len rfl)
                · exact hR.world.move hblk hon hl h3 h2 h2' (h4.imp id id)
              · cases h
            split at hK
            · rename_i p hp
              refine go p ?_ hK
              unfold readRow at hp
              split at hp
              · rename_i k hk
                split at hp
                · rename_i e2 p' hb2
                  cases hp
                  obtain ⟨hblk2, _⟩ := rowOf_some hb2
                  obtain ⟨v2, hv2, ys, hys, hown2⟩ := rowOf_rel (hR.world.blks k _ _ hblk2 (sv_is hy hk).1) hb2
                  simp only [Loc.r.injEq] at hv2
                  subst hv2
                  exact own_rowAt hys hown2
                · cases hp
              · rename_i t2 p' hk
                cases hd : p'.deep with
                | true => rw [hd] at hp; cases hp
                | false =>
                  rw [hd] at hp
                  cases hp
                  exact frozen_rowAt hd (sv_is hy hk) hR.world.below
              · rename_i t2 p' hk
                cases hp
                exact frozenT_rowAt (sv_is hy hk).1 hR.world
              · rename_i p' hk
                cases hp
                exact frozenT_rowAt (sv_is hy hk) hR.world
              · cases hp
            · cases hK
          · cases hT
        · cases hT
      · cases hT
    · cases h
  · cases h

def clr (z : Value) : Nat → Nat → List Value → List Value
  | 0, _, xs => xs
  | m + 1, o, xs => clr z m (o + 1) (xs.set o z)
theorem clr_eq (z : Value) : ∀ (m o : Nat) (xs : List Value), o + m = xs.length → clr z m o xs = xs.take o ++ List.replicate m z
  | 0, o, xs, h => by rw [clr, List.take_of_length_le (by omega)]; simp
  | m + 1, o, xs, h => by
    rw [clr, clr_eq z m (o + 1) (xs.set o z) (by simp; omega), List.replicate_succ, List.take_add_one, List.getElem?_set_self (by omega), List.take_set, List.set_eq_of_length_le (by simp; omega)]
    simp
theorem own_clear {u : TypeId} {n cap base g : Nat} (z : Value) : ∀ (m o : Nat) (w : World) (xs : List Value), w.ownsRow base u 1 (.slice (some ⟨g, 0, none⟩) n cap) n xs →
    (w.setCells g o (List.replicate m z)).ownsRow base u 1 (.slice (some ⟨g, 0, none⟩) n cap) n (clr z m o xs) ∧ w.grownBy (w.setCells g o (List.replicate m z)) (some g)
  | 0, o, w, xs, h => ⟨h, rfl, rfl, rfl, Nat.le_refl _, fun _ _ _ => rfl⟩
  | m + 1, o, w, xs, h => by
    obtain ⟨h1, h2⟩ := h.stored o z
    obtain ⟨h3, h4⟩ := own_clear z m (o + 1) _ _ h1
    exact ⟨h3, grownBy_trans h2 h4⟩
theorem s_clear (hL : LayOK P L) {c : Call} {x : Operand} (ho : o.op = .call c) (hc : c.callee = .builtin .clear) (ha : c.args.toList = [x]) (hR : Rel X s a w lc)
    (h : evClear L c.argTypes.toList (getO s x).sv s K = some r) : Step P X o a w lc s K r := by
  have hx := eval_rel (X := X) hR.tmps x
  obtain ⟨callee, args, argTypes⟩ := c
  simp only at hc ha h
  subst hc
  have ha' : args = #[x] := by cases args; simp_all
  subst ha'
  unfold evClear at h
  split at h
  · rename_i j i t hj hts
    have hts' : argTypes = #[t] := by cases argTypes; simp_all
    subst hts'
    split at h
    · rename_i e hti
      split at h
      · rename_i u l hei hb
        have ht := hL t
        rw [hti] at ht
        have he := hL e
        rw [hei] at he
        obtain ⟨_, inf, hi, hz, _, _⟩ := he
        have hzv : ∀ w, (zeroValue e).run P w = .ok (.string ByteArray.empty) w := fun w => by simp [zeroValue, typeInfo, hi, hz]
        obtain ⟨hblk, hon⟩ := rowOf_some hb
        obtain ⟨g, n, c, hlj, h0, h1, c', hev⟩ := sv_is hx hj
        have hB := hR.world.blks j _ _ hblk hlj
        obtain ⟨v', hv', xs, hin, hown⟩ := rowOf_rel hB hb
        simp only [Loc.r.injEq] at hv'
        subst hv'
        have hnl : n = l.length := by
          rcases hown.2 with ⟨h', _⟩ | ⟨g', cap', cur, h', _⟩
          · simp at h'
          · simp at h'; exact h'.2.1
        subst hnl
        have hxs : xs = l.map .string := hin
        subst hxs
        have hown : w.ownsRow 0 u 1 (.slice (some ⟨g, 0, none⟩) l.length c) l.length (l.map .string) := hown
        obtain ⟨k1, k2⟩ := own_clear (.string ByteArray.empty) (l.length - i.toNat) i.toNat w _ hown
        rw [clr_eq _ _ _ _ (by simp; omega)] at k1
        have hcl := Lib.run_clear_slice (P := P) w t e o.type (.string ByteArray.empty) ht.1 hzv rfl rfl g i.toNat (l.length - i.toNat) c' (by omega)
          (fun m hm => by rw [hown.cellAt _ (by omega)]; simp; omega) (fun m hm => hown.frozenAt _)
        refine ⟨_, _, [], .value (.tuple #[]), _, w.setCells g i.toNat (List.replicate (l.length - i.toNat) (.string ByteArray.empty)), h, ?_, (fun hf => by rw [ho] at hf; cases hf), rfl, trivial, ?_⟩
        · unfold execOp
          simp [ho, resolve, invoke, builtin, hev, hcl]
        · rw [List.append_nil]
          refine hR.world.turn hblk hlj hon k2 ?_
          have hm := Loc.lt hB hon rfl
          have fin : (Row.strs (clearF l i)).cellsIn X.ft X.fw ((l.map Value.string).take i.toNat ++ List.replicate (l.length - i.toNat) (.string ByteArray.empty)) := by
            show _ = (clearF l i).map Value.string
            simp [clearF]
          have hlen : (clearF l i).length = l.length := by simp [clearF]; omega
          cases hbb : nth Blk.dead s.blks j with
          | cells _ _ => rw [hbb] at hb; cases hb
          | dead => rw [hbb] at hb; cases hb
          | mp _ _ => rw [hbb] at hb; cases hb
          | pcells _ _ _ => rw [hbb] at hb; cases hb
          | pmp _ _ _ => rw [hbb] at hb; cases hb
          | srow _ _ => rw [hbb] at hb; cases hb
          | row t2 r2 =>
            rw [hbb] at hb hB
            simp only [Blk.rowOf, Option.some.injEq, Prod.mk.injEq] at hb
            obtain ⟨rfl, rfl⟩ := hb
            refine ⟨hB.1, _, fin, ?_⟩
            show World.ownsRow _ _ _ _ _ (clearF l i).length _
            rw [hlen]; exact k1
          | prow k2 t2 r2 =>
            rw [hbb] at hb hB
            simp only [Blk.rowOf, Option.some.injEq, Prod.mk.injEq] at hb
            obtain ⟨rfl, rfl⟩ := hb
            refine ⟨hB.1, _, fin, ?_⟩
            show World.ownsRow _ _ _ _ _ (clearF l i).length _
            rw [hlen]; exact k1
      · cases h
    · cases h
  · cases h

theorem append_turn (hL : LayOK P L) {c : Call} {x y : Operand} (ho : o.op = .call c) (hc : c.callee = .builtin .append) (ha : c.args.toList = [x, y]) (hR : Rel X s a w lc)
    (h : evAppend L c.argTypes.toList (getO s x).sv (getO s y).sv s K = some r) : ∃ v w', (execOp a.eval o).run P w = .ok (.value v) w' ∧ ∃ j ℓ, j ∈ refsT (getO s x) ∧ lc[j]? = some ℓ ∧ (∃ b, s.blks[j]? = some b ∧ b.on = true) ∧ w.grownBy w' ℓ.blk := by
  have hx := eval_rel (X := X) hR.tmps x
  have hy := eval_rel (X := X) hR.tmps y
  obtain ⟨callee, args, argTypes⟩ := c
  simp only at hc ha h
  subst hc
  have ha' : args = #[x, y] := by cases args; simp_all
  subst ha'
  unfold evAppend at h
  split at h
  · rename_i j hj
    split at h
    · rename_i e q hb
      obtain ⟨hblk, hon⟩ := rowOf_some hb
      obtain ⟨hT, hK⟩ := cond_none h
      clear h
      unfold appendT at hT
      split at hT
      · rename_i u u' hts
        simp only [Bool.and_eq_true] at hT
        obtain ⟨hu, hT⟩ := hT
        have hu := Nat.eq_of_beq_eq_true hu
        subst hu
        have hts' : argTypes = #[u, u] := by cases argTypes; simp_all
        subst hts'
        split at hT
        · rename_i e' hti
          simp only [Bool.and_eq_true] at hT
          obtain ⟨he, hT⟩ := hT
          have he := Nat.eq_of_beq_eq_true he
          subst he
          split at hT
          · rename_i q0 hq0
            simp only [Bool.and_eq_true] at hT
            have hby := Nat.eq_of_beq_eq_true hT.1
            have hsz := Nat.eq_of_beq_eq_true hT.2
            obtain ⟨hl, _⟩ := sv_is hx hj
            obtain ⟨v0, hv0, xs, hin, hown⟩ := rowOf_rel (hR.world.blks j _ _ hblk hl) hb
            simp only [Loc.r.injEq] at hv0
            subst hv0
            have go : ∀ p, RowAt X w p (a.eval y) → (match q.cat p with
                | some r' => gd (decide ((q.len + p.len) * rowBytes q ≤ 140737488355328)) (K (one (.row s.blks.length)) ⟨s.tmps, put s.blks j .dead ++ [.row e' r']⟩)
                | none => none) = some r → ∃ v w', (execOp a.eval o).run P w = .ok (.value v) w' ∧ ∃ j ℓ, j ∈ refsT (getO s x) ∧ lc[j]? = some ℓ ∧ (∃ b, s.blks[j]? = some b ∧ b.on = true) ∧ w.grownBy w' ℓ.blk := by
              intro p hp h
              split at h
              · rename_i q' hcat
                obtain ⟨hle, h⟩ := gd_some h
                have hle := of_decide_eq_true hle
                obtain ⟨v', w', hr, ⟨A, n, c, hv'⟩, ⟨xs', h2, h2'⟩, h3, h4⟩ := append_row (ty := o.type) hL hti hq0 hby hsz hin hown hp hcat hle (Nat.zero_le _)
                subst hv'
                refine ⟨.slice A n c, w', ?_, j, _, by rw [sv_refs hj (by simp)]; simp [refsS], hl, ⟨_, hblk, hon⟩, h3⟩
                unfold execOp
                simp [ho, resolve, invoke, builtin, hr]
              · cases h
            split at hK
            · rename_i p hp
              refine go p ?_ hK
              unfold readRow at hp
              split at hp
              · rename_i k hk
                split at hp
                · rename_i e2 p' hb2
                  cases hp
                  obtain ⟨hblk2, _⟩ := rowOf_some hb2
                  obtain ⟨v2, hv2, ys, hys, hown2⟩ := rowOf_rel (hR.world.blks k _ _ hblk2 (sv_is hy hk).1) hb2
                  simp only [Loc.r.injEq] at hv2
                  subst hv2
                  exact own_rowAt hys hown2
                · cases hp
              · rename_i t2 p' hk
                cases hd : p'.deep with
                | true => rw [hd] at hp; cases hp
                | false =>
                  rw [hd] at hp
                  cases hp
                  exact frozen_rowAt hd (sv_is hy hk) hR.world.below
              · rename_i t2 p' hk
                cases hp
                exact frozenT_rowAt (sv_is hy hk).1 hR.world
              · rename_i p' hk
                cases hp
                exact frozenT_rowAt (sv_is hy hk) hR.world
              · cases hp
            · cases hK
          · cases hT
        · cases hT
      · cases hT
    · cases h
  · cases h


theorem foldl_push (l : List Int) : ∀ (b : ByteArray), l.foldl (fun b n => b.push (UInt8.ofNat n.toNat)) b = ⟨b.data ++ (l.map fun n => UInt8.ofNat n.toNat).toArray⟩ := by
  induction l with
  | nil => intro b; simp
  | cons n l ih =>
    intro b
    rw [List.foldl_cons, ih]
    simp [ByteArray.push]

theorem heap_freeze {w : World} (g k : Nat) {cur : Array Value} {e : TypeId} {fz : Nat × Nat} (hg : w.heap[g]? = some (.cells cur e fz)) :
    ∃ fz', (w.freeze ⟨g, k, none⟩ 1).heap[g]? = some (.cells cur e fz') ∧ w.grownBy (w.freeze ⟨g, k, none⟩ 1) (some g) := by
  unfold World.freeze
  rw [if_neg (by decide)]
  obtain ⟨lo, hi⟩ := fz
  refine ⟨if lo == hi then (k, k + 1) else (min lo k, max hi (k + 1)), ?_, rfl, rfl, rfl, ?_, fun i _ hi => ?_⟩
  · simp only [Array.getElem?_modify, if_true, hg, Option.map_some]
  · simp
  · have : g ≠ i := fun e => hi (by rw [e])
    simp only [Array.getElem?_modify, if_neg this]
theorem s_convert (hL : LayOK P L) {src dst : TypeId} {x : Operand} (ho : o.op = .convert src dst x) (hR : Rel X s a w lc)
    (h : (match L.at_ src, L.at_ dst, (getO s x).sv with
      | .int _, .int k, .int _ n => K (one (.int k (k.wrap n))) s
      | .slice e, .string, .row j => match nth .dead s.blks j, L.at_ e with
        | .row _ (.ints .u8 l), .int .u8 => K (one (.str (strOf l))) s
        | _, _ => none
      | .slice e, .slice _, .row j => cond (Nat.beq src dst) (match nth .dead s.blks j, L.at_ e with
        | .row t (.ints .u8 (n :: l)), .int .u8 => K (one (.row s.blks.length)) ⟨s.tmps, put s.blks j .dead ++ [.srow t (.ints .u8 (n :: l))]⟩
        | _, _ => none) none
      | .string, .string, .str b => K (one (.str b)) s
      | _, _, _ => none) = some r) : StepQ P X o a w lc s K r ∨ (Nat.beq src dst = true ∧ Step P X o a w lc s K r) := by
  have hx := eval_rel (X := X) hR.tmps x
  have h1 := hL src
  have h2 := hL dst
  split at h
  · rename_i k0 k k1 n e1 e2 hv
    rw [e1] at h1
    rw [e2] at h2
    have ex := sv_is hx hv
    simp only [relS] at ex
    exact .inl <| stepQ_pure (v := .int k (k.wrap n)) h (by simp [one, relT, relA, relS]) fun w' => by
      unfold execOp
      simp [ho, convert, run_underlying h1.1, run_underlying h2.1, ex, Conv.intToInt]
  · rename_i e j e1 e2 hv
    rw [e1] at h1
    rw [e2] at h2
    split at h
    · rename_i u l hb e3
      have h3 := hL e
      rw [e3] at h3
      have hblk := nth_some hb (by simp)
      obtain ⟨_, xs, hin, hown⟩ := hR.world.blks j _ _ hblk (sv_is hx hv).1
      obtain rfl : xs = l.map (.int .u8) := hin
      have hown : w.ownsRow 0 u 1 (a.eval x) l.length (l.map (.int .u8)) := hown
      have hjr : j ∈ refsT (getO s x) := by rw [sv_refs hv (by simp)]; simp [refsS]
      have hlj := (sv_is hx hv).1
      refine .inl ⟨_, .string (strOf l), h, by simp [one, relT, relA, relS], fun G hV w' hb' => ?_⟩
      have hrun : (convert src dst (a.eval x)).run P w' = .ok (.string (strOf l)) w' := by
        rcases hown.2 with ⟨h', h0⟩ | ⟨g, cap, cur, h', _⟩
        · rw [h', run_convert_bytes_string w' src dst e none 0 0 h1.1 h3.1 h2.1]
          have : l = [] := List.eq_nil_of_length_eq_zero h0
          subst this
          simp [Conv.bytesToString, strOf]
          rfl
        · rw [h'] at hown
          have hng : ¬ G g := hV.no (opRefs_mem (x := x) (by simp [ho, Op.operands]) hjr) hblk rfl hlj (by rw [h']; rfl)
          rw [h', run_convert_bytes_string w' src dst e _ _ _ h1.1 h3.1 h2.1]
          rw [run_bytesToString w' _ _ _ l, foldl_push]
          · simp [strOf]
          · have hc := run_loadCells (P := P) w' ⟨g, 0, none⟩ l.length (fun m => .int .u8 (l.getD m 0)) (fun m hm => by
              rw [Addr.add_lit, Nat.zero_add]
              refine ownsRow_cells' hown hb' hng ?_
              simp [List.getD, hm])
            rw [hc]
            congr 1
            apply Array.ext'
            apply List.ext_getElem?
            intro m
            by_cases hm : m < l.length
            · simp [hm, List.getD]
            · simp [hm]
      unfold execOp
      simp only [ho, Sem.run_bind, hrun, Result.andThen_ok, Sem.run_pure]
    · cases h
  · rename_i e e' j e1 e2 hv
    rw [e1] at h1
    obtain ⟨hbeq, hk⟩ := cond_none h
    clear h
    obtain rfl := Nat.eq_of_beq_eq_true hbeq
    split at hk
    · rename_i u n l hb e3
      have h3 := hL e
      rw [e3] at h3
      have hblk := nth_some hb (by simp)
      have hlj := (sv_is hx hv).1
      obtain ⟨hmine, xs, hin, hown⟩ := hR.world.blks j _ _ hblk hlj
      obtain rfl : xs = (n :: l).map (.int .u8) := hin
      have hown : w.ownsRow 0 u 1 (a.eval x) (n :: l).length ((n :: l).map (.int .u8)) := hown
      rcases hown.2 with ⟨_, h0⟩ | ⟨g, cap, cur, h', hbase, hg, hcap, hmax, hcs, htake⟩
      · simp at h0
      · obtain ⟨fz, hf1, hf2⟩ := heap_freeze g cur.size hg
        have hsh : w.shape? g = some (u, cur.size) := by
          unfold World.shape?
          rw [hg]
        have hrun : (convert src src (a.eval x)).run P w = .ok (a.eval x) (w.freeze ⟨g, cur.size, none⟩ 1) := by
          rw [h']
          simp [convert, run_underlying h1.1, run_underlying h3.1, markStringish, hsh]
        rw [h'] at hlj hrun
        refine .inr ⟨hbeq, _, _, [.r (.slice (some ⟨g, 0, none⟩) (n :: l).length cap)], .value (.slice (some ⟨g, 0, none⟩) (n :: l).length cap), _, w.freeze ⟨g, cur.size, none⟩ 1, hk, ?_, (fun hf => by rw [ho] at hf; simp [freshB, quietB] at hf), rfl, relS_row (X := X) (last_loc hR.world.len rfl), ?_⟩
        · unfold execOp
          simp only [ho, Sem.run_bind, h', hrun, Result.andThen_ok, Sem.run_pure]
        · have hturn := hR.world.turn (b' := .dead) hblk hlj rfl hf2 trivial
          refine hturn.add (b := .srow u (.ints .u8 (n :: l))) ⟨fun g' hg' => hmine g' (by rw [h']; exact hg'), _, rfl, hown.1, .inr ⟨g, cap, cur, fz, rfl, hbase, hf1, htake⟩⟩ (fun g' hgv i bi li hi oni hli hgi => ?_) fun g' _ hgv => ?_
          · have hij : i ≠ j := fun e => by
              subst e
              have := (List.getElem?_eq_some_iff.1 hblk).1
              rw [put_eq, List.getElem?_set_self this] at hi
              cases hi; simp [Blk.on] at oni
            rw [put_eq, List.getElem?_set_ne (Ne.symm hij)] at hi
            exact hR.world.apart i j bi _ li _ g' hij hi hblk oni rfl hli hlj hgi hgv
          · exact hR.world.frn j _ _ g' hblk rfl hlj hgv
    · cases hk
  · rename_i b e1 e2 hv
    rw [e1] at h1
    rw [e2] at h2
    have ex := sv_is hx hv
    simp only [relS] at ex
    exact .inl <| stepQ_pure (v := .string b) h (by simp [one, relT, relA, relS]) fun w' => by
      unfold execOp
      simp [ho, convert, run_underlying h1.1, run_underlying h2.1, ex]
  · cases h
end
end Go.Rv
