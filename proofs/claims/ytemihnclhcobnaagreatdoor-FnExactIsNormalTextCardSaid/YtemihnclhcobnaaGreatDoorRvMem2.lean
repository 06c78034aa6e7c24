/- The evaluator's operations do what the machine's do: rows made, appended to and converted. -/
import Derived.Test.YtemihnclhcobnaaGreatDoorRvMem
import Derived.Lib.SliceRun
import Derived.Laws.BytesString
namespace Go.Rv
set_option linter.unusedSimpArgs false
open Go.RowKit (Below)
section
variable {I : World -> Prop} {P : Program} {L : Lay} {X : Cx I} {lc : List Loc} {β : Type} {o : Oper} {s : St} {a : Act} {w : World} {K : TV -> St -> Option β} {r : β}

theorem Es {u : TypeId} {sz n : Nat} {v : Value} {base : Nat} {xs : List Value} (h : w.ownsRow base u sz v n xs) {m : Nat} {x : Value} (hm : xs[m]? = some x) : ∃ g c, v = .slice (some ⟨g, 0, none⟩) n c /\ w.cell? ⟨g, m, none⟩ = some x := by
 rcases h.2 with ⟨h', h0⟩ | ⟨g, cap, cur, h', _⟩
 ·have := h.1
  rw [h0, alu] at this
  rw [akw this] at hm; simp at hm
 ·subst h'
  exact ⟨g, cap, rfl, gH h (akG _ _) hm⟩
theorem ua {u : TypeId} {q : Row} {v : Value} {base : Nat} {xs : List Value} {S : Nat -> Prop} (h : w.ownsRow base u q.sz v q.len xs) (hin : q.cellsIn S w xs) (hS : ∀ g, v.ownBlock = some g -> S g) : bf S w q v := by
 rcases h.2 with ⟨h', h0⟩ | ⟨g, cap, cur, h', hb, hg, hnc, _⟩
 ·subst h'
  refine ⟨none, 0, 0, rfl, h0.symm, aj8 _, xs, hin, fun m u hm => ?_⟩
  have := h.1
  rw [h0, alu] at this
  rw [akw this] at hm; simp at hm
 ·subst h'
  refine ⟨_, _, _, rfl, rfl, hnc, xs, hin, fun m u hm => ⟨_, rfl, hS g rfl, ?_⟩⟩
  rw [akM, akE]
  exact gH h (akG _ _) hm
theorem BS {bl : List Blk} (hW : aK X bl w lc) {s : SV} {v : Value} (h : aD X lc s v) : ∃ X', X.Le X' /\ aK X' (zh bl s).2 w lc /\ aD X' lc (zh bl s).1 v := by
 cases s with
 | row j =>
  simp only [zh]
  cases hb : nth Blk.dead bl j with
  | row t q =>
   have hblk := cn hb (by simp)
   obtain ⟨hm, xs, hin, hown⟩ := hW.blks j _ _ hblk h.1
   cases ho : v.ownBlock with
   | none =>
    refine ⟨X, .refl X, hW.drop j, ?_⟩
    rcases hown.2 with ⟨h', h0⟩ | ⟨g, cap, cur, h', _⟩
    ·subst h'; exact ⟨eh h0, fP h0⟩
    ·subst h'; cases ho
   | some g =>
    obtain ⟨hle, hW'⟩ := hW.freeze hblk rfl h.1 ho
    refine ⟨_, hle, hW', ?_⟩
    have hS : ∀ g', v.ownBlock = some g' -> X.ft g' \/ g' = g := fun g' hg' => by
     rw [ho] at hg'
     cases hg'
     exact .inr rfl
    exact ⟨ua (S := fun k => X.ft k \/ k = g) hown (cellsIn.mono (fun _ h => .inl h) (fun k hk => (hW.frz k hk).2) hin) hS, xs, hown, hS⟩
  | _ => exact ⟨X, .refl X, hW, h⟩
 | _ => exact ⟨X, .refl X, hW, h⟩
theorem BR : ∀ {l : List SV} {vs : List Value} {X : Cx I} {bl : List Blk}, aK X bl w lc -> aB (aD X lc) l vs -> ∃ X', X.Le X' /\ aK X' (BQ bl l).2 w lc /\ aB (aD X' lc) (BQ bl l).1 vs
 | [], _, X, bl, hW, h => ⟨X, .refl X, hW, h⟩
 | s :: l, _, X, bl, hW, .cons h1 h2 => by
  obtain ⟨X1, a1, a2, a3⟩ := BS hW h1
  obtain ⟨X2, b1, b2, b3⟩ := BR a2 (h2.mono fun _ _ h => aD.grow a1 h)
  exact ⟨X2, a1.trans b1, b2, .cons (aD.grow b1 a3) b3⟩
theorem BP {bl : List Blk} (hW : aK X bl w lc) {x : AV} {v : Value} (h : a7 X lc x v) : ∃ X', X.Le X' /\ aK X' (BO bl x).2 w lc /\ a7 X' lc (BO bl x).1 v := by
 cases x with
 | one s => exact BS hW h
 | agg l =>
  obtain ⟨cs, h1, h2⟩ := h
  obtain ⟨X', a1, a2, a3⟩ := BR hW h2
  exact ⟨X', a1, a2, cs, h1, a3⟩
theorem xc : ∀ {l : List AV} {vs : List Value} {X : Cx I} {bl : List Blk}, aK X bl w lc -> aB (a7 X lc) l vs -> ∃ X', X.Le X' /\ aK X' (qV bl l).2 w lc /\ aB (a7 X' lc) (qV bl l).1 vs
 | [], _, X, bl, hW, h => ⟨X, .refl X, hW, h⟩
 | s :: l, _, X, bl, hW, .cons h1 h2 => by
  obtain ⟨X1, a1, a2, a3⟩ := BP hW h1
  obtain ⟨X2, b1, b2, b3⟩ := xc a2 (h2.mono fun _ _ h => a7.grow a1 h)
  exact ⟨X2, a1.trans b1, b2, .cons (a7.grow b1 a3) b3⟩
theorem tj {bl : List Blk} (hW : aK X bl w lc) {x : TV} {v : Value} (h : aC X lc x v) : ∃ X', X.Le X' /\ aK X' (zi bl x).2 w lc /\ aC X' lc (zi bl x).1 v := by
 cases x with
 | v s => exact BP hW h
 | tup l =>
  obtain ⟨cs, h1, h2⟩ := h
  obtain ⟨X', a1, a2, a3⟩ := xc hW h2
  exact ⟨X', a1, a2, cs, h1, a3⟩
theorem qe : ∀ {l : List TV} {vs : List Value} {X : Cx I} {bl : List Blk}, aK X bl w lc -> aB (aC X lc) l vs -> ∃ X', X.Le X' /\ aK X' (qW bl l).2 w lc /\ aB (aC X' lc) (qW bl l).1 vs
 | [], _, X, bl, hW, h => ⟨X, .refl X, hW, h⟩
 | s :: l, _, X, bl, hW, .cons h1 h2 => by
  obtain ⟨X1, a1, a2, a3⟩ := tj hW h1
  obtain ⟨X2, b1, b2, b3⟩ := qe a2 (h2.mono fun _ _ h => aC.grow a1 h)
  exact ⟨X2, a1.trans b1, b2, .cons (aC.grow b1 a3) b3⟩

structure Q4 (P : Program) (L : Lay) (e : TypeId) (q : Row) : Prop where
 info : ∃ i z, P.info? e = some i /\ i.zero = some z /\ i.size = q.sz /\ i.bytes = bq q /\ (q.deep = false -> z.cells.toList = (q.zeros 1).cells) /\ (q.deep = true -> z = .slice none 0 0)

theorem gD (hL : aO P L) {e : TypeId} {q : Row} (h : bP L e = some q) : Q4 P L e q := by
 have ht := hL e
 unfold bP at h
 split at h
 ·rename_i k hti
  cases h
  rw [hti] at ht
  obtain ⟨_, i, hi, hz, hs, hb⟩ := ht
  exact ⟨i, _, hi, hz, hs, by rw [hb]; cases k <;> rfl, fun _ => rfl, fun h => by cases h⟩
 ·rename_i hti
  cases h
  rw [hti] at ht
  obtain ⟨_, i, hi, hz, hs, hb⟩ := ht
  exact ⟨i, _, hi, hz, hs, hb, fun _ => rfl, fun h => by cases h⟩
 ·rename_i hti
  cases h
  rw [hti] at ht
  obtain ⟨_, i, hi, hz, hs, hb⟩ := ht
  exact ⟨i, _, hi, hz, hs, hb, fun _ => rfl, fun h => by cases h⟩
 ·rename_i e' hti
  rw [hti] at ht
  obtain ⟨_, i, hi, hz, hs, hb⟩ := ht
  split at h
  ·cases h
   exact ⟨i, _, hi, hz, hs, hb, (fun h => by cases h), fun _ => rfl⟩
  ·cases h
 ·rename_i fs c1 c2 cmp hti
  rw [hti] at ht
  obtain ⟨_, zc, _, _, ⟨i, hi, hz, hs, hb⟩, hzc, _⟩ := ht
  split at h
  ·rename_i h1 h2
   cases h
   refine ⟨i, _, hi, hz, hs, hb, fun _ => ?_, fun h => by cases h⟩
   show zc.toList = _
   generalize zc.toList = zl at hzc ⊢
   cases hzc with
   | cons a1 hzc => cases hzc with
    | cons a2 hzc => cases hzc with
     | nil =>
      simp only [cU, h1, h2] at a1 a2
      subst a1; subst a2
      simp [Row.zeros, Row.cells]
  ·cases h
 ·rename_i fs c1 c2 c3 cmp hti
  rw [hti] at ht
  obtain ⟨_, zc, _, _, ⟨i, hi, hz, hs, hb⟩, hzc, _⟩ := ht
  split at h
  ·rename_i h1 h2 h3
   cases h
   refine ⟨i, _, hi, hz, hs, hb, fun _ => ?_, fun h => by cases h⟩
   show zc.toList = _
   generalize zc.toList = zl at hzc ⊢
   cases hzc with
   | cons a1 hzc => cases hzc with
    | cons a2 hzc => cases hzc with
     | cons a3 hzc => cases hzc with
      | nil =>
       simp only [cU, h1, h2, h3] at a1 a2 a3
       subst a1; subst a2; subst a3
       simp [Row.zeros, Row.cells]
  ·cases h
 ·cases h

theorem fb (q : Row) (n : Nat) : (q.zeros n).len = n := by cases q <;> simp [Row.zeros, Row.len]
theorem lR (q : Row) (n : Nat) : (q.zeros n).sz = q.sz := by cases q <;> rfl
theorem pA (q : Row) : 0 < bq q := by
 cases q with
 | ints k _ => cases k <;> simp [bq]
 | _ => simp [bq]

theorem jJ (q : Row) (n : Nat) : (q.zeros n).deep = q.deep := by cases q <;> rfl
theorem Ds (q : Row) (hdp : q.deep = false) (n c : Nat) (hnc : n <= c) {z : Array Value} (hz : z.toList = (q.zeros 1).cells) :
  ((madeCells z (c * q.sz)).toList.take (n * q.sz)) = (q.zeros n).cells := by
 have hsz : z.size = q.sz := by
  have : z.toList.length = (q.zeros 1).cells.length := by rw [hz]
  rw [Row.cells_len ((jJ q 1).trans hdp), fb, lR, amd] at this
  simpa using this
 apply amz
 intro k
 have hle : n * q.sz <= c * q.sz := ak6 _ hnc
 have hpos := q.sz_pos
 rw [amM]
 split
 ·rename_i hk
  have e1 : (madeCells z (c * q.sz)).toList[k]? = z.toList[k % q.sz]? := by
   have hm : k % z.size < z.size := Nat.mod_lt _ (by omega)
   have hkc : k < c * q.sz := by omega
   have : k % q.sz < z.size := by rw [hsz]; exact Nat.mod_lt _ hpos
   simp [madeCells, hkc, hsz, getElem!_pos z (k % q.sz) this]
  rw [e1, hz]
  have hq : k / q.sz < n := by rw [Nat.div_lt_iff_lt_mul hpos]; exact hk
  have hd : k = k / q.sz * q.sz + k % q.sz := by rw [Nat.mul_comm]; exact (Nat.div_add_mod k q.sz).symm
  have hmod : k % q.sz < q.sz := Nat.mod_lt _ hpos
  have flat : ∀ {α : Type} (f : α -> List Value) (hf : ∀ x, (f x).length = q.sz) (x : α), (List.flatMap f [x])[k % q.sz]? = (List.flatMap f (List.replicate n x))[k]? := by
   intro α f hf x
   rw [hd, nB hf _ _ _ hmod]
   simp [hq]
  have flat1 : ∀ {α : Type} (f : α -> Value) (x : α), q.sz = 1 -> ([x].map f)[k % q.sz]? = ((List.replicate n x).map f)[k]? := by
   intro α f x h1
   have hkn : k < n := by rw [h1] at hk; omega
   simp [h1, Nat.mod_one, hkn]
  cases q with
  | ints k l => exact flat1 _ _ rfl
  | strs l => exact flat1 _ _ rfl
  | bools l => exact flat1 _ _ rfl
  | pairs l => exact flat _ (fun _ => rfl) _
  | trips l => exact flat _ (fun _ => rfl) _
  | lists _ _ => exact Bool.noConfusion (show true = false from hdp)
 ·rename_i hk
  rw [amG]
  rw [Row.cells_len ((jJ q n).trans hdp), fb, lR]; omega
theorem Dt {S : Nat -> Prop} {wf : World} (q : Row) (n c : Nat) (hnc : n <= c) {z : Value} (h1 : q.deep = false -> z.cells.toList = (q.zeros 1).cells) (h2 : q.deep = true -> z = .slice none 0 0) :
  (q.zeros n).cellsIn S wf ((madeCells z.cells (c * q.sz)).toList.take (n * q.sz)) := by
 cases hd : q.deep with
 | false => rw [Ds q hd n c hnc (h1 hd)]; exact (Row.in_plain ((jJ q n).trans hd)).2 rfl
 | true =>
  have hz := h2 hd
  subst hz
  cases q <;> try cases hd
  rename_i e l
  show aB (ej S wf e) (List.replicate n []) _
  simp only [Row.sz, akV]
  refine .of_get ?_ fun k x y hx hy => ?_
  ·simp [size_madeCells]; omega
  ·rw [List.getElem?_replicate] at hx
   split at hx
   ·rename_i hk
    simp only [aj1] at hx
    subst hx
    rw [amN hk] at hy
    have hkc : k < c := by omega
    have hy : y = .slice none 0 0 := by
     simp [madeCells, hkc, Value.cells, Nat.mod_one] at hy
     exact hy.symm
    subst hy
    exact ⟨fP rfl, none, 0, 0, rfl, rfl, aj8 _, fun m u hm => by simp at hm⟩
   ·cases hx

theorem dn : maxLen = 9223372036854775807 := rfl

theorem CJ (hL : aO P L) {t : TypeId} {x y : Operand} (ho : o.op = .makeSlice t x y) (hR : Rel X s a w lc)
  (h : (match L.at_ t, (aF s x).sv, (aF s y).sv with
   | .slice e, .int .i64 n, .int .i64 c => match bP L e with
    | some r => gd (decide (0 <= n)) (gd (decide (n <= c)) (gd (decide ((bq r : Int) * c <= 281474976710656)) (K (one (.row s.blks.length)) (s.add (.row e (r.zeros n.toNat))))))
    | none => none
   | _, _, _ => none) = some r) : mH P X o a w lc s K r := by
 have hx := az (X := X) hR.tmps x
 have hy := az (X := X) hR.tmps y
 split at h
 ·rename_i e n c hti hv hn
  have ht := hL t
  rw [hti] at ht
  split at h
  ·rename_i q hq
   obtain ⟨h0, h⟩ := aA h
   obtain ⟨h1, h⟩ := aA h
   obtain ⟨h2, h⟩ := aA h
   have h0 := of_decide_eq_true h0
   have h1 := of_decide_eq_true h1
   have h2 := of_decide_eq_true h2
   have ex := aN hx hv
   have ey := aN hy hn
   simp only [aD] at ex ey
   obtain ⟨i, z, hi, hz, hs, hb, hzc, hzd⟩ := (gD hL hq).info
   have hbp := pA q
   have hc : c <= 281474976710656 := by
    have : (1 : Int) * c <= (bq q : Int) * c := Int.mul_le_mul_of_nonneg_right (by omega) (by omega)
    omega
   have hrun := run_make (P := P) w t e i z ht.1 hi hz .i64 .i64 n c h0 h1 (by rw [hb]; exact h2) (by omega)
   refine ⟨_, _, [.r (.slice (some ⟨w.heap.size, 0, none⟩) n.toNat c.toNat)], .value (.slice (some ⟨w.heap.size, 0, none⟩) n.toNat c.toNat), _, w.alloc (.cells (madeCells z.cells (c.toNat * i.size)) e), h, ?_, fun _ => cL w _, rfl, iK (X := X) (ep hR.world.len rfl), ?_⟩
   ·unfold execOp
    simp only [ho, ex, ey, akk, hrun, akb, akr]
   ·refine hR.world.push (cL w _) ?_ (fun g hg => by simp [Loc.blk, Value.ownBlock] at hg; omega)
    have hin := Dt (S := X.ft) (wf := X.fw) q n.toNat c.toNat (by omega) hzc hzd
    refine uU hin ⟨Row.in_len hin, .inr ⟨w.heap.size, c.toNat, _, by rw [fb], hR.world.base_le, heap_alloc_new w _, by rw [fb]; omega, by rw [dn]; omega, ?_, ?_⟩⟩
    ·rw [size_madeCells, hs, lR]
    ·rw [fb, lR, hs]
  ·cases h
 ·cases h

theorem EM {q q' : Row} {cs : List SV} {vs xs : List Value} (h : q.snoc cs = some q') (hv : aB (aD X lc) cs vs) (hin : q.cellsIn X.ft X.fw xs) :
    q'.len = q.len + 1 /\ q'.sz = q.sz /\ q'.cellsIn X.ft X.fw (xs ++ vs) /\ vs.length = q.sz := by
  unfold Row.snoc at h
  split at h <;> first | cases h; done | skip
  all_goals first
    | (obtain ⟨hee, h2⟩ := aH h
       clear h
       obtain rfl := aj3 hee
       simp only [aj1] at h2; subst h2
       cases hv with
       | cons h1 hv => cases hv with
         | nil =>
           have hin : aB (ej X.ft X.fw _) _ xs := hin
           exact ⟨by simp [Row.len], rfl, hin.append (.cons (xk.1 h1) .nil), rfl⟩)
    | (simp only [aj1] at h; subst h
       obtain rfl : xs = _ := hin
       first
       | (cases hv with
         | cons h1 hv => cases hv with
           | nil => simp only [aD] at h1; subst h1; exact ⟨by simp [Row.len], rfl, (by show _ = _; simp [Row.cells]), rfl⟩)
       | (cases hv with
         | cons h1 hv => cases hv with
           | cons h2 hv => cases hv with
             | nil => simp only [aD] at h1 h2; subst h1; subst h2; exact ⟨by simp [Row.len], rfl, (by show _ = _; simp [Row.cells]), rfl⟩)
       | (cases hv with
         | cons h1 hv => cases hv with
           | cons h2 hv => cases hv with
             | cons h3 hv => cases hv with
               | nil => simp only [aD] at h1 h2 h3; subst h1; subst h2; subst h3; exact ⟨by simp [Row.len], rfl, (by show _ = _; simp [Row.cells]), rfl⟩))

theorem EN {q q' : Row} {cs : List SV} (h : q.snoc cs = some q') : cs.all dJ = true := by
 unfold Row.snoc at h
 split at h <;> first | cases h; done | rfl

theorem OJ : ∀ (xs : List TV) (vs : List Value) (q q' : Row) (ys : List Value), rowOf.go q xs = some q' -> aB (aC X lc) xs vs -> q.cellsIn X.ft X.fw ys ->
  q'.len = q.len + xs.length /\ q'.sz = q.sz /\ q'.cellsIn X.ft X.fw (ys ++ vs.flatMap (fun v => v.cells.toList)) /\ ∀ v ∈ vs, v.cells.size = q.sz := by
 intro xs
 induction xs with
 | nil =>
  intro vs q q' ys h hv hin
  cases hv
  simp only [rowOf.go, aj1] at h
  subst h
  exact ⟨rfl, rfl, by simpa using hin, fun v hv => by simp at hv⟩
 | cons x xs ih =>
  intro vs q q' ys h hv hin
  cases hv with
  | @cons _ v _ vs h1 h2 =>
  simp only [rowOf.go] at h
  split at h
  ·rename_i cs hcs
   split at h
   ·rename_i q1 hq1
    obtain ⟨h3, _⟩ := ma h1 hcs (EN hq1)
    obtain ⟨a1, a2, a3, a4⟩ := EM hq1 h3 hin
    obtain ⟨b1, b2, b3, b4⟩ := ih vs q1 q' _ h h2 a3
    refine ⟨by rw [b1, a1]; simp; omega, b2.trans a2, by simpa using b3, fun u hu => ?_⟩
    rcases akf.1 hu with rfl | hu
    ·simpa using a4
    ·rw [b4 u hu, a2]
   ·cases h
  ·cases h

theorem mT {a : Act} : ∀ (parts : List (Nat × Operand)) (n : Nat), pf n parts = true -> (parts.map fun (i, x) => (i, a.eval x)) = ((parts.map fun p => a.eval p.2).zipIdx n).map fun x => (x.2, x.1)
 | [], n, _ => rfl
 | (i, x) :: l, n, h => by
  simp only [pf, aj0] at h
  have := aj3 h.1
  subst this
  simp only [akD, List.zipIdx_cons]
  rw [mT l (n + 1) h.2]

theorem Af (hL : aO P L) {t : TypeId} {n : Nat} {parts : Array (Nat × Operand)} (ho : o.op = .buildSlice t n parts) (hR : Rel X s a w lc)
  (h : (match L.at_ t with
   | .slice e => cond (pf 0 parts.toList && Nat.beq n parts.toList.length && Nat.ble n 4096) (match qW s.blks (parts.toList.map fun p => aF s p.2) with
    | (xs, b) => match rowOf L e xs with
     | some r => K (one (.row b.length)) ⟨s.tmps, b ++ [.row e r]⟩
     | none => none) none
   | _ => none) = some r) : Lz P X o a w lc s K r := by
 split at h
 ·rename_i e hti
  have ht := hL t
  rw [hti] at ht
  obtain ⟨hb, h⟩ := aH h
  simp only [aj0] at hb
  obtain ⟨⟨hb1, hb2⟩, hb3⟩ := hb
  have hb2 := aj3 hb2
  have hb3 := alZ hb3
  have hvals0 : aB (aC X lc) (parts.toList.map fun p => aF s p.2) (parts.toList.map fun p => a.eval p.2) := by
   induction parts.toList with
   | nil => exact .nil
   | cons p ps ih => exact .cons (az hR.tmps p.2) ih
  obtain ⟨X', hle, hW, hvals⟩ := qe hR.world hvals0
  have hxl : (qW s.blks (parts.toList.map fun p => aF s p.2)).1.length = parts.toList.length := by rw [hvals.length, akx]
  generalize qW s.blks (parts.toList.map fun p => aF s p.2) = fz at h hW hvals hxl
  obtain ⟨xs, b⟩ := fz
  simp only at h hW hvals hxl
  split at h
  ·rename_i q hq
   unfold rowOf at hq
   split at hq
   ·rename_i q0 hq0
    obtain ⟨i, z, hi, hz, hs, hb, _, _⟩ := (gD hL hq0).info
    obtain ⟨c1, c2, c3, c4⟩ := OJ _ _ _ _ _ hq hvals (rM (bb hq0))
    rw [bb hq0, akE, hxl, <- hb2] at c1
    rw [akH] at c3
    generalize hys : (parts.toList.map fun p => a.eval p.2).flatMap (fun v => v.cells.toList) = ys at c3
    have hsz3 : q0.sz <= 3 := by cases q0 <;> simp [Row.sz]
    have hsmall : ¬ n * i.size > 2 ^ 24 := by
     rw [hs]
     have : n * q0.sz <= 4096 * 3 := Nat.mul_le_mul hb3 hsz3
     omega
    have hpos := q0.sz_pos
    have hrun : (Instr.buildSlice t n (parts.map fun (i, x) => (i, a.eval x))).run P w = .ok (.slice (some ⟨w.heap.size, 0, none⟩) n n) (w.alloc (.cells ys.toArray e)) := by
     by_cases hn : n = 0
     ·have hnil : parts = #[] := by
       have : parts.toList.length = 0 := by omega
       cases parts; simp_all
      subst hn
      rw [<- hys, hnil]
      simp [Instr.buildSlice, run_underlying ht.1, sizeOf, typeInfo, hi, newRow, Instr.fill, Array.range_zero']
     ·refine run_buildSlice w t e n _ _ i z ht.1 hi hz hsmall (by rw [hs]; exact Nat.mul_ne_zero hn (by omega)) ?_
      rw [akY, mT parts.toList 0 hb1, <- hys, hs]
      exact Great.fill_whole hpos _ _ c4 (by simp [<- hb2])
    refine ⟨_, _, [.r (.slice (some ⟨w.heap.size, 0, none⟩) n n)], .value (.slice (some ⟨w.heap.size, 0, none⟩) n n), _, w.alloc (.cells ys.toArray e), X', h, ?_, fun _ => cL w _, rfl, hle, iK (X := X') (ep hW.len rfl), ?_⟩
    ·unfold execOp
     simp only [ho, akk, hrun, akb, akr]
    ·refine hW.push (cL w _) ?_ (fun g hg => by simp [Loc.blk, Value.ownBlock] at hg; omega)
     refine uU c3 ?_
     rw [c1]
     have := alc (base := X'.base) (e := e) (size := q.sz) w ys.toArray n hW.base_le (by rw [dn]; omega) (by simp [Row.in_len c3, c1])
     simpa using this
   ·cases hq
  ·cases h
 ·cases h


theorem IB {q p q' : Row} (h : q.cat p = some q') : q'.len = q.len + p.len /\ q'.sz = q.sz /\ p.sz = q.sz /\ ∀ {S : Nat -> Prop} {wf : World} {xs ys : List Value}, q.cellsIn S wf xs -> p.cellsIn S wf ys -> q'.cellsIn S wf (xs ++ ys) /\ ∀ u ∈ ys, u.oneCell' = true := by
  unfold Row.cat at h
  split at h <;> first | cases h; done | skip
  iterate 6
    · simp only [aj1] at h; subst h
      refine ⟨by simp [Row.len], rfl, rfl, fun {S wf xs ys} h1 h2 => ?_⟩
      obtain rfl : xs = _ := h1
      obtain rfl : ys = _ := h2
      refine ⟨(by show _ = _; simp [Row.cells]), fun u hu => ?_⟩
      first
      | (simp only [Row.cells, akq] at hu; obtain ⟨_, _, rfl⟩ := hu; rfl)
      | (simp only [Row.cells, alq] at hu
         obtain ⟨_, _, hu⟩ := hu
         simp only [akf, ala, or_false] at hu
         rcases hu with rfl | rfl <;> rfl)
      | (simp only [Row.cells, alq] at hu
         obtain ⟨_, _, hu⟩ := hu
         simp only [akf, ala, or_false] at hu
         rcases hu with rfl | rfl | rfl <;> rfl)
  · obtain ⟨hee, h2⟩ := aH h
    clear h
    obtain rfl := aj3 hee
    simp only [aj1] at h2; subst h2
    refine ⟨by simp [Row.len], rfl, rfl, fun {S wf xs ys} h1 h2 => ?_⟩
    have h1 : aB (ej S wf _) _ xs := h1
    have h2 : aB (ej S wf _) _ ys := h2
    refine ⟨h1.append h2, ?_⟩
    have key : ∀ (e : TypeId) (l : List (List Int)) (ys : List Value), aB (ej S wf e) l ys -> ∀ u ∈ ys, u.oneCell' = true := by
      intro e l ys h
      induction h with
      | nil => intro u hu; simp at hu
      | cons h3 _ ih =>
        intro u hu
        rcases akf.1 hu with rfl | hu
        · obtain ⟨_, A, n, c, rfl, _⟩ := h3; rfl
        · exact ih u hu
    exact key _ _ _ h2

def wE (X : Cx I) (w : World) (q : Row) (v : Value) : Prop := ∃ A c, v = .slice A q.len c /\ ∃ ys, q.cellsIn X.ft X.fw ys /\ ∀ m u, ys[m]? = some u -> ∃ a, A = some a /\ w.cell? (a.add m) = some u

theorem xD {u : TypeId} {q : Row} {v : Value} {base : Nat} {xs : List Value} (hin : q.cellsIn X.ft X.fw xs) (h : w.ownsRow base u q.sz v q.len xs) : wE X w q v := by
 rcases h.2 with ⟨h', h0⟩ | ⟨g, cap, cur, h', _⟩
 ·refine ⟨none, 0, by rw [h', h0], xs, hin, fun m u hm => ?_⟩
  obtain ⟨g, c, e, _⟩ := Es h hm
  rw [h'] at e; cases e
 ·subst h'
  refine ⟨_, cap, rfl, xs, hin, fun m u hm => ⟨_, rfl, ?_⟩⟩
  rw [akM, akE]
  exact gH h (akG _ _) hm

theorem o7 {q : Row} {v : Value} (hd : q.deep = false) (h : dL X q v) (hb : bx X w) : wE X w q v := by
 obtain ⟨A, n, c, rfl, rfl, _, xs, hin, h⟩ := h
 refine ⟨A, c, rfl, xs, (Row.in_plain hd).2 ((Row.in_plain hd).1 hin), fun m u hm => ?_⟩
 obtain ⟨a, ha, hlt, hc⟩ := h m u hm
 refine ⟨a, ha, ?_⟩
 have hbl : X.old ((a.add m).block) := by rw [bL]; exact X.sub _ hlt
 rw [hb.cell (p := a.add m) hbl]; exact hc
theorem d5 {bl : List Blk} {q : Row} {v : Value} (h : fT X q v) (hW : aK X bl w lc) : wE X w q v := by
 obtain ⟨A, n, c, rfl, rfl, _, xs, hin, h⟩ := h
 refine ⟨A, c, rfl, xs, hin, fun m u hm => ?_⟩
 obtain ⟨a, ha, hlt, hc⟩ := h m u hm
 refine ⟨a, ha, ?_⟩
 rw [amS (w := X.fw) (by rw [bL]; exact (hW.frz _ hlt).2)]; exact hc

theorem sQ {base : Nat} {t ty e : TypeId} {q p q' q0 : Row} {v v2 : Value} (hL : aO P L) (ht : L.at_ t = .slice e) (hq0 : bP L e = some q0) (hby : bq q0 = bq q) (hsz : q0.sz = q.sz)
  {xs : List Value} (hin : q.cellsIn X.ft X.fw xs) (hown : w.ownsRow base e q.sz v q.len xs) (hp : wE X w p v2) (hcat : q.cat p = some q') (hle : (q.len + p.len) * bq q <= 140737488355328) (hbase : base <= w.heap.size) :
  ∃ v' w', (Builtin.append_ #[t, t] ty #[v, v2]).run P w = .ok v' w' /\ (∃ A n c, v' = .slice A n c) /\ (∃ xs', q'.cellsIn X.ft X.fw xs' /\ w'.ownsRow base e q'.sz v' q'.len xs') /\ w.grownBy w' v.ownBlock /\ (v'.ownBlock = v.ownBlock \/ ∀ g, v'.ownBlock = some g -> w.heap.size <= g) := by
 have htt := hL t
 rw [ht] at htt
 obtain ⟨i, z, hi, hz, hs, hb, hzc, hzd⟩ := (gD hL hq0).info
 obtain ⟨A, c, rfl, ys, hys, hA⟩ := hp
 obtain ⟨c1, c2, c3, c4⟩ := IB hcat
 obtain ⟨c4, c5⟩ := c4 hin hys
 have hpl : ys.length = p.len * q.sz := by rw [p.in_len hys, c3]
 have hpos := q.sz_pos
 have h63 : q.len + p.len <= maxLen := by
  have := pA q
  have : (q.len + p.len) * 1 <= (q.len + p.len) * bq q := Nat.mul_le_mul_left _ this
  rw [dn]; omega
 have h63' : ((q.len + p.len : Nat) : Int) <= 9223372036854775807 := by rw [dn] at h63; omega
 cases A with
 | none =>
  have h0 : p.len = 0 := by
   rcases ama p.len with h | h
   ·exact h
   ·have : 0 < ys.length := by rw [hpl]; exact Nat.mul_pos h hpos
    obtain ⟨a, ha, _⟩ := hA 0 _ (amF this)
    cases ha
  have hys0 : ys = [] := akw (by rw [hpl, h0, alu])
  rw [hys0, akh] at c4
  refine ⟨v, w, ?_, ?_, ⟨xs, c4, by rw [c2, c1, h0, ak0]; exact hown⟩, ⟨rfl, rfl, rfl, aj8 _, fun _ _ _ => rfl⟩, .inl rfl⟩
  ·rw [h0]
   rcases hown.2 with ⟨rfl, _⟩ | ⟨g, cap, cur, rfl, _, _, hnc, _⟩
   ·simp [Builtin.append_, run_underlying htt.1, sizeOf, typeInfo, hi, Builtin.lenOf, Builtin.firstCells]
   ·simp [Builtin.append_, run_underlying htt.1, sizeOf, typeInfo, hi, Builtin.lenOf, Builtin.firstCells, hnc, storeCells]
  ·rcases hown.2 with ⟨rfl, _⟩ | ⟨g, cap, cur, rfl, _⟩
   ·exact ⟨_, _, _, rfl⟩
   ·exact ⟨_, _, _, rfl⟩
 | some A =>
  have hnews : ∀ j u, ys[j]? = some u -> w.cell? (A.add j) = some u := fun j u hu => by
   obtain ⟨a, ha, hc⟩ := hA j u hu
   cases ha; exact hc
  have hzs : z.cells.size = q.sz := by
   cases hd : q0.deep with
   | false =>
    have : z.cells.toList.length = (q0.zeros 1).cells.length := by rw [hzc hd]
    rw [Row.cells_len ((jJ q0 1).trans hd), fb, lR, amd, hsz] at this
    simpa using this
   | true =>
    rw [hzd hd, <- hsz]
    cases q0 <;> first | rfl | cases hd
  obtain ⟨v', w', hr, h2, h3, h4⟩ := run_append_own (P := P) w base t ty e i z q.sz (bq q) htt.1 hi hz (by rw [hs, hsz]) (by rw [hb, hby]) hzs hpos v q.len xs hown A p.len c ys hpl hnews c5 h63 hle hbase
  rw [<- c1, <- c2] at h2
  refine ⟨v', w', hr, ?_, ⟨_, c4, h2⟩, h3, ?_⟩
  ·rcases h2.2 with ⟨rfl, _⟩ | ⟨g, cap, cur, rfl, _⟩
   ·exact ⟨_, _, _, rfl⟩
   ·exact ⟨_, _, _, rfl⟩
  ·have hisz : i.size = q.sz := by rw [hs, hsz]
   rcases hown.2 with ⟨rfl, hq00⟩ | ⟨g, cap, cur, rfl, hbg, hg, hnc, hcm, hcs, htake⟩
   ·by_cases h0 : p.len = 0
    ·left; rw [h4.2 ⟨rfl, h0⟩]
    ·right
     have hr2 := run_append_nil (P := P) w t ty e i z htt.1 hi hz A p.len c ys (by rw [hisz]; exact hpl) hnews (by omega) (by rw [dn] at h63; omega) (by
      rw [hb, hby]
      have : p.len * bq q <= (q.len + p.len) * bq q := ak6 _ (by omega)
      omega)
     rw [hr] at hr2
     simp only [alz] at hr2
     intro g hg
     rw [hr2.1] at hg
     simp [Value.ownBlock] at hg; omega
   ·by_cases hroom : q.len + p.len <= cap
    ·left
     obtain ⟨w2, hr2, _⟩ := run_append_fits (P := P) w base t ty e i q.sz htt.1 hi hisz g q.len cap xs hown A p.len c ys hpl hnews c5 hroom
     rw [hr] at hr2
     simp only [alz] at hr2
     rw [hr2.1]; rfl
    ·right
     have hr2 := run_append_grow (P := P) w t ty e i z htt.1 hi hz ⟨g, 0, none⟩ q.len cap xs (by rw [hisz]; exact hown.1) (hown.cells (g := g) rfl) A p.len c ys (by rw [hisz]; exact hpl) hnews (by omega) h63' (growslice_fits (by omega) (by rw [hb, hby]; exact hle))
     rw [hr] at hr2
     simp only [alz] at hr2
     intro g' hg'
     rw [hr2.1] at hg'
     simp [Value.ownBlock] at hg'; omega

theorem aK.move {bl : List Blk} {b : Blk} {t' : TypeId} {q' : Row} {v v' : Value} {j : Nat} {w' : World} {xs : List Value} (h : aK X bl w lc) (hj : bl[j]? = some b) (hon : b.on = true) (hl : lc[j]? = some (.r v)) (hg : w.grownBy w' v.ownBlock)
  (hin : q'.cellsIn X.ft X.fw xs) (hr : w'.ownsRow 0 t' q'.sz v' q'.len xs) (hb : v'.ownBlock = v.ownBlock \/ ∀ g, v'.ownBlock = some g -> w.heap.size <= g) : aK X (put bl j .dead ++ [.row t' q']) w' (lc ++ [.r v']) := by
 have h1 := h.turn (b' := .dead) hj hl hon hg (by cases v <;> trivial)
 have hmine : ∀ g, v'.ownBlock = some g -> X.mine g := fun g hgv => by
  rcases hb with hb | hb
  ·exact (Loc.lt (h.blks j b _ hj hl) hon (by rw [<- hgv]; exact hb.symm)).1
  ·exact .inl (akz h.base_le (hb g hgv))
 refine h1.add ⟨hmine, xs, hin, hr⟩ (fun g hgv i bi li hi oni hli hgi => ?_) fun g _ hgv hf => ?_
 ·have hij : i ≠ j := fun e => by
   subst e
   have := (amH.1 hj).1
   rw [bS, amL this] at hi
   cases hi; simp [Blk.on] at oni
  rw [bS, amK (Ne.symm hij)] at hi
  rcases hb with hb | hb
  ·exact h.apart i j bi _ li _ g hij hi hj oni hon hli hl hgi (by rw [<- hgv]; exact hb.symm)
  ·have h3 := (Loc.lt (h.blks i bi li hi hli) oni hgi).2
   have h4 := hb g hgv
   omega
 ·rcases hb with hb | hb
  ·exact h.frn j b _ g hj hon hl (by rw [<- hgv]; exact hb.symm) hf
  ·have := (h.frz g hf).1
   have := hb g hgv
   omega

theorem OL (hL : aO P L) {c : Call} {x y : Operand} (ho : o.op = .call c) (hc : c.callee = .builtin .append) (ha : c.args.toList = [x, y]) (hR : Rel X s a w lc)
  (h : fj L c.argTypes.toList (aF s x).sv (aF s y).sv s K = some r) : mH P X o a w lc s K r := by
 have hx := az (X := X) hR.tmps x
 have hy := az (X := X) hR.tmps y
 obtain ⟨callee, args, argTypes⟩ := c
 simp only at hc ha h
 subst hc
 have ha' : args = #[x, y] := by cases args; simp_all
 subst ha'
 unfold fj at h
 split at h
 ·rename_i j hj
  split at h
  ·rename_i e q hb
   obtain ⟨hblk, hon⟩ := aR hb
   obtain ⟨hT, hK⟩ := aH h
   clear h
   unfold yM at hT
   split at hT
   ·rename_i u u' hts
    simp only [aj0] at hT
    obtain ⟨hu, hT⟩ := hT
    have hu := aj3 hu
    subst hu
    have hts' : argTypes = #[u, u] := by cases argTypes; simp_all
    subst hts'
    split at hT
    ·rename_i e' hti
     simp only [aj0] at hT
     obtain ⟨he, hT⟩ := hT
     have he := aj3 he
     subst he
     split at hT
     ·rename_i q0 hq0
      simp only [aj0] at hT
      have hby := aj3 hT.1
      have hsz := aj3 hT.2
      obtain ⟨hl, _⟩ := aN hx hj
      obtain ⟨v0, hv0, xs, hin, hown⟩ := cq (hR.world.blks j _ _ hblk hl) hb
      simp only [Loc.r.injEq] at hv0
      subst hv0
      have go : ∀ p, wE X w p (a.eval y) -> (match q.cat p with
        | some r' => gd (decide ((q.len + p.len) * bq q <= 140737488355328)) (K (one (.row s.blks.length)) ⟨s.tmps, put s.blks j .dead ++ [.row e' r']⟩)
        | none => none) = some r -> mH P X o a w lc s K r := by
       intro p hp h
       split at h
       ·rename_i q' hcat
        obtain ⟨hle, h⟩ := aA h
        have hle := of_decide_eq_true hle
        obtain ⟨v', w', hr, ⟨A, n, c, hv'⟩, ⟨xs', h2, h2'⟩, h3, h4⟩ := sQ (ty := o.type) hL hti hq0 hby hsz hin hown hp hcat hle (aks _)
        subst hv'
        refine ⟨_, _, [.r (.slice A n c)], .value (.slice A n c), _, w', h, ?_, (fun hf => by rw [ho] at hf; cases hf), rfl, ?_, ?_⟩
        ·unfold execOp
         simp [ho, resolve, invoke, builtin, hr]
        ·exact iK (X := X) (ep hR.world.len rfl)
        ·exact hR.world.move hblk hon hl h3 h2 h2' (h4.imp id id)
       ·cases h
      split at hK
      ·rename_i p hp
       refine go p ?_ hK
       unfold readRow at hp
       split at hp
       ·rename_i k hk
        split at hp
        ·rename_i e2 p' hb2
         cases hp
         obtain ⟨hblk2, _⟩ := aR hb2
         obtain ⟨v2, hv2, ys, hys, hown2⟩ := cq (hR.world.blks k _ _ hblk2 (aN hy hk).1) hb2
         simp only [Loc.r.injEq] at hv2
         subst hv2
         exact xD hys hown2
        ·cases hp
       ·rename_i t2 p' hk
        cases hd : p'.deep with
        | true => rw [hd] at hp; cases hp
        | false =>
         rw [hd] at hp
         cases hp
         exact o7 hd (aN hy hk) hR.world.below
       ·rename_i t2 p' hk
        cases hp
        exact d5 (aN hy hk).1 hR.world
       ·rename_i p' hk
        cases hp
        exact d5 (aN hy hk) hR.world
       ·cases hp
      ·cases hK
     ·cases hT
    ·cases hT
   ·cases hT
  ·cases h
 ·cases h

def clr (z : Value) : Nat -> Nat -> List Value -> List Value
 | 0, _, xs => xs
 | m + 1, o, xs => clr z m (o + 1) (xs.set o z)
theorem MD (z : Value) : ∀ (m o : Nat) (xs : List Value), o + m = xs.length -> clr z m o xs = xs.take o ++ List.replicate m z
 | 0, o, xs, h => by rw [clr, akZ (by omega)]; simp
 | m + 1, o, xs, h => by
  rw [clr, MD z m (o + 1) (xs.set o z) (by simp; omega), alL, alD, amL (by omega), amw, List.set_eq_of_length_le (by simp; omega)]
  simp
theorem xC {u : TypeId} {n cap base g : Nat} (z : Value) : ∀ (m o : Nat) (w : World) (xs : List Value), w.ownsRow base u 1 (.slice (some ⟨g, 0, none⟩) n cap) n xs ->
  (w.setCells g o (List.replicate m z)).ownsRow base u 1 (.slice (some ⟨g, 0, none⟩) n cap) n (clr z m o xs) /\ w.grownBy (w.setCells g o (List.replicate m z)) (some g)
 | 0, o, w, xs, h => ⟨h, rfl, rfl, rfl, aj8 _, fun _ _ _ => rfl⟩
 | m + 1, o, w, xs, h => by
  obtain ⟨h1, h2⟩ := h.stored o z
  obtain ⟨h3, h4⟩ := xC z m (o + 1) _ _ h1
  exact ⟨h3, mS h2 h4⟩
theorem TX (hL : aO P L) {c : Call} {x : Operand} (ho : o.op = .call c) (hc : c.callee = .builtin .clear) (ha : c.args.toList = [x]) (hR : Rel X s a w lc)
  (h : oY L c.argTypes.toList (aF s x).sv s K = some r) : mH P X o a w lc s K r := by
 have hx := az (X := X) hR.tmps x
 obtain ⟨callee, args, argTypes⟩ := c
 simp only at hc ha h
 subst hc
 have ha' : args = #[x] := by cases args; simp_all
 subst ha'
 unfold oY at h
 split at h
 ·rename_i j i t hj hts
  have hts' : argTypes = #[t] := by cases argTypes; simp_all
  subst hts'
  split at h
  ·rename_i e hti
   split at h
   ·rename_i u l hei hb
    have ht := hL t
    rw [hti] at ht
    have he := hL e
    rw [hei] at he
    obtain ⟨_, inf, hi, hz, _, _⟩ := he
    have hzv : ∀ w, (zeroValue e).run P w = .ok (.string ByteArray.empty) w := fun w => by simp [zeroValue, typeInfo, hi, hz]
    obtain ⟨hblk, hon⟩ := aR hb
    obtain ⟨g, n, c, hlj, h0, h1, c', hev⟩ := aN hx hj
    have hB := hR.world.blks j _ _ hblk hlj
    obtain ⟨v', hv', xs, hin, hown⟩ := cq hB hb
    simp only [Loc.r.injEq] at hv'
    subst hv'
    have hnl : n = l.length := by
     rcases hown.2 with ⟨h', _⟩ | ⟨g', cap', cur, h', _⟩
     ·simp at h'
     ·simp at h'; exact h'.2.1
    subst hnl
    have hxs : xs = l.map .string := hin
    subst hxs
    have hown : w.ownsRow 0 u 1 (.slice (some ⟨g, 0, none⟩) l.length c) l.length (l.map .string) := hown
    obtain ⟨k1, k2⟩ := xC (.string ByteArray.empty) (l.length - i.toNat) i.toNat w _ hown
    rw [MD _ _ _ _ (by simp; omega)] at k1
    have hcl := Lib.run_clear_slice (P := P) w t e o.type (.string ByteArray.empty) ht.1 hzv rfl rfl g i.toNat (l.length - i.toNat) c' (by omega)
     (fun m hm => by rw [hown.cellAt _ (by omega)]; simp; omega) (fun m hm => hown.frozenAt _)
    refine ⟨_, _, [], .value (.tuple #[]), _, w.setCells g i.toNat (List.replicate (l.length - i.toNat) (.string ByteArray.empty)), h, ?_, (fun hf => by rw [ho] at hf; cases hf), rfl, trivial, ?_⟩
    ·unfold execOp
     simp [ho, resolve, invoke, builtin, hev, hcl]
    ·rw [akh]
     refine hR.world.turn hblk hlj hon k2 ?_
     have hm := Loc.lt hB hon rfl
     have fin : (Row.strs (jZ l i)).cellsIn X.ft X.fw ((l.map Value.string).take i.toNat ++ List.replicate (l.length - i.toNat) (.string ByteArray.empty)) := by
      show _ = (jZ l i).map Value.string
      simp [jZ]
     have hlen : (jZ l i).length = l.length := by simp [jZ]; omega
     cases hbb : nth Blk.dead s.blks j with
     | cells _ _ => rw [hbb] at hb; cases hb
     | dead => rw [hbb] at hb; cases hb
     | mp _ _ => rw [hbb] at hb; cases hb
     | pcells _ _ _ => rw [hbb] at hb; cases hb
     | pmp _ _ _ => rw [hbb] at hb; cases hb
     | srow _ _ => rw [hbb] at hb; cases hb
     | row t2 r2 =>
      rw [hbb] at hb hB
      simp only [Blk.rowOf, aj1, akp] at hb
      obtain ⟨rfl, rfl⟩ := hb
      refine ⟨hB.1, _, fin, ?_⟩
      show World.ownsRow _ _ _ _ _ (jZ l i).length _
      rw [hlen]; exact k1
     | prow k2 t2 r2 =>
      rw [hbb] at hb hB
      simp only [Blk.rowOf, aj1, akp] at hb
      obtain ⟨rfl, rfl⟩ := hb
      refine ⟨hB.1, _, fin, ?_⟩
      show World.ownsRow _ _ _ _ _ (jZ l i).length _
      rw [hlen]; exact k1
   ·cases h
  ·cases h
 ·cases h

theorem BF (hL : aO P L) {c : Call} {x y : Operand} (ho : o.op = .call c) (hc : c.callee = .builtin .append) (ha : c.args.toList = [x, y]) (hR : Rel X s a w lc)
  (h : fj L c.argTypes.toList (aF s x).sv (aF s y).sv s K = some r) : ∃ v w', (execOp a.eval o).run P w = .ok (.value v) w' /\ ∃ j ℓ, j ∈ dE (aF s x) /\ lc[j]? = some ℓ /\ (∃ b, s.blks[j]? = some b /\ b.on = true) /\ w.grownBy w' ℓ.blk := by
 have hx := az (X := X) hR.tmps x
 have hy := az (X := X) hR.tmps y
 obtain ⟨callee, args, argTypes⟩ := c
 simp only at hc ha h
 subst hc
 have ha' : args = #[x, y] := by cases args; simp_all
 subst ha'
 unfold fj at h
 split at h
 ·rename_i j hj
  split at h
  ·rename_i e q hb
   obtain ⟨hblk, hon⟩ := aR hb
   obtain ⟨hT, hK⟩ := aH h
   clear h
   unfold yM at hT
   split at hT
   ·rename_i u u' hts
    simp only [aj0] at hT
    obtain ⟨hu, hT⟩ := hT
    have hu := aj3 hu
    subst hu
    have hts' : argTypes = #[u, u] := by cases argTypes; simp_all
    subst hts'
    split at hT
    ·rename_i e' hti
     simp only [aj0] at hT
     obtain ⟨he, hT⟩ := hT
     have he := aj3 he
     subst he
     split at hT
     ·rename_i q0 hq0
      simp only [aj0] at hT
      have hby := aj3 hT.1
      have hsz := aj3 hT.2
      obtain ⟨hl, _⟩ := aN hx hj
      obtain ⟨v0, hv0, xs, hin, hown⟩ := cq (hR.world.blks j _ _ hblk hl) hb
      simp only [Loc.r.injEq] at hv0
      subst hv0
      have go : ∀ p, wE X w p (a.eval y) -> (match q.cat p with
        | some r' => gd (decide ((q.len + p.len) * bq q <= 140737488355328)) (K (one (.row s.blks.length)) ⟨s.tmps, put s.blks j .dead ++ [.row e' r']⟩)
        | none => none) = some r -> ∃ v w', (execOp a.eval o).run P w = .ok (.value v) w' /\ ∃ j ℓ, j ∈ dE (aF s x) /\ lc[j]? = some ℓ /\ (∃ b, s.blks[j]? = some b /\ b.on = true) /\ w.grownBy w' ℓ.blk := by
       intro p hp h
       split at h
       ·rename_i q' hcat
        obtain ⟨hle, h⟩ := aA h
        have hle := of_decide_eq_true hle
        obtain ⟨v', w', hr, ⟨A, n, c, hv'⟩, ⟨xs', h2, h2'⟩, h3, h4⟩ := sQ (ty := o.type) hL hti hq0 hby hsz hin hown hp hcat hle (aks _)
        subst hv'
        refine ⟨.slice A n c, w', ?_, j, _, by rw [jG hj (by simp)]; simp [iI], hl, ⟨_, hblk, hon⟩, h3⟩
        unfold execOp
        simp [ho, resolve, invoke, builtin, hr]
       ·cases h
      split at hK
      ·rename_i p hp
       refine go p ?_ hK
       unfold readRow at hp
       split at hp
       ·rename_i k hk
        split at hp
        ·rename_i e2 p' hb2
         cases hp
         obtain ⟨hblk2, _⟩ := aR hb2
         obtain ⟨v2, hv2, ys, hys, hown2⟩ := cq (hR.world.blks k _ _ hblk2 (aN hy hk).1) hb2
         simp only [Loc.r.injEq] at hv2
         subst hv2
         exact xD hys hown2
        ·cases hp
       ·rename_i t2 p' hk
        cases hd : p'.deep with
        | true => rw [hd] at hp; cases hp
        | false =>
         rw [hd] at hp
         cases hp
         exact o7 hd (aN hy hk) hR.world.below
       ·rename_i t2 p' hk
        cases hp
        exact d5 (aN hy hk).1 hR.world
       ·rename_i p' hk
        cases hp
        exact d5 (aN hy hk) hR.world
       ·cases hp
      ·cases hK
     ·cases hT
    ·cases hT
   ·cases hT
  ·cases h
 ·cases h


theorem D6 (l : List Int) : ∀ (b : ByteArray), l.foldl (fun b n => b.push (UInt8.ofNat n.toNat)) b = ⟨b.data ++ (l.map fun n => UInt8.ofNat n.toNat).toArray⟩ := by
 induction l with
 | nil => intro b; simp
 | cons n l ih =>
  intro b
  rw [amo, ih]
  simp [ByteArray.push]

theorem BW {w : World} (g k : Nat) {cur : Array Value} {e : TypeId} {fz : Nat × Nat} (hg : w.heap[g]? = some (.cells cur e fz)) :
  ∃ fz', (w.freeze ⟨g, k, none⟩ 1).heap[g]? = some (.cells cur e fz') /\ w.grownBy (w.freeze ⟨g, k, none⟩ 1) (some g) := by
 unfold World.freeze
 rw [if_neg (by decide)]
 obtain ⟨lo, hi⟩ := fz
 refine ⟨if lo == hi then (k, k + 1) else (min lo k, max hi (k + 1)), ?_, rfl, rfl, rfl, ?_, fun i _ hi => ?_⟩
 ·simp only [Array.getElem?_modify, if_true, hg, akB]
 ·simp
 ·have : g ≠ i := fun e => hi (by rw [e])
  simp only [Array.getElem?_modify, if_neg this]
theorem xO (hL : aO P L) {src dst : TypeId} {x : Operand} (ho : o.op = .convert src dst x) (hR : Rel X s a w lc)
  (h : (match L.at_ src, L.at_ dst, (aF s x).sv with
   | .int _, .int k, .int _ n => K (one (.int k (k.wrap n))) s
   | .slice e, .string, .row j => match nth .dead s.blks j, L.at_ e with
    | .row _ (.ints .u8 l), .int .u8 => K (one (.str (aq l))) s
    | _, _ => none
   | .slice e, .slice _, .row j => cond (Nat.beq src dst) (match nth .dead s.blks j, L.at_ e with
    | .row t (.ints .u8 (n :: l)), .int .u8 => K (one (.row s.blks.length)) ⟨s.tmps, put s.blks j .dead ++ [.srow t (.ints .u8 (n :: l))]⟩
    | _, _ => none) none
   | .string, .string, .str b => K (one (.str b)) s
   | _, _, _ => none) = some r) : fU P X o a w lc s K r \/ (Nat.beq src dst = true /\ mH P X o a w lc s K r) := by
 have hx := az (X := X) hR.tmps x
 have h1 := hL src
 have h2 := hL dst
 split at h
 ·rename_i k0 k k1 n e1 e2 hv
  rw [e1] at h1
  rw [e2] at h2
  have ex := aN hx hv
  simp only [aD] at ex
  exact .inl <| bD (v := .int k (k.wrap n)) h (by simp [one, aC, a7, aD]) fun w' => by
   unfold execOp
   simp [ho, convert, run_underlying h1.1, run_underlying h2.1, ex, Conv.intToInt]
 ·rename_i e j e1 e2 hv
  rw [e1] at h1
  rw [e2] at h2
  split at h
  ·rename_i u l hb e3
   have h3 := hL e
   rw [e3] at h3
   have hblk := cn hb (by simp)
   obtain ⟨_, xs, hin, hown⟩ := hR.world.blks j _ _ hblk (aN hx hv).1
   obtain rfl : xs = l.map (.int .u8) := hin
   have hown : w.ownsRow 0 u 1 (a.eval x) l.length (l.map (.int .u8)) := hown
   have hjr : j ∈ dE (aF s x) := by rw [jG hv (by simp)]; simp [iI]
   have hlj := (aN hx hv).1
   refine .inl ⟨_, .string (aq l), h, by simp [one, aC, a7, aD], fun G hV w' hb' => ?_⟩
   have hrun : (convert src dst (a.eval x)).run P w' = .ok (.string (aq l)) w' := by
    rcases hown.2 with ⟨h', h0⟩ | ⟨g, cap, cur, h', _⟩
    ·rw [h', run_convert_bytes_string w' src dst e none 0 0 h1.1 h3.1 h2.1]
     have : l = [] := akw h0
     subst this
     simp [Conv.bytesToString, aq]
     rfl
    ·rw [h'] at hown
     have hng : ¬ G g := hV.no (fI (x := x) (by simp [ho, Op.operands]) hjr) hblk rfl hlj (by rw [h']; rfl)
     rw [h', run_convert_bytes_string w' src dst e _ _ _ h1.1 h3.1 h2.1]
     rw [run_bytesToString w' _ _ _ l, D6]
     ·simp [aq]
     ·have hc := run_loadCells (P := P) w' ⟨g, 0, none⟩ l.length (fun m => .int .u8 (l.getD m 0)) (fun m hm => by
       rw [akM, akE]
       refine ub hown hb' hng ?_
       simp [List.getD, hm])
      rw [hc]
      congr 1
      apply Array.ext'
      apply amz
      intro m
      by_cases hm : m < l.length
      ·simp [hm, List.getD]
      ·simp [hm]
   unfold execOp
   simp only [ho, akk, hrun, akb, akr]
  ·cases h
 ·rename_i e e' j e1 e2 hv
  rw [e1] at h1
  obtain ⟨hbeq, hk⟩ := aH h
  clear h
  obtain rfl := aj3 hbeq
  split at hk
  ·rename_i u n l hb e3
   have h3 := hL e
   rw [e3] at h3
   have hblk := cn hb (by simp)
   have hlj := (aN hx hv).1
   obtain ⟨hmine, xs, hin, hown⟩ := hR.world.blks j _ _ hblk hlj
   obtain rfl : xs = (n :: l).map (.int .u8) := hin
   have hown : w.ownsRow 0 u 1 (a.eval x) (n :: l).length ((n :: l).map (.int .u8)) := hown
   rcases hown.2 with ⟨_, h0⟩ | ⟨g, cap, cur, h', hbase, hg, hcap, hmax, hcs, htake⟩
   ·simp at h0
   ·obtain ⟨fz, hf1, hf2⟩ := BW g cur.size hg
    have hsh : w.shape? g = some (u, cur.size) := by
     unfold World.shape?
     rw [hg]
    have hrun : (convert src src (a.eval x)).run P w = .ok (a.eval x) (w.freeze ⟨g, cur.size, none⟩ 1) := by
     rw [h']
     simp [convert, run_underlying h1.1, run_underlying h3.1, markStringish, hsh]
    rw [h'] at hlj hrun
    refine .inr ⟨hbeq, _, _, [.r (.slice (some ⟨g, 0, none⟩) (n :: l).length cap)], .value (.slice (some ⟨g, 0, none⟩) (n :: l).length cap), _, w.freeze ⟨g, cur.size, none⟩ 1, hk, ?_, (fun hf => by rw [ho] at hf; simp [fo, bB] at hf), rfl, iK (X := X) (ep hR.world.len rfl), ?_⟩
    ·unfold execOp
     simp only [ho, akk, h', hrun, akb, akr]
    ·have hturn := hR.world.turn (b' := .dead) hblk hlj rfl hf2 trivial
     refine hturn.add (b := .srow u (.ints .u8 (n :: l))) ⟨fun g' hg' => hmine g' (by rw [h']; exact hg'), _, rfl, hown.1, .inr ⟨g, cap, cur, fz, rfl, hbase, hf1, htake⟩⟩ (fun g' hgv i bi li hi oni hli hgi => ?_) fun g' _ hgv => ?_
     ·have hij : i ≠ j := fun e => by
       subst e
       have := (amH.1 hblk).1
       rw [bS, amL this] at hi
       cases hi; simp [Blk.on] at oni
      rw [bS, amK (Ne.symm hij)] at hi
      exact hR.world.apart i j bi _ li _ g' hij hi hblk oni rfl hli hlj hgi hgv
     ·exact hR.world.frn j _ _ g' hblk rfl hlj hgv
  ·cases hk
 ·rename_i b e1 e2 hv
  rw [e1] at h1
  rw [e2] at h2
  have ex := aN hx hv
  simp only [aD] at ex
  exact .inl <| bD (v := .string b) h (by simp [one, aC, a7, aD]) fun w' => by
   unfold execOp
   simp [ho, convert, run_underlying h1.1, run_underlying h2.1, ex]
 ·cases h
end
end Go.Rv
