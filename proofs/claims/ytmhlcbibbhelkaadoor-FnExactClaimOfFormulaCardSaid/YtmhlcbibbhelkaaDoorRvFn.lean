/- Functions: the evaluator's answer is the function's answer. -/
import Derived.Test.YtmhlcbibbhelkaaDoorRvCode
namespace Go.Rv
open Go.RowKit (Below)
section
variable {I : World → Prop} {P : Program} {L : Lay} {β : Type}

theorem nodupN_iff : ∀ {l : List Nat}, nodupN l = true → l.Nodup
  | [], _ => .nil
  | x :: l, h => by
    simp only [nodupN, Bool.and_eq_true, Bool.not_eq_true', List.any_eq_false] at h
    refine List.nodup_cons.2 ⟨fun hx => ?_, nodupN_iff h.2⟩
    exact h.1 x hx (Nat.beq_refl x)

theorem idxL_at {j : Nat} : ∀ {pre post : List Nat} {i : Nat}, j ∉ pre → idxL j (pre ++ j :: post) i = some (i + pre.length)
  | [], post, i, _ => by simp [idxL]
  | x :: pre, post, i, h => by
    simp only [List.mem_cons, not_or] at h
    have : Nat.beq x j = false := by
      cases hb : Nat.beq x j with
      | false => rfl
      | true => exact absurd (Nat.eq_of_beq_eq_true hb).symm h.1
    simp only [List.cons_append, idxL, this, cond_false]
    rw [idxL_at h.2]
    simp; omega

section
variable {bl : List Blk} {sel : List Nat}

theorem takeS_deep (hn : sel.Nodup) {s : SV} {pre post : List Nat} (hr : resS s = true) (hrow : ((rowsS s).all fun j => rowB (nth .dead bl j)) = true) (hsel : sel = pre ++ rowsS s ++ post) :
    takeS (pre.map (nth .dead bl)) (ansDeepS bl s) = (renS sel s, (pre ++ rowsS s).map (nth .dead bl)) ∧ ansS (ansDeepS bl s) = true := by
  cases s <;> simp only [resS, Bool.false_eq_true] at hr <;> try (simp [ansDeepS, takeS, renS, rowsS, ansS]; done)
  rename_i j
  simp only [rowsS, List.all_cons, List.all_nil, Bool.and_true] at hrow hsel
  cases hb : nth Blk.dead bl j with
  | cells _ _ => rw [hb] at hrow; cases hrow
  | dead => rw [hb] at hrow; cases hrow
  | prow _ _ _ => rw [hb] at hrow; cases hrow
  | mp _ _ => rw [hb] at hrow; cases hrow
  | pcells _ _ _ => rw [hb] at hrow; cases hrow
  | pmp _ _ _ => rw [hb] at hrow; cases hrow
  | srow _ _ => rw [hb] at hrow; cases hrow
  | row t q =>
    have hj : j ∉ pre := by
      rw [hsel] at hn
      intro hjp
      have := (List.nodup_append.1 hn).1
      have := (List.nodup_append.1 this).2.2 j hjp j (by simp)
      exact this rfl
    have hidx : idxL j sel 0 = some pre.length := by
      rw [hsel, List.append_assoc]
      have := idxL_at (j := j) (pre := pre) (post := post) (i := 0) hj
      simpa using this
    simp only [ansDeepS, hb, Blk.rowOf, takeS, renS, hidx, rowsS, ansS, List.length_map, List.map_append, List.map_cons, List.map_nil, and_self]

theorem takeL_deep (hn : sel.Nodup) : ∀ (l : List SV) (pre post : List Nat), l.all resS = true → ((l.flatMap rowsS).all fun j => rowB (nth .dead bl j)) = true → sel = pre ++ l.flatMap rowsS ++ post →
    takeL (pre.map (nth .dead bl)) (l.map (ansDeepS bl)) = (l.map (renS sel), (pre ++ l.flatMap rowsS).map (nth .dead bl)) ∧ (l.map (ansDeepS bl)).all ansS = true
  | [], pre, post, _, _, _ => by simp [takeL]
  | s :: l, pre, post, hr, hrow, hsel => by
    simp only [List.all_cons, Bool.and_eq_true] at hr
    simp only [List.flatMap_cons, List.all_append, Bool.and_eq_true] at hrow
    obtain ⟨h1, h2⟩ := takeS_deep hn (pre := pre) (post := l.flatMap rowsS ++ post) hr.1 hrow.1 (by rw [hsel]; simp)
    obtain ⟨h3, h4⟩ := takeL_deep hn l (pre ++ rowsS s) post hr.2 hrow.2 (by rw [hsel]; simp)
    simp only [List.map_cons, takeL, h1, h3, List.flatMap_cons, List.all_cons, h2, h4, Bool.and_self, and_true, List.append_assoc]

theorem takeA_deep (hn : sel.Nodup) {x : AV} {pre post : List Nat} (hr : resA x = true) (hrow : ((rowsA x).all fun j => rowB (nth .dead bl j)) = true) (hsel : sel = pre ++ rowsA x ++ post) :
    takeA (pre.map (nth .dead bl)) (ansDeepA bl x) = (renA sel x, (pre ++ rowsA x).map (nth .dead bl)) ∧ ansA (ansDeepA bl x) = true := by
  cases x with
  | one s =>
    obtain ⟨h1, h2⟩ := takeS_deep hn hr hrow hsel
    simp only [ansDeepA, takeA, h1, renA, rowsA, ansA, h2, and_self]
  | agg l =>
    obtain ⟨h1, h2⟩ := takeL_deep hn l pre post hr hrow hsel
    simp only [ansDeepA, takeA, h1, renA, rowsA, ansA, h2, and_self]

theorem takeAs_deep (hn : sel.Nodup) : ∀ (l : List AV) (pre post : List Nat), l.all resA = true → ((l.flatMap rowsA).all fun j => rowB (nth .dead bl j)) = true → sel = pre ++ l.flatMap rowsA ++ post →
    takeAs (pre.map (nth .dead bl)) (l.map (ansDeepA bl)) = (l.map (renA sel), (pre ++ l.flatMap rowsA).map (nth .dead bl)) ∧ (l.map (ansDeepA bl)).all ansA = true
  | [], pre, post, _, _, _ => by simp [takeAs]
  | s :: l, pre, post, hr, hrow, hsel => by
    simp only [List.all_cons, Bool.and_eq_true] at hr
    simp only [List.flatMap_cons, List.all_append, Bool.and_eq_true] at hrow
    obtain ⟨h1, h2⟩ := takeA_deep hn (pre := pre) (post := l.flatMap rowsA ++ post) hr.1 hrow.1 (by rw [hsel]; simp)
    obtain ⟨h3, h4⟩ := takeAs_deep hn l (pre ++ rowsA s) post hr.2 hrow.2 (by rw [hsel]; simp)
    simp only [List.map_cons, takeAs, h1, h3, List.flatMap_cons, List.all_cons, h2, h4, Bool.and_self, and_true, List.append_assoc]

theorem takeT_deep {x : TV} (hn : (rowsT x).Nodup) (hr : resT x = true) (hrow : ((rowsT x).all fun j => rowB (nth .dead bl j)) = true) :
    takeT [] (ansDeepT bl x) = (renT (rowsT x) x, (rowsT x).map (nth .dead bl)) ∧ ansT (ansDeepT bl x) = true := by
  cases x with
  | v x =>
    obtain ⟨h1, h2⟩ := takeA_deep (bl := bl) (sel := rowsA x) (pre := []) (post := []) hn hr hrow (by simp)
    simp only [List.map_nil, List.nil_append] at h1
    simp only [ansDeepT, takeT, h1, renT, rowsT, ansT, h2, and_self]
  | tup l =>
    obtain ⟨h1, h2⟩ := takeAs_deep (bl := bl) (sel := l.flatMap rowsA) hn l [] [] hr hrow (by simp)
    simp only [List.map_nil, List.nil_append] at h1
    simp only [ansDeepT, takeT, h1, renT, rowsT, ansT, h2, and_self]
end

def run1 (tmps : Array Value) : ResultVar → Sem Value
  | .tmp t => pure (tmps.getD t undef)
  | .cell a t => do loadVar t (← asAddr (tmps.getD a undef))

def okA : AV → Bool
  | .one .und => false
  | _ => true
theorem res_run (hL : LayOK P L) {X : Cx I} {s : St} {a : Act} {w : World} {lc : List Loc} (hR : Rel X s a w lc) (rv : ResultVar) (h : okA (avOf (resTV L s rv)) = true) :
    ∃ v, relA X lc (avOf (resTV L s rv)) v ∧ (run1 a.tmps rv).run P w = .ok v w := by
  cases rv with
  | tmp t =>
    have ht : relT X lc (nth tund s.tmps t) (a.tmps.getD t undef) := eval_rel hR.tmps (.tmp t)
    refine ⟨_, ?_, rfl⟩
    simp only [resTV] at h ⊢
    cases hx : nth tund s.tmps t with
    | v x => rw [hx] at ht; exact ht
    | tup l => rw [hx] at h; cases h
  | cell x t =>
    have ht : relT X lc (nth tund s.tmps x) (a.tmps.getD x undef) := eval_rel hR.tmps (.tmp x)
    simp only [resTV] at h ⊢
    split at h
    · rename_i j off hj
      split at h
      · rename_i u l hb
        cases hy : loadAt L t l off with
        | none => rw [hy] at h; cases h
        | some y =>
          rw [hy] at h
          obtain ⟨g, hg, he⟩ := sv_is ht hj
          obtain ⟨cs, hh, hcs⟩ := cellsOf_rel (hR.world.blks j _ _ (cellsOf_some hb).1 hg) hb
          have hlen := hcs.length
          obtain ⟨v, h1, h2⟩ := loadAt_run (X := X) (lc := lc) hL hy (fun m => (cs[off + m]?).getD undef) (fun m s hm => by
            obtain ⟨v, hv, hr⟩ := hcs.get _ _ hm
            have : cs[off + m]? = some v := by simpa using hv
            rw [this]; exact hr) ⟨g, off, none⟩
          have hrun := h2 w fun m hm => by
            rw [Addr.add_lit, cell_of_row w g (off + m) cs u (0, 0) hh]
            have : off + m < cs.size := by rw [hlen] at hm; simpa using hm
            simp [Array.getElem?_eq_getElem this]
          refine ⟨v, ?_, ?_⟩
          · simp only [Option.getD_some] at h ⊢
            cases y with
            | v x => exact h1
            | tup l => cases h
          · rw [Instr.loadAt, Sem.run_bind] at hrun
            simp only [Instr.sureAddr, Sem.run_pure, Result.andThen_ok] at hrun
            simp only [run1, he, asAddr, Sem.run_bind, Sem.run_pure, Result.andThen_ok]
            exact hrun
      · cases h
    · cases h

theorem res_list (hL : LayOK P L) {X : Cx I} {s : St} {a : Act} {w : World} {lc : List Loc} (hR : Rel X s a w lc) : ∀ (rs : List ResultVar), (rs.map fun r => avOf (resTV L s r)).all okA = true →
    ∃ vs, All2 (relA X lc) (rs.map fun r => avOf (resTV L s r)) vs ∧ (rs.mapM (run1 a.tmps)).run P w = .ok vs w
  | [], _ => ⟨[], .nil, by simp⟩
  | r :: rs, h => by
    simp only [List.map_cons, List.all_cons, Bool.and_eq_true] at h
    obtain ⟨v, h1, h2⟩ := res_run hL hR r h.1
    obtain ⟨vs, h3, h4⟩ := res_list hL hR rs h.2
    refine ⟨v :: vs, .cons h1 h3, ?_⟩
    simp [List.mapM_cons, h2, h4]

theorem results_eq (fn : Func) (tmps : Array Value) : results fn tmps = (do let vs ← fn.results.toList.mapM (run1 tmps); pure (if h : vs.toArray.size = 1 then vs.toArray[0] else .tuple vs.toArray)) := by
  unfold results
  rw [Array.mapM_eq_mapM_toList]
  simp only [bind_map_left]
  congr 2

theorem takeS_of_plain (bl : List Blk) {s : SV} (h : plainS s = true) : takeS bl s = (s, bl) := by
  cases s <;> first | rfl | cases h
theorem takeL_of_plain : ∀ {l : List SV} (bl : List Blk), l.all plainS = true → takeL bl l = (l, bl)
  | [], _, _ => rfl
  | s :: l, bl, h => by
    simp only [List.all_cons, Bool.and_eq_true] at h
    simp only [takeL, takeS_of_plain bl h.1, takeL_of_plain bl h.2]
theorem takeA_of_plain (bl : List Blk) {x : AV} (h : plainA x = true) : takeA bl x = (x, bl) := by
  cases x with
  | one s => simp only [takeA, takeS_of_plain bl (s := s) h]
  | agg l => simp only [takeA, takeL_of_plain bl (l := l) h]
theorem takeAs_of_plain : ∀ {l : List AV} (bl : List Blk), l.all plainA = true → takeAs bl l = (l, bl)
  | [], _, _ => rfl
  | s :: l, bl, h => by
    simp only [List.all_cons, Bool.and_eq_true] at h
    simp only [takeAs, takeA_of_plain bl h.1, takeAs_of_plain bl h.2]
theorem plain_take {x : TV} (h : plainT x = true) : (takeT [] x).1 = x := by
  cases x with
  | v x => simp only [takeT, takeA_of_plain [] (x := x) h]
  | tup l => simp only [takeT, takeAs_of_plain [] (l := l) h]

theorem subTr_rel {X : Cx I} {lc : List Loc} {two : Bool} {p : SV} {T : Tr} {v : Value} (h : subTr two p = some T) (hr : relS X lc p v) : TreeIn X.ft X.fw two T v := by
  unfold subTr at h
  split at h
  · obtain ⟨h1, h2⟩ := cond_none h
    cases h2
    rw [eq_of_beq h1]; exact hr
  · cases h; exact hr
  · cases h
theorem nodeTr_rel {X : Cx I} {lc : List Loc} {two : Bool} {l : List SV} {T : Tr} {cs : Array Value} {S : Nat → Prop} {wf : World} {g : Nat} {t : TypeId} {z : Nat × Nat} (hS : ∀ k, X.ft k → S k) (hw : ∀ k, X.ft k → wf.heap[k]? = X.fw.heap[k]?) (hg : S g) (hh : wf.heap[g]? = some (.cells cs t z))
    (h : nodeTr two l = some T) (hr : All2 (relS X lc) l cs.toList) : TreeIn S wf two T (.pointer (some ⟨g, 0, none⟩)) := by
  unfold nodeTr at h
  split at h
  · rename_i a p q
    split at h
    · rename_i lt rt h1 h2
      cases h
      generalize hcs : cs.toList = vs at hr
      cases hr with
      | cons r1 hr => cases hr with
        | cons r2 hr => cases hr with
          | cons r3 hr => cases hr with
            | nil =>
              simp only [relS] at r1
              subst r1
              exact ⟨g, cs, t, z, _, _, rfl, hg, hh, hcs, (subTr_rel h1 r2).mono hS hw, (subTr_rel h2 r3).mono hS hw⟩
    · cases h
  · rename_i a b p q
    split at h
    · rename_i lt rt h1 h2
      cases h
      generalize hcs : cs.toList = vs at hr
      cases hr with
      | cons r1 hr => cases hr with
        | cons r2 hr => cases hr with
          | cons r3 hr => cases hr with
            | cons r4 hr => cases hr with
              | nil =>
                simp only [relS] at r1 r2
                subst r1; subst r2
                exact ⟨g, cs, t, z, _, _, rfl, hg, hh, hcs, (subTr_rel h1 r3).mono hS hw, (subTr_rel h2 r4).mono hS hw⟩
    · cases h
  · cases h
theorem frzTr_rel {X : Cx I} {bl : List Blk} {w : World} {lc : List Loc} (hW : RelW X bl w lc) {t : TypeId} {x : AV} {v : Value} (h : relA X lc x v) : ∃ X', X.Le X' ∧ RelW X' (frzTr L t bl x).2 w lc ∧ relA X' lc (frzTr L t bl x).1 v := by
  have same : ∃ X', X.Le X' ∧ RelW X' bl w lc ∧ relA X' lc x v := ⟨X, .refl X, hW, h⟩
  cases x with
  | agg l => exact same
  | one s =>
    simp only [frzTr]
    cases ht : treeT L t with
    | none => exact same
    | some two =>
      simp only
      split
      · exact ⟨X, .refl X, hW, h⟩
      · rename_i j
        split
        · rename_i t' l hb
          split
          · rename_i T hT
            have hblk := nth_some hb (by simp)
            obtain ⟨g, hg, rfl⟩ := h
            obtain ⟨hbase, cs, hh, hcs⟩ := hW.blks j _ _ hblk hg
            obtain ⟨hle, hW'⟩ := hW.freeze hblk rfl hg rfl
            exact ⟨_, hle, hW', nodeTr_rel (S := fun k => X.ft k ∨ k = g) (wf := w) (fun _ h => .inl h) (fun k hk => (hW.frz k hk).2) (.inr rfl) hh hT hcs⟩
          · exact same
        · exact same
      · exact same
theorem frzTrs_rel {w : World} {lc : List Loc} : ∀ {ts : List TypeId} {l : List AV} {vs : List Value} {X : Cx I} {bl : List Blk}, RelW X bl w lc → All2 (relA X lc) l vs → ∃ X', X.Le X' ∧ RelW X' (frzTrs L ts bl l).2 w lc ∧ All2 (relA X' lc) (frzTrs L ts bl l).1 vs
  | [], l, _, X, bl, hW, h => ⟨X, .refl X, by cases l <;> exact hW, by cases l <;> exact h⟩
  | t :: ts, [], _, X, bl, hW, h => ⟨X, .refl X, hW, h⟩
  | t :: ts, x :: l, _, X, bl, hW, .cons h1 h2 => by
    obtain ⟨X1, a1, a2, a3⟩ := frzTr_rel (L := L) (t := t) hW h1
    obtain ⟨X2, b1, b2, b3⟩ := frzTrs_rel (ts := ts) a2 (h2.mono fun _ _ h => relA.grow a1 h)
    exact ⟨X2, a1.trans b1, b2, .cons (relA.grow b1 a3) b3⟩
theorem answerTr_rel {X : Cx I} {bl : List Blk} {w : World} {lc : List Loc} (hW : RelW X bl w lc) {ts : List TypeId} {x : TV} {v : Value} (h : relT X lc x v) : ∃ X', X.Le X' ∧ RelW X' (answerTr L ts bl x).2 w lc ∧ relT X' lc (answerTr L ts bl x).1 v := by
  cases x with
  | v x =>
    simp only [answerTr]
    split
    · exact frzTr_rel hW h
    · exact ⟨X, .refl X, hW, h⟩
  | tup l =>
    obtain ⟨cs, h1, h2⟩ := h
    obtain ⟨X', a1, a2, a3⟩ := frzTrs_rel (L := L) (ts := ts) hW h2
    exact ⟨X', a1, a2, cs, h1, a3⟩
theorem frzTr_ok {t : TypeId} {bl : List Blk} {x : AV} (h : resA (frzTr L t bl x).1 = true) : okA x = true := by
  cases x with
  | agg l => rfl
  | one s =>
    cases s <;> try rfl
    simp only [frzTr] at h
    split at h <;> cases h
theorem frzTrs_ok : ∀ {ts : List TypeId} {l : List AV} {bl : List Blk}, (frzTrs L ts bl l).1.all resA = true → l.all okA = true
  | [], l, bl, h => by
    have h : l.all resA = true := by cases l <;> exact h
    refine List.all_eq_true.2 fun x hx => ?_
    have := List.all_eq_true.1 h x hx
    cases x with
    | agg _ => rfl
    | one s => cases s <;> first | rfl | cases this
  | t :: ts, [], bl, h => rfl
  | t :: ts, x :: l, bl, h => by
    simp only [frzTrs, List.all_cons, Bool.and_eq_true] at h ⊢
    exact ⟨frzTr_ok h.1, frzTrs_ok h.2⟩

theorem answer_run (hL : LayOK P L) {X : Cx I} {s : St} {a : Act} {w : World} {lc : List Loc} (hR : Rel X s a w lc) {fn : Func} {ts : List TypeId} {y : TV} (h : answer L s ts fn.results.toList = some y) :
    ∃ v, (results fn a.tmps).run P w = .ok v w ∧ CallRes X w y v ∧ (plainT y = true → v = valT y) := by
  unfold answer at h
  simp only at h
  obtain ⟨hb, h⟩ := cond_none h
  simp only [Option.some.injEq] at h
  subst h
  simp only [Bool.and_eq_true] at hb
  obtain ⟨⟨h1, h2⟩, h3⟩ := hb
  have hn := nodupN_iff h2
  have fin : ∀ v, relT X lc (answer0 L s fn.results.toList) v → CallRes X w (ansDeepT (answerTr L ts s.blks (answer0 L s fn.results.toList)).2 (answerTr L ts s.blks (answer0 L s fn.results.toList)).1) v ∧ (plainT (ansDeepT (answerTr L ts s.blks (answer0 L s fn.results.toList)).2 (answerTr L ts s.blks (answer0 L s fn.results.toList)).1) = true → v = valT (ansDeepT (answerTr L ts s.blks (answer0 L s fn.results.toList)).2 (answerTr L ts s.blks (answer0 L s fn.results.toList)).1)) := fun v hv => by
    obtain ⟨X', hle, hW', hy⟩ := answerTr_rel (L := L) (ts := ts) hR.world hv
    generalize answerTr L ts s.blks (answer0 L s fn.results.toList) = yb at h1 h2 h3 hn hW' hy
    obtain ⟨y, bl⟩ := yb
    simp only at h1 h2 h3 hn hW' hy ⊢
    obtain ⟨ht, hans⟩ := takeT_deep (bl := bl) hn h1 h3
    have hsel : ((rowsT y).map (nth .dead bl)) = (rowsT y).map fun j => renB (rowsT y) (nth .dead bl j) := by
      refine List.map_congr_left fun j hj => ?_
      have := List.all_eq_true.1 h3 j hj
      cases hb : nth Blk.dead bl j with
      | row t q => rfl
      | cells _ _ => rw [hb] at this; cases this
      | prow _ _ _ => rfl
      | mp _ _ => rfl
      | pmp _ _ _ => rfl
      | srow _ _ => rfl
      | pcells _ _ _ => rw [hb] at this; cases this
      | dead => rfl
    have hren := renT_rel (X := X') (sel := rowsT y) hy
    refine ⟨⟨X', selLoc lc (rowsT y), hle, ?_, ?_, hans⟩, fun hp => ?_⟩
    · rw [ht]
      show RelW _ _ _ _
      rw [hsel]
      exact hW'.sel hn
    · rw [ht]
      exact hren
    · have e1 : (takeT [] (ansDeepT bl y)).1 = renT (rowsT y) y := by rw [ht]
      have e2 := plain_take hp
      rw [e2] at e1
      rw [← e1] at hren
      exact (relT_plain hp).1 hren
  have many : ∀ rs : List ResultVar, fn.results.toList = rs → rs.length ≠ 1 → answer0 L s rs = .tup (rs.map fun r => avOf (resTV L s r)) → ∃ v, (results fn a.tmps).run P w = .ok v w ∧ relT X lc (answer0 L s fn.results.toList) v := by
    intro rs hrs hlen h0
    rw [hrs, h0] at h1
    have h1 := frzTrs_ok (L := L) (ts := ts) (bl := s.blks) h1
    obtain ⟨vs, h4, h5⟩ := res_list hL hR rs h1
    have hvl := h4.length
    refine ⟨.tuple vs.toArray, ?_, by rw [hrs, h0]; exact ⟨_, rfl, by simpa using h4⟩⟩
    rw [results_eq, hrs, Sem.run_bind, h5]
    have : ¬ vs.toArray.size = 1 := by simp only [List.size_toArray]; rw [← hvl]; simpa using hlen
    simp only [Result.andThen_ok, this, dite_false, Sem.run_pure]
  have main : ∃ v, (results fn a.tmps).run P w = .ok v w ∧ relT X lc (answer0 L s fn.results.toList) v := by
    cases hrs : fn.results.toList with
    | nil =>
      have := many [] hrs (by simp) rfl
      rwa [hrs] at this
    | cons r1 rs =>
      cases rs with
      | cons r2 rs =>
        have := many _ hrs (by simp) rfl
        rwa [hrs] at this
      | nil =>
        rw [hrs] at h1
        have h1 : okA (avOf (resTV L s r1)) = true := by
          simp only [answer0, answerTr] at h1
          split at h1
          · exact frzTr_ok h1
          · have h1 : resA (avOf (resTV L s r1)) = true := h1
            cases hx : avOf (resTV L s r1) with
            | agg _ => rfl
            | one s => rw [hx] at h1; cases s <;> first | rfl | cases h1
        obtain ⟨v, h4, h5⟩ := res_run hL hR r1 h1
        refine ⟨v, ?_, h4⟩
        rw [results_eq, hrs, Sem.run_bind]
        simp [List.mapM_cons, h5]
  obtain ⟨v, h4, h5⟩ := main
  obtain ⟨k1, k2⟩ := fin v h5
  exact ⟨v, h4, k1, k2⟩

theorem replicate_rel {X : Cx I} {lc : List Loc} (n : Nat) : All2 (relT X lc) (List.replicate n tund) (List.replicate n undef) := by
  induction n with
  | zero => exact .nil
  | succ n ih => exact .cons (relT_und _) ih

theorem fn_run (hL : LayOK P L) (hm : P.follows .mixedOrders = true) {E : Env β} (hE : SpecsOK I P E) (hM : MutsOK I P E) (hG : GsOK I P E) {f : FuncId} {fn : Func} (hf : P.funcs[f]? = some fn) (hname : (fn.name == "runtime.NumGoroutine") = false)
    (hl : ∀ l ∈ fnLoops fn, LoopOK I P E l) {S : Spec β} (hS : ∀ args K r, S args K = some r → evFn L E fn args K = some r) (hb : fn.body.isSome = true) : SpecOK I P f S := by
  obtain ⟨c, hc⟩ := Option.isSome_iff_exists.1 hb
  refine ⟨⟨fn, c, hf, hc, hname⟩, fun args K r h => ?_⟩
  have h := hS args K r h
  simp only [evFn, hc] at h
  simp only [fnLoops, hc] at hl
  obtain ⟨e, s', h1, h2⟩ := ev_run hL hm hE hM hG c [] (retMask fn) _ _ r hl h
  have start : ∀ (X : Cx I) vs, SpecCx X → All2 (relT X []) args vs → Rel X (startSt fn args) { tmps := vs.toArray ++ Array.replicate (fn.ntmps - vs.toArray.size) undef, defers := [] } X.w0 [] := fun X vs hX hv => by
    refine ⟨?_, RelW.empty hX, rfl⟩
    simp only [startSt, Array.toList_append, Array.toList_replicate, List.size_toArray]
    rw [hv.length]
    exact hv.append (replicate_rel _)
  have fin : ∀ y, answer L s' fn.resultTypes.toList fn.results.toList = some y → (e = .normal ∨ e = .ret) → ∀ (X : Cx I) vs, SpecCx X → All2 (relT X []) args vs → Calls P f vs.toArray X.w0 (fun e w' => ∃ v, e = .returned v ∧ CallRes X w' y v) := fun y hy he X vs hX hv => by
    refine calls_of_wp hf hc (h2 X _ X.w0 [] (start X vs hX hv) _ fun X' a' w' lc' hle hR' => ?_)
    obtain ⟨v, h3, ⟨X2, lc2, k1, k2, k3, k4⟩, _⟩ := answer_run hL hR' hy
    rcases he with rfl | rfl
    · exact ⟨hR'.defers, v, h3, v, rfl, X2, lc2, hle.trans k1, k2, k3, k4⟩
    · exact ⟨hR'.defers, v, h3, v, rfl, X2, lc2, hle.trans k1, k2, k3, k4⟩
  cases e with
  | normal =>
    simp only at h1
    cases hy : answer L s' fn.resultTypes.toList fn.results.toList with
    | none => rw [hy] at h1; cases h1
    | some y =>
      rw [hy] at h1
      exact ⟨y, h1, fin y hy (.inl rfl)⟩
  | ret =>
    simp only at h1
    cases hy : answer L s' fn.resultTypes.toList fn.results.toList with
    | none => rw [hy] at h1; cases h1
    | some y =>
      rw [hy] at h1
      exact ⟨y, h1, fin y hy (.inr rfl)⟩
  | exit id => cases h1
  | goto id => cases h1
  | panic id => cases h1
  | outgrown => cases h1

theorem findP_spec {k : Nat} : ∀ {bl : List Blk} {t : TypeId} {q : Row}, findP k bl = some (t, q) → ∃ i : Nat, bl[i]? = some (Blk.prow k t q)
  | [], _, _, h => by cases h
  | b :: bl, t, q, h => by
    cases b with
    | prow i t' r =>
      simp only [findP] at h
      cases hb : Nat.beq i k with
      | true =>
        rw [hb] at h
        simp only [cond_true, Option.some.injEq, Prod.mk.injEq] at h
        obtain ⟨rfl, rfl⟩ := h
        exact ⟨0, by rw [Nat.eq_of_beq_eq_true hb]; rfl⟩
      | false =>
        rw [hb] at h
        obtain ⟨j, hj⟩ := findP_spec h
        exact ⟨j + 1, by simpa using hj⟩
    | cells _ _ => obtain ⟨j, hj⟩ := findP_spec (bl := bl) h; exact ⟨j + 1, by simpa using hj⟩
    | mp _ _ => obtain ⟨j, hj⟩ := findP_spec (bl := bl) h; exact ⟨j + 1, by simpa using hj⟩
    | pcells _ _ _ => obtain ⟨j, hj⟩ := findP_spec (bl := bl) h; exact ⟨j + 1, by simpa using hj⟩
    | pmp _ _ _ => obtain ⟨j, hj⟩ := findP_spec (bl := bl) h; exact ⟨j + 1, by simpa using hj⟩
    | srow _ _ => obtain ⟨j, hj⟩ := findP_spec (bl := bl) h; exact ⟨j + 1, by simpa using hj⟩
    | row _ _ => obtain ⟨j, hj⟩ := findP_spec (bl := bl) h; exact ⟨j + 1, by simpa using hj⟩
    | dead => obtain ⟨j, hj⟩ := findP_spec (bl := bl) h; exact ⟨j + 1, by simpa using hj⟩

theorem findPs_spec {bl : List Blk} : ∀ (b0 : List Blk) (k : Nat) (rs : List Row), findPs bl b0 k = some rs → rs.length = b0.length ∧ ∀ (i : Nat) b q, b0[i]? = some b → rs[i]? = some q → ∃ t q0, b.rowOf = some (t, q0) ∧ ∃ j : Nat, bl[j]? = some (Blk.prow (k + i) t q)
  | [], k, rs, h => by simp only [findPs, Option.some.injEq] at h; subst h; exact ⟨rfl, fun i b q hb => by simp at hb⟩
  | b :: b0, k, rs, h => by
    simp only [findPs] at h
    split at h
    · rename_i t q0 t' r l hb hf hr
      obtain ⟨ht, hK⟩ := cond_none h
      clear h
      have ht := Nat.eq_of_beq_eq_true ht
      subst ht
      simp only [Option.some.injEq] at hK
      subst hK
      obtain ⟨h1, h2⟩ := findPs_spec b0 (k + 1) l hr
      refine ⟨by simp [h1], fun i b' q hi hq => ?_⟩
      cases i with
      | zero =>
        simp only [List.getElem?_cons_zero, Option.some.injEq] at hi hq
        subst hi; subst hq
        exact ⟨t, q0, hb, findP_spec hf⟩
      | succ i =>
        obtain ⟨t2, q2, h3, j, h4⟩ := h2 i b' q (by simpa using hi) (by simpa using hq)
        exact ⟨t2, q2, h3, j, by rw [h4]; congr 2; omega⟩
    · cases h

theorem fnM_run (hL : LayOK P L) (hm : P.follows .mixedOrders = true) {E : Env β} (hE : SpecsOK I P E) (hM : MutsOK I P E) (hG : GsOK I P E) {f : FuncId} {fn : Func} (hf : P.funcs[f]? = some fn) (hname : (fn.name == "runtime.NumGoroutine") = false)
    (hl : ∀ l ∈ fnLoopsM fn, LoopOK I P E l) {MS : MSpec β} (hS : ∀ args bl K r, MS args bl K = some r → evFnM L E fn args bl K = some r) (hb : fn.body.isSome = true) : MutOK I P f MS := by
  obtain ⟨c, hc⟩ := Option.isSome_iff_exists.1 hb
  refine ⟨⟨fn, c, hf, hc, hname⟩, fun args bl K r h => ?_⟩
  have h := hS args bl K r h
  simp only [evFnM, hc] at h
  simp only [fnLoopsM, hc] at hl
  obtain ⟨e, s', h1, h2⟩ := ev_run hL hm hE hM hG c [] (retMaskM fn) _ _ r hl h
  have start : ∀ (X : Cx I) vs, RelW X bl X.w0 (X.pins.map Loc.r) → All2 (relT X (X.pins.map Loc.r)) args vs →
      Rel X ⟨args ++ List.replicate (fn.ntmps - args.length) tund, bl⟩ { tmps := vs.toArray ++ Array.replicate (fn.ntmps - vs.toArray.size) undef, defers := [] } X.w0 (X.pins.map Loc.r) := fun X vs hW hv => by
    refine ⟨?_, hW, rfl⟩
    simp only [Array.toList_append, Array.toList_replicate, List.size_toArray]
    rw [hv.length]
    exact hv.append (replicate_rel _)
  have fin : ∀ y rs, answer L s' fn.resultTypes.toList fn.results.toList = some y → findPs s'.blks bl 0 = some rs → (rs.all fun q => !q.deep) = true → (e = .normal ∨ e = .ret) → ∀ (X : Cx I) vs, X.gp = [] → RelW X bl X.w0 (X.pins.map Loc.r) → All2 (relT X (X.pins.map Loc.r)) args vs →
      Calls P f vs.toArray X.w0 (fun e w' => ∃ v, e = .returned v ∧ (plainT y = true → v = valT y) ∧ BelowP X w' ∧ RowsBack bl X.pins rs w') := fun y rs hy hrs hdp he X vs _ hW hv => by
    refine calls_of_wp hf hc (h2 X _ X.w0 _ (start X vs hW hv) _ fun X' a' w' lc' hle hR' => ?_)
    obtain ⟨v, h3, _, h4⟩ := answer_run hL hR' hy
    obtain ⟨h5, h6⟩ := findPs_spec _ _ _ hrs
    have hpin : X'.pins = X.pins := by obtain ⟨ft, fw, _, _, _⟩ := hle; rfl
    have hback : RowsBack bl X.pins rs w' := by
      refine ⟨h5, fun k i t q0 v q hb hv hq => ?_⟩
      obtain ⟨t', q0', h7, j, h8⟩ := h6 k _ q hb hq
      simp only [Blk.rowOf, Option.some.injEq, Prod.mk.injEq] at h7
      obtain ⟨rfl, rfl⟩ := h7
      have hjl : j < lc'.length := by rw [hR'.world.len]; exact (List.getElem?_eq_some_iff.1 h8).1
      have h9 := hR'.world.blks j _ _ h8 (List.getElem?_eq_getElem hjl)
      have hqd : q.deep = false := by
        have := List.all_eq_true.1 hdp q (List.mem_of_getElem? hq)
        simpa using this
      refine ⟨hqd, ?_⟩
      cases hlj : lc'[j] with
      | c g => rw [hlj] at h9; exact h9.elim
      | m g => rw [hlj] at h9; exact h9.elim
      | r v2 =>
        rw [hlj] at h9
        obtain ⟨h10, xs, hin, h11⟩ := h9
        simp only [Nat.zero_add] at h10
        rw [hpin, hv] at h10
        simp only [Option.some.injEq] at h10
        rw [h10, ← (Row.in_plain hqd).1 hin]
        exact h11
    rcases he with rfl | rfl
    · exact ⟨hR'.defers, v, h3, v, rfl, h4, hR'.world.below.shrink hle, hback⟩
    · exact ⟨hR'.defers, v, h3, v, rfl, h4, hR'.world.below.shrink hle, hback⟩
  cases e with
  | normal =>
    simp only at h1
    cases hy : answer L s' fn.resultTypes.toList fn.results.toList with
    | none => rw [hy] at h1; cases h1
    | some y =>
      rw [hy] at h1
      cases hrs : findPs s'.blks bl 0 with
      | none => rw [hrs] at h1; cases h1
      | some rs =>
        rw [hrs] at h1
        obtain ⟨hpl, h1⟩ := cond_none h1
        simp only [Bool.and_eq_true] at hpl
        exact ⟨y, rs, h1, fin y rs hy hrs hpl.2 (.inl rfl)⟩
  | ret =>
    simp only at h1
    cases hy : answer L s' fn.resultTypes.toList fn.results.toList with
    | none => rw [hy] at h1; cases h1
    | some y =>
      rw [hy] at h1
      cases hrs : findPs s'.blks bl 0 with
      | none => rw [hrs] at h1; cases h1
      | some rs =>
        rw [hrs] at h1
        obtain ⟨hpl, h1⟩ := cond_none h1
        simp only [Bool.and_eq_true] at hpl
        exact ⟨y, rs, h1, fin y rs hy hrs hpl.2 (.inr rfl)⟩
  | exit id => cases h1
  | goto id => cases h1
  | panic id => cases h1
  | outgrown => cases h1

end
end Go.Rv
