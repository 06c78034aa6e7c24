/- Calls: what is handed over, and what comes back. -/
import Derived.Test.YtmhlcbibbhelkaaDoorRvRun
namespace Go.Rv
open Go.RowKit (Below)
section
variable {I : World → Prop} {P : Program} {L : Lay} {X : Cx I} {lc : List Loc} {β : Type} {w : World} {bl : List Blk}

theorem frozen_later {q : Row} {v : Value} (h : Frozen X q v) (hb : BelowP X w) : Frozen (X.call w hb) q v :=
  FrozenIn.mono (fun k hk => Nat.lt_of_lt_of_le (X.sub k hk).1 hb.size) (fun k hk => hb.block k (X.sub k hk)) h
theorem frozenT_later {q : Row} {v : Value} (hW : RelW X bl w lc) (h : FrozenT X q v) : Frozen (X.call w hW.below) q v :=
  FrozenIn.mono (fun k hk => (hW.frz k hk).1) (fun k hk => (hW.frz k hk).2) h
theorem call_ok (hW : RelW X bl w lc) : SpecCx (X.call w hW.below) := ⟨rfl, rfl, fun _ h => h, hW.frz⟩

theorem relFf_later {f : FSf} {v : Value} (h : relFf X f v) (hb : BelowP X w) : relFf (X.call w hb) f v := by
  cases f <;> simp only [relFf] at h ⊢ <;> try exact h
  exact frozen_later h hb
theorem creff_later {l : List FSf} {off : Nat} {v : Value} (h : crefOKf X l off v) (hb : BelowP X w) : crefOKf (X.call w hb) l off v := by
  obtain ⟨a, h1, h2, h3⟩ := h
  refine ⟨a, h1, Nat.lt_of_lt_of_le (X.sub _ h2).1 hb.size, fun m f hm => ?_⟩
  obtain ⟨u, hu, hr⟩ := h3 m f hm
  have hbl : X.old ((a.add m).block) := by rw [add_block]; exact X.sub _ h2
  exact ⟨u, by show w.cell? _ = _; rw [hb.cell (p := a.add m) hbl]; exact hu, relFf_later hr hb⟩
theorem relF_later {f : FS} {v : Value} (h : relF X f v) (hb : BelowP X w) : relF (X.call w hb) f v := by
  cases f <;> simp only [relF] at h ⊢ <;> try exact h
  · exact frozen_later h hb
  · exact creff_later h hb

theorem cref_later {l : List FS} {off : Nat} {v : Value} (h : crefOK X l off v) (hb : BelowP X w) : crefOK (X.call w hb) l off v := by
  obtain ⟨a, h1, h2, h3⟩ := h
  refine ⟨a, h1, Nat.lt_of_lt_of_le (X.sub _ h2).1 hb.size, fun m f hm => ?_⟩
  obtain ⟨u, hu, hr⟩ := h3 m f hm
  have hbl : X.old ((a.add m).block) := by rw [add_block]; exact X.sub _ h2
  exact ⟨u, by show w.cell? _ = _; rw [hb.cell (p := a.add m) hbl]; exact hu, relF_later hr hb⟩

theorem row_frozen (hW : RelW X bl w lc) {j : Nat} {t : TypeId} {q : Row} {v : Value} (hb : (nth Blk.dead bl j).rowOf = some (t, q)) (h : lc[j]? = some (.r v)) : Frozen (X.call w hW.below) q v := by
  have hB := hW.blks j _ _ (rowOf_some hb).1 h
  obtain ⟨v', hv', xs, hin, hown⟩ := rowOf_rel hB hb
  simp only [Loc.r.injEq] at hv'
  subst hv'
  exact own_frozen (S := fun k => k < w.heap.size) hown (cellsIn.mono (fun k hk => (hW.frz k hk).1) (fun k hk => (hW.frz k hk).2) hin) fun g hg => (Loc.lt hB (rowOf_some hb).2 hg).2

theorem toFSf_rel (hW : RelW X bl w lc) {s : SV} {v : Value} (h : relS X lc s v) : relFf (X.call w hW.below) (toFSf bl s) v := by
  have hb := hW.below
  cases s <;> simp only [relS] at h <;> simp only [toFSf, relFf] <;> try exact h
  · rename_i j
    cases hblk : (nth Blk.dead bl j).rowOf with
    | none => trivial
    | some p =>
      obtain ⟨t, q⟩ := p
      exact row_frozen hW hblk h.1
  · exact frozen_later h hb
  · rename_i f caps
    cases caps with
    | nil =>
      obtain ⟨vs, h1, h2⟩ := h
      have : vs = #[] := by cases vs; cases h2; rfl
      subst this; exact h1
    | cons _ _ => trivial
  · exact frozenT_later hW h.1
theorem cells_creff (hW : RelW X bl w lc) {j off : Nat} {t : TypeId} {l : List SV} {v : Value} (hblk : (nth Blk.dead bl j).cellsOf = some (t, l)) (h : placeOK lc (j, off) v) : crefOKf (X.call w hW.below) (l.map (toFSf bl)) off v := by
  obtain ⟨g, hg, rfl⟩ := h
  obtain ⟨cs, hh, hcs⟩ := cellsOf_rel (hW.blks j _ _ (cellsOf_some hblk).1 hg) hblk
  refine ⟨_, rfl, (Array.getElem?_eq_some_iff.1 hh).1, fun m f hm => ?_⟩
  rw [List.getElem?_map] at hm
  cases hl : l[off + m]? with
  | none => rw [hl] at hm; cases hm
  | some s =>
    rw [hl] at hm
    simp only [Option.map_some, Option.some.injEq] at hm
    subst hm
    obtain ⟨u, hu, hr⟩ := hcs.get _ _ hl
    refine ⟨u, ?_, toFSf_rel hW hr⟩
    rw [Addr.add_lit]
    show w.cell? _ = _
    rw [cell_of_row w g (off + m) cs t (0, 0) hh]
    simpa using hu
theorem toFS_rel (hW : RelW X bl w lc) {s : SV} {v : Value} (h : relS X lc s v) : relF (X.call w hW.below) (toFS bl s) v := by
  have hb := hW.below
  cases s <;> simp only [relS] at h <;> simp only [toFS, relF] <;> try exact h
  · rename_i j off
    cases hblk : (nth Blk.dead bl j).cellsOf with
    | none => trivial
    | some p =>
      obtain ⟨t, l⟩ := p
      exact cells_creff hW hblk h
  · rename_i j
    cases hblk : (nth Blk.dead bl j).rowOf with
    | none => trivial
    | some p =>
      obtain ⟨t, q⟩ := p
      exact row_frozen hW hblk h.1
  · exact frozen_later h hb
  · rename_i f caps
    cases caps with
    | nil =>
      obtain ⟨vs, h1, h2⟩ := h
      have : vs = #[] := by cases vs; cases h2; rfl
      subst this; exact h1
    | cons _ _ => trivial
  · exact frozenT_later hW h.1

theorem cells_cref (hW : RelW X bl w lc) {j off : Nat} {t : TypeId} {l : List SV} {v : Value} (hblk : (nth Blk.dead bl j).cellsOf = some (t, l)) (h : placeOK lc (j, off) v) : crefOK (X.call w hW.below) (l.map (toFS bl)) off v := by
  obtain ⟨g, hg, rfl⟩ := h
  obtain ⟨cs, hh, hcs⟩ := cellsOf_rel (hW.blks j _ _ (cellsOf_some hblk).1 hg) hblk
  refine ⟨_, rfl, (Array.getElem?_eq_some_iff.1 hh).1, fun m f hm => ?_⟩
  rw [List.getElem?_map] at hm
  cases hl : l[off + m]? with
  | none => rw [hl] at hm; cases hm
  | some s =>
    rw [hl] at hm
    simp only [Option.map_some, Option.some.injEq] at hm
    subst hm
    obtain ⟨u, hu, hr⟩ := hcs.get _ _ hl
    refine ⟨u, ?_, toFS_rel hW hr⟩
    rw [Addr.add_lit]
    show w.cell? _ = _
    rw [cell_of_row w g (off + m) cs t (0, 0) hh]
    simpa using hu

theorem capsD_rel (hW : RelW X bl w lc) : ∀ (caps : List (Nat × Nat)) (l : List (List FS × Nat)) (vs : List Value), capsD bl caps = some l → All2 (placeOK lc) caps vs → All2 (fun c u => crefOK (X.call w hW.below) c.1 c.2 u) l vs
  | [], l, vs, h, hv => by cases hv; simp only [capsD, Option.some.injEq] at h; subst h; exact .nil
  | (j, o) :: cs, l, vs, h, hv => by
    cases hv with
    | cons h1 h2 =>
    simp only [capsD] at h
    split at h
    · rename_i t l' rest hb hr
      simp only [Option.some.injEq] at h
      subst h
      exact .cons (cells_cref hW hb h1) (capsD_rel hW cs rest _ hr h2)
    · cases h

theorem deepS_rel (hW : RelW X bl w lc) {s : SV} {v : Value} (h : relS X lc s v) (ha : argS (deepS bl s) = true) : relS (X.call w hW.below) [] (deepS bl s) v := by
  have hb := hW.below
  cases s with
  | int k n => exact h
  | bool b => exact h
  | str b => exact h
  | ptr j off =>
    simp only [deepS] at ha ⊢
    cases hblk : (nth Blk.dead bl j).cellsOf with
    | some p => obtain ⟨t, l⟩ := p; exact cells_cref hW hblk h
    | none => rw [hblk] at ha; cases ha
  | row j =>
    simp only [deepS] at ha ⊢
    cases hblk : (nth Blk.dead bl j).rowOf with
    | some p => obtain ⟨t, q⟩ := p; exact row_frozen hW hblk h.1
    | none => rw [hblk] at ha; cases ha
  | sl t q => exact frozen_later h hb
  | elt j z i off => cases ha
  | suf j i => cases ha
  | fpt q => cases ha
  | ref q i off => cases ha
  | fn f caps =>
    cases caps with
    | nil =>
      obtain ⟨vs, h1, h2⟩ := h
      exact ⟨vs, h1, by cases vs; cases h2; exact .nil⟩
    | cons c cs =>
      simp only [deepS] at ha ⊢
      cases hc : capsD bl (c :: cs) with
      | none => rw [hc] at ha; cases ha
      | some l =>
        obtain ⟨vs, h1, h2⟩ := h
        exact ⟨vs, h1, capsD_rel hW _ _ _ hc h2⟩
  | cref l off => exact cref_later h hb
  | dfn f caps =>
    obtain ⟨vs, h1, h2⟩ := h
    exact ⟨vs, h1, h2.mono fun _ _ h => cref_later h hb⟩
  | mp j => cases ha
  | nilp => cases ha
  | nilm => cases ha
  | no => cases ha
  | und => cases ha
  | fsl t q => exact frozenT_later hW h.1
  | fref q i off => cases ha
  | tr two T => exact h
  | tra two T off => cases ha
  | nilf => cases ha
  | bfn f l => obtain ⟨cs, h1, h2⟩ := h; exact ⟨cs, h1, h2.mono fun _ _ h => relF_later h hb⟩

theorem deepT_rel (hW : RelW X bl w lc) {x : TV} {v : Value} (h : relT X lc x v) (ha : argT (deepT bl x) = true) : relT (X.call w hW.below) [] (deepT bl x) v := by
  cases x with
  | tup _ => cases ha
  | v x => cases x with
    | one s => exact deepS_rel hW h ha
    | agg l =>
      obtain ⟨cs, rfl, hcs⟩ := h
      refine ⟨cs, rfl, ?_⟩
      have ha : (l.map (deepS bl)).all argS = true := ha
      show All2 _ (l.map (deepS bl)) cs.toList
      generalize cs.toList = vs at hcs ⊢
      induction hcs with
      | nil => exact .nil
      | cons h1 _ ih =>
        simp only [List.map_cons, List.all_cons, Bool.and_eq_true] at ha
        exact .cons (deepS_rel hW h1 ha.1) (ih ha.2 ha.2)

theorem argOf_rel {s : St} {a : Act} (hR : Rel X s a w lc) {x : Operand} {t : TypeId} {y : TV} (h : argOf L s x t = some y) : relT (X.call w hR.world.below) [] y (a.eval x) := by
  unfold argOf at h
  split at h
  · split at h
    · split at h
      · rename_i q hq
        simp only [Option.some.injEq] at h
        subst h
        exact frozen_zero (emptyRow_len hq)
      · cases h
    · cases h
  · obtain ⟨h1, h2⟩ := cond_none h
    simp only [Option.some.injEq] at h2
    subst h2
    exact deepT_rel hR.world (eval_rel hR.tmps x) h1

theorem argsOf_rel {s : St} {a : Act} (hR : Rel X s a w lc) : ∀ (xs : List Operand) (ts : List TypeId) (ys : List TV), argsOf L s xs ts = some ys → All2 (relT (X.call w hR.world.below) []) ys (xs.map a.eval)
  | [], [], ys, h => by simp only [argsOf, Option.some.injEq] at h; subst h; exact .nil
  | [], _ :: _, ys, h => by cases h
  | _ :: _, [], ys, h => by cases h
  | x :: xs, t :: ts, ys, h => by
    simp only [argsOf] at h
    split at h
    · rename_i y ys' h1 h2
      simp only [Option.some.injEq] at h
      subst h
      exact .cons (argOf_rel hR h1) (argsOf_rel hR xs ts ys' h2)
    · cases h

theorem keepS_rel (hW : RelW X bl w lc) {s : SV} {v : Value} (hk : keepS s = true) (h : relS X lc s v) : relS (X.call w hW.below) [] s v := by
  cases s <;> simp only [keepS, Bool.false_eq_true] at hk <;> try exact h
  rename_i f caps
  cases caps with
  | nil =>
    obtain ⟨vs, h1, h2⟩ := h
    exact ⟨vs, h1, by cases vs; cases h2; exact .nil⟩
  | cons _ _ => cases hk
theorem keepT_rel (hW : RelW X bl w lc) {x : TV} {v : Value} (hk : keepT x = true) (h : relT X lc x v) : relT (X.call w hW.below) [] x v := by
  cases x with
  | tup _ => cases hk
  | v x => cases x with
    | one s => exact keepS_rel hW hk h
    | agg l =>
      obtain ⟨cs, rfl, hcs⟩ := h
      refine ⟨cs, rfl, ?_⟩
      have hk : l.all keepS = true := hk
      generalize cs.toList = vs at hcs ⊢
      induction hcs with
      | nil => exact .nil
      | cons h1 _ ih =>
        simp only [List.all_cons, Bool.and_eq_true] at hk
        exact .cons (keepS_rel hW hk.1 h1) (ih hk.2 hk.2)
theorem keepTs_rel (hW : RelW X bl w lc) : ∀ {xs : List TV} {vs : List Value}, xs.all keepT = true → All2 (relT X lc) xs vs → All2 (relT (X.call w hW.below) []) xs vs
  | [], _, _, h => by cases h; exact .nil
  | x :: xs, _, hk, .cons h1 h2 => by
    simp only [List.all_cons, Bool.and_eq_true] at hk
    exact .cons (keepT_rel hW hk.1 h1) (keepTs_rel hW hk.2 h2)
theorem nilArg_rel {s : St} {a : Act} (hR : Rel X s a w lc) : ∀ (ts : List TypeId) (xs : List Operand), ts.length = xs.length → All2 (relT X lc) (List.zipWith (nilArg L s) ts xs) (xs.map a.eval)
  | [], [], _ => .nil
  | [], _ :: _, h => by cases h
  | _ :: _, [], h => by cases h
  | t :: ts, x :: xs, h => by
    refine .cons ?_ (nilArg_rel hR ts xs (by simpa using h))
    unfold nilArg
    split
    · split
      · split
        · rename_i q hq
          exact ⟨frozen_zero (emptyRow_len hq), whole_zero (emptyRow_len hq)⟩
        · trivial
      · trivial
    · exact eval_rel hR.tmps x


def ansS : SV → Bool
  | .int .. | .bool _ | .str _ | .sl .. | .fsl .. | .tr .. => true
  | _ => false
def ansA : AV → Bool
  | .one s => ansS s
  | .agg l => l.all ansS
def ansT : TV → Bool
  | .v x => ansA x
  | .tup l => l.all ansA

def CallRes (X : Cx I) (w' : World) (y : TV) (v : Value) : Prop :=
  ∃ X' lc, X.Le X' ∧ RelW X' (takeT [] y).2 w' lc ∧ relT X' lc (takeT [] y).1 v ∧ ansT y = true

def SpecOK (I : World → Prop) (P : Program) (g : FuncId) (S : Spec β) : Prop :=
  (∃ fn c, P.funcs[g]? = some fn ∧ fn.body = some c ∧ (fn.name == "runtime.NumGoroutine") = false) ∧
  ∀ args K r, S args K = some r → ∃ y, K y = some r ∧ ∀ (X : Cx I) vs, SpecCx X → All2 (relT X []) args vs → Calls P g vs.toArray X.w0 (fun e w' => ∃ v, e = .returned v ∧ CallRes X w' y v)

def shS (n : Nat) : SV → SV
  | .row j => .row (n + j)
  | s => s
def shA (n : Nat) : AV → AV
  | .one s => .one (shS n s)
  | .agg l => .agg (l.map (shS n))
def shT (n : Nat) : TV → TV
  | .v x => .v (shA n x)
  | .tup l => .tup (l.map (shA n))

theorem takeS_sh (bl c : List Blk) (s : SV) : ansS s = true → takeS (bl ++ c) s = (shS bl.length (takeS c s).1, bl ++ (takeS c s).2) := by
  cases s <;> simp [takeS, shS, ansS]
theorem takeS_res (c : List Blk) (s : SV) : ansS s = true → resS (takeS c s).1 = true := by
  cases s <;> simp [takeS, resS, ansS]
theorem takeL_sh (bl : List Blk) : ∀ (l : List SV) (c : List Blk), l.all ansS = true → takeL (bl ++ c) l = ((takeL c l).1.map (shS bl.length), bl ++ (takeL c l).2) ∧ (takeL c l).1.all resS = true
  | [], c, _ => ⟨rfl, rfl⟩
  | s :: l, c, h => by
    simp only [List.all_cons, Bool.and_eq_true] at h
    obtain ⟨h1, h2⟩ := takeL_sh bl l (takeS c s).2 h.2
    simp only [takeL, List.all_cons, Bool.and_eq_true]
    rw [takeS_sh bl c s h.1]
    simp only []
    rw [h1]
    exact ⟨rfl, takeS_res c s h.1, h2⟩
theorem takeA_sh (bl c : List Blk) (x : AV) (h : ansA x = true) : takeA (bl ++ c) x = (shA bl.length (takeA c x).1, bl ++ (takeA c x).2) ∧ resA (takeA c x).1 = true := by
  cases x with
  | one s =>
    simp only [takeA]
    rw [takeS_sh bl c s h]; exact ⟨rfl, takeS_res c s h⟩
  | agg l =>
    simp only [takeA]
    rw [(takeL_sh bl l c h).1]; exact ⟨rfl, (takeL_sh bl l c h).2⟩
theorem takeAs_sh (bl : List Blk) : ∀ (l : List AV) (c : List Blk), l.all ansA = true → takeAs (bl ++ c) l = ((takeAs c l).1.map (shA bl.length), bl ++ (takeAs c l).2) ∧ (takeAs c l).1.all resA = true
  | [], c, _ => ⟨rfl, rfl⟩
  | s :: l, c, h => by
    simp only [List.all_cons, Bool.and_eq_true] at h
    obtain ⟨h1, h2⟩ := takeAs_sh bl l (takeA c s).2 h.2
    simp only [takeAs, List.all_cons, Bool.and_eq_true]
    rw [(takeA_sh bl c s h.1).1]
    simp only []
    rw [h1]
    exact ⟨rfl, (takeA_sh bl c s h.1).2, h2⟩
theorem takeT_sh (bl c : List Blk) (x : TV) (h : ansT x = true) : takeT (bl ++ c) x = (shT bl.length (takeT c x).1, bl ++ (takeT c x).2) ∧ resT (takeT c x).1 = true := by
  cases x with
  | v x =>
    simp only [takeT]
    rw [(takeA_sh bl c x h).1]; exact ⟨rfl, (takeA_sh bl c x h).2⟩
  | tup l =>
    simp only [takeT]
    rw [(takeAs_sh bl l c h).1]; exact ⟨rfl, (takeAs_sh bl l c h).2⟩

theorem takeS_rows (c : List Blk) (s : SV) (h : c.all rowB = true) : (takeS c s).2.all rowB = true := by
  cases s <;> simp only [takeS] <;> try exact h
  rw [List.all_append, h]; rfl
theorem takeL_rows : ∀ (l : List SV) (c : List Blk), c.all rowB = true → (takeL c l).2.all rowB = true
  | [], _, h => h
  | s :: l, c, h => takeL_rows l _ (takeS_rows c s h)
theorem takeA_rows (c : List Blk) (x : AV) (h : c.all rowB = true) : (takeA c x).2.all rowB = true := by
  cases x with
  | one s => exact takeS_rows c s h
  | agg l => exact takeL_rows l c h
theorem takeAs_rows : ∀ (l : List AV) (c : List Blk), c.all rowB = true → (takeAs c l).2.all rowB = true
  | [], _, h => h
  | s :: l, c, h => takeAs_rows l _ (takeA_rows c s h)
theorem takeT_rows (c : List Blk) (x : TV) (h : c.all rowB = true) : (takeT c x).2.all rowB = true := by
  cases x with
  | v x => exact takeA_rows c x h
  | tup l => exact takeAs_rows l c h

theorem sh_relS {X' : Cx I} {lc2 : List Loc} (hft : X.ft = X'.ft) (hfw : X.fw = X'.fw) {s : SV} {v : Value} (hr : resS s = true) (h : relS X' lc2 s v) : relS X (lc ++ lc2) (shS lc.length s) v := by
  cases s <;> simp only [resS, Bool.false_eq_true] at hr <;> try exact h
  · obtain ⟨h1, h2⟩ := h
    exact ⟨by rw [List.getElem?_append_right (by omega)]; simpa using h1, h2⟩
  · rename_i t q
    show FrozenIn X.ft X.fw q v ∧ Whole X.ft X.fw t q.sz q.len v
    rw [hft, hfw]; exact h
  · rename_i two T
    show TreeIn X.ft X.fw two T v
    rw [hft, hfw]; exact h
theorem sh_relL {X' : Cx I} {lc2 : List Loc} (hft : X.ft = X'.ft) (hfw : X.fw = X'.fw) {l : List SV} {vs : List Value} (hr : l.all resS = true) (h : All2 (relS X' lc2) l vs) : All2 (relS X (lc ++ lc2)) (l.map (shS lc.length)) vs := by
  induction h with
  | nil => exact .nil
  | cons h1 _ ih =>
    simp only [List.all_cons, Bool.and_eq_true] at hr
    exact .cons (sh_relS hft hfw hr.1 h1) (ih hr.2)
theorem sh_relA {X' : Cx I} {lc2 : List Loc} (hft : X.ft = X'.ft) (hfw : X.fw = X'.fw) {x : AV} {v : Value} (hr : resA x = true) (h : relA X' lc2 x v) : relA X (lc ++ lc2) (shA lc.length x) v := by
  cases x with
  | one s => exact sh_relS hft hfw hr h
  | agg l =>
    obtain ⟨cs, h1, h2⟩ := h
    exact ⟨cs, h1, sh_relL hft hfw hr h2⟩
theorem sh_relT {X' : Cx I} {lc2 : List Loc} (hft : X.ft = X'.ft) (hfw : X.fw = X'.fw) {x : TV} {v : Value} (hr : resT x = true) (h : relT X' lc2 x v) : relT X (lc ++ lc2) (shT lc.length x) v := by
  cases x with
  | v x => exact sh_relA hft hfw hr h
  | tup l =>
    obtain ⟨cs, h1, h2⟩ := h
    refine ⟨cs, h1, ?_⟩
    have hr : l.all resA = true := hr
    generalize cs.toList = vs at h2
    induction h2 with
    | nil => exact .nil
    | cons h1 _ ih =>
      simp only [List.all_cons, Bool.and_eq_true] at hr
      exact .cons (sh_relA hft hfw hr.1 h1) (ih hr.2 hr.2)

theorem RelW.join {b : List Blk} {w' : World} {lc2 : List Loc} {X2 : Cx I} (h : RelW X bl w lc) (hle : (X.call w h.below).Le X2) (h2 : RelW X2 b w' lc2) (hrow : b.all rowB = true) :
    X.Le (X.grow X2.ft X2.fw) ∧ RelW (X.grow X2.ft X2.fw) (bl ++ b) w' (lc ++ lc2) := by
  obtain ⟨ft, fw, a1, a2, a3⟩ := hle
  have hbel : Below w.heap.size w w' := ⟨h2.below.os, h2.below.tape, h2.below.output, h2.below.size, fun k hk => h2.below.block k ((call_ok h).old hk)⟩
  have h' := h.later hbel
  have mine_ : ∀ g, ((X.call w h.below).grow ft fw).mine g → w.heap.size ≤ g := fun g hg => by
    rcases hg with h | ⟨v, hv, _⟩ | hg
    · exact h
    · simp [Cx.call, Cx.grow] at hv
    · simp [Cx.call, Cx.grow] at hg
  have a3' : ∀ k, ft k → X.ft k ∨ w.heap.size ≤ k := fun k hk => (a3 k hk).imp id fun hm => mine_ k hm
  have hle : X.Le (X.grow ft fw) := .mk ft fw a1 a2 fun k hk => (a3' k hk).imp id fun hm => .inl (Nat.le_trans h.base_le hm)
  refine ⟨hle, ?_⟩
  have hg : RelW (X.grow ft fw) bl w' lc := h'.grow hle h2.frz fun j b1 ℓ g hj hon hl hg1 hf => by
    rcases a3' g hf with hf | hf
    · exact h.frn j b1 ℓ g hj hon hl hg1 hf
    · have := (Loc.lt (h.blks j b1 ℓ hj hl) hon hg1).2
      omega
  have len := h.len
  have len2 := h2.len
  have new : ∀ (i : Nat) bi li g, b[i]? = some bi → bi.on = true → lc2[i]? = some li → li.blk = some g → w.heap.size ≤ g := fun i bi li g hi oni hli hgi => mine_ g (Loc.lt (h2.blks i bi li hi hli) oni hgi).1
  have old : ∀ (i : Nat) bi li g, bl[i]? = some bi → bi.on = true → lc[i]? = some li → li.blk = some g → g < w.heap.size := fun i bi li g hi oni hli hgi => (Loc.lt (h.blks i bi li hi hli) oni hgi).2
  refine ⟨by simp [len, len2], fun j b1 l1 hj hl => ?_, fun i j bi bj li lj g hij hi hj oni onj hli hlj hgi hgj => ?_, hg.below, h2.frz, fun j b1 l1 g hj on1 hl hg1 => ?_⟩
  · rcases Nat.lt_or_ge j bl.length with hlt | hge
    · rw [List.getElem?_append_left hlt] at hj
      rw [List.getElem?_append_left (by omega)] at hl
      exact (hg.blks j b1 l1 hj hl).more _
    · rw [List.getElem?_append_right hge] at hj
      rw [List.getElem?_append_right (by omega), len] at hl
      have hb := h2.blks _ b1 l1 hj hl
      have : rowB b1 = true := List.all_eq_true.1 hrow _ (List.mem_of_getElem? hj)
      cases b1 <;> try cases this
      rename_i t q
      cases l1 with
      | c g => exact hb
      | m g => exact hb
      | r v =>
        obtain ⟨k1, xs, k2, k3⟩ := hb
        exact ⟨fun g hg => .inl (Nat.le_trans h.base_le (mine_ g (k1 g hg))), xs, k2, k3⟩
  · rcases Nat.lt_or_ge i bl.length with hlt | hge <;> rcases Nat.lt_or_ge j bl.length with hlt2 | hge2
    · rw [List.getElem?_append_left hlt] at hi
      rw [List.getElem?_append_left hlt2] at hj
      rw [List.getElem?_append_left (by omega)] at hli hlj
      exact h.apart i j bi bj li lj g hij hi hj oni onj hli hlj hgi hgj
    · rw [List.getElem?_append_left hlt] at hi
      rw [List.getElem?_append_left (by omega)] at hli
      rw [List.getElem?_append_right hge2] at hj
      rw [List.getElem?_append_right (by omega), len] at hlj
      have := old i bi li g hi oni hli hgi
      have := new _ bj lj g hj onj hlj hgj
      omega
    · rw [List.getElem?_append_left hlt2] at hj
      rw [List.getElem?_append_left (by omega)] at hlj
      rw [List.getElem?_append_right hge] at hi
      rw [List.getElem?_append_right (by omega), len] at hli
      have := old j bj lj g hj onj hlj hgj
      have := new _ bi li g hi oni hli hgi
      omega
    · rw [List.getElem?_append_right hge] at hi
      rw [List.getElem?_append_right (by omega), len] at hli
      rw [List.getElem?_append_right hge2] at hj
      rw [List.getElem?_append_right (by omega), len] at hlj
      exact h2.apart _ _ bi bj li lj g (by omega) hi hj oni onj hli hlj hgi hgj
  · rcases Nat.lt_or_ge j bl.length with hlt | hge
    · rw [List.getElem?_append_left hlt] at hj
      rw [List.getElem?_append_left (by omega)] at hl
      exact hg.frn j b1 l1 g hj on1 hl hg1
    · rw [List.getElem?_append_right hge] at hj
      rw [List.getElem?_append_right (by omega), len] at hl
      exact h2.frn _ b1 l1 g hj on1 hl hg1

def valA : AV → Value
  | .one s => valS s
  | .agg l => .agg (l.map valS).toArray
def valT : TV → Value
  | .v x => valA x
  | .tup l => .tuple (l.map valA).toArray

theorem relL_plain {l : List SV} (hp : l.all plainS = true) {vs : List Value} : All2 (relS X lc) l vs ↔ vs = l.map valS := by
  induction l generalizing vs with
  | nil => exact ⟨fun h => by cases h; rfl, fun h => by subst h; exact .nil⟩
  | cons s l ih =>
    simp only [List.all_cons, Bool.and_eq_true] at hp
    refine ⟨fun h => ?_, fun h => ?_⟩
    · cases h with
      | cons h1 h2 => rw [(relS_plain hp.1).1 h1, (ih hp.2).1 h2]; rfl
    · subst h
      exact .cons ((relS_plain hp.1).2 rfl) ((ih hp.2).2 rfl)
theorem relA_plain {x : AV} (hp : plainA x = true) {v : Value} : relA X lc x v ↔ v = valA x := by
  cases x with
  | one s => exact relS_plain hp
  | agg l =>
    refine ⟨fun ⟨cs, h1, h2⟩ => ?_, fun h => ⟨_, h, (relL_plain hp).2 (by simp)⟩⟩
    have := (relL_plain hp).1 h2
    rw [h1]
    show _ = Value.agg (l.map valS).toArray
    rw [← this]
theorem relAs_plain {l : List AV} (hp : l.all plainA = true) {vs : List Value} : All2 (relA X lc) l vs ↔ vs = l.map valA := by
  induction l generalizing vs with
  | nil => exact ⟨fun h => by cases h; rfl, fun h => by subst h; exact .nil⟩
  | cons s l ih =>
    simp only [List.all_cons, Bool.and_eq_true] at hp
    refine ⟨fun h => ?_, fun h => ?_⟩
    · cases h with
      | cons h1 h2 => rw [(relA_plain hp.1).1 h1, (ih hp.2).1 h2]; rfl
    · subst h
      exact .cons ((relA_plain hp.1).2 rfl) ((ih hp.2).2 rfl)
theorem relT_plain {x : TV} (hp : plainT x = true) {v : Value} : relT X lc x v ↔ v = valT x := by
  cases x with
  | v x => exact relA_plain hp
  | tup l =>
    refine ⟨fun ⟨cs, h1, h2⟩ => ?_, fun h => ⟨_, h, (relAs_plain hp).2 (by simp)⟩⟩
    have := (relAs_plain hp).1 h2
    rw [h1]
    show _ = Value.tuple (l.map valA).toArray
    rw [← this]

theorem takeS_plain (bl : List Blk) (s : SV) (h : plainS (takeS bl s).1 = true) : takeS bl s = (s, bl) := by
  cases s <;> first | rfl | cases h
theorem takeL_plain : ∀ (l : List SV) (bl : List Blk), (takeL bl l).1.all plainS = true → takeL bl l = (l, bl)
  | [], bl, _ => rfl
  | s :: l, bl, h => by
    simp only [takeL, List.all_cons, Bool.and_eq_true] at h ⊢
    have h1 := takeS_plain bl s h.1
    rw [h1] at h ⊢
    simp only [] at h ⊢
    rw [takeL_plain l bl h.2]
theorem takeA_plain (bl : List Blk) (x : AV) (h : plainA (takeA bl x).1 = true) : takeA bl x = (x, bl) := by
  cases x with
  | one s =>
    simp only [takeA, plainA] at h ⊢
    rw [takeS_plain bl s h]
  | agg l =>
    simp only [takeA, plainA] at h ⊢
    rw [takeL_plain l bl h]
theorem takeAs_plain : ∀ (l : List AV) (bl : List Blk), (takeAs bl l).1.all plainA = true → takeAs bl l = (l, bl)
  | [], bl, _ => rfl
  | s :: l, bl, h => by
    simp only [takeAs, List.all_cons, Bool.and_eq_true] at h ⊢
    have h1 := takeA_plain bl s h.1
    rw [h1] at h ⊢
    simp only [] at h ⊢
    rw [takeAs_plain l bl h.2]
theorem takeT_plain (bl : List Blk) (x : TV) (h : plainT (takeT bl x).1 = true) : takeT bl x = (x, bl) := by
  cases x with
  | v x =>
    simp only [takeT, plainT] at h ⊢
    rw [takeA_plain bl x h]
  | tup l =>
    simp only [takeT, plainT] at h ⊢
    rw [takeAs_plain l bl h]


def SC (I : World → Prop) (P : Program) (o : Oper) (s : St) (x : TV) (bl : List Blk) : Prop := ∀ (X : Cx I) a w lc, Rel X s a w lc →
  ∃ g vs, (execOp a.eval o).run P w = .ok (.enter g vs) w ∧ Calls P g vs w (fun e w' => ∃ v more X', e = .returned v ∧ Below w.heap.size w w' ∧ X.Le X' ∧ relT X' (lc ++ more) x v ∧ RelW X' bl w' (lc ++ more))

def SCQ (I : World → Prop) (P : Program) (o : Oper) (s : St) (x : TV) : Prop := ∀ (X : Cx I) a w lc, Rel X s a w lc →
  ∃ v, relT X lc x v ∧ ∀ w', Below w.heap.size w w' → ∃ g vs, (execOp a.eval o).run P w' = .ok (.enter g vs) w' ∧ Calls P g vs w' (fun e w'' => e = .returned v ∧ Below w'.heap.size w' w'')

def SpecsOK (I : World → Prop) (P : Program) (E : Env β) : Prop := ∀ g args K r, specOf E.fns g args K = some r →
  (∃ fn c, P.funcs[g]? = some fn ∧ fn.body = some c ∧ (fn.name == "runtime.NumGoroutine") = false) ∧
  ∃ y, K y = some r ∧ ∀ (X : Cx I) vs, SpecCx X → All2 (relT X []) args vs → Calls P g vs.toArray X.w0 (fun e w' => ∃ v, e = .returned v ∧ CallRes X w' y v)

theorem specsOK_of {E : Env β} (h : ∀ g S, (g, S) ∈ E.fns → SpecOK I P g S) : SpecsOK I P E := by
  intro g args K r hr
  have key : ∀ l : List (FuncId × Spec β), (∀ g S, (g, S) ∈ l → SpecOK I P g S) → specOf l g args K = some r → ∃ S, SpecOK I P g S ∧ S args K = some r := by
    intro l
    induction l with
    | nil => intro _ h; cases h
    | cons p l ih =>
      intro hl hr
      obtain ⟨u, S⟩ := p
      simp only [specOf] at hr
      cases hb : Nat.beq u g with
      | true =>
        rw [hb] at hr
        have := Nat.eq_of_beq_eq_true hb
        subst this
        exact ⟨S, hl _ _ (by simp), hr⟩
      | false =>
        rw [hb] at hr
        exact ih (fun g S hg => hl g S (by simp [hg])) hr
  obtain ⟨S, h1, h2⟩ := key E.fns h hr
  exact ⟨h1.1, h1.2 args K r h2⟩

theorem run_enterB {o : Oper} {c : Call} {f : Operand} (ho : o.op = .call c) (hc : c.callee = .value f) {a : Act} {g : FuncId} {fs vs : Array Value} (hf : a.eval f = .func (.func g) fs vs)
    (hg : ∃ fn c, P.funcs[g]? = some fn ∧ fn.body = some c ∧ (fn.name == "runtime.NumGoroutine") = false) (w : World) :
    (execOp a.eval o).run P w = .ok (.enter g ((fs ++ c.args.map a.eval) ++ vs)) w := by
  obtain ⟨fn, cd, h1, h2, h3⟩ := hg
  unfold execOp
  have h3' : ¬ fn.name = "runtime.NumGoroutine" := by simpa using h3
  simp [ho, resolve, hc, hf, Deferred.ofValue, invoke, callFunc, h1, h2, h3']
theorem run_enter {o : Oper} {c : Call} {f : Operand} (ho : o.op = .call c) (hc : c.callee = .value f) {a : Act} {g : FuncId} {vs : Array Value} (hf : a.eval f = .func (.func g) #[] vs)
    (hg : ∃ fn c, P.funcs[g]? = some fn ∧ fn.body = some c ∧ (fn.name == "runtime.NumGoroutine") = false) (w : World) :
    (execOp a.eval o).run P w = .ok (.enter g (c.args.map a.eval ++ vs)) w := by
  obtain ⟨fn, cd, h1, h2, h3⟩ := hg
  unfold execOp
  have h3' : ¬ fn.name = "runtime.NumGoroutine" := by simpa using h3
  simp [ho, resolve, hc, hf, Deferred.ofValue, invoke, callFunc, h1, h2, h3']

theorem crefT_rel {Y : Cx I} {cs : List (List FS × Nat)} {vs : List Value} (h : All2 (fun c u => crefOK Y c.1 c.2 u) cs vs) : All2 (relT Y []) (cs.map crefT) vs := by
  induction h with
  | nil => exact .nil
  | cons h1 _ ih => exact .cons h1 ih

theorem plainL_all {l : List SV} (h : l.all plainS = true) : ∀ bl, frzL bl l = (l, bl) := by
  induction l with
  | nil => intro bl; rfl
  | cons s l ih =>
    intro bl
    simp only [List.all_cons, Bool.and_eq_true] at h
    have : frzS bl s = (s, bl) := by cases s <;> first | rfl | cases h.1
    simp only [frzL, this, ih h.2]
theorem frzA_plain {x : AV} (h : plainA x = true) (bl : List Blk) : frzA bl x = (x, bl) := by
  cases x with
  | one s =>
    have : frzS bl s = (s, bl) := by cases s <;> first | rfl | cases h
    simp only [frzA, this]
  | agg l => simp only [frzA, plainL_all h]
theorem frzS_kind (bl : List Blk) (s : SV) (h : plainS (frzS bl s).1 = true) : plainS s = true := by
  cases s <;> try exact h
  rename_i j
  simp only [frzS] at h
  split at h <;> cases h
theorem frzL_kind : ∀ (l : List SV) (bl : List Blk), (frzL bl l).1.all plainS = true → l.all plainS = true
  | [], _, _ => rfl
  | s :: l, bl, h => by
    simp only [frzL, List.all_cons, Bool.and_eq_true] at h ⊢
    exact ⟨frzS_kind bl s h.1, frzL_kind l _ h.2⟩
theorem frzA_kind (bl : List Blk) (x : AV) (h : plainA (frzA bl x).1 = true) : plainA x = true := by
  cases x with
  | one s => exact frzS_kind bl s h
  | agg l => exact frzL_kind l bl h
theorem frzAs_kind : ∀ (l : List AV) (bl : List Blk), (frzAs bl l).1.all plainA = true → l.all plainA = true ∧ frzAs bl l = (l, bl)
  | [], _, _ => ⟨rfl, rfl⟩
  | s :: l, bl, h => by
    simp only [frzAs, List.all_cons, Bool.and_eq_true] at h
    have h1 := frzA_kind bl s h.1
    have h2 := frzA_plain h1 bl
    rw [h2] at h
    obtain ⟨h3, h4⟩ := frzAs_kind l bl h.2
    exact ⟨by simp only [List.all_cons, Bool.and_eq_true]; exact ⟨h1, h3⟩, by simp only [frzAs, h2, h4]⟩
theorem frzT_kind (bl : List Blk) (x : TV) (h : plainT (frzT bl x).1 = true) : frzT bl x = (x, bl) := by
  cases x with
  | v x => simp only [frzT, frzA_plain (frzA_kind bl x h)]
  | tup l => simp only [frzT, (frzAs_kind l bl h).2]

theorem call_made {E : Env β} (hE : SpecsOK I P E) {o : Oper} {c : Call} {f : Operand} {s : St} {g : FuncId} {xs : List TV} {bl0 : List Blk} {fl : Bool} {K : TV → St → Option β} {r : β} (ho : o.op = .call c) (hc : c.callee = .value f)
    (hargs : ∀ (X : Cx I) a w lc, Rel X s a w lc → ∃ X0 fs vs, X.Le X0 ∧ a.eval f = .func (.func g) fs vs ∧ ∃ hW : RelW X0 bl0 w lc, All2 (relT (X0.call w hW.below) []) xs (fs.toList ++ ((c.args.map a.eval).toList ++ vs.toList)))
    (h : specOf E.fns g xs (fun r => took fl s.tmps bl0 r K) = some r) :
    ∃ x bl, K x ⟨s.tmps, bl⟩ = some r ∧ SC I P o s x bl ∧ (bl0 = s.blks → plainT x = true → bl = s.blks ∧ SCQ I P o s x) := by
  obtain ⟨hg, y, hy, hcall⟩ := hE g xs _ r h
  have calls : ∀ (X : Cx I) a w lc, Rel X s a w lc → ∃ g vs, (execOp a.eval o).run P w = .ok (.enter g vs) w ∧ Calls P g vs w (fun e w' => ∃ v more X', e = .returned v ∧ Below w.heap.size w w' ∧ X.Le X' ∧ relT X' (lc ++ more) (takeT bl0 y).1 v ∧ RelW X' (takeT bl0 y).2 w' (lc ++ more)) := by
    intro X a w lc hR
    obtain ⟨X0, fs, vs, hle0, hf, hW0, hrel⟩ := hargs X a w lc hR
    refine ⟨g, _, run_enterB ho hc hf hg w, ?_⟩
    have := hcall (X0.call w hW0.below) _ (call_ok hW0) hrel
    rw [show (fs.toList ++ ((c.args.map a.eval).toList ++ vs.toList)).toArray = (fs ++ c.args.map a.eval) ++ vs by simp] at this
    refine this.mono fun e w' ⟨v, he, X2, lc2, hle, h1, h2, h3⟩ => ?_
    obtain ⟨j1, j2⟩ := hW0.join hle h1 (takeT_rows [] y rfl)
    have hbel : Below w.heap.size w w' := by
      obtain ⟨ft, fw, _, _, _⟩ := hle
      exact ⟨h1.below.os, h1.below.tape, h1.below.output, h1.below.size, fun k hk => h1.below.block k ((call_ok hW0).old hk)⟩
    have e1 := (takeT_sh bl0 [] y h3).1
    rw [List.append_nil] at e1
    refine ⟨v, lc2, _, he, hbel, hle0.trans j1, ?_, ?_⟩
    · rw [e1, ← hW0.len]
      exact sh_relT (X := X0.grow X2.ft X2.fw) (X' := X2) rfl rfl (takeT_sh bl0 [] y h3).2 h2
    · rw [e1]
      exact j2
  have plain : plainT (takeT bl0 y).1 = true → bl0 = s.blks → (takeT bl0 y).2 = s.blks ∧ SCQ I P o s (takeT bl0 y).1 := fun hp hb0 => by
    subst hb0
    have ht := takeT_plain s.blks y hp
    rw [ht] at hp ⊢
    refine ⟨rfl, fun X a w lc hR => ⟨valT y, (relT_plain hp).2 rfl, fun w' hb => ?_⟩⟩
    obtain ⟨g, vs, h1, h2⟩ := calls X a w' lc ⟨hR.tmps, hR.world.later hb, hR.defers⟩
    refine ⟨g, vs, h1, h2.mono fun e w'' ⟨v, more, X', he, hb2, _, hv, _⟩ => ⟨?_, hb2⟩⟩
    rw [ht] at hv
    rw [he, (relT_plain hp).1 hv]
  unfold took at hy
  simp only at hy
  cases fl with
  | false =>
    simp only [cond_false] at hy
    exact ⟨_, _, hy, calls, fun hb0 hp => plain hp hb0⟩
  | true =>
    simp only [cond_true] at hy
    refine ⟨_, _, hy, fun X a w lc hR => ?_, fun hb0 hp => ?_⟩
    · obtain ⟨g, vs, h1, h2⟩ := calls X a w lc hR
      refine ⟨g, vs, h1, h2.mono fun e w' ⟨v, more, X', he, hb, hle, hv, hW⟩ => ?_⟩
      obtain ⟨X2, b1, b2, b3⟩ := frzT_rel hW hv
      exact ⟨v, more, X2, he, hb, hle.trans b1, b3, b2⟩
    · have hk := frzT_kind _ _ hp
      rw [hk] at hp ⊢
      exact plain hp hb0


def RowsBack (bl : List Blk) (vps : List Value) (rs : List Row) (w' : World) : Prop :=
  rs.length = bl.length ∧ ∀ (k i : Nat) t q0 v q, bl[k]? = some (.prow i t q0) → vps[k]? = some v → rs[k]? = some q → q.deep = false ∧ w'.ownsRow 0 t q.sz v q.len q.cells

def MutOK (I : World → Prop) (P : Program) (g : FuncId) (MS : MSpec β) : Prop :=
  (∃ fn c, P.funcs[g]? = some fn ∧ fn.body = some c ∧ (fn.name == "runtime.NumGoroutine") = false) ∧
  ∀ args bl K r, MS args bl K = some r → ∃ y rs, K y rs = some r ∧ ∀ (X : Cx I) vs, X.gp = [] → RelW X bl X.w0 (X.pins.map Loc.r) → All2 (relT X (X.pins.map Loc.r)) args vs →
    Calls P g vs.toArray X.w0 (fun e w' => ∃ v, e = .returned v ∧ (plainT y = true → v = valT y) ∧ BelowP X w' ∧ RowsBack bl X.pins rs w')

def MutsOK (I : World → Prop) (P : Program) (E : Env β) : Prop := ∀ g MS, mutOf E.muts g = some MS → MutOK I P g MS

theorem unpin_spec : ∀ (js : List Nat) (rs : List Row) (bl bl' : List Blk), unpin bl js rs = some bl' → js.Nodup →
    bl'.length = bl.length ∧ (∀ i, i ∉ js → bl'[i]? = bl[i]?) ∧ ∀ (k j : Nat) r, js[k]? = some j → rs[k]? = some r → j < bl.length → bl'[j]? = some ((nth .dead bl j).with_ r)
  | [], [], bl, bl', h, _ => by simp only [unpin, Option.some.injEq] at h; subst h; exact ⟨rfl, fun _ _ => rfl, fun k j r hk => by simp at hk⟩
  | [], _ :: _, _, _, h, _ => by cases h
  | _ :: _, [], _, _, h, _ => by cases h
  | j :: js, r :: rs, bl, bl', h, hn => by
    simp only [unpin] at h
    obtain ⟨hj, hn⟩ := List.nodup_cons.1 hn
    obtain ⟨h1, h2, h3⟩ := unpin_spec js rs _ bl' h hn
    rw [put_eq, List.length_set] at h1
    refine ⟨h1, fun i hi => ?_, fun k i q hk hq hlt => ?_⟩
    · simp only [List.mem_cons, not_or] at hi
      rw [h2 i hi.2, put_eq, List.getElem?_set_ne (Ne.symm hi.1)]
    · cases k with
      | zero =>
        simp only [List.getElem?_cons_zero, Option.some.injEq] at hk hq
        subst hk; subst hq
        rw [h2 j hj, put_eq, List.getElem?_set_self hlt]
      | succ k =>
        simp only [List.getElem?_cons_succ] at hk hq
        have hne : i ≠ j := fun e => hj (by rw [← e]; exact List.mem_of_getElem? hk)
        have := h3 k i q hk hq (by rw [put_eq, List.length_set]; exact hlt)
        rw [this]
        have e : nth Blk.dead (put bl j ((nth .dead bl j).with_ r)) i = nth .dead bl i := by
          refine nth_of ?_
          rw [put_eq, List.getElem?_set_ne (Ne.symm hne)]
          exact nth_eq hlt
        rw [e]

theorem pinned_spec : ∀ (bs : List Blk) (k : Nat) (l : List Blk), pinned bs k = some l → l.length = bs.length ∧ ∀ (i : Nat) b, bs[i]? = some b → ∃ t q, b.rowOf = some (t, q) ∧ l[i]? = some (.prow (k + i) t q)
  | [], k, l, h => by simp only [pinned, Option.some.injEq] at h; subst h; exact ⟨rfl, fun i b h => by simp at h⟩
  | b :: bs, k, l, h => by
    simp only [pinned] at h
    split at h
    · rename_i t q l' hb hl
      simp only [Option.some.injEq] at h
      subst h
      obtain ⟨h1, h2⟩ := pinned_spec bs (k + 1) l' hl
      refine ⟨by simp [h1], fun i b' hi => ?_⟩
      cases i with
      | zero => simp only [List.getElem?_cons_zero, Option.some.injEq] at hi; subst hi; exact ⟨t, q, hb, rfl⟩
      | succ i =>
        obtain ⟨t', q', h3, h4⟩ := h2 i b' (by simpa using hi)
        exact ⟨t', q', h3, by simpa [Nat.add_assoc, Nat.add_comm 1] using h4⟩
    · cases h

theorem idxL_mem {n : Nat} : ∀ {l : List Nat} {i : Nat}, n ∈ l → ∃ m, idxL n l i = some (i + m) ∧ l[m]? = some n
  | x :: l, i, h => by
    simp only [idxL]
    cases hb : Nat.beq x n with
    | true => exact ⟨0, rfl, by simp [Nat.eq_of_beq_eq_true hb]⟩
    | false =>
      rcases List.mem_cons.1 h with rfl | h
      · rw [show Nat.beq n n = true from Nat.beq_refl n] at hb; cases hb
      · obtain ⟨m, h1, h2⟩ := idxL_mem (i := i + 1) h
        exact ⟨m + 1, by simp only [cond_false]; rw [h1]; congr 1; omega, by simpa using h2⟩

section
variable {X' : Cx I} {js : List Nat} {vps : List Value}
theorem mutS_rel (hv : ∀ (i j : Nat) v, js[i]? = some j → lc[j]? = some (.r v) → vps[i]? = some v) {s : SV} {v : Value} (hm : mutS s = true) (hr : ∀ j ∈ rowsS s, j ∈ js) (h : relS X lc s v) : relS X' (vps.map Loc.r) (renS js s) v := by
  cases s <;> simp only [mutS, plainS, Bool.false_eq_true] at hm <;> try exact h
  rename_i j
  obtain ⟨m, h1, h2⟩ := idxL_mem (i := 0) (hr j (by simp [rowsS]))
  simp only [renS, h1]
  obtain ⟨h3, h4⟩ := h
  exact ⟨by simp [hv m j v h2 h3], h4⟩
theorem mutT_rel (hv : ∀ (i j : Nat) v, js[i]? = some j → lc[j]? = some (.r v) → vps[i]? = some v) {x : TV} {v : Value} (hm : mutT x = true) (hr : ∀ j ∈ rowsT x, j ∈ js) (h : relT X lc x v) : relT X' (vps.map Loc.r) (renT js x) v := by
  cases x with
  | tup _ => cases hm
  | v x =>
    cases x with
    | one s => exact mutS_rel hv hm hr h
    | agg l =>
      obtain ⟨cs, h1, h2⟩ := h
      refine ⟨cs, h1, ?_⟩
      have hm : l.all mutS = true := hm
      have hr : ∀ j ∈ l.flatMap rowsS, j ∈ js := hr
      show All2 _ (l.map (renS js)) cs.toList
      generalize cs.toList = vs at h2 ⊢
      induction h2 with
      | nil => exact .nil
      | cons h3 _ ih =>
        simp only [List.all_cons, Bool.and_eq_true] at hm
        have hr2 : ∀ j ∈ List.flatMap rowsS _, j ∈ js := fun j hj => hr j (List.mem_append_right _ hj)
        exact .cons (mutS_rel hv hm.1 (fun j hj => hr j (List.mem_append_left _ hj)) h3) (ih hm.2 hr2 hm.2 hr2)
end

theorem nodupN_ok : ∀ {l : List Nat}, nodupN l = true → l.Nodup
  | [], _ => .nil
  | x :: l, h => by
    simp only [nodupN, Bool.and_eq_true, Bool.not_eq_true', List.any_eq_false] at h
    refine List.nodup_cons.2 ⟨fun hx => ?_, nodupN_ok h.2⟩
    exact h.1 x hx (Nat.beq_refl x)

def SM (I : World → Prop) (P : Program) (o : Oper) (s : St) (x : TV) (bl : List Blk) : Prop := ∀ (X : Cx I) a w lc, Rel X s a w lc →
  ∃ g vs, (execOp a.eval o).run P w = .ok (.enter g vs) w ∧ Calls P g vs w (fun e w' => ∃ v, e = .returned v ∧ relT X lc x v ∧ RelW X bl w' lc)

theorem mut_made {o : Oper} {c : Call} {f : Operand} {s : St} {g : FuncId} {MS : MSpec β} (hM : MutOK I P g MS) {K : TV → St → Option β} {r : β} (ho : o.op = .call c) (hc : c.callee = .value f) (hv : (getO s f).sv = .fn g [])
    (h : evMut MS (c.args.toList.map (getO s)) s K = some r) : ∃ x bl, K x ⟨s.tmps, bl⟩ = some r ∧ SM I P o s x bl := by
  unfold evMut at h
  simp only at h
  obtain ⟨hb, h⟩ := cond_none h
  simp only [Bool.and_eq_true, List.all_eq_true] at hb
  obtain ⟨hm, hn⟩ := hb
  have hn := nodupN_ok hn
  generalize hjs : (c.args.toList.map (getO s)).flatMap rowsT = js at h hn
  split at h
  · rename_i bs hbs
    obtain ⟨hlen, hpin⟩ := pinned_spec _ _ _ hbs
    obtain ⟨y, rs, hK, hcall⟩ := hM.2 _ _ _ _ h
    split at hK
    · rename_i bl hbl
      obtain ⟨hpl, hK⟩ := cond_none hK
      refine ⟨y, bl, hK, fun X a w lc hR => ?_⟩
      have hW := hR.world
      obtain ⟨u1, u2, u3⟩ := unpin_spec _ _ _ _ hbl hn
      -- the rows' values
      have hat : ∀ (i j : Nat), js[i]? = some j → ∃ t q v, (nth Blk.dead s.blks j).rowOf = some (t, q) ∧ bs[i]? = some (.prow i t q) ∧ lc[j]? = some (.r v) ∧ ∃ xs, q.cellsIn X.ft X.fw xs ∧ w.ownsRow 0 t q.sz v q.len xs := by
        intro i j hij
        obtain ⟨t, q, h1, h2⟩ := hpin i (nth .dead s.blks j) (by simp [hij])
        obtain ⟨hb1, hb2⟩ := rowOf_some h1
        have hl : j < lc.length := by rw [hW.len]; exact (List.getElem?_eq_some_iff.1 hb1).1
        obtain ⟨v, hv, how⟩ := rowOf_rel (hW.blks j _ _ hb1 (List.getElem?_eq_getElem hl)) h1
        exact ⟨t, q, v, h1, by simpa using h2, by rw [List.getElem?_eq_getElem hl, hv], how⟩
      obtain ⟨vps, hvl, hvp⟩ : ∃ vps : List Value, vps.length = js.length ∧ ∀ (i j : Nat), js[i]? = some j → ∃ v, vps[i]? = some v ∧ lc[j]? = some (.r v) := by
        refine ⟨js.map fun j => match lc[j]? with | some (Loc.r v) => v | _ => undef, by simp, fun i j hij => ?_⟩
        obtain ⟨t, q, v, _, _, h3, _⟩ := hat i j hij
        exact ⟨v, by simp [hij, h3], h3⟩
      have hvs : ∀ (i j : Nat) v, js[i]? = some j → lc[j]? = some (.r v) → vps[i]? = some v := fun i j v hij hl => by
        obtain ⟨v', h1, h2⟩ := hvp i j hij
        rw [hl] at h2
        simp only [Option.some.injEq, Loc.r.injEq] at h2
        rw [h1, h2]
      have hbsl : bs.length = js.length := by rw [hlen]; simp
      -- a block of ours that was handed over
      have pinMine : ∀ v ∈ vps, ∀ gg, v.ownBlock = some gg → ∃ j t q, j ∈ js ∧ (nth Blk.dead s.blks j).rowOf = some (t, q) ∧ lc[j]? = some (.r v) := fun v hvm gg _ => by
        obtain ⟨i, hi⟩ := List.mem_iff_getElem?.1 hvm
        have hi' : i < js.length := by rw [← hvl]; exact (List.getElem?_eq_some_iff.1 hi).1
        obtain ⟨t, q, v2, h1, _, h3, _⟩ := hat i _ (List.getElem?_eq_getElem hi')
        have := hvs i _ v2 (List.getElem?_eq_getElem hi') h3
        rw [hi] at this
        simp only [Option.some.injEq] at this
        subst this
        exact ⟨_, t, q, List.getElem_mem hi', h1, h3⟩
      have pin_ : ∀ v ∈ vps, ∀ gg, v.ownBlock = some gg → X.mine gg ∧ ¬ X.ft gg := fun v hvm gg hvg => by
        obtain ⟨j, t, q, hj, h1, h3⟩ := pinMine v hvm gg hvg
        exact ⟨(Loc.lt (hW.blks j _ _ (rowOf_some h1).1 h3) (rowOf_some h1).2 hvg).1, hW.frn j _ _ gg (rowOf_some h1).1 (rowOf_some h1).2 h3 hvg⟩
      obtain ⟨Y, hYw, hYp, hYg, hYf, hYfw⟩ : ∃ Y : Cx I, Y.w0 = w ∧ Y.pins = vps ∧ Y.gp = [] ∧ Y.ft = X.ft ∧ Y.fw = X.fw :=
        ⟨⟨w, vps, [], fun _ => False, X.ft, X.fw, fun _ h => h.elim, fun w2 hw2 => X.keep w2 fun k h1 h2 h3 => (hw2 k (Nat.lt_of_lt_of_le h1 hW.below.size) (fun v hv e => Cx.mine_old (pin_ v hv k e).1 ⟨h1, h2, h3⟩) (by simp)).trans (hW.below.block k ⟨h1, h2, h3⟩)⟩, rfl, rfl, rfl, rfl, rfl⟩
      subst hYw
      have hW' : RelW Y bs Y.w0 (vps.map Loc.r) := by
        refine ⟨by rw [List.length_map, hvl, hbsl], fun i b ℓ hb hl => ?_, fun i k bi bk li lk gg hik hi hk _ _ hli hlk hgi hgk => ?_, ⟨rfl, rfl, rfl, Nat.le_refl _, fun _ _ => rfl⟩, by rw [hYf, hYfw]; exact hW.frz, fun i b ℓ gg hb _ hl hg => by
          rw [hYf]
          obtain ⟨v, hv, rfl⟩ := List.mem_map.1 (List.mem_of_getElem? hl)
          exact (pin_ v hv gg hg).2⟩
        · have hi : i < js.length := by rw [← hbsl]; exact (List.getElem?_eq_some_iff.1 hb).1
          obtain ⟨t, q, v, h1, h2, h3, h4⟩ := hat i _ (List.getElem?_eq_getElem hi)
          rw [hb] at h2
          simp only [Option.some.injEq] at h2
          subst h2
          have h5 := hvs i _ v (List.getElem?_eq_getElem hi) h3
          simp only [List.getElem?_map, h5, Option.map_some, Option.some.injEq] at hl
          subst hl
          refine ⟨by rw [hYp]; exact h5, ?_⟩
          rw [hYf, hYfw]; exact h4
        · have hi' : i < js.length := by rw [← hbsl]; exact (List.getElem?_eq_some_iff.1 hi).1
          have hk' : k < js.length := by rw [← hbsl]; exact (List.getElem?_eq_some_iff.1 hk).1
          obtain ⟨t, q, v, h1, _, h3, _⟩ := hat i _ (List.getElem?_eq_getElem hi')
          obtain ⟨t2, q2, v2, h12, _, h32, _⟩ := hat k _ (List.getElem?_eq_getElem hk')
          have e1 := hvs i _ v (List.getElem?_eq_getElem hi') h3
          have e2 := hvs k _ v2 (List.getElem?_eq_getElem hk') h32
          simp only [List.getElem?_map, e1, Option.map_some, Option.some.injEq] at hli
          simp only [List.getElem?_map, e2, Option.map_some, Option.some.injEq] at hlk
          subst hli; subst hlk
          have hne : js[i] ≠ js[k] := fun e => by
            rcases Nat.lt_or_gt_of_ne hik with hlt | hlt
            · exact List.pairwise_iff_getElem.1 hn i k hi' hk' hlt e
            · exact List.pairwise_iff_getElem.1 hn k i hk' hi' hlt e.symm
          exact hW.apart _ _ _ _ _ _ gg hne (rowOf_some h1).1 (rowOf_some h12).1 (rowOf_some h1).2 (rowOf_some h12).2 h3 h32 hgi hgk
      have hargs : All2 (relT Y (vps.map Loc.r)) ((c.args.toList.map (getO s)).map (renT js)) (c.args.map a.eval).toList := by
        rw [Array.toList_map, List.map_map]
        have hsub : ∀ x ∈ c.args.toList, mutT (getO s x) = true ∧ ∀ j ∈ rowsT (getO s x), j ∈ js := fun x hx => by
          refine ⟨hm _ (List.mem_map.2 ⟨x, hx, rfl⟩), fun j hj => ?_⟩
          rw [← hjs]
          exact List.mem_flatMap.2 ⟨_, List.mem_map.2 ⟨x, hx, rfl⟩, hj⟩
        generalize c.args.toList = xs at hsub
        induction xs with
        | nil => exact .nil
        | cons x xs ih => exact .cons (mutT_rel hvs (hsub x (by simp)).1 (hsub x (by simp)).2 (eval_rel hR.tmps x)) (ih fun x hx => hsub x (by simp [hx]))
      have hf : a.eval f = .func (.func g) #[] #[] := by
        obtain ⟨vs, h1, h2⟩ := sv_is (eval_rel (X := X) hR.tmps f) hv
        have : vs = #[] := by cases vs; cases h2; rfl
        rw [h1, this]
      refine ⟨g, _, run_enter ho hc hf hM.1 Y.w0, ?_⟩
      have := hcall Y _ hYg (by rw [hYp]; exact hW') (by rw [hYp]; exact hargs)
      rw [show (c.args.map a.eval).toList.toArray = c.args.map a.eval ++ #[] from by rw [Array.append_empty]] at this
      refine this.mono fun e w' ⟨v, he, hval, hbel, hrl, hback⟩ => ⟨v, he, (relT_plain hpl).2 (hval hpl), ?_⟩
      rw [hYp] at hback
      -- a block of ours that was not handed over
      have kept : ∀ (i : Nat) b ℓ gg, i ∉ js → s.blks[i]? = some b → b.on = true → lc[i]? = some ℓ → ℓ.blk = some gg → w'.heap[gg]? = Y.w0.heap[gg]? := fun i b ℓ gg hi hb hon hl hg => by
        refine hbel.block gg ⟨(Loc.lt (hW.blks i b ℓ hb hl) hon hg).2, fun v hvm hvg => ?_, by rw [hYg]; simp⟩
        rw [hYp] at hvm
        obtain ⟨j, t, q, hj, h1, h3⟩ := pinMine v hvm gg hvg
        exact hW.apart i j b _ ℓ _ gg (fun e => hi (e ▸ hj)) hb (rowOf_some h1).1 hon (rowOf_some h1).2 hl h3 hg hvg
      have onw : ∀ (b : Blk) q, (b.with_ q).on = b.on := fun b q => by cases b <;> rfl
      have back : ∀ (i : Nat) b, bl[i]? = some b → (i ∉ js ∧ s.blks[i]? = some b) ∨ ∃ k q, js[k]? = some i ∧ rs[k]? = some q ∧ b = (nth .dead s.blks i).with_ q := fun i b hb => by
        by_cases hi : i ∈ js
        · right
          obtain ⟨k, hk⟩ := List.mem_iff_getElem?.1 hi
          have hkl : k < rs.length := by rw [hrl, hbsl]; exact (List.getElem?_eq_some_iff.1 hk).1
          have := u3 k i _ hk (List.getElem?_eq_getElem hkl) (by rw [← u1]; exact (List.getElem?_eq_some_iff.1 hb).1)
          rw [hb] at this
          exact ⟨k, _, hk, List.getElem?_eq_getElem hkl, by simpa using this⟩
        · exact .inl ⟨hi, by rw [← u2 i hi]; exact hb⟩
      have wasOn : ∀ (i : Nat) b, bl[i]? = some b → b.on = true → ∃ b0, s.blks[i]? = some b0 ∧ b0.on = true := fun i b hb hon => by
        rcases back i b hb with ⟨_, h1⟩ | ⟨k, q, hk, _, he⟩
        · exact ⟨b, h1, hon⟩
        · obtain ⟨t, q2, _, h1, _⟩ := hat k i hk
          exact ⟨_, (rowOf_some h1).1, (rowOf_some h1).2⟩
      refine ⟨by rw [u1]; exact hW.len, fun i b ℓ hb hl => ?_, fun i j bi bj li lj gg hij hi hj oni onj hli hlj hgi hgj => ?_, ?_, fun k hk => ?_, fun i b ℓ gg hb hon hl hg => ?_⟩
      · rcases back i b hb with ⟨hi, h1⟩ | ⟨k, q, hk, hq, rfl⟩
        · exact (hW.blks i b ℓ h1 hl).kept fun gg hon hg => kept i b ℓ gg hi h1 hon hl hg
        · obtain ⟨t, q0, v0, h1, h2, h3, h4⟩ := hat k i hk
          rw [hl] at h3
          simp only [Option.some.injEq] at h3
          subst h3
          obtain ⟨hdeep, hback'⟩ := hback k k t q0 v0 q h2 (hvs k i v0 hk hl) hq
          have hin : q.cellsIn X.ft X.fw q.cells := (Row.in_plain hdeep).2 rfl
          have hold := hW.blks i _ _ (rowOf_some h1).1 hl
          cases hbb : nth Blk.dead s.blks i with
          | mp _ _ => rw [hbb] at h1; cases h1
          | pcells _ _ _ => rw [hbb] at h1; cases h1
          | pmp _ _ _ => rw [hbb] at h1; cases h1
          | srow _ _ => rw [hbb] at h1; cases h1
          | cells _ _ => rw [hbb] at h1; cases h1
          | dead => rw [hbb] at h1; cases h1
          | row t2 r2 =>
            rw [hbb] at h1 hold
            simp only [Blk.rowOf, Option.some.injEq, Prod.mk.injEq] at h1
            obtain ⟨rfl, rfl⟩ := h1
            exact ⟨hold.1, _, hin, hback'⟩
          | prow k2 t2 r2 =>
            rw [hbb] at h1 hold
            simp only [Blk.rowOf, Option.some.injEq, Prod.mk.injEq] at h1
            obtain ⟨rfl, rfl⟩ := h1
            exact ⟨hold.1, _, hin, hback'⟩
      · obtain ⟨b1, h1, h2⟩ := wasOn i bi hi oni
        obtain ⟨b2, h3, h4⟩ := wasOn j bj hj onj
        exact hW.apart i j b1 b2 li lj gg hij h1 h3 h2 h4 hli hlj hgi hgj
      · refine ⟨hbel.os.trans hW.below.os, hbel.tape.trans hW.below.tape, hbel.output.trans hW.below.output, Nat.le_trans hW.below.size hbel.size, fun k hk => ?_⟩
        refine (hbel.block k ⟨Nat.lt_of_lt_of_le hk.1 hW.below.size, fun v hvm hvg => ?_, by rw [hYg]; simp⟩).trans (hW.below.block k hk)
        rw [hYp] at hvm
        exact Cx.mine_old (pin_ v hvm k hvg).1 hk
      · obtain ⟨z1, z2⟩ := hW.frz k hk
        refine ⟨Nat.lt_of_lt_of_le z1 hbel.size, (hbel.block k ⟨z1, fun v hvm hvg => ?_, by rw [hYg]; simp⟩).trans z2⟩
        rw [hYp] at hvm
        exact (pin_ v hvm k hvg).2 hk
      · obtain ⟨b1, h1, h2⟩ := wasOn i b hb hon
        exact hW.frn i b1 ℓ gg h1 h2 hl hg
    · cases hK
  · cases h

end
end Go.Rv
