/- Functions: the evaluator's bz is the function's bz. -/
import Derived.Test.YtemihnclhcobnaaGreatDoorRvCode
namespace Go.Rv
set_option linter.unusedSimpArgs false
open Go.RowKit (Below)
section
variable {I : World -> Prop} {P : Program} {L : Lay} {β : Type}

theorem tZ : ∀ {l : List Nat}, nI l = true -> l.Nodup
 | [], _ => .nil
 | x :: l, h => by
  simp only [nI, aj0, akm, List.any_eq_false] at h
  refine alN.2 ⟨fun hx => ?_, tZ h.2⟩
  exact h.1 x hx (alV x)

theorem GU {j : Nat} : ∀ {pre post : List Nat} {i : Nat}, j ∉ pre -> nF j (pre ++ j :: post) i = some (i + pre.length)
 | [], post, i, _ => by simp [nF]
 | x :: pre, post, i, h => by
  simp only [akf, not_or] at h
  have : Nat.beq x j = false := by
   cases hb : Nat.beq x j with
   | false => rfl
   | true => exact absurd (aj3 hb).symm h.1
  simp only [ak4, nF, this, ajY]
  rw [GU h.2]
  simp; omega

section
variable {bl : List Blk} {sel : List Nat}

theorem vt (hn : sel.Nodup) {s : SV} {pre post : List Nat} (hr : uY s = true) (hrow : ((eB s).all fun j => jU (nth .dead bl j)) = true) (hsel : sel = pre ++ eB s ++ post) :
  aU (pre.map (nth .dead bl)) (ec bl s) = (gJ sel s, (pre ++ eB s).map (nth .dead bl)) /\ oQ (ec bl s) = true := by
 cases s <;> simp only [uY, akN] at hr <;> try (simp [ec, aU, gJ, eB, oQ]; done)
 rename_i j
 simp only [eB, akd, al6, alA] at hrow hsel
 cases hb : nth Blk.dead bl j with
 | cells _ _ => rw [hb] at hrow; cases hrow
 | dead => rw [hb] at hrow; cases hrow
 | prow _ _ _ => rw [hb] at hrow; cases hrow
 | mp _ _ => rw [hb] at hrow; cases hrow
 | pcells _ _ _ => rw [hb] at hrow; cases hrow
 | pmp _ _ _ => rw [hb] at hrow; cases hrow
 | srow _ _ => rw [hb] at hrow; cases hrow
 | row t q =>
  have hj : j ∉ pre := by
   rw [hsel] at hn
   intro hjp
   have := (amc.1 hn).1
   have := (amc.1 this).2.2 j hjp j (by simp)
   exact this rfl
  have hidx : nF j sel 0 = some pre.length := by
   rw [hsel, akt]
   have := GU (j := j) (pre := pre) (post := post) (i := 0) hj
   simpa using this
  simp only [ec, hb, Blk.rowOf, aU, gJ, hidx, eB, oQ, akx, alx, akD, ak8, and_self]

theorem vo (hn : sel.Nodup) : ∀ (l : List SV) (pre post : List Nat), l.all uY = true -> ((l.flatMap eB).all fun j => jU (nth .dead bl j)) = true -> sel = pre ++ l.flatMap eB ++ post ->
  dq (pre.map (nth .dead bl)) (l.map (ec bl)) = (l.map (gJ sel), (pre ++ l.flatMap eB).map (nth .dead bl)) /\ (l.map (ec bl)).all oQ = true
 | [], pre, post, _, _, _ => by simp [dq]
 | s :: l, pre, post, hr, hrow, hsel => by
  simp only [akd, aj0] at hr
  simp only [akR, alw, aj0] at hrow
  obtain ⟨h1, h2⟩ := vt hn (pre := pre) (post := l.flatMap eB ++ post) hr.1 hrow.1 (by rw [hsel]; simp)
  obtain ⟨h3, h4⟩ := vo hn l (pre ++ eB s) post hr.2 hrow.2 (by rw [hsel]; simp)
  simp only [akD, dq, h1, h3, akR, akd, h2, h4, alo, and_true, akt]

theorem vm (hn : sel.Nodup) {x : AV} {pre post : List Nat} (hr : rD x = true) (hrow : ((f7 x).all fun j => jU (nth .dead bl j)) = true) (hsel : sel = pre ++ f7 x ++ post) :
  cu (pre.map (nth .dead bl)) (d9 bl x) = (uW sel x, (pre ++ f7 x).map (nth .dead bl)) /\ sN (d9 bl x) = true := by
 cases x with
 | one s =>
  obtain ⟨h1, h2⟩ := vt hn hr hrow hsel
  simp only [d9, cu, h1, uW, f7, sN, h2, and_self]
 | agg l =>
  obtain ⟨h1, h2⟩ := vo hn l pre post hr hrow hsel
  simp only [d9, cu, h1, uW, f7, sN, h2, and_self]

theorem ro (hn : sel.Nodup) : ∀ (l : List AV) (pre post : List Nat), l.all rD = true -> ((l.flatMap f7).all fun j => jU (nth .dead bl j)) = true -> sel = pre ++ l.flatMap f7 ++ post ->
  ct (pre.map (nth .dead bl)) (l.map (d9 bl)) = (l.map (uW sel), (pre ++ l.flatMap f7).map (nth .dead bl)) /\ (l.map (d9 bl)).all sN = true
 | [], pre, post, _, _, _ => by simp [ct]
 | s :: l, pre, post, hr, hrow, hsel => by
  simp only [akd, aj0] at hr
  simp only [akR, alw, aj0] at hrow
  obtain ⟨h1, h2⟩ := vm hn (pre := pre) (post := l.flatMap f7 ++ post) hr.1 hrow.1 (by rw [hsel]; simp)
  obtain ⟨h3, h4⟩ := ro hn l (pre ++ f7 s) post hr.2 hrow.2 (by rw [hsel]; simp)
  simp only [akD, ct, h1, h3, akR, akd, h2, h4, alo, and_true, akt]

theorem EQ {x : TV} (hn : (dK x).Nodup) (hr : Tg x = true) (hrow : ((dK x).all fun j => jU (nth .dead bl j)) = true) :
  bJ [] (dv bl x) = (nL (dK x) x, (dK x).map (nth .dead bl)) /\ Iy (dv bl x) = true := by
 cases x with
 | v x =>
  obtain ⟨h1, h2⟩ := vm (bl := bl) (sel := f7 x) (pre := []) (post := []) hn hr hrow (by simp)
  simp only [ak8, akH] at h1
  simp only [dv, bJ, h1, nL, dK, Iy, h2, and_self]
 | tup l =>
  obtain ⟨h1, h2⟩ := ro (bl := bl) (sel := l.flatMap f7) hn l [] [] hr hrow (by simp)
  simp only [ak8, akH] at h1
  simp only [dv, bJ, h1, nL, dK, Iy, h2, and_self]
end

def EG (tmps : Array Value) : ResultVar -> Sem Value
 | .tmp t => pure (tmps.getD t undef)
 | .cell a t => do loadVar t (<- asAddr (tmps.getD a undef))

def okA : AV -> Bool
 | .one .und => false
 | _ => true
theorem Hm (hL : aO P L) {X : Cx I} {s : St} {a : Act} {w : World} {lc : List Loc} (hR : Rel X s a w lc) (rv : ResultVar) (h : okA (p8 (ez L s rv)) = true) :
  ∃ v, a7 X lc (p8 (ez L s rv)) v /\ (EG a.tmps rv).run P w = .ok v w := by
 cases rv with
 | tmp t =>
  have ht : aC X lc (nth ac s.tmps t) (a.tmps.getD t undef) := az hR.tmps (.tmp t)
  refine ⟨_, ?_, rfl⟩
  simp only [ez] at h ⊢
  cases hx : nth ac s.tmps t with
  | v x => rw [hx] at ht; exact ht
  | tup l => rw [hx] at h; cases h
 | cell x t =>
  have ht : aC X lc (nth ac s.tmps x) (a.tmps.getD x undef) := az hR.tmps (.tmp x)
  simp only [ez] at h ⊢
  split at h
  ·rename_i j off hj
   split at h
   ·rename_i u l hb
    cases hy : loadAt L t l off with
    | none => rw [hy] at h; cases h
    | some y =>
     rw [hy] at h
     obtain ⟨g, hg, he⟩ := aN ht hj
     obtain ⟨cs, hh, hcs⟩ := dl (hR.world.blks j _ _ (cV hb).1 hg) hb
     have hlen := hcs.length
     obtain ⟨v, h1, h2⟩ := cN (X := X) (lc := lc) hL hy (fun m => (cs[off + m]?).getD undef) (fun m s hm => by
      obtain ⟨v, hv, hr⟩ := hcs.get _ _ hm
      have : cs[off + m]? = some v := by simpa using hv
      rw [this]; exact hr) ⟨g, off, none⟩
     have hrun := h2 w fun m hm => by
      rw [akM, cell_of_row w g (off + m) cs u (0, 0) hh]
      have : off + m < cs.size := by rw [hlen] at hm; simpa using hm
      simp [amx this]
     refine ⟨v, ?_, ?_⟩
     ·simp only [ak1] at h ⊢
      cases y with
      | v x => exact h1
      | tup l => cases h
     ·rw [Instr.loadAt, akk] at hrun
      simp only [Instr.sureAddr, akr, akb] at hrun
      simp only [EG, he, asAddr, akk, akr, akb]
      exact hrun
   ·cases h
  ·cases h

theorem CH (hL : aO P L) {X : Cx I} {s : St} {a : Act} {w : World} {lc : List Loc} (hR : Rel X s a w lc) : ∀ (rs : List ResultVar), (rs.map fun r => p8 (ez L s r)).all okA = true ->
  ∃ vs, aB (a7 X lc) (rs.map fun r => p8 (ez L s r)) vs /\ (rs.mapM (EG a.tmps)).run P w = .ok vs w
 | [], _ => ⟨[], .nil, by simp⟩
 | r :: rs, h => by
  simp only [akD, akd, aj0] at h
  obtain ⟨v, h1, h2⟩ := Hm hL hR r h.1
  obtain ⟨vs, h3, h4⟩ := CH hL hR rs h.2
  refine ⟨v :: vs, .cons h1 h3, ?_⟩
  simp [alT, h2, h4]

theorem jE (fn : Func) (tmps : Array Value) : results fn tmps = (do let vs <- fn.results.toList.mapM (EG tmps); pure (if h : vs.toArray.size = 1 then vs.toArray[0] else .tuple vs.toArray)) := by
 unfold results
 rw [Array.mapM_eq_mapM_toList]
 simp only [bind_map_left]
 congr 2

theorem ku (bl : List Blk) {s : SV} (h : bO s = true) : aU bl s = (s, bl) := by
 cases s <;> first | rfl | cases h
theorem kt : ∀ {l : List SV} (bl : List Blk), l.all bO = true -> dq bl l = (l, bl)
 | [], _, _ => rfl
 | s :: l, bl, h => by
  simp only [akd, aj0] at h
  simp only [dq, ku bl h.1, kt bl h.2]
theorem ks (bl : List Blk) {x : AV} (h : cH x = true) : cu bl x = (x, bl) := by
 cases x with
 | one s => simp only [cu, ku bl (s := s) h]
 | agg l => simp only [cu, kt bl (l := l) h]
theorem jN : ∀ {l : List AV} (bl : List Blk), l.all cH = true -> ct bl l = (l, bl)
 | [], _, _ => rfl
 | s :: l, bl, h => by
  simp only [akd, aj0] at h
  simp only [ct, ks bl h.1, jN bl h.2]
theorem Ey {x : TV} (h : dg x = true) : (bJ [] x).1 = x := by
 cases x with
 | v x => simp only [bJ, ks [] (x := x) h]
 | tup l => simp only [bJ, jN [] (l := l) h]

theorem mD {X : Cx I} {lc : List Loc} {two : Bool} {p : SV} {T : Tr} {v : Value} (h : ya two p = some T) (hr : aD X lc p v) : cF X.ft X.fw two T v := by
 unfold ya at h
 split at h
 ·obtain ⟨h1, h2⟩ := aH h
  cases h2
  rw [eq_of_beq h1]; exact hr
 ·cases h; exact hr
 ·cases h
theorem Eo {X : Cx I} {lc : List Loc} {two : Bool} {l : List SV} {T : Tr} {cs : Array Value} {S : Nat -> Prop} {wf : World} {g : Nat} {t : TypeId} {z : Nat × Nat} (hS : ∀ k, X.ft k -> S k) (hw : ∀ k, X.ft k -> wf.heap[k]? = X.fw.heap[k]?) (hg : S g) (hh : wf.heap[g]? = some (.cells cs t z))
  (h : En two l = some T) (hr : aB (aD X lc) l cs.toList) : cF S wf two T (.pointer (some ⟨g, 0, none⟩)) := by
 unfold En at h
 split at h
 ·rename_i a p q
  split at h
  ·rename_i lt rt h1 h2
   cases h
   generalize hcs : cs.toList = vs at hr
   cases hr with
   | cons r1 hr => cases hr with
    | cons r2 hr => cases hr with
     | cons r3 hr => cases hr with
      | nil =>
       simp only [aD] at r1
       subst r1
       exact ⟨g, cs, t, z, _, _, rfl, hg, hh, hcs, (mD h1 r2).mono hS hw, (mD h2 r3).mono hS hw⟩
  ·cases h
 ·rename_i a b p q
  split at h
  ·rename_i lt rt h1 h2
   cases h
   generalize hcs : cs.toList = vs at hr
   cases hr with
   | cons r1 hr => cases hr with
    | cons r2 hr => cases hr with
     | cons r3 hr => cases hr with
      | cons r4 hr => cases hr with
       | nil =>
        simp only [aD] at r1 r2
        subst r1; subst r2
        exact ⟨g, cs, t, z, _, _, rfl, hg, hh, hcs, (mD h1 r3).mono hS hw, (mD h2 r4).mono hS hw⟩
  ·cases h
 ·cases h
theorem xf {X : Cx I} {bl : List Blk} {w : World} {lc : List Loc} (hW : aK X bl w lc) {t : TypeId} {x : AV} {v : Value} (h : a7 X lc x v) : ∃ X', X.Le X' /\ aK X' (tk L t bl x).2 w lc /\ a7 X' lc (tk L t bl x).1 v := by
 have same : ∃ X', X.Le X' /\ aK X' bl w lc /\ a7 X' lc x v := ⟨X, .refl X, hW, h⟩
 cases x with
 | agg l => exact same
 | one s =>
  simp only [tk]
  cases ht : WZ L t with
  | none => exact same
  | some two =>
   simp only
   split
   ·exact ⟨X, .refl X, hW, h⟩
   ·rename_i j
    split
    ·rename_i t' l hb
     split
     ·rename_i T hT
      have hblk := cn hb (by simp)
      obtain ⟨g, hg, rfl⟩ := h
      obtain ⟨hbase, cs, hh, hcs⟩ := hW.blks j _ _ hblk hg
      obtain ⟨hle, hW'⟩ := hW.freeze hblk rfl hg rfl
      exact ⟨_, hle, hW', Eo (S := fun k => X.ft k \/ k = g) (wf := w) (fun _ h => .inl h) (fun k hk => (hW.frz k hk).2) (.inr rfl) hh hT hcs⟩
     ·exact same
    ·exact same
   ·exact same
theorem tp {w : World} {lc : List Loc} : ∀ {ts : List TypeId} {l : List AV} {vs : List Value} {X : Cx I} {bl : List Blk}, aK X bl w lc -> aB (a7 X lc) l vs -> ∃ X', X.Le X' /\ aK X' (qd L ts bl l).2 w lc /\ aB (a7 X' lc) (qd L ts bl l).1 vs
 | [], l, _, X, bl, hW, h => ⟨X, .refl X, by cases l <;> exact hW, by cases l <;> exact h⟩
 | t :: ts, [], _, X, bl, hW, h => ⟨X, .refl X, hW, h⟩
 | t :: ts, x :: l, _, X, bl, hW, .cons h1 h2 => by
  obtain ⟨X1, a1, a2, a3⟩ := xf (L := L) (t := t) hW h1
  obtain ⟨X2, b1, b2, b3⟩ := tp (ts := ts) a2 (h2.mono fun _ _ h => a7.grow a1 h)
  exact ⟨X2, a1.trans b1, b2, .cons (a7.grow b1 a3) b3⟩
theorem yL {X : Cx I} {bl : List Blk} {w : World} {lc : List Loc} (hW : aK X bl w lc) {ts : List TypeId} {x : TV} {v : Value} (h : aC X lc x v) : ∃ X', X.Le X' /\ aK X' (cz L ts bl x).2 w lc /\ aC X' lc (cz L ts bl x).1 v := by
 cases x with
 | v x =>
  simp only [cz]
  split
  ·exact xf hW h
  ·exact ⟨X, .refl X, hW, h⟩
 | tup l =>
  obtain ⟨cs, h1, h2⟩ := h
  obtain ⟨X', a1, a2, a3⟩ := tp (L := L) (ts := ts) hW h2
  exact ⟨X', a1, a2, cs, h1, a3⟩
theorem BT {t : TypeId} {bl : List Blk} {x : AV} (h : rD (tk L t bl x).1 = true) : okA x = true := by
 cases x with
 | agg l => rfl
 | one s =>
  cases s <;> try rfl
  simp only [tk] at h
  split at h <;> cases h
theorem xg : ∀ {ts : List TypeId} {l : List AV} {bl : List Blk}, (qd L ts bl l).1.all rD = true -> l.all okA = true
 | [], l, bl, h => by
  have h : l.all rD = true := by cases l <;> exact h
  refine aku.2 fun x hx => ?_
  have := aku.1 h x hx
  cases x with
  | agg _ => rfl
  | one s => cases s <;> first | rfl | cases this
 | t :: ts, [], bl, h => rfl
 | t :: ts, x :: l, bl, h => by
  simp only [qd, akd, aj0] at h ⊢
  exact ⟨BT h.1, xg h.2⟩

theorem DU (hL : aO P L) {X : Cx I} {s : St} {a : Act} {w : World} {lc : List Loc} (hR : Rel X s a w lc) {fn : Func} {ts : List TypeId} {y : TV} (h : bz L s ts fn.results.toList = some y) :
  ∃ v, (results fn a.tmps).run P w = .ok v w /\ dY X w y v /\ (dg y = true -> v = O9 y) := by
 unfold bz at h
 simp only at h
 obtain ⟨hb, h⟩ := aH h
 simp only [aj1] at h
 subst h
 simp only [aj0] at hb
 obtain ⟨⟨h1, h2⟩, h3⟩ := hb
 have hn := tZ h2
 have fin : ∀ v, aC X lc (bM L s fn.results.toList) v -> dY X w (dv (cz L ts s.blks (bM L s fn.results.toList)).2 (cz L ts s.blks (bM L s fn.results.toList)).1) v /\ (dg (dv (cz L ts s.blks (bM L s fn.results.toList)).2 (cz L ts s.blks (bM L s fn.results.toList)).1) = true -> v = O9 (dv (cz L ts s.blks (bM L s fn.results.toList)).2 (cz L ts s.blks (bM L s fn.results.toList)).1)) := fun v hv => by
  obtain ⟨X', hle, hW', hy⟩ := yL (L := L) (ts := ts) hR.world hv
  generalize cz L ts s.blks (bM L s fn.results.toList) = yb at h1 h2 h3 hn hW' hy
  obtain ⟨y, bl⟩ := yb
  simp only at h1 h2 h3 hn hW' hy ⊢
  obtain ⟨ht, hans⟩ := EQ (bl := bl) hn h1 h3
  have hsel : ((dK y).map (nth .dead bl)) = (dK y).map fun j => Ac (dK y) (nth .dead bl j) := by
   refine al3 fun j hj => ?_
   have := aku.1 h3 j hj
   cases hb : nth Blk.dead bl j with
   | row t q => rfl
   | cells _ _ => rw [hb] at this; cases this
   | prow _ _ _ => rfl
   | mp _ _ => rfl
   | pmp _ _ _ => rfl
   | srow _ _ => rfl
   | pcells _ _ _ => rw [hb] at this; cases this
   | dead => rfl
  have hren := py (X := X') (sel := dK y) hy
  refine ⟨⟨X', ba lc (dK y), hle, ?_, ?_, hans⟩, fun hp => ?_⟩
  ·rw [ht]
   show aK _ _ _ _
   rw [hsel]
   exact hW'.sel hn
  ·rw [ht]
   exact hren
  ·have e1 : (bJ [] (dv bl y)).1 = nL (dK y) y := by rw [ht]
   have e2 := Ey hp
   rw [e2] at e1
   rw [<- e1] at hren
   exact (jD hp).1 hren
 have many : ∀ rs : List ResultVar, fn.results.toList = rs -> rs.length ≠ 1 -> bM L s rs = .tup (rs.map fun r => p8 (ez L s r)) -> ∃ v, (results fn a.tmps).run P w = .ok v w /\ aC X lc (bM L s fn.results.toList) v := by
  intro rs hrs hlen h0
  rw [hrs, h0] at h1
  have h1 := xg (L := L) (ts := ts) (bl := s.blks) h1
  obtain ⟨vs, h4, h5⟩ := CH hL hR rs h1
  have hvl := h4.length
  refine ⟨.tuple vs.toArray, ?_, by rw [hrs, h0]; exact ⟨_, rfl, by simpa using h4⟩⟩
  rw [jE, hrs, akk, h5]
  have : ¬ vs.toArray.size = 1 := by simp only [alC]; rw [<- hvl]; simpa using hlen
  simp only [akb, this, dite_false, akr]
 have main : ∃ v, (results fn a.tmps).run P w = .ok v w /\ aC X lc (bM L s fn.results.toList) v := by
  cases hrs : fn.results.toList with
  | nil =>
   have := many [] hrs (by simp) rfl
   rwa [hrs] at this
  | cons r1 rs =>
   cases rs with
   | cons r2 rs =>
    have := many _ hrs (by simp) rfl
    rwa [hrs] at this
   | nil =>
    rw [hrs] at h1
    have h1 : okA (p8 (ez L s r1)) = true := by
     simp only [bM, cz] at h1
     split at h1
     ·exact BT h1
     ·have h1 : rD (p8 (ez L s r1)) = true := h1
      cases hx : p8 (ez L s r1) with
      | agg _ => rfl
      | one s => rw [hx] at h1; cases s <;> first | rfl | cases h1
    obtain ⟨v, h4, h5⟩ := Hm hL hR r1 h1
    refine ⟨v, ?_, h4⟩
    rw [jE, hrs, akk]
    simp [alT, h5]
 obtain ⟨v, h4, h5⟩ := main
 obtain ⟨k1, k2⟩ := fin v h5
 exact ⟨v, h4, k1, k2⟩

theorem mW {X : Cx I} {lc : List Loc} (n : Nat) : aB (aC X lc) (List.replicate n ac) (List.replicate n undef) := by
 induction n with
 | zero => exact .nil
 | succ n ih => exact .cons (CB _) ih

theorem Yz (hL : aO P L) (hm : P.follows .mixedOrders = true) {E : Env β} (hE : bo I P E) (hM : cl I P E) (hG : gy I P E) {f : FuncId} {fn : Func} (hf : P.funcs[f]? = some fn) (hname : (fn.name == "runtime.NumGoroutine") = false)
  (hl : ∀ l ∈ d0 fn, nr I P E l) {S : Spec β} (hS : ∀ args K r, S args K = some r -> aL L E fn args K = some r) (hb : fn.body.isSome = true) : ao I P f S := by
 obtain ⟨c, hc⟩ := alM.1 hb
 refine ⟨⟨fn, c, hf, hc, hname⟩, fun args K r h => ?_⟩
 have h := hS args K r h
 simp only [aL, hc] at h
 simp only [d0, hc] at hl
 obtain ⟨e, s', h1, h2⟩ := D4 hL hm hE hM hG c [] (ai fn) _ _ r hl h
 have cS : ∀ (X : Cx I) vs, cD X -> aB (aC X []) args vs -> Rel X (Aq fn args) { tmps := vs.toArray ++ Array.replicate (fn.ntmps - vs.toArray.size) undef, defers := [] } X.w0 [] := fun X vs hX hv => by
  refine ⟨?_, aK.empty hX, rfl⟩
  simp only [Aq, al2, Array.toList_replicate, alC]
  rw [hv.length]
  exact hv.append (mW _)
 have fin : ∀ y, bz L s' fn.resultTypes.toList fn.results.toList = some y -> (e = .normal \/ e = .ret) -> ∀ (X : Cx I) vs, cD X -> aB (aC X []) args vs -> Calls P f vs.toArray X.w0 (fun e w' => ∃ v, e = .returned v /\ dY X w' y v) := fun y hy he X vs hX hv => by
  refine calls_of_wp hf hc (h2 X _ X.w0 [] (cS X vs hX hv) _ fun X' a' w' lc' hle hR' => ?_)
  obtain ⟨v, h3, ⟨X2, lc2, k1, k2, k3, k4⟩, _⟩ := DU hL hR' hy
  rcases he with rfl | rfl
  ·exact ⟨hR'.defers, v, h3, v, rfl, X2, lc2, hle.trans k1, k2, k3, k4⟩
  ·exact ⟨hR'.defers, v, h3, v, rfl, X2, lc2, hle.trans k1, k2, k3, k4⟩
 cases e with
 | normal =>
  simp only at h1
  cases hy : bz L s' fn.resultTypes.toList fn.results.toList with
  | none => rw [hy] at h1; cases h1
  | some y =>
   rw [hy] at h1
   exact ⟨y, h1, fin y hy (.inl rfl)⟩
 | ret =>
  simp only at h1
  cases hy : bz L s' fn.resultTypes.toList fn.results.toList with
  | none => rw [hy] at h1; cases h1
  | some y =>
   rw [hy] at h1
   exact ⟨y, h1, fin y hy (.inr rfl)⟩
 | exit id => cases h1
 | goto id => cases h1
 | panic id => cases h1
 | outgrown => cases h1

theorem Hl (hL : aO P L) {X : Cx I} {s : St} {a : Act} {w : World} {lc : List Loc} (hR : Rel X s a w lc) (r : ResultVar) (h : okV L s r = true) : ∃ v, a7 X lc (p8 (ez L s r)) v /\ (EG a.tmps r).run P w = .ok v w := by
 cases r with
 | tmp t =>
  have ht : aC X lc (nth ac s.tmps t) (a.tmps.getD t undef) := az hR.tmps (.tmp t)
  refine ⟨_, ?_, rfl⟩
  simp only [okV] at h
  simp only [ez]
  cases hx : nth ac s.tmps t with
  | v x => rw [hx] at ht; exact ht
  | tup l => rw [hx] at h; cases h
 | cell x t =>
  have ht : aC X lc (nth ac s.tmps x) (a.tmps.getD x undef) := az hR.tmps (.tmp x)
  simp only [okV] at h
  simp only [ez]
  split at h
  ·rename_i j off hj
   split at h
   ·rename_i u l hb
    cases hy : loadAt L t l off with
    | none => rw [hy] at h; cases h
    | some y =>
     obtain ⟨g, hg, he⟩ := aN ht hj
     obtain ⟨cs, hh, hcs⟩ := dl (hR.world.blks j _ _ (cV hb).1 hg) hb
     have hlen := hcs.length
     obtain ⟨v, h1, h2⟩ := cN (X := X) (lc := lc) hL hy (fun m => (cs[off + m]?).getD undef) (fun m s hm => by
      obtain ⟨v, hv, hr⟩ := hcs.get _ _ hm
      have : cs[off + m]? = some v := by simpa using hv
      rw [this]; exact hr) ⟨g, off, none⟩
     have hrun := h2 w fun m hm => by
      rw [akM, cell_of_row w g (off + m) cs u (0, 0) hh]
      have : off + m < cs.size := by rw [hlen] at hm; simpa using hm
      simp [amx this]
     refine ⟨v, ?_, ?_⟩
     ·simp only [ak1]
      cases y with
      | v x => exact h1
      | tup l => rw [hy] at h; cases h
     ·rw [Instr.loadAt, akk] at hrun
      simp only [Instr.sureAddr, akr, akb] at hrun
      simp only [EG, he, asAddr, akk, akr, akb]
      exact hrun
   ·cases h
  ·cases h

theorem CG (hL : aO P L) {X : Cx I} {s : St} {a : Act} {w : World} {lc : List Loc} (hR : Rel X s a w lc) : ∀ (rs : List ResultVar), rs.all (okV L s) = true ->
  ∃ vs, aB (a7 X lc) (rs.map fun r => p8 (ez L s r)) vs /\ (rs.mapM (EG a.tmps)).run P w = .ok vs w
 | [], _ => ⟨[], .nil, by simp⟩
 | r :: rs, h => by
  simp only [akd, aj0] at h
  obtain ⟨v, h1, h2⟩ := Hl hL hR r h.1
  obtain ⟨vs, h3, h4⟩ := CG hL hR rs h.2
  refine ⟨v :: vs, .cons h1 h3, ?_⟩
  simp [alT, h2, h4]

theorem BE (hL : aO P L) {X : Cx I} {s : St} {a : Act} {w : World} {lc : List Loc} (hR : Rel X s a w lc) {fn : Func} (h : fn.results.toList.all (okV L s) = true) :
  ∃ v, (results fn a.tmps).run P w = .ok v w /\ aC X lc (bM L s fn.results.toList) v := by
 have many : ∀ rs : List ResultVar, fn.results.toList = rs -> rs.length ≠ 1 -> bM L s rs = .tup (rs.map fun r => p8 (ez L s r)) -> ∃ v, (results fn a.tmps).run P w = .ok v w /\ aC X lc (bM L s fn.results.toList) v := by
  intro rs hrs hlen h0
  rw [hrs] at h
  obtain ⟨vs, h4, h5⟩ := CG hL hR rs h
  have hvl := h4.length
  refine ⟨.tuple vs.toArray, ?_, by rw [hrs, h0]; exact ⟨_, rfl, by simpa using h4⟩⟩
  rw [jE, hrs, akk, h5]
  have : ¬ vs.toArray.size = 1 := by simp only [alC]; rw [<- hvl]; simpa using hlen
  simp only [akb, this, dite_false, akr]
 cases hrs : fn.results.toList with
 | nil =>
  have := many [] hrs (by simp) rfl
  rwa [hrs] at this
 | cons r1 rs =>
  cases rs with
  | cons r2 rs =>
   have := many _ hrs (by simp) rfl
   rwa [hrs] at this
  | nil =>
   rw [hrs] at h
   simp only [akd, al6, alA] at h
   obtain ⟨v, h4, h5⟩ := Hl hL hR r1 h
   refine ⟨v, ?_, h4⟩
   rw [jE, hrs, akk]
   simp [alT, h5]

theorem R0 (hL : aO P L) (hm : P.follows .mixedOrders = true) {E : Env β} (hE : bo I P E) (hM : cl I P E) (hG : gy I P E) {f : FuncId} {fn : Func} (hf : P.funcs[f]? = some fn) (hname : (fn.name == "runtime.NumGoroutine") = false)
  (hl : ∀ l ∈ d0 fn, nr I P E l) {GS : ce β} (hS : ∀ args bl K r, GS args bl K = some r -> oZ L E fn args bl K = some r) (hb : fn.body.isSome = true) : GOK I P f GS := by
 obtain ⟨c, hc⟩ := alM.1 hb
 refine ⟨⟨fn, c, hf, hc, hname⟩, fun args bl K r h => ?_⟩
 have h := hS args bl K r h
 simp only [oZ, hc] at h
 simp only [d0, hc] at hl
 obtain ⟨e, s', h1, h2⟩ := D4 hL hm hE hM hG c [] (ai fn) _ _ r hl h
 have cS : ∀ (X : Cx I) vs lc, aK X bl X.w0 lc -> aB (aC X lc) args vs ->
   Rel X ⟨args ++ List.replicate (fn.ntmps - args.length) ac, bl⟩ { tmps := vs.toArray ++ Array.replicate (fn.ntmps - vs.toArray.size) undef, defers := [] } X.w0 lc := fun X vs lc hW hv => by
  refine ⟨?_, hW, rfl⟩
  simp only [al2, Array.toList_replicate, alC]
  rw [hv.length]
  exact hv.append (mW _)
 have fin : (match (generalizing := false) RX L s' fn.results.toList with | some p => K p.1 p.2 | none => none) = some r -> (e = .normal \/ e = .ret) -> ∃ y bl', K y bl' = some r /\ ∀ (X : Cx I) vs lc, aK X bl X.w0 lc -> aB (aC X lc) args vs ->
   Calls P f vs.toArray X.w0 (fun e w' => ∃ v X' lc', e = .returned v /\ X.Le X' /\ aK X' bl' w' lc' /\ aC X' lc' y v) := fun hK he => by
  unfold RX at hK
  cases hok : fn.results.toList.all (okV L s') with
  | false => rw [hok] at hK; cases hK
  | true =>
   rw [hok] at hK
   simp only [ajZ] at hK
   refine ⟨_, _, hK, fun X vs lc hW hv => ?_⟩
   refine calls_of_wp hf hc (h2 X _ X.w0 lc (cS X vs lc hW hv) _ fun X' a' w' lc' hle hR' => ?_)
   obtain ⟨v, h3, h4⟩ := BE hL hR' hok
   have hR2 : Rel X' ⟨[bM L s' fn.results.toList], s'.blks⟩ { tmps := #[v], defers := [] } w' lc' := ⟨.cons h4 .nil, hR'.world, rfl⟩
   obtain ⟨lc2, hR3⟩ := hR2.tidy 1
   have hy : aC X' lc2 (nth ac ((⟨[bM L s' fn.results.toList], s'.blks⟩ : St).tidy 1).tmps 0) v := az hR3.tmps (.tmp 0)
   rcases he with rfl | rfl
   ·exact ⟨hR'.defers, v, h3, v, X', lc2, rfl, hle, hR3.world, hy⟩
   ·exact ⟨hR'.defers, v, h3, v, X', lc2, rfl, hle, hR3.world, hy⟩
 cases e with
 | normal => exact fin h1 (.inl rfl)
 | ret => exact fin h1 (.inr rfl)
 | exit id => cases h1
 | goto id => cases h1
 | panic id => cases h1
 | outgrown => cases h1
end
end Go.Rv
