/- Functions: the evaluator's bz is the function's bz. -/
import Derived.Test.YtmhlcbibbhelkaaGreatDoorRvCode
namespace Go.Rv
set_option linter.unusedSimpArgs false
open Go.RowKit (Below)
section
variable {I : World → Prop} {P : Program} {L : Lay} {β : Type}

theorem tH : ∀ {l : List Nat}, mS l = true → l.Nodup
 | [], _ => .nil
 | x :: l, h => by
  simp only [mS, agZ, ahl, List.any_eq_false] at h
  refine aiK.2 ⟨fun hx => ?_, tH h.2⟩
  exact h.1 x hx (aiS x)

theorem FD {j : Nat} : ∀ {pre post : List Nat} {i : Nat}, j ∉ pre → mP j (pre ++ j :: post) i = some (i + pre.length)
 | [], post, i, _ => by simp [mP]
 | x :: pre, post, i, h => by
  simp only [ahe, not_or] at h
  have : Nat.beq x j = false := by
   cases hb : Nat.beq x j with
   | false => rfl
   | true => exact absurd (ag2 hb).symm h.1
  simp only [ah3, mP, this, agX]
  rw [FD h.2]
  simp; omega

section
variable {bl : List Blk} {sel : List Nat}

theorem uy (hn : sel.Nodup) {s : SV} {pre post : List Nat} (hr : ue s = true) (hrow : ((eB s).all fun j => jw (nth .dead bl j)) = true) (hsel : sel = pre ++ eB s ++ post) :
  aU (pre.map (nth .dead bl)) (ec bl s) = (gF sel s, (pre ++ eB s).map (nth .dead bl)) ∧ oT (ec bl s) = true := by
 cases s <;> simp only [ue, ahM] at hr <;> try (simp [ec, aU, gF, eB, oT]; done)
 rename_i j
 simp only [eB, ahc, ai3, aix] at hrow hsel
 cases hb : nth Blk.dead bl j with
 | cells _ _ => rw [hb] at hrow; cases hrow
 | dead => rw [hb] at hrow; cases hrow
 | prow _ _ _ => rw [hb] at hrow; cases hrow
 | mp _ _ => rw [hb] at hrow; cases hrow
 | pcells _ _ _ => rw [hb] at hrow; cases hrow
 | pmp _ _ _ => rw [hb] at hrow; cases hrow
 | srow _ _ => rw [hb] at hrow; cases hrow
 | row t q =>
  have hj : j ∉ pre := by
   rw [hsel] at hn
   intro hjp
   have := (ai9.1 hn).1
   have := (ai9.1 this).2.2 j hjp j (by simp)
   exact this rfl
  have hidx : mP j sel 0 = some pre.length := by
   rw [hsel, ahs]
   have := FD (j := j) (pre := pre) (post := post) (i := 0) hj
   simpa using this
  simp only [ec, hb, Blk.rowOf, aU, gF, hidx, eB, oT, ahw, aiu, ahC, ah7, and_self]

theorem uv (hn : sel.Nodup) : ∀ (l : List SV) (pre post : List Nat), l.all ue = true → ((l.flatMap eB).all fun j => jw (nth .dead bl j)) = true → sel = pre ++ l.flatMap eB ++ post →
  dq (pre.map (nth .dead bl)) (l.map (ec bl)) = (l.map (gF sel), (pre ++ l.flatMap eB).map (nth .dead bl)) ∧ (l.map (ec bl)).all oT = true
 | [], pre, post, _, _, _ => by simp [dq]
 | s :: l, pre, post, hr, hrow, hsel => by
  simp only [ahc, agZ] at hr
  simp only [ahQ, ait, agZ] at hrow
  obtain ⟨h1, h2⟩ := uy hn (pre := pre) (post := l.flatMap eB ++ post) hr.1 hrow.1 (by rw [hsel]; simp)
  obtain ⟨h3, h4⟩ := uv hn l (pre ++ eB s) post hr.2 hrow.2 (by rw [hsel]; simp)
  simp only [ahC, dq, h1, h3, ahQ, ahc, h2, h4, aim, and_true, ahs]

theorem ut (hn : sel.Nodup) {x : AV} {pre post : List Nat} (hr : rI x = true) (hrow : ((fT x).all fun j => jw (nth .dead bl j)) = true) (hsel : sel = pre ++ fT x ++ post) :
  cu (pre.map (nth .dead bl)) (d9 bl x) = (uc sel x, (pre ++ fT x).map (nth .dead bl)) ∧ ss (d9 bl x) = true := by
 cases x with
 | one s =>
  obtain ⟨h1, h2⟩ := uy hn hr hrow hsel
  simp only [d9, cu, h1, uc, fT, ss, h2, and_self]
 | agg l =>
  obtain ⟨h1, h2⟩ := uv hn l pre post hr hrow hsel
  simp only [d9, cu, h1, uc, fT, ss, h2, and_self]

theorem ru (hn : sel.Nodup) : ∀ (l : List AV) (pre post : List Nat), l.all rI = true → ((l.flatMap fT).all fun j => jw (nth .dead bl j)) = true → sel = pre ++ l.flatMap fT ++ post →
  ct (pre.map (nth .dead bl)) (l.map (d9 bl)) = (l.map (uc sel), (pre ++ l.flatMap fT).map (nth .dead bl)) ∧ (l.map (d9 bl)).all ss = true
 | [], pre, post, _, _, _ => by simp [ct]
 | s :: l, pre, post, hr, hrow, hsel => by
  simp only [ahc, agZ] at hr
  simp only [ahQ, ait, agZ] at hrow
  obtain ⟨h1, h2⟩ := ut hn (pre := pre) (post := l.flatMap fT ++ post) hr.1 hrow.1 (by rw [hsel]; simp)
  obtain ⟨h3, h4⟩ := ru hn l (pre ++ fT s) post hr.2 hrow.2 (by rw [hsel]; simp)
  simp only [ahC, ct, h1, h3, ahQ, ahc, h2, h4, aim, and_true, ahs]

theorem D8 {x : TV} (hn : (dK x).Nodup) (hr : Rn x = true) (hrow : ((dK x).all fun j => jw (nth .dead bl j)) = true) :
  bJ [] (dv bl x) = (mV (dK x) x, (dK x).map (nth .dead bl)) ∧ Hn (dv bl x) = true := by
 cases x with
 | v x =>
  obtain ⟨h1, h2⟩ := ut (bl := bl) (sel := fT x) (pre := []) (post := []) hn hr hrow (by simp)
  simp only [ah7, ahG] at h1
  simp only [dv, bJ, h1, mV, dK, Hn, h2, and_self]
 | tup l =>
  obtain ⟨h1, h2⟩ := ru (bl := bl) (sel := l.flatMap fT) hn l [] [] hr hrow (by simp)
  simp only [ah7, ahG] at h1
  simp only [dv, bJ, h1, mV, dK, Hn, h2, and_self]
end

def DY (tmps : Array Value) : ResultVar → Sem Value
 | .tmp t => pure (tmps.getD t undef)
 | .cell a t => do loadVar t (← asAddr (tmps.getD a undef))

def okA : AV → Bool
 | .one .und => false
 | _ => true
theorem F5 (hL : aO P L) {X : Cx I} {s : St} {a : Act} {w : World} {lc : List Loc} (hR : Rel X s a w lc) (rv : ResultVar) (h : okA (qe (ez L s rv)) = true) :
  ∃ v, a7 X lc (qe (ez L s rv)) v ∧ (DY a.tmps rv).run P w = .ok v w := by
 cases rv with
 | tmp t =>
  have ht : aC X lc (nth ac s.tmps t) (a.tmps.getD t undef) := az hR.tmps (.tmp t)
  refine ⟨_, ?_, rfl⟩
  simp only [ez] at h ⊢
  cases hx : nth ac s.tmps t with
  | v x => rw [hx] at ht; exact ht
  | tup l => rw [hx] at h; cases h
 | cell x t =>
  have ht : aC X lc (nth ac s.tmps x) (a.tmps.getD x undef) := az hR.tmps (.tmp x)
  simp only [ez] at h ⊢
  split at h
  ·rename_i j off hj
   split at h
   ·rename_i u l hb
    cases hy : loadAt L t l off with
    | none => rw [hy] at h; cases h
    | some y =>
     rw [hy] at h
     obtain ⟨g, hg, he⟩ := aN ht hj
     obtain ⟨cs, hh, hcs⟩ := dm (hR.world.blks j _ _ (cV hb).1 hg) hb
     have hlen := hcs.length
     obtain ⟨v, h1, h2⟩ := cN (X := X) (lc := lc) hL hy (fun m => (cs[off + m]?).getD undef) (fun m s hm => by
      obtain ⟨v, hv, hr⟩ := hcs.get _ _ hm
      have : cs[off + m]? = some v := by simpa using hv
      rw [this]; exact hr) ⟨g, off, none⟩
     have hrun := h2 w fun m hm => by
      rw [ahL, cell_of_row w g (off + m) cs u (0, 0) hh]
      have : off + m < cs.size := by rw [hlen] at hm; simpa using hm
      simp [aju this]
     refine ⟨v, ?_, ?_⟩
     ·simp only [ah0] at h ⊢
      cases y with
      | v x => exact h1
      | tup l => cases h
     ·rw [Instr.loadAt, ahj] at hrun
      simp only [Instr.sureAddr, ahq, aha] at hrun
      simp only [DY, he, asAddr, ahj, ahq, aha]
      exact hrun
   ·cases h
  ·cases h

theorem B1 (hL : aO P L) {X : Cx I} {s : St} {a : Act} {w : World} {lc : List Loc} (hR : Rel X s a w lc) : ∀ (rs : List ResultVar), (rs.map fun r => qe (ez L s r)).all okA = true →
  ∃ vs, aB (a7 X lc) (rs.map fun r => qe (ez L s r)) vs ∧ (rs.mapM (DY a.tmps)).run P w = .ok vs w
 | [], _ => ⟨[], .nil, by simp⟩
 | r :: rs, h => by
  simp only [ahC, ahc, agZ] at h
  obtain ⟨v, h1, h2⟩ := F5 hL hR r h.1
  obtain ⟨vs, h3, h4⟩ := B1 hL hR rs h.2
  refine ⟨v :: vs, .cons h1 h3, ?_⟩
  simp [aiQ, h2, h4]

theorem jf (fn : Func) (tmps : Array Value) : results fn tmps = (do let vs ← fn.results.toList.mapM (DY tmps); pure (if h : vs.toArray.size = 1 then vs.toArray[0] else .tuple vs.toArray)) := by
 unfold results
 rw [Array.mapM_eq_mapM_toList]
 simp only [bind_map_left]
 congr 2

theorem j4 (bl : List Blk) {s : SV} (h : bO s = true) : aU bl s = (s, bl) := by
 cases s <;> first | rfl | cases h
theorem j3 : ∀ {l : List SV} (bl : List Blk), l.all bO = true → dq bl l = (l, bl)
 | [], _, _ => rfl
 | s :: l, bl, h => by
  simp only [ahc, agZ] at h
  simp only [dq, j4 bl h.1, j3 bl h.2]
theorem j0 (bl : List Blk) {x : AV} (h : cH x = true) : cu bl x = (x, bl) := by
 cases x with
 | one s => simp only [cu, j4 bl (s := s) h]
 | agg l => simp only [cu, j3 bl (l := l) h]
theorem jo : ∀ {l : List AV} (bl : List Blk), l.all cH = true → ct bl l = (l, bl)
 | [], _, _ => rfl
 | s :: l, bl, h => by
  simp only [ahc, agZ] at h
  simp only [ct, j0 bl h.1, jo bl h.2]
theorem DQ {x : TV} (h : dh x = true) : (bJ [] x).1 = x := by
 cases x with
 | v x => simp only [bJ, j0 [] (x := x) h]
 | tup l => simp only [bJ, jo [] (l := l) h]

theorem lL {X : Cx I} {lc : List Loc} {two : Bool} {p : SV} {T : Tr} {v : Value} (h : xd two p = some T) (hr : aD X lc p v) : cF X.ft X.fw two T v := by
 unfold xd at h
 split at h
 ·obtain ⟨h1, h2⟩ := aH h
  cases h2
  rw [eq_of_beq h1]; exact hr
 ·cases h; exact hr
 ·cases h
theorem DI {X : Cx I} {lc : List Loc} {two : Bool} {l : List SV} {T : Tr} {cs : Array Value} {S : Nat → Prop} {wf : World} {g : Nat} {t : TypeId} {z : Nat × Nat} (hS : ∀ k, X.ft k → S k) (hw : ∀ k, X.ft k → wf.heap[k]? = X.fw.heap[k]?) (hg : S g) (hh : wf.heap[g]? = some (.cells cs t z))
  (h : DH two l = some T) (hr : aB (aD X lc) l cs.toList) : cF S wf two T (.pointer (some ⟨g, 0, none⟩)) := by
 unfold DH at h
 split at h
 ·rename_i a p q
  split at h
  ·rename_i lt rt h1 h2
   cases h
   generalize hcs : cs.toList = vs at hr
   cases hr with
   | cons r1 hr => cases hr with
    | cons r2 hr => cases hr with
     | cons r3 hr => cases hr with
      | nil =>
       simp only [aD] at r1
       subst r1
       exact ⟨g, cs, t, z, _, _, rfl, hg, hh, hcs, (lL h1 r2).mono hS hw, (lL h2 r3).mono hS hw⟩
  ·cases h
 ·rename_i a b p q
  split at h
  ·rename_i lt rt h1 h2
   cases h
   generalize hcs : cs.toList = vs at hr
   cases hr with
   | cons r1 hr => cases hr with
    | cons r2 hr => cases hr with
     | cons r3 hr => cases hr with
      | cons r4 hr => cases hr with
       | nil =>
        simp only [aD] at r1 r2
        subst r1; subst r2
        exact ⟨g, cs, t, z, _, _, rfl, hg, hh, hcs, (lL h1 r3).mono hS hw, (lL h2 r4).mono hS hw⟩
  ·cases h
 ·cases h
theorem wh {X : Cx I} {bl : List Blk} {w : World} {lc : List Loc} (hW : aK X bl w lc) {t : TypeId} {x : AV} {v : Value} (h : a7 X lc x v) : ∃ X', X.Le X' ∧ aK X' (sQ L t bl x).2 w lc ∧ a7 X' lc (sQ L t bl x).1 v := by
 have same : ∃ X', X.Le X' ∧ aK X' bl w lc ∧ a7 X' lc x v := ⟨X, .refl X, hW, h⟩
 cases x with
 | agg l => exact same
 | one s =>
  simp only [sQ]
  cases ht : Tn L t with
  | none => exact same
  | some two =>
   simp only
   split
   ·exact ⟨X, .refl X, hW, h⟩
   ·rename_i j
    split
    ·rename_i t' l hb
     split
     ·rename_i T hT
      have hblk := cn hb (by simp)
      obtain ⟨g, hg, rfl⟩ := h
      obtain ⟨hbase, cs, hh, hcs⟩ := hW.blks j _ _ hblk hg
      obtain ⟨hle, hW'⟩ := hW.freeze hblk rfl hg rfl
      exact ⟨_, hle, hW', DI (S := fun k => X.ft k ∨ k = g) (wf := w) (fun _ h => .inl h) (fun k hk => (hW.frz k hk).2) (.inr rfl) hh hT hcs⟩
     ·exact same
    ·exact same
   ·exact same
theorem sR {w : World} {lc : List Loc} : ∀ {ts : List TypeId} {l : List AV} {vs : List Value} {X : Cx I} {bl : List Blk}, aK X bl w lc → aB (a7 X lc) l vs → ∃ X', X.Le X' ∧ aK X' (qk L ts bl l).2 w lc ∧ aB (a7 X' lc) (qk L ts bl l).1 vs
 | [], l, _, X, bl, hW, h => ⟨X, .refl X, by cases l <;> exact hW, by cases l <;> exact h⟩
 | t :: ts, [], _, X, bl, hW, h => ⟨X, .refl X, hW, h⟩
 | t :: ts, x :: l, _, X, bl, hW, .cons h1 h2 => by
  obtain ⟨X1, a1, a2, a3⟩ := wh (L := L) (t := t) hW h1
  obtain ⟨X2, b1, b2, b3⟩ := sR (ts := ts) a2 (h2.mono fun _ _ h => a7.grow a1 h)
  exact ⟨X2, a1.trans b1, b2, .cons (a7.grow b1 a3) b3⟩
theorem xV {X : Cx I} {bl : List Blk} {w : World} {lc : List Loc} (hW : aK X bl w lc) {ts : List TypeId} {x : TV} {v : Value} (h : aC X lc x v) : ∃ X', X.Le X' ∧ aK X' (cz L ts bl x).2 w lc ∧ aC X' lc (cz L ts bl x).1 v := by
 cases x with
 | v x =>
  simp only [cz]
  split
  ·exact wh hW h
  ·exact ⟨X, .refl X, hW, h⟩
 | tup l =>
  obtain ⟨cs, h1, h2⟩ := h
  obtain ⟨X', a1, a2, a3⟩ := sR (L := L) (ts := ts) hW h2
  exact ⟨X', a1, a2, cs, h1, a3⟩
theorem Bg {t : TypeId} {bl : List Blk} {x : AV} (h : rI (sQ L t bl x).1 = true) : okA x = true := by
 cases x with
 | agg l => rfl
 | one s =>
  cases s <;> try rfl
  simp only [sQ] at h
  split at h <;> cases h
theorem wi : ∀ {ts : List TypeId} {l : List AV} {bl : List Blk}, (qk L ts bl l).1.all rI = true → l.all okA = true
 | [], l, bl, h => by
  have h : l.all rI = true := by cases l <;> exact h
  refine aht.2 fun x hx => ?_
  have := aht.1 h x hx
  cases x with
  | agg _ => rfl
  | one s => cases s <;> first | rfl | cases this
 | t :: ts, [], bl, h => rfl
 | t :: ts, x :: l, bl, h => by
  simp only [qk, ahc, agZ] at h ⊢
  exact ⟨Bg h.1, wi h.2⟩

theorem De (hL : aO P L) {X : Cx I} {s : St} {a : Act} {w : World} {lc : List Loc} (hR : Rel X s a w lc) {fn : Func} {ts : List TypeId} {y : TV} (h : bz L s ts fn.results.toList = some y) :
  ∃ v, (results fn a.tmps).run P w = .ok v w ∧ dY X w y v ∧ (dh y = true → v = Od y) := by
 unfold bz at h
 simp only at h
 obtain ⟨hb, h⟩ := aH h
 simp only [ag0] at h
 subst h
 simp only [agZ] at hb
 obtain ⟨⟨h1, h2⟩, h3⟩ := hb
 have hn := tH h2
 have fin : ∀ v, aC X lc (bM L s fn.results.toList) v → dY X w (dv (cz L ts s.blks (bM L s fn.results.toList)).2 (cz L ts s.blks (bM L s fn.results.toList)).1) v ∧ (dh (dv (cz L ts s.blks (bM L s fn.results.toList)).2 (cz L ts s.blks (bM L s fn.results.toList)).1) = true → v = Od (dv (cz L ts s.blks (bM L s fn.results.toList)).2 (cz L ts s.blks (bM L s fn.results.toList)).1)) := fun v hv => by
  obtain ⟨X', hle, hW', hy⟩ := xV (L := L) (ts := ts) hR.world hv
  generalize cz L ts s.blks (bM L s fn.results.toList) = yb at h1 h2 h3 hn hW' hy
  obtain ⟨y, bl⟩ := yb
  simp only at h1 h2 h3 hn hW' hy ⊢
  obtain ⟨ht, hans⟩ := D8 (bl := bl) hn h1 h3
  have hsel : ((dK y).map (nth .dead bl)) = (dK y).map fun j => zQ (dK y) (nth .dead bl j) := by
   refine ai0 fun j hj => ?_
   have := aht.1 h3 j hj
   cases hb : nth Blk.dead bl j with
   | row t q => rfl
   | cells _ _ => rw [hb] at this; cases this
   | prow _ _ _ => rfl
   | mp _ _ => rfl
   | pmp _ _ _ => rfl
   | srow _ _ => rfl
   | pcells _ _ _ => rw [hb] at this; cases this
   | dead => rfl
  have hren := pG (X := X') (sel := dK y) hy
  refine ⟨⟨X', ba lc (dK y), hle, ?_, ?_, hans⟩, fun hp => ?_⟩
  ·rw [ht]
   show aK _ _ _ _
   rw [hsel]
   exact hW'.sel hn
  ·rw [ht]
   exact hren
  ·have e1 : (bJ [] (dv bl y)).1 = mV (dK y) y := by rw [ht]
   have e2 := DQ hp
   rw [e2] at e1
   rw [← e1] at hren
   exact (je hp).1 hren
 have many : ∀ rs : List ResultVar, fn.results.toList = rs → rs.length ≠ 1 → bM L s rs = .tup (rs.map fun r => qe (ez L s r)) → ∃ v, (results fn a.tmps).run P w = .ok v w ∧ aC X lc (bM L s fn.results.toList) v := by
  intro rs hrs hlen h0
  rw [hrs, h0] at h1
  have h1 := wi (L := L) (ts := ts) (bl := s.blks) h1
  obtain ⟨vs, h4, h5⟩ := B1 hL hR rs h1
  have hvl := h4.length
  refine ⟨.tuple vs.toArray, ?_, by rw [hrs, h0]; exact ⟨_, rfl, by simpa using h4⟩⟩
  rw [jf, hrs, ahj, h5]
  have : ¬ vs.toArray.size = 1 := by simp only [aiz]; rw [← hvl]; simpa using hlen
  simp only [aha, this, dite_false, ahq]
 have main : ∃ v, (results fn a.tmps).run P w = .ok v w ∧ aC X lc (bM L s fn.results.toList) v := by
  cases hrs : fn.results.toList with
  | nil =>
   have := many [] hrs (by simp) rfl
   rwa [hrs] at this
  | cons r1 rs =>
   cases rs with
   | cons r2 rs =>
    have := many _ hrs (by simp) rfl
    rwa [hrs] at this
   | nil =>
    rw [hrs] at h1
    have h1 : okA (qe (ez L s r1)) = true := by
     simp only [bM, cz] at h1
     split at h1
     ·exact Bg h1
     ·have h1 : rI (qe (ez L s r1)) = true := h1
      cases hx : qe (ez L s r1) with
      | agg _ => rfl
      | one s => rw [hx] at h1; cases s <;> first | rfl | cases h1
    obtain ⟨v, h4, h5⟩ := F5 hL hR r1 h1
    refine ⟨v, ?_, h4⟩
    rw [jf, hrs, ahj]
    simp [aiQ, h5]
 obtain ⟨v, h4, h5⟩ := main
 obtain ⟨k1, k2⟩ := fin v h5
 exact ⟨v, h4, k1, k2⟩

theorem l6 {X : Cx I} {lc : List Loc} (n : Nat) : aB (aC X lc) (List.replicate n ac) (List.replicate n undef) := by
 induction n with
 | zero => exact .nil
 | succ n ih => exact .cons (BU _) ih

theorem VH (hL : aO P L) (hm : P.follows .mixedOrders = true) {E : Env β} (hE : bo I P E) (hM : cj I P E) (hG : gu I P E) {f : FuncId} {fn : Func} (hf : P.funcs[f]? = some fn) (hname : (fn.name == "runtime.NumGoroutine") = false)
  (hl : ∀ l ∈ d0 fn, mC I P E l) {S : Spec β} (hS : ∀ args K r, S args K = some r → aL L E fn args K = some r) (hb : fn.body.isSome = true) : ao I P f S := by
 obtain ⟨c, hc⟩ := aiJ.1 hb
 refine ⟨⟨fn, c, hf, hc, hname⟩, fun args K r h => ?_⟩
 have h := hS args K r h
 simp only [aL, hc] at h
 simp only [d0, hc] at hl
 obtain ⟨e, s', h1, h2⟩ := Do hL hm hE hM hG c [] (ai fn) _ _ r hl h
 have cS : ∀ (X : Cx I) vs, cD X → aB (aC X []) args vs → Rel X (Ad fn args) { tmps := vs.toArray ++ Array.replicate (fn.ntmps - vs.toArray.size) undef, defers := [] } X.w0 [] := fun X vs hX hv => by
  refine ⟨?_, aK.empty hX, rfl⟩
  simp only [Ad, aiZ, Array.toList_replicate, aiz]
  rw [hv.length]
  exact hv.append (l6 _)
 have fin : ∀ y, bz L s' fn.resultTypes.toList fn.results.toList = some y → (e = .normal ∨ e = .ret) → ∀ (X : Cx I) vs, cD X → aB (aC X []) args vs → Calls P f vs.toArray X.w0 (fun e w' => ∃ v, e = .returned v ∧ dY X w' y v) := fun y hy he X vs hX hv => by
  refine calls_of_wp hf hc (h2 X _ X.w0 [] (cS X vs hX hv) _ fun X' a' w' lc' hle hR' => ?_)
  obtain ⟨v, h3, ⟨X2, lc2, k1, k2, k3, k4⟩, _⟩ := De hL hR' hy
  rcases he with rfl | rfl
  ·exact ⟨hR'.defers, v, h3, v, rfl, X2, lc2, hle.trans k1, k2, k3, k4⟩
  ·exact ⟨hR'.defers, v, h3, v, rfl, X2, lc2, hle.trans k1, k2, k3, k4⟩
 cases e with
 | normal =>
  simp only at h1
  cases hy : bz L s' fn.resultTypes.toList fn.results.toList with
  | none => rw [hy] at h1; cases h1
  | some y =>
   rw [hy] at h1
   exact ⟨y, h1, fin y hy (.inl rfl)⟩
 | ret =>
  simp only at h1
  cases hy : bz L s' fn.resultTypes.toList fn.results.toList with
  | none => rw [hy] at h1; cases h1
  | some y =>
   rw [hy] at h1
   exact ⟨y, h1, fin y hy (.inr rfl)⟩
 | exit id => cases h1
 | goto id => cases h1
 | panic id => cases h1
 | outgrown => cases h1

theorem F4 (hL : aO P L) {X : Cx I} {s : St} {a : Act} {w : World} {lc : List Loc} (hR : Rel X s a w lc) (r : ResultVar) (h : okV L s r = true) : ∃ v, a7 X lc (qe (ez L s r)) v ∧ (DY a.tmps r).run P w = .ok v w := by
 cases r with
 | tmp t =>
  have ht : aC X lc (nth ac s.tmps t) (a.tmps.getD t undef) := az hR.tmps (.tmp t)
  refine ⟨_, ?_, rfl⟩
  simp only [okV] at h
  simp only [ez]
  cases hx : nth ac s.tmps t with
  | v x => rw [hx] at ht; exact ht
  | tup l => rw [hx] at h; cases h
 | cell x t =>
  have ht : aC X lc (nth ac s.tmps x) (a.tmps.getD x undef) := az hR.tmps (.tmp x)
  simp only [okV] at h
  simp only [ez]
  split at h
  ·rename_i j off hj
   split at h
   ·rename_i u l hb
    cases hy : loadAt L t l off with
    | none => rw [hy] at h; cases h
    | some y =>
     obtain ⟨g, hg, he⟩ := aN ht hj
     obtain ⟨cs, hh, hcs⟩ := dm (hR.world.blks j _ _ (cV hb).1 hg) hb
     have hlen := hcs.length
     obtain ⟨v, h1, h2⟩ := cN (X := X) (lc := lc) hL hy (fun m => (cs[off + m]?).getD undef) (fun m s hm => by
      obtain ⟨v, hv, hr⟩ := hcs.get _ _ hm
      have : cs[off + m]? = some v := by simpa using hv
      rw [this]; exact hr) ⟨g, off, none⟩
     have hrun := h2 w fun m hm => by
      rw [ahL, cell_of_row w g (off + m) cs u (0, 0) hh]
      have : off + m < cs.size := by rw [hlen] at hm; simpa using hm
      simp [aju this]
     refine ⟨v, ?_, ?_⟩
     ·simp only [ah0]
      cases y with
      | v x => exact h1
      | tup l => rw [hy] at h; cases h
     ·rw [Instr.loadAt, ahj] at hrun
      simp only [Instr.sureAddr, ahq, aha] at hrun
      simp only [DY, he, asAddr, ahj, ahq, aha]
      exact hrun
   ·cases h
  ·cases h

theorem BZ (hL : aO P L) {X : Cx I} {s : St} {a : Act} {w : World} {lc : List Loc} (hR : Rel X s a w lc) : ∀ (rs : List ResultVar), rs.all (okV L s) = true →
  ∃ vs, aB (a7 X lc) (rs.map fun r => qe (ez L s r)) vs ∧ (rs.mapM (DY a.tmps)).run P w = .ok vs w
 | [], _ => ⟨[], .nil, by simp⟩
 | r :: rs, h => by
  simp only [ahc, agZ] at h
  obtain ⟨v, h1, h2⟩ := F4 hL hR r h.1
  obtain ⟨vs, h3, h4⟩ := BZ hL hR rs h.2
  refine ⟨v :: vs, .cons h1 h3, ?_⟩
  simp [aiQ, h2, h4]

theorem AZ (hL : aO P L) {X : Cx I} {s : St} {a : Act} {w : World} {lc : List Loc} (hR : Rel X s a w lc) {fn : Func} (h : fn.results.toList.all (okV L s) = true) :
  ∃ v, (results fn a.tmps).run P w = .ok v w ∧ aC X lc (bM L s fn.results.toList) v := by
 have many : ∀ rs : List ResultVar, fn.results.toList = rs → rs.length ≠ 1 → bM L s rs = .tup (rs.map fun r => qe (ez L s r)) → ∃ v, (results fn a.tmps).run P w = .ok v w ∧ aC X lc (bM L s fn.results.toList) v := by
  intro rs hrs hlen h0
  rw [hrs] at h
  obtain ⟨vs, h4, h5⟩ := BZ hL hR rs h
  have hvl := h4.length
  refine ⟨.tuple vs.toArray, ?_, by rw [hrs, h0]; exact ⟨_, rfl, by simpa using h4⟩⟩
  rw [jf, hrs, ahj, h5]
  have : ¬ vs.toArray.size = 1 := by simp only [aiz]; rw [← hvl]; simpa using hlen
  simp only [aha, this, dite_false, ahq]
 cases hrs : fn.results.toList with
 | nil =>
  have := many [] hrs (by simp) rfl
  rwa [hrs] at this
 | cons r1 rs =>
  cases rs with
  | cons r2 rs =>
   have := many _ hrs (by simp) rfl
   rwa [hrs] at this
  | nil =>
   rw [hrs] at h
   simp only [ahc, ai3, aix] at h
   obtain ⟨v, h4, h5⟩ := F4 hL hR r1 h
   refine ⟨v, ?_, h4⟩
   rw [jf, hrs, ahj]
   simp [aiQ, h5]

theorem QI (hL : aO P L) (hm : P.follows .mixedOrders = true) {E : Env β} (hE : bo I P E) (hM : cj I P E) (hG : gu I P E) {f : FuncId} {fn : Func} (hf : P.funcs[f]? = some fn) (hname : (fn.name == "runtime.NumGoroutine") = false)
  (hl : ∀ l ∈ d0 fn, mC I P E l) {GS : cc β} (hS : ∀ args bl K r, GS args bl K = some r → pb L E fn args bl K = some r) (hb : fn.body.isSome = true) : GOK I P f GS := by
 obtain ⟨c, hc⟩ := aiJ.1 hb
 refine ⟨⟨fn, c, hf, hc, hname⟩, fun args bl K r h => ?_⟩
 have h := hS args bl K r h
 simp only [pb, hc] at h
 simp only [d0, hc] at hl
 obtain ⟨e, s', h1, h2⟩ := Do hL hm hE hM hG c [] (ai fn) _ _ r hl h
 have cS : ∀ (X : Cx I) vs lc, aK X bl X.w0 lc → aB (aC X lc) args vs →
   Rel X ⟨args ++ List.replicate (fn.ntmps - args.length) ac, bl⟩ { tmps := vs.toArray ++ Array.replicate (fn.ntmps - vs.toArray.size) undef, defers := [] } X.w0 lc := fun X vs lc hW hv => by
  refine ⟨?_, hW, rfl⟩
  simp only [aiZ, Array.toList_replicate, aiz]
  rw [hv.length]
  exact hv.append (l6 _)
 have fin : (match (generalizing := false) QF L s' fn.results.toList with | some p => K p.1 p.2 | none => none) = some r → (e = .normal ∨ e = .ret) → ∃ y bl', K y bl' = some r ∧ ∀ (X : Cx I) vs lc, aK X bl X.w0 lc → aB (aC X lc) args vs →
   Calls P f vs.toArray X.w0 (fun e w' => ∃ v X' lc', e = .returned v ∧ X.Le X' ∧ aK X' bl' w' lc' ∧ aC X' lc' y v) := fun hK he => by
  unfold QF at hK
  cases hok : fn.results.toList.all (okV L s') with
  | false => rw [hok] at hK; cases hK
  | true =>
   rw [hok] at hK
   simp only [agY] at hK
   refine ⟨_, _, hK, fun X vs lc hW hv => ?_⟩
   refine calls_of_wp hf hc (h2 X _ X.w0 lc (cS X vs lc hW hv) _ fun X' a' w' lc' hle hR' => ?_)
   obtain ⟨v, h3, h4⟩ := AZ hL hR' hok
   have hR2 : Rel X' ⟨[bM L s' fn.results.toList], s'.blks⟩ { tmps := #[v], defers := [] } w' lc' := ⟨.cons h4 .nil, hR'.world, rfl⟩
   obtain ⟨lc2, hR3⟩ := hR2.tidy 1
   have hy : aC X' lc2 (nth ac ((⟨[bM L s' fn.results.toList], s'.blks⟩ : St).tidy 1).tmps 0) v := az hR3.tmps (.tmp 0)
   rcases he with rfl | rfl
   ·exact ⟨hR'.defers, v, h3, v, X', lc2, rfl, hle, hR3.world, hy⟩
   ·exact ⟨hR'.defers, v, h3, v, X', lc2, rfl, hle, hR3.world, hy⟩
 cases e with
 | normal => exact fin h1 (.inl rfl)
 | ret => exact fin h1 (.inr rfl)
 | exit id => cases h1
 | goto id => cases h1
 | panic id => cases h1
 | outgrown => cases h1
end
end Go.Rv
