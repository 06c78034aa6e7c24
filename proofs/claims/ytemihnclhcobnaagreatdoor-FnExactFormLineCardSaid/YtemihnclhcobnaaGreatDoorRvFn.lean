/- Functions: the evaluator's bK is the function's bK. -/
import Derived.Test.YtemihnclhcobnaaGreatDoorRvCode
namespace Go.Rv
set_option linter.unusedSimpArgs false
open Go.RowKit (Below)
section
variable {I : World → Prop} {P : Program} {L : Lay} {β : Type}

theorem rj : ∀ {l : List Nat}, my l = true → l.Nodup
 | [], _ => .nil
 | x :: l, h => by
  simp only [my, Yz, YT, List.any_eq_false] at h
  refine aal.2 ⟨fun hx => ?_, rj h.2⟩
  exact h.1 x hx (aar x)

theorem DH {j : Nat} : ∀ {pre post : List Nat} {i : Nat}, j ∉ pre → mt j (pre ++ j :: post) i = some (i + pre.length)
 | [], post, i, _ => by simp [mt]
 | x :: pre, post, i, h => by
  simp only [YN, not_or] at h
  have : Nat.beq x j = false := by
   cases hb : Nat.beq x j with
   | false => rfl
   | true => exact absurd (YA hb).symm h.1
  simp only [aaO, mt, this, YB]
  rw [DH h.2]
  simp; omega

section
variable {bl : List Blk} {sel : List Nat}

theorem sJ (hn : sel.Nodup) {s : SV} {pre post : List Nat} (hr : sn s = true) (hrow : ((d7 s).all fun j => je (nth .dead bl j)) = true) (hsel : sel = pre ++ d7 s ++ post) :
  aP (pre.map (nth .dead bl)) (dS bl s) = (f5 sel s, (pre ++ d7 s).map (nth .dead bl)) ∧ m2 (dS bl s) = true := by
 cases s <;> simp only [sn, Zs] at hr <;> try (simp [dS, aP, f5, d7, m2]; done)
 rename_i j
 simp only [d7, YK, List.all_nil, aay] at hrow hsel
 cases hb : nth Blk.dead bl j with
 | cells _ _ => rw [hb] at hrow; cases hrow
 | dead => rw [hb] at hrow; cases hrow
 | prow _ _ _ => rw [hb] at hrow; cases hrow
 | mp _ _ => rw [hb] at hrow; cases hrow
 | pcells _ _ _ => rw [hb] at hrow; cases hrow
 | pmp _ _ _ => rw [hb] at hrow; cases hrow
 | srow _ _ => rw [hb] at hrow; cases hrow
 | row t q =>
  have hj : j ∉ pre := by
   rw [hsel] at hn
   intro hjp
   have := (aaJ.1 hn).1
   have := (aaJ.1 this).2.2 j hjp j (by simp)
   exact this rfl
  have hidx : mt j sel 0 = some pre.length := by
   rw [hsel, Zg]
   have := DH (j := j) (pre := pre) (post := post) (i := 0) hj
   simpa using this
  simp only [dS, hb, Blk.rowOf, aP, f5, hidx, d7, m2, Zm, Z0, Zh, ZK, and_self]

theorem sG (hn : sel.Nodup) : ∀ (l : List SV) (pre post : List Nat), l.all sn = true → ((l.flatMap d7).all fun j => je (nth .dead bl j)) = true → sel = pre ++ l.flatMap d7 ++ post →
  c7 (pre.map (nth .dead bl)) (l.map (dS bl)) = (l.map (f5 sel), (pre ++ l.flatMap d7).map (nth .dead bl)) ∧ (l.map (dS bl)).all m2 = true
 | [], pre, post, _, _, _ => by simp [c7]
 | s :: l, pre, post, hr, hrow, hsel => by
  simp only [YK, Yz] at hr
  simp only [Zv, aaV, Yz] at hrow
  obtain ⟨h1, h2⟩ := sJ hn (pre := pre) (post := l.flatMap d7 ++ post) hr.1 hrow.1 (by rw [hsel]; simp)
  obtain ⟨h3, h4⟩ := sG hn l (pre ++ d7 s) post hr.2 hrow.2 (by rw [hsel]; simp)
  simp only [Zh, c7, h1, h3, Zv, YK, h2, h4, aax, and_true, Zg]

theorem sE (hn : sel.Nodup) {x : AV} {pre post : List Nat} (hr : pF x = true) (hrow : ((fK x).all fun j => je (nth .dead bl j)) = true) (hsel : sel = pre ++ fK x ++ post) :
  cg (pre.map (nth .dead bl)) (dR bl x) = (sk sel x, (pre ++ fK x).map (nth .dead bl)) ∧ qr (dR bl x) = true := by
 cases x with
 | one s =>
  obtain ⟨h1, h2⟩ := sJ hn hr hrow hsel
  simp only [dR, cg, h1, sk, fK, qr, h2, and_self]
 | agg l =>
  obtain ⟨h1, h2⟩ := sG hn l pre post hr hrow hsel
  simp only [dR, cg, h1, sk, fK, qr, h2, and_self]

theorem pu (hn : sel.Nodup) : ∀ (l : List AV) (pre post : List Nat), l.all pF = true → ((l.flatMap fK).all fun j => je (nth .dead bl j)) = true → sel = pre ++ l.flatMap fK ++ post →
  ce (pre.map (nth .dead bl)) (l.map (dR bl)) = (l.map (sk sel), (pre ++ l.flatMap fK).map (nth .dead bl)) ∧ (l.map (dR bl)).all qr = true
 | [], pre, post, _, _, _ => by simp [ce]
 | s :: l, pre, post, hr, hrow, hsel => by
  simp only [YK, Yz] at hr
  simp only [Zv, aaV, Yz] at hrow
  obtain ⟨h1, h2⟩ := sE hn (pre := pre) (post := l.flatMap fK ++ post) hr.1 hrow.1 (by rw [hsel]; simp)
  obtain ⟨h3, h4⟩ := pu hn l (pre ++ fK s) post hr.2 hrow.2 (by rw [hsel]; simp)
  simp only [Zh, ce, h1, h3, Zv, YK, h2, h4, aax, and_true, Zg]

theorem BU {x : TV} (hn : (dw x).Nodup) (hr : Ob x = true) (hrow : ((dw x).all fun j => je (nth .dead bl j)) = true) :
  bE [] (df bl x) = (mB (dw x) x, (dw x).map (nth .dead bl)) ∧ EZ (df bl x) = true := by
 cases x with
 | v x =>
  obtain ⟨h1, h2⟩ := sE (bl := bl) (sel := fK x) (pre := []) (post := []) hn hr hrow (by simp)
  simp only [ZK, Zt] at h1
  simp only [df, bE, h1, mB, dw, EZ, h2, and_self]
 | tup l =>
  obtain ⟨h1, h2⟩ := pu (bl := bl) (sel := l.flatMap fK) hn l [] [] hr hrow (by simp)
  simp only [ZK, Zt] at h1
  simp only [df, bE, h1, mB, dw, EZ, h2, and_self]
end

def BK (tmps : Array Value) : ResultVar → Sem Value
 | .tmp t => pure (tmps.getD t undef)
 | .cell a t => do loadVar t (← asAddr (tmps.getD a undef))

def okA : AV → Bool
 | .one .und => false
 | _ => true
theorem D8 (hL : aJ P L) {X : Cx I} {s : St} {a : Act} {w : World} {lc : List Loc} (hR : Rel X s a w lc) (rv : ResultVar) (h : okA (n4 (d6 L s rv)) = true) :
  ∃ v, a6 X lc (n4 (d6 L s rv)) v ∧ (BK a.tmps rv).run P w = .ok v w := by
 cases rv with
 | tmp t =>
  have ht : aC X lc (nth ac s.tmps t) (a.tmps.getD t undef) := au hR.tmps (.tmp t)
  refine ⟨_, ?_, rfl⟩
  simp only [d6] at h ⊢
  cases hx : nth ac s.tmps t with
  | v x => rw [hx] at ht; exact ht
  | tup l => rw [hx] at h; cases h
 | cell x t =>
  have ht : aC X lc (nth ac s.tmps x) (a.tmps.getD x undef) := au hR.tmps (.tmp x)
  simp only [d6] at h ⊢
  split at h
  ·rename_i j off hj
   split at h
   ·rename_i u l hb
    cases hy : loadAt L t l off with
    | none => rw [hy] at h; cases h
    | some y =>
     rw [hy] at h
     obtain ⟨g, hg, he⟩ := aI ht hj
     obtain ⟨cs, hh, hcs⟩ := cX (hR.world.blks j _ _ (cJ hb).1 hg) hb
     have hlen := hcs.length
     obtain ⟨v, h1, h2⟩ := cC (X := X) (lc := lc) hL hy (fun m => (cs[off + m]?).getD undef) (fun m s hm => by
      obtain ⟨v, hv, hr⟩ := hcs.get _ _ hm
      have : cs[off + m]? = some v := by simpa using hv
      rw [this]; exact hr) ⟨g, off, none⟩
     have hrun := h2 w fun m hm => by
      rw [Zr, cell_of_row w g (off + m) cs u (0, 0) hh]
      have : off + m < cs.size := by rw [hlen] at hm; simpa using hm
      simp [aa4 this]
     refine ⟨v, ?_, ?_⟩
     ·simp only [ZB] at h ⊢
      cases y with
      | v x => exact h1
      | tup l => cases h
     ·rw [Instr.loadAt, YO] at hrun
      simp only [Instr.sureAddr, YX, YH] at hrun
      simp only [BK, he, asAddr, YO, YX, YH]
      exact hrun
   ·cases h
  ·cases h

theorem zP (hL : aJ P L) {X : Cx I} {s : St} {a : Act} {w : World} {lc : List Loc} (hR : Rel X s a w lc) : ∀ (rs : List ResultVar), (rs.map fun r => n4 (d6 L s r)).all okA = true →
  ∃ vs, aw (a6 X lc) (rs.map fun r => n4 (d6 L s r)) vs ∧ (rs.mapM (BK a.tmps)).run P w = .ok vs w
 | [], _ => ⟨[], .nil, by simp⟩
 | r :: rs, h => by
  simp only [Zh, YK, Yz] at h
  obtain ⟨v, h1, h2⟩ := D8 hL hR r h.1
  obtain ⟨vs, h3, h4⟩ := zP hL hR rs h.2
  refine ⟨v :: vs, .cons h1 h3, ?_⟩
  simp [aao, h2, h4]

theorem iV (fn : Func) (tmps : Array Value) : results fn tmps = (do let vs ← fn.results.toList.mapM (BK tmps); pure (if h : vs.toArray.size = 1 then vs.toArray[0] else .tuple vs.toArray)) := by
 unfold results
 rw [Array.mapM_eq_mapM_toList]
 simp only [bind_map_left]
 congr 2

theorem jL (bl : List Blk) {s : SV} (h : bI s = true) : aP bl s = (s, bl) := by
 cases s <;> first | rfl | cases h
theorem jK : ∀ {l : List SV} (bl : List Blk), l.all bI = true → c7 bl l = (l, bl)
 | [], _, _ => rfl
 | s :: l, bl, h => by
  simp only [YK, Yz] at h
  simp only [c7, jL bl h.1, jK bl h.2]
theorem jJ (bl : List Blk) {x : AV} (h : cw x = true) : cg bl x = (x, bl) := by
 cases x with
 | one s => simp only [cg, jL bl (s := s) h]
 | agg l => simp only [cg, jK bl (l := l) h]
theorem ja : ∀ {l : List AV} (bl : List Blk), l.all cw = true → ce bl l = (l, bl)
 | [], _, _ => rfl
 | s :: l, bl, h => by
  simp only [YK, Yz] at h
  simp only [ce, jJ bl h.1, ja bl h.2]
theorem BC {x : TV} (h : cR x = true) : (bE [] x).1 = x := by
 cases x with
 | v x => simp only [bE, jJ [] (x := x) h]
 | tup l => simp only [bE, ja [] (l := l) h]

theorem lF {X : Cx I} {lc : List Loc} {two : Bool} {p : SV} {T : Tr} {v : Value} (h : vh two p = some T) (hr : aD X lc p v) : ct X.ft X.fw two T v := by
 unfold vh at h
 split at h
 ·obtain ⟨h1, h2⟩ := aF h
  cases h2
  rw [eq_of_beq h1]; exact hr
 ·cases h; exact hr
 ·cases h
theorem Bu {X : Cx I} {lc : List Loc} {two : Bool} {l : List SV} {T : Tr} {cs : Array Value} {S : Nat → Prop} {wf : World} {g : Nat} {t : TypeId} {z : Nat × Nat} (hS : ∀ k, X.ft k → S k) (hw : ∀ k, X.ft k → wf.heap[k]? = X.fw.heap[k]?) (hg : S g) (hh : wf.heap[g]? = some (.cells cs t z))
  (h : Bt two l = some T) (hr : aw (aD X lc) l cs.toList) : ct S wf two T (.pointer (some ⟨g, 0, none⟩)) := by
 unfold Bt at h
 split at h
 ·rename_i a p q
  split at h
  ·rename_i lt rt h1 h2
   cases h
   generalize hcs : cs.toList = vs at hr
   cases hr with
   | cons r1 hr => cases hr with
    | cons r2 hr => cases hr with
     | cons r3 hr => cases hr with
      | nil =>
       simp only [aD] at r1
       subst r1
       exact ⟨g, cs, t, z, _, _, rfl, hg, hh, hcs, (lF h1 r2).mono hS hw, (lF h2 r3).mono hS hw⟩
  ·cases h
 ·rename_i a b p q
  split at h
  ·rename_i lt rt h1 h2
   cases h
   generalize hcs : cs.toList = vs at hr
   cases hr with
   | cons r1 hr => cases hr with
    | cons r2 hr => cases hr with
     | cons r3 hr => cases hr with
      | cons r4 hr => cases hr with
       | nil =>
        simp only [aD] at r1 r2
        subst r1; subst r2
        exact ⟨g, cs, t, z, _, _, rfl, hg, hh, hcs, (lF h1 r3).mono hS hw, (lF h2 r4).mono hS hw⟩
  ·cases h
 ·cases h
theorem us {X : Cx I} {bl : List Blk} {w : World} {lc : List Loc} (hW : aH X bl w lc) {t : TypeId} {x : AV} {v : Value} (h : a6 X lc x v) : ∃ X', X.Le X' ∧ aH X' (qM L t bl x).2 w lc ∧ a6 X' lc (qM L t bl x).1 v := by
 have same : ∃ X', X.Le X' ∧ aH X' bl w lc ∧ a6 X' lc x v := ⟨X, .refl X, hW, h⟩
 cases x with
 | agg l => exact same
 | one s =>
  simp only [qM]
  cases ht : Rg L t with
  | none => exact same
  | some two =>
   simp only
   split
   ·exact ⟨X, .refl X, hW, h⟩
   ·rename_i j
    split
    ·rename_i t' l hb
     split
     ·rename_i T hT
      have hblk := b8 hb (by simp)
      obtain ⟨g, hg, rfl⟩ := h
      obtain ⟨hbase, cs, hh, hcs⟩ := hW.blks j _ _ hblk hg
      obtain ⟨hle, hW'⟩ := hW.freeze hblk rfl hg rfl
      exact ⟨_, hle, hW', Bu (S := fun k => X.ft k ∨ k = g) (wf := w) (fun _ h => .inl h) (fun k hk => (hW.frz k hk).2) (.inr rfl) hh hT hcs⟩
     ·exact same
    ·exact same
   ·exact same
theorem qN {w : World} {lc : List Loc} : ∀ {ts : List TypeId} {l : List AV} {vs : List Value} {X : Cx I} {bl : List Blk}, aH X bl w lc → aw (a6 X lc) l vs → ∃ X', X.Le X' ∧ aH X' (n9 L ts bl l).2 w lc ∧ aw (a6 X' lc) (n9 L ts bl l).1 vs
 | [], l, _, X, bl, hW, h => ⟨X, .refl X, by cases l <;> exact hW, by cases l <;> exact h⟩
 | t :: ts, [], _, X, bl, hW, h => ⟨X, .refl X, hW, h⟩
 | t :: ts, x :: l, _, X, bl, hW, .cons h1 h2 => by
  obtain ⟨X1, a1, a2, a3⟩ := us (L := L) (t := t) hW h1
  obtain ⟨X2, b1, b2, b3⟩ := qN (ts := ts) a2 (h2.mono fun _ _ h => a6.grow a1 h)
  exact ⟨X2, a1.trans b1, b2, .cons (a6.grow b1 a3) b3⟩
theorem vS {X : Cx I} {bl : List Blk} {w : World} {lc : List Loc} (hW : aH X bl w lc) {ts : List TypeId} {x : TV} {v : Value} (h : aC X lc x v) : ∃ X', X.Le X' ∧ aH X' (cl L ts bl x).2 w lc ∧ aC X' lc (cl L ts bl x).1 v := by
 cases x with
 | v x =>
  simp only [cl]
  split
  ·exact us hW h
  ·exact ⟨X, .refl X, hW, h⟩
 | tup l =>
  obtain ⟨cs, h1, h2⟩ := h
  obtain ⟨X', a1, a2, a3⟩ := qN (L := L) (ts := ts) hW h2
  exact ⟨X', a1, a2, cs, h1, a3⟩
theorem yR {t : TypeId} {bl : List Blk} {x : AV} (h : pF (qM L t bl x).1 = true) : okA x = true := by
 cases x with
 | agg l => rfl
 | one s =>
  cases s <;> try rfl
  simp only [qM] at h
  split at h <;> cases h
theorem ut : ∀ {ts : List TypeId} {l : List AV} {bl : List Blk}, (n9 L ts bl l).1.all pF = true → l.all okA = true
 | [], l, bl, h => by
  have h : l.all pF = true := by cases l <;> exact h
  refine Zc.2 fun x hx => ?_
  have := Zc.1 h x hx
  cases x with
  | agg _ => rfl
  | one s => cases s <;> first | rfl | cases this
 | t :: ts, [], bl, h => rfl
 | t :: ts, x :: l, bl, h => by
  simp only [n9, YK, Yz] at h ⊢
  exact ⟨yR h.1, ut h.2⟩

theorem AW (hL : aJ P L) {X : Cx I} {s : St} {a : Act} {w : World} {lc : List Loc} (hR : Rel X s a w lc) {fn : Func} {ts : List TypeId} {y : TV} (h : bK L s ts fn.results.toList = some y) :
  ∃ v, (results fn a.tmps).run P w = .ok v w ∧ dI X w y v ∧ (cR y = true → v = KB y) := by
 unfold bK at h
 simp only at h
 obtain ⟨hb, h⟩ := aF h
 simp only [Yy] at h
 subst h
 simp only [Yz] at hb
 obtain ⟨⟨h1, h2⟩, h3⟩ := hb
 have hn := rj h2
 have fin : ∀ v, aC X lc (bG L s fn.results.toList) v → dI X w (df (cl L ts s.blks (bG L s fn.results.toList)).2 (cl L ts s.blks (bG L s fn.results.toList)).1) v ∧ (cR (df (cl L ts s.blks (bG L s fn.results.toList)).2 (cl L ts s.blks (bG L s fn.results.toList)).1) = true → v = KB (df (cl L ts s.blks (bG L s fn.results.toList)).2 (cl L ts s.blks (bG L s fn.results.toList)).1)) := fun v hv => by
  obtain ⟨X', hle, hW', hy⟩ := vS (L := L) (ts := ts) hR.world hv
  generalize cl L ts s.blks (bG L s fn.results.toList) = yb at h1 h2 h3 hn hW' hy
  obtain ⟨y, bl⟩ := yb
  simp only at h1 h2 h3 hn hW' hy ⊢
  obtain ⟨ht, hans⟩ := BU (bl := bl) hn h1 h3
  have hsel : ((dw y).map (nth .dead bl)) = (dw y).map fun j => wZ (dw y) (nth .dead bl j) := by
   refine List.map_congr_left fun j hj => ?_
   have := Zc.1 h3 j hj
   cases hb : nth Blk.dead bl j with
   | row t q => rfl
   | cells _ _ => rw [hb] at this; cases this
   | prow _ _ _ => rfl
   | mp _ _ => rfl
   | pmp _ _ _ => rfl
   | srow _ _ => rfl
   | pcells _ _ _ => rw [hb] at this; cases this
   | dead => rfl
  have hren := nG (X := X') (sel := dw y) hy
  refine ⟨⟨X', a8 lc (dw y), hle, ?_, ?_, hans⟩, fun hp => ?_⟩
  ·rw [ht]
   show aH _ _ _ _
   rw [hsel]
   exact hW'.sel hn
  ·rw [ht]
   exact hren
  ·have e1 : (bE [] (df bl y)).1 = mB (dw y) y := by rw [ht]
   have e2 := BC hp
   rw [e2] at e1
   rw [← e1] at hren
   exact (iU hp).1 hren
 have many : ∀ rs : List ResultVar, fn.results.toList = rs → rs.length ≠ 1 → bG L s rs = .tup (rs.map fun r => n4 (d6 L s r)) → ∃ v, (results fn a.tmps).run P w = .ok v w ∧ aC X lc (bG L s fn.results.toList) v := by
  intro rs hrs hlen h0
  rw [hrs, h0] at h1
  have h1 := ut (L := L) (ts := ts) (bl := s.blks) h1
  obtain ⟨vs, h4, h5⟩ := zP hL hR rs h1
  have hvl := h4.length
  refine ⟨.tuple vs.toArray, ?_, by rw [hrs, h0]; exact ⟨_, rfl, by simpa using h4⟩⟩
  rw [iV, hrs, YO, h5]
  have : ¬ vs.toArray.size = 1 := by simp only [aap]; rw [← hvl]; simpa using hlen
  simp only [YH, this, dite_false, YX]
 have main : ∃ v, (results fn a.tmps).run P w = .ok v w ∧ aC X lc (bG L s fn.results.toList) v := by
  cases hrs : fn.results.toList with
  | nil =>
   have := many [] hrs (by simp) rfl
   rwa [hrs] at this
  | cons r1 rs =>
   cases rs with
   | cons r2 rs =>
    have := many _ hrs (by simp) rfl
    rwa [hrs] at this
   | nil =>
    rw [hrs] at h1
    have h1 : okA (n4 (d6 L s r1)) = true := by
     simp only [bG, cl] at h1
     split at h1
     ·exact yR h1
     ·have h1 : pF (n4 (d6 L s r1)) = true := h1
      cases hx : n4 (d6 L s r1) with
      | agg _ => rfl
      | one s => rw [hx] at h1; cases s <;> first | rfl | cases h1
    obtain ⟨v, h4, h5⟩ := D8 hL hR r1 h1
    refine ⟨v, ?_, h4⟩
    rw [iV, hrs, YO]
    simp [aao, h5]
 obtain ⟨v, h4, h5⟩ := main
 obtain ⟨k1, k2⟩ := fin v h5
 exact ⟨v, h4, k1, k2⟩

theorem lW {X : Cx I} {lc : List Loc} (n : Nat) : aw (aC X lc) (List.replicate n ac) (List.replicate n undef) := by
 induction n with
 | zero => exact .nil
 | succ n ih => exact .cons (zJ _) ih

theorem Se (hL : aJ P L) (hm : P.follows .mixedOrders = true) {E : Env β} (hE : bp I P E) (hM : b7 I P E) (hG : fS I P E) {f : FuncId} {fn : Func} (hf : P.funcs[f]? = some fn) (hname : (fn.name == "runtime.NumGoroutine") = false)
  (hl : ∀ l ∈ dK fn, mf I P E l) {S : Spec β} (hS : ∀ args K r, S args K = some r → aQ L E fn args K = some r) (hb : fn.body.isSome = true) : ap I P f S := by
 obtain ⟨c, hc⟩ := aak.1 hb
 refine ⟨⟨fn, c, hf, hc, hname⟩, fun args K r h => ?_⟩
 have h := hS args K r h
 simp only [aQ, hc] at h
 simp only [dK, hc] at hl
 obtain ⟨e, s', h1, h2⟩ := A9 hL hm hE hM hG c [] (ah fn) _ _ r hl h
 have cH : ∀ (X : Cx I) vs, cr X → aw (aC X []) args vs → Rel X (xk fn args) { tmps := vs.toArray ++ Array.replicate (fn.ntmps - vs.toArray.size) undef, defers := [] } X.w0 [] := fun X vs hX hv => by
  refine ⟨?_, aH.empty hX, rfl⟩
  simp only [xk, aaA, Array.toList_replicate, aap]
  rw [hv.length]
  exact hv.append (lW _)
 have fin : ∀ y, bK L s' fn.resultTypes.toList fn.results.toList = some y → (e = .normal ∨ e = .ret) → ∀ (X : Cx I) vs, cr X → aw (aC X []) args vs → Calls P f vs.toArray X.w0 (fun e w' => ∃ v, e = .returned v ∧ dI X w' y v) := fun y hy he X vs hX hv => by
  refine calls_of_wp hf hc (h2 X _ X.w0 [] (cH X vs hX hv) _ fun X' a' w' lc' hle hR' => ?_)
  obtain ⟨v, h3, ⟨X2, lc2, k1, k2, k3, k4⟩, _⟩ := AW hL hR' hy
  rcases he with rfl | rfl
  ·exact ⟨hR'.defers, v, h3, v, rfl, X2, lc2, hle.trans k1, k2, k3, k4⟩
  ·exact ⟨hR'.defers, v, h3, v, rfl, X2, lc2, hle.trans k1, k2, k3, k4⟩
 cases e with
 | normal =>
  simp only at h1
  cases hy : bK L s' fn.resultTypes.toList fn.results.toList with
  | none => rw [hy] at h1; cases h1
  | some y =>
   rw [hy] at h1
   exact ⟨y, h1, fin y hy (.inl rfl)⟩
 | ret =>
  simp only at h1
  cases hy : bK L s' fn.resultTypes.toList fn.results.toList with
  | none => rw [hy] at h1; cases h1
  | some y =>
   rw [hy] at h1
   exact ⟨y, h1, fin y hy (.inr rfl)⟩
 | exit id => cases h1
 | goto id => cases h1
 | panic id => cases h1
 | outgrown => cases h1

theorem D7 (hL : aJ P L) {X : Cx I} {s : St} {a : Act} {w : World} {lc : List Loc} (hR : Rel X s a w lc) (r : ResultVar) (h : okV L s r = true) : ∃ v, a6 X lc (n4 (d6 L s r)) v ∧ (BK a.tmps r).run P w = .ok v w := by
 cases r with
 | tmp t =>
  have ht : aC X lc (nth ac s.tmps t) (a.tmps.getD t undef) := au hR.tmps (.tmp t)
  refine ⟨_, ?_, rfl⟩
  simp only [okV] at h
  simp only [d6]
  cases hx : nth ac s.tmps t with
  | v x => rw [hx] at ht; exact ht
  | tup l => rw [hx] at h; cases h
 | cell x t =>
  have ht : aC X lc (nth ac s.tmps x) (a.tmps.getD x undef) := au hR.tmps (.tmp x)
  simp only [okV] at h
  simp only [d6]
  split at h
  ·rename_i j off hj
   split at h
   ·rename_i u l hb
    cases hy : loadAt L t l off with
    | none => rw [hy] at h; cases h
    | some y =>
     obtain ⟨g, hg, he⟩ := aI ht hj
     obtain ⟨cs, hh, hcs⟩ := cX (hR.world.blks j _ _ (cJ hb).1 hg) hb
     have hlen := hcs.length
     obtain ⟨v, h1, h2⟩ := cC (X := X) (lc := lc) hL hy (fun m => (cs[off + m]?).getD undef) (fun m s hm => by
      obtain ⟨v, hv, hr⟩ := hcs.get _ _ hm
      have : cs[off + m]? = some v := by simpa using hv
      rw [this]; exact hr) ⟨g, off, none⟩
     have hrun := h2 w fun m hm => by
      rw [Zr, cell_of_row w g (off + m) cs u (0, 0) hh]
      have : off + m < cs.size := by rw [hlen] at hm; simpa using hm
      simp [aa4 this]
     refine ⟨v, ?_, ?_⟩
     ·simp only [ZB]
      cases y with
      | v x => exact h1
      | tup l => rw [hy] at h; cases h
     ·rw [Instr.loadAt, YO] at hrun
      simp only [Instr.sureAddr, YX, YH] at hrun
      simp only [BK, he, asAddr, YO, YX, YH]
      exact hrun
   ·cases h
  ·cases h

theorem zO (hL : aJ P L) {X : Cx I} {s : St} {a : Act} {w : World} {lc : List Loc} (hR : Rel X s a w lc) : ∀ (rs : List ResultVar), rs.all (okV L s) = true →
  ∃ vs, aw (a6 X lc) (rs.map fun r => n4 (d6 L s r)) vs ∧ (rs.mapM (BK a.tmps)).run P w = .ok vs w
 | [], _ => ⟨[], .nil, by simp⟩
 | r :: rs, h => by
  simp only [YK, Yz] at h
  obtain ⟨v, h1, h2⟩ := D7 hL hR r h.1
  obtain ⟨vs, h3, h4⟩ := zO hL hR rs h.2
  refine ⟨v :: vs, .cons h1 h3, ?_⟩
  simp [aao, h2, h4]

theorem yx (hL : aJ P L) {X : Cx I} {s : St} {a : Act} {w : World} {lc : List Loc} (hR : Rel X s a w lc) {fn : Func} (h : fn.results.toList.all (okV L s) = true) :
  ∃ v, (results fn a.tmps).run P w = .ok v w ∧ aC X lc (bG L s fn.results.toList) v := by
 have many : ∀ rs : List ResultVar, fn.results.toList = rs → rs.length ≠ 1 → bG L s rs = .tup (rs.map fun r => n4 (d6 L s r)) → ∃ v, (results fn a.tmps).run P w = .ok v w ∧ aC X lc (bG L s fn.results.toList) v := by
  intro rs hrs hlen h0
  rw [hrs] at h
  obtain ⟨vs, h4, h5⟩ := zO hL hR rs h
  have hvl := h4.length
  refine ⟨.tuple vs.toArray, ?_, by rw [hrs, h0]; exact ⟨_, rfl, by simpa using h4⟩⟩
  rw [iV, hrs, YO, h5]
  have : ¬ vs.toArray.size = 1 := by simp only [aap]; rw [← hvl]; simpa using hlen
  simp only [YH, this, dite_false, YX]
 cases hrs : fn.results.toList with
 | nil =>
  have := many [] hrs (by simp) rfl
  rwa [hrs] at this
 | cons r1 rs =>
  cases rs with
  | cons r2 rs =>
   have := many _ hrs (by simp) rfl
   rwa [hrs] at this
  | nil =>
   rw [hrs] at h
   simp only [YK, List.all_nil, aay] at h
   obtain ⟨v, h4, h5⟩ := D7 hL hR r1 h
   refine ⟨v, ?_, h4⟩
   rw [iV, hrs, YO]
   simp [aao, h5]

theorem M6 (hL : aJ P L) (hm : P.follows .mixedOrders = true) {E : Env β} (hE : bp I P E) (hM : b7 I P E) (hG : fS I P E) {f : FuncId} {fn : Func} (hf : P.funcs[f]? = some fn) (hname : (fn.name == "runtime.NumGoroutine") = false)
  (hl : ∀ l ∈ dK fn, mf I P E l) {GS : bO β} (hS : ∀ args bl K r, GS args bl K = some r → lQ L E fn args bl K = some r) (hb : fn.body.isSome = true) : GOK I P f GS := by
 obtain ⟨c, hc⟩ := aak.1 hb
 refine ⟨⟨fn, c, hf, hc, hname⟩, fun args bl K r h => ?_⟩
 have h := hS args bl K r h
 simp only [lQ, hc] at h
 simp only [dK, hc] at hl
 obtain ⟨e, s', h1, h2⟩ := A9 hL hm hE hM hG c [] (ah fn) _ _ r hl h
 have cH : ∀ (X : Cx I) vs lc, aH X bl X.w0 lc → aw (aC X lc) args vs →
   Rel X ⟨args ++ List.replicate (fn.ntmps - args.length) ac, bl⟩ { tmps := vs.toArray ++ Array.replicate (fn.ntmps - vs.toArray.size) undef, defers := [] } X.w0 lc := fun X vs lc hW hv => by
  refine ⟨?_, hW, rfl⟩
  simp only [aaA, Array.toList_replicate, aap]
  rw [hv.length]
  exact hv.append (lW _)
 have fin : (match (generalizing := false) M3 L s' fn.results.toList with | some p => K p.1 p.2 | none => none) = some r → (e = .normal ∨ e = .ret) → ∃ y bl', K y bl' = some r ∧ ∀ (X : Cx I) vs lc, aH X bl X.w0 lc → aw (aC X lc) args vs →
   Calls P f vs.toArray X.w0 (fun e w' => ∃ v X' lc', e = .returned v ∧ X.Le X' ∧ aH X' bl' w' lc' ∧ aC X' lc' y v) := fun hK he => by
  unfold M3 at hK
  cases hok : fn.results.toList.all (okV L s') with
  | false => rw [hok] at hK; cases hK
  | true =>
   rw [hok] at hK
   simp only [YC] at hK
   refine ⟨_, _, hK, fun X vs lc hW hv => ?_⟩
   refine calls_of_wp hf hc (h2 X _ X.w0 lc (cH X vs lc hW hv) _ fun X' a' w' lc' hle hR' => ?_)
   obtain ⟨v, h3, h4⟩ := yx hL hR' hok
   have hR2 : Rel X' ⟨[bG L s' fn.results.toList], s'.blks⟩ { tmps := #[v], defers := [] } w' lc' := ⟨.cons h4 .nil, hR'.world, rfl⟩
   obtain ⟨lc2, hR3⟩ := hR2.tidy 1
   have hy : aC X' lc2 (nth ac ((⟨[bG L s' fn.results.toList], s'.blks⟩ : St).tidy 1).tmps 0) v := au hR3.tmps (.tmp 0)
   rcases he with rfl | rfl
   ·exact ⟨hR'.defers, v, h3, v, X', lc2, rfl, hle, hR3.world, hy⟩
   ·exact ⟨hR'.defers, v, h3, v, X', lc2, rfl, hle, hR3.world, hy⟩
 cases e with
 | normal => exact fin h1 (.inl rfl)
 | ret => exact fin h1 (.inr rfl)
 | exit id => cases h1
 | goto id => cases h1
 | panic id => cases h1
 | outgrown => cases h1
end
end Go.Rv
