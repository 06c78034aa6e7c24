/- Calls: what is handed over, and what comes back. -/
import Derived.Test.YtemihnclhcobnaaGreatDoorRvRun
namespace Go.Rv
set_option linter.unusedSimpArgs false
open Go.RowKit (Below)
section
variable {I : World -> Prop} {P : Program} {L : Lay} {X : Cx I} {lc : List Loc} {β : Type} {w : World} {bl : List Blk}

theorem dx {q : Row} {v : Value} (h : dL X q v) (hb : bx X w) : dL (X.call w hb) q v :=
 bf.mono (fun k hk => aka (X.sub k hk).1 hb.size) (fun k hk => hb.block k (X.sub k hk)) h
theorem gF {q : Row} {v : Value} (hW : aK X bl w lc) (h : fT X q v) : dL (X.call w hW.below) q v :=
 bf.mono (fun k hk => (hW.frz k hk).1) (fun k hk => (hW.frz k hk).2) h
theorem yY (hW : aK X bl w lc) : cD (X.call w hW.below) := ⟨rfl, rfl, fun _ h => h, hW.frz⟩

theorem CA {f : FSf} {v : Value} (h : f5 X f v) (hb : bx X w) : f5 (X.call w hb) f v := by
 cases f <;> simp only [f5] at h ⊢ <;> try exact h
 exact dx h hb
theorem BK {l : List FSf} {off : Nat} {v : Value} (h : dZ X l off v) (hb : bx X w) : dZ (X.call w hb) l off v := by
 obtain ⟨a, h1, h2, h3⟩ := h
 refine ⟨a, h1, aka (X.sub _ h2).1 hb.size, fun m f hm => ?_⟩
 obtain ⟨u, hu, hr⟩ := h3 m f hm
 have hbl : X.old ((a.add m).block) := by rw [bL]; exact X.sub _ h2
 exact ⟨u, by show w.cell? _ = _; rw [hb.cell (p := a.add m) hbl]; exact hu, CA hr hb⟩
theorem nK {f : FS} {v : Value} (h : iJ X f v) (hb : bx X w) : iJ (X.call w hb) f v := by
 cases f <;> simp only [iJ] at h ⊢ <;> try exact h
 ·exact dx h hb
 ·exact BK h hb

theorem ny {l : List FS} {off : Nat} {v : Value} (h : dw X l off v) (hb : bx X w) : dw (X.call w hb) l off v := by
 obtain ⟨a, h1, h2, h3⟩ := h
 refine ⟨a, h1, aka (X.sub _ h2).1 hb.size, fun m f hm => ?_⟩
 obtain ⟨u, hu, hr⟩ := h3 m f hm
 have hbl : X.old ((a.add m).block) := by rw [bL]; exact X.sub _ h2
 exact ⟨u, by show w.cell? _ = _; rw [hb.cell (p := a.add m) hbl]; exact hu, nK hr hb⟩

theorem nM (hW : aK X bl w lc) {j : Nat} {t : TypeId} {q : Row} {v : Value} (hb : (nth Blk.dead bl j).rowOf = some (t, q)) (h : lc[j]? = some (.r v)) : dL (X.call w hW.below) q v := by
 have hB := hW.blks j _ _ (aR hb).1 h
 obtain ⟨v', hv', xs, hin, hown⟩ := cq hB hb
 simp only [Loc.r.injEq] at hv'
 subst hv'
 exact ua (S := fun k => k < w.heap.size) hown (cellsIn.mono (fun k hk => (hW.frz k hk).1) (fun k hk => (hW.frz k hk).2) hin) fun g hg => (Loc.lt hB (aR hb).2 hg).2

theorem KL (hW : aK X bl w lc) {s : SV} {v : Value} (h : aD X lc s v) : f5 (X.call w hW.below) (HB bl s) v := by
 have hb := hW.below
 cases s <;> simp only [aD] at h <;> simp only [HB, f5] <;> try exact h
 ·rename_i j
  cases hblk : (nth Blk.dead bl j).rowOf with
  | none => trivial
  | some p =>
   obtain ⟨t, q⟩ := p
   exact nM hW hblk h.1
 ·exact dx h hb
 ·rename_i f caps
  cases caps with
  | nil =>
   obtain ⟨vs, h1, h2⟩ := h
   have : vs = #[] := by cases vs; cases h2; rfl
   subst this; exact h1
  | cons _ _ => trivial
 ·exact gF hW h.1
theorem BH (hW : aK X bl w lc) {j off : Nat} {t : TypeId} {l : List SV} {v : Value} (hblk : (nth Blk.dead bl j).cellsOf = some (t, l)) (h : dC lc (j, off) v) : dZ (X.call w hW.below) (l.map (HB bl)) off v := by
 obtain ⟨g, hg, rfl⟩ := h
 obtain ⟨cs, hh, hcs⟩ := dl (hW.blks j _ _ (cV hblk).1 hg) hblk
 refine ⟨_, rfl, (amy.1 hh).1, fun m f hm => ?_⟩
 rw [amI] at hm
 cases hl : l[off + m]? with
 | none => rw [hl] at hm; cases hm
 | some s =>
  rw [hl] at hm
  simp only [akB, aj1] at hm
  subst hm
  obtain ⟨u, hu, hr⟩ := hcs.get _ _ hl
  refine ⟨u, ?_, KL hW hr⟩
  rw [akM]
  show w.cell? _ = _
  rw [cell_of_row w g (off + m) cs t (0, 0) hh]
  simpa using hu
theorem O4 (hW : aK X bl w lc) {s : SV} {v : Value} (h : aD X lc s v) : iJ (X.call w hW.below) (C8 bl s) v := by
 have hb := hW.below
 cases s <;> simp only [aD] at h <;> simp only [C8, iJ] <;> try exact h
 ·rename_i j off
  cases hblk : (nth Blk.dead bl j).cellsOf with
  | none => trivial
  | some p =>
   obtain ⟨t, l⟩ := p
   exact BH hW hblk h
 ·rename_i j
  cases hblk : (nth Blk.dead bl j).rowOf with
  | none => trivial
  | some p =>
   obtain ⟨t, q⟩ := p
   exact nM hW hblk h.1
 ·exact dx h hb
 ·rename_i f caps
  cases caps with
  | nil =>
   obtain ⟨vs, h1, h2⟩ := h
   have : vs = #[] := by cases vs; cases h2; rfl
   subst this; exact h1
  | cons _ _ => trivial
 ·exact gF hW h.1

theorem sT (hW : aK X bl w lc) {j off : Nat} {t : TypeId} {l : List SV} {v : Value} (hblk : (nth Blk.dead bl j).cellsOf = some (t, l)) (h : dC lc (j, off) v) : dw (X.call w hW.below) (l.map (C8 bl)) off v := by
 obtain ⟨g, hg, rfl⟩ := h
 obtain ⟨cs, hh, hcs⟩ := dl (hW.blks j _ _ (cV hblk).1 hg) hblk
 refine ⟨_, rfl, (amy.1 hh).1, fun m f hm => ?_⟩
 rw [amI] at hm
 cases hl : l[off + m]? with
 | none => rw [hl] at hm; cases hm
 | some s =>
  rw [hl] at hm
  simp only [akB, aj1] at hm
  subst hm
  obtain ⟨u, hu, hr⟩ := hcs.get _ _ hl
  refine ⟨u, ?_, O4 hW hr⟩
  rw [akM]
  show w.cell? _ = _
  rw [cell_of_row w g (off + m) cs t (0, 0) hh]
  simpa using hu

theorem p9 (hW : aK X bl w lc) : ∀ (caps : List (Nat × Nat)) (l : List (List FS × Nat)) (vs : List Value), sS bl caps = some l -> aB (dC lc) caps vs -> aB (fun c u => dw (X.call w hW.below) c.1 c.2 u) l vs
 | [], l, vs, h, hv => by cases hv; simp only [sS, aj1] at h; subst h; exact .nil
 | (j, o) :: cs, l, vs, h, hv => by
  cases hv with
  | cons h1 h2 =>
  simp only [sS] at h
  split at h
  ·rename_i t l' rest hb hr
   simp only [aj1] at h
   subst h
   exact .cons (sT hW hb h1) (p9 hW cs rest _ hr h2)
  ·cases h

theorem wV (hW : aK X bl w lc) {s : SV} {v : Value} (h : aD X lc s v) (ha : RK (oV bl s) = true) : aD (X.call w hW.below) [] (oV bl s) v := by
 have hb := hW.below
 cases s with
 | int k n => exact h
 | bool b => exact h
 | str b => exact h
 | ptr j off =>
  simp only [oV] at ha ⊢
  cases hblk : (nth Blk.dead bl j).cellsOf with
  | some p => obtain ⟨t, l⟩ := p; exact sT hW hblk h
  | none => rw [hblk] at ha; cases ha
 | row j =>
  simp only [oV] at ha ⊢
  cases hblk : (nth Blk.dead bl j).rowOf with
  | some p => obtain ⟨t, q⟩ := p; exact nM hW hblk h.1
  | none => rw [hblk] at ha; cases ha
 | sl t q => exact dx h hb
 | elt j z i off => cases ha
 | suf j i => cases ha
 | fpt q => cases ha
 | ref q i off => cases ha
 | fn f caps =>
  cases caps with
  | nil =>
   obtain ⟨vs, h1, h2⟩ := h
   exact ⟨vs, h1, by cases vs; cases h2; exact .nil⟩
  | cons c cs =>
   simp only [oV] at ha ⊢
   cases hc : sS bl (c :: cs) with
   | none => rw [hc] at ha; cases ha
   | some l =>
    obtain ⟨vs, h1, h2⟩ := h
    exact ⟨vs, h1, p9 hW _ _ _ hc h2⟩
 | cref l off => exact ny h hb
 | dfn f caps =>
  obtain ⟨vs, h1, h2⟩ := h
  exact ⟨vs, h1, h2.mono fun _ _ h => ny h hb⟩
 | mp j => cases ha
 | nilp => cases ha
 | nilm => cases ha
 | no => cases ha
 | und => cases ha
 | fsl t q => exact gF hW h.1
 | fref q i off => cases ha
 | tr two T => exact h
 | tra two T off => cases ha
 | nilf => cases ha
 | bfn f l => obtain ⟨cs, h1, h2⟩ := h; exact ⟨cs, h1, h2.mono fun _ _ h => nK h hb⟩

theorem IC (hW : aK X bl w lc) {x : TV} {v : Value} (h : aC X lc x v) (ha : adk (GK bl x) = true) : aC (X.call w hW.below) [] (GK bl x) v := by
 cases x with
 | tup _ => cases ha
 | v x => cases x with
  | one s => exact wV hW h ha
  | agg l =>
   obtain ⟨cs, rfl, hcs⟩ := h
   refine ⟨cs, rfl, ?_⟩
   have ha : (l.map (oV bl)).all RK = true := ha
   show aB _ (l.map (oV bl)) cs.toList
   generalize cs.toList = vs at hcs ⊢
   induction hcs with
   | nil => exact .nil
   | cons h1 _ ih =>
    simp only [akD, akd, aj0] at ha
    exact .cons (wV hW h1 ha.1) (ih ha.2 ha.2)

theorem Iz {s : St} {a : Act} (hR : Rel X s a w lc) {x : Operand} {t : TypeId} {y : TV} (h : Mv L s x t = some y) : aC (X.call w hR.world.below) [] y (a.eval x) := by
 unfold Mv at h
 split at h
 ·split at h
  ·split at h
   ·rename_i q hq
    simp only [aj1] at h
    subst h
    exact eh (bb hq)
   ·cases h
  ·cases h
 ·obtain ⟨h1, h2⟩ := aH h
  simp only [aj1] at h2
  subst h2
  exact IC hR.world (az hR.tmps x) h1

theorem jf {s : St} {a : Act} (hR : Rel X s a w lc) : ∀ (xs : List Operand) (ts : List TypeId) (ys : List TV), nu L s xs ts = some ys -> aB (aC (X.call w hR.world.below) []) ys (xs.map a.eval)
 | [], [], ys, h => by simp only [nu, aj1] at h; subst h; exact .nil
 | [], _ :: _, ys, h => by cases h
 | _ :: _, [], ys, h => by cases h
 | x :: xs, t :: ts, ys, h => by
  simp only [nu] at h
  split at h
  ·rename_i y ys' h1 h2
   simp only [aj1] at h
   subst h
   exact .cons (Iz hR h1) (jf hR xs ts ys' h2)
  ·cases h

theorem xn (hW : aK X bl w lc) {s : SV} {v : Value} (hk : B5 s = true) (h : aD X lc s v) : aD (X.call w hW.below) [] s v := by
 cases s <;> simp only [B5, akN] at hk <;> try exact h
 rename_i f caps
 cases caps with
 | nil =>
  obtain ⟨vs, h1, h2⟩ := h
  exact ⟨vs, h1, by cases vs; cases h2; exact .nil⟩
 | cons _ _ => cases hk
theorem JB (hW : aK X bl w lc) {x : TV} {v : Value} (hk : Nz x = true) (h : aC X lc x v) : aC (X.call w hW.below) [] x v := by
 cases x with
 | tup _ => cases hk
 | v x => cases x with
  | one s => exact xn hW hk h
  | agg l =>
   obtain ⟨cs, rfl, hcs⟩ := h
   refine ⟨cs, rfl, ?_⟩
   have hk : l.all B5 = true := hk
   generalize cs.toList = vs at hcs ⊢
   induction hcs with
   | nil => exact .nil
   | cons h1 _ ih =>
    simp only [akd, aj0] at hk
    exact .cons (xn hW hk.1 h1) (ih hk.2 hk.2)
theorem tN (hW : aK X bl w lc) : ∀ {xs : List TV} {vs : List Value}, xs.all Nz = true -> aB (aC X lc) xs vs -> aB (aC (X.call w hW.below) []) xs vs
 | [], _, _, h => by cases h; exact .nil
 | x :: xs, _, hk, .cons h1 h2 => by
  simp only [akd, aj0] at hk
  exact .cons (JB hW hk.1 h1) (tN hW hk.2 h2)
theorem tY {s : St} {a : Act} (hR : Rel X s a w lc) : ∀ (ts : List TypeId) (xs : List Operand), ts.length = xs.length -> aB (aC X lc) (List.zipWith (Em L s) ts xs) (xs.map a.eval)
 | [], [], _ => .nil
 | [], _ :: _, h => by cases h
 | _ :: _, [], h => by cases h
 | t :: ts, x :: xs, h => by
  refine .cons ?_ (tY hR ts xs (by simpa using h))
  unfold Em
  split
  ·split
   ·split
    ·rename_i q hq
     exact ⟨eh (bb hq), fP (bb hq)⟩
    ·trivial
   ·trivial
  ·exact az hR.tmps x


def oQ : SV -> Bool
 | .int .. | .bool _ | .str _ | .sl .. | .fsl .. | .tr .. => true
 | _ => false
def sN : AV -> Bool
 | .one s => oQ s
 | .agg l => l.all oQ
def Iy : TV -> Bool
 | .v x => sN x
 | .tup l => l.all sN

def dY (X : Cx I) (w' : World) (y : TV) (v : Value) : Prop :=
 ∃ X' lc, X.Le X' /\ aK X' (bJ [] y).2 w' lc /\ aC X' lc (bJ [] y).1 v /\ Iy y = true

def ao (I : World -> Prop) (P : Program) (g : FuncId) (S : Spec β) : Prop :=
 (∃ fn c, P.funcs[g]? = some fn /\ fn.body = some c /\ (fn.name == "runtime.NumGoroutine") = false) /\
 ∀ args K r, S args K = some r -> ∃ y, K y = some r /\ ∀ (X : Cx I) vs, cD X -> aB (aC X []) args vs -> Calls P g vs.toArray X.w0 (fun e w' => ∃ v, e = .returned v /\ dY X w' y v)

def shS (n : Nat) : SV -> SV
 | .row j => .row (n + j)
 | s => s
def shA (n : Nat) : AV -> AV
 | .one s => .one (shS n s)
 | .agg l => .agg (l.map (shS n))
def shT (n : Nat) : TV -> TV
 | .v x => .v (shA n x)
 | .tup l => .tup (l.map (shA n))

theorem C4 (bl c : List Blk) (s : SV) : oQ s = true -> aU (bl ++ c) s = (shS bl.length (aU c s).1, bl ++ (aU c s).2) := by
 cases s <;> simp [aU, shS, oQ]
theorem yd (c : List Blk) (s : SV) : oQ s = true -> uY (aU c s).1 = true := by
 cases s <;> simp [aU, uY, oQ]
theorem vq (bl : List Blk) : ∀ (l : List SV) (c : List Blk), l.all oQ = true -> dq (bl ++ c) l = ((dq c l).1.map (shS bl.length), bl ++ (dq c l).2) /\ (dq c l).1.all uY = true
 | [], c, _ => ⟨rfl, rfl⟩
 | s :: l, c, h => by
  simp only [akd, aj0] at h
  obtain ⟨h1, h2⟩ := vq bl l (aU c s).2 h.2
  simp only [dq, akd, aj0]
  rw [C4 bl c s h.1]
  simp only []
  rw [h1]
  exact ⟨rfl, yd c s h.1, h2⟩
theorem pH (bl c : List Blk) (x : AV) (h : sN x = true) : cu (bl ++ c) x = (shA bl.length (cu c x).1, bl ++ (cu c x).2) /\ rD (cu c x).1 = true := by
 cases x with
 | one s =>
  simp only [cu]
  rw [C4 bl c s h]; exact ⟨rfl, yd c s h⟩
 | agg l =>
  simp only [cu]
  rw [(vq bl l c h).1]; exact ⟨rfl, (vq bl l c h).2⟩
theorem qO (bl : List Blk) : ∀ (l : List AV) (c : List Blk), l.all sN = true -> ct (bl ++ c) l = ((ct c l).1.map (shA bl.length), bl ++ (ct c l).2) /\ (ct c l).1.all rD = true
 | [], c, _ => ⟨rfl, rfl⟩
 | s :: l, c, h => by
  simp only [akd, aj0] at h
  obtain ⟨h1, h2⟩ := qO bl l (cu c s).2 h.2
  simp only [ct, akd, aj0]
  rw [(pH bl c s h.1).1]
  simp only []
  rw [h1]
  exact ⟨rfl, (pH bl c s h.1).2, h2⟩
theorem C6 (bl c : List Blk) (x : TV) (h : Iy x = true) : bJ (bl ++ c) x = (shT bl.length (bJ c x).1, bl ++ (bJ c x).2) /\ Tg (bJ c x).1 = true := by
 cases x with
 | v x =>
  simp only [bJ]
  rw [(pH bl c x h).1]; exact ⟨rfl, (pH bl c x h).2⟩
 | tup l =>
  simp only [bJ]
  rw [(qO bl l c h).1]; exact ⟨rfl, (qO bl l c h).2⟩

theorem vu (c : List Blk) (s : SV) (h : c.all jU = true) : (aU c s).2.all jU = true := by
 cases s <;> simp only [aU] <;> try exact h
 rw [alw, h]; rfl
theorem vp : ∀ (l : List SV) (c : List Blk), c.all jU = true -> (dq c l).2.all jU = true
 | [], _, h => h
 | s :: l, c, h => vp l _ (vu c s h)
theorem vn (c : List Blk) (x : AV) (h : c.all jU = true) : (cu c x).2.all jU = true := by
 cases x with
 | one s => exact vu c s h
 | agg l => exact vp l c h
theorem rp : ∀ (l : List AV) (c : List Blk), c.all jU = true -> (ct c l).2.all jU = true
 | [], _, h => h
 | s :: l, c, h => rp l _ (vn c s h)
theorem ER (c : List Blk) (x : TV) (h : c.all jU = true) : (bJ c x).2.all jU = true := by
 cases x with
 | v x => exact vn c x h
 | tup l => exact rp l c h

theorem Hq {X' : Cx I} {lc2 : List Loc} (hft : X.ft = X'.ft) (hfw : X.fw = X'.fw) {s : SV} {v : Value} (hr : uY s = true) (h : aD X' lc2 s v) : aD X (lc ++ lc2) (shS lc.length s) v := by
 cases s <;> simp only [uY, akN] at hr <;> try exact h
 ·obtain ⟨h1, h2⟩ := h
  exact ⟨by rw [amC (by omega)]; simpa using h1, h2⟩
 ·rename_i t q
  show bf X.ft X.fw q v /\ oN X.ft X.fw t q.sz q.len v
  rw [hft, hfw]; exact h
 ·rename_i two T
  show cF X.ft X.fw two T v
  rw [hft, hfw]; exact h
theorem T1 {X' : Cx I} {lc2 : List Loc} (hft : X.ft = X'.ft) (hfw : X.fw = X'.fw) {l : List SV} {vs : List Value} (hr : l.all uY = true) (h : aB (aD X' lc2) l vs) : aB (aD X (lc ++ lc2)) (l.map (shS lc.length)) vs := by
 induction h with
 | nil => exact .nil
 | cons h1 _ ih =>
  simp only [akd, aj0] at hr
  exact .cons (Hq hft hfw hr.1 h1) (ih hr.2)
theorem Hp {X' : Cx I} {lc2 : List Loc} (hft : X.ft = X'.ft) (hfw : X.fw = X'.fw) {x : AV} {v : Value} (hr : rD x = true) (h : a7 X' lc2 x v) : a7 X (lc ++ lc2) (shA lc.length x) v := by
 cases x with
 | one s => exact Hq hft hfw hr h
 | agg l =>
  obtain ⟨cs, h1, h2⟩ := h
  exact ⟨cs, h1, T1 hft hfw hr h2⟩
theorem T2 {X' : Cx I} {lc2 : List Loc} (hft : X.ft = X'.ft) (hfw : X.fw = X'.fw) {x : TV} {v : Value} (hr : Tg x = true) (h : aC X' lc2 x v) : aC X (lc ++ lc2) (shT lc.length x) v := by
 cases x with
 | v x => exact Hp hft hfw hr h
 | tup l =>
  obtain ⟨cs, h1, h2⟩ := h
  refine ⟨cs, h1, ?_⟩
  have hr : l.all rD = true := hr
  generalize cs.toList = vs at h2
  induction h2 with
  | nil => exact .nil
  | cons h1 _ ih =>
   simp only [akd, aj0] at hr
   exact .cons (Hp hft hfw hr.1 h1) (ih hr.2 hr.2)

theorem aK.join {b : List Blk} {w' : World} {lc2 : List Loc} {X2 : Cx I} (h : aK X bl w lc) (hle : (X.call w h.below).Le X2) (h2 : aK X2 b w' lc2) (hrow : b.all jU = true) :
  X.Le (X.grow X2.ft X2.fw) /\ aK (X.grow X2.ft X2.fw) (bl ++ b) w' (lc ++ lc2) := by
 obtain ⟨ft, fw, a1, a2, a3⟩ := hle
 have hbel : Below w.heap.size w w' := ⟨h2.below.os, h2.below.tape, h2.below.output, h2.below.size, fun k hk => h2.below.block k ((yY h).old hk)⟩
 have h' := h.later hbel
 have mine_ : ∀ g, ((X.call w h.below).grow ft fw).mine g -> w.heap.size <= g := fun g hg => by
  rcases hg with h | ⟨v, hv, _⟩ | hg
  ·exact h
  ·simp [Cx.call, Cx.grow] at hv
  ·simp [Cx.call, Cx.grow] at hg
 have a3' : ∀ k, ft k -> X.ft k \/ w.heap.size <= k := fun k hk => (a3 k hk).imp id fun hm => mine_ k hm
 have hle : X.Le (X.grow ft fw) := .mk ft fw a1 a2 fun k hk => (a3' k hk).imp id fun hm => .inl (akz h.base_le hm)
 refine ⟨hle, ?_⟩
 have hg : aK (X.grow ft fw) bl w' lc := h'.grow hle h2.frz fun j b1 ℓ g hj hon hl hg1 hf => by
  rcases a3' g hf with hf | hf
  ·exact h.frn j b1 ℓ g hj hon hl hg1 hf
  ·have := (Loc.lt (h.blks j b1 ℓ hj hl) hon hg1).2
   omega
 have len := h.len
 have len2 := h2.len
 have new : ∀ (i : Nat) bi li g, b[i]? = some bi -> bi.on = true -> lc2[i]? = some li -> li.blk = some g -> w.heap.size <= g := fun i bi li g hi oni hli hgi => mine_ g (Loc.lt (h2.blks i bi li hi hli) oni hgi).1
 have old : ∀ (i : Nat) bi li g, bl[i]? = some bi -> bi.on = true -> lc[i]? = some li -> li.blk = some g -> g < w.heap.size := fun i bi li g hi oni hli hgi => (Loc.lt (h.blks i bi li hi hli) oni hgi).2
 refine ⟨by simp [len, len2], fun j b1 l1 hj hl => ?_, fun i j bi bj li lj g hij hi hj oni onj hli hlj hgi hgj => ?_, hg.below, h2.frz, fun j b1 l1 g hj on1 hl hg1 => ?_⟩
 ·rcases akg j bl.length with hlt | hge
  ·rw [amB hlt] at hj
   rw [amB (by omega)] at hl
   exact (hg.blks j b1 l1 hj hl).more _
  ·rw [amC hge] at hj
   rw [amC (by omega), len] at hl
   have hb := h2.blks _ b1 l1 hj hl
   have : jU b1 = true := aku.1 hrow _ (amP hj)
   cases b1 <;> try cases this
   rename_i t q
   cases l1 with
   | c g => exact hb
   | m g => exact hb
   | r v =>
    obtain ⟨k1, xs, k2, k3⟩ := hb
    exact ⟨fun g hg => .inl (akz h.base_le (mine_ g (k1 g hg))), xs, k2, k3⟩
 ·rcases akg i bl.length with hlt | hge <;> rcases akg j bl.length with hlt2 | hge2
  ·rw [amB hlt] at hi
   rw [amB hlt2] at hj
   rw [amB (by omega)] at hli hlj
   exact h.apart i j bi bj li lj g hij hi hj oni onj hli hlj hgi hgj
  ·rw [amB hlt] at hi
   rw [amB (by omega)] at hli
   rw [amC hge2] at hj
   rw [amC (by omega), len] at hlj
   have := old i bi li g hi oni hli hgi
   have := new _ bj lj g hj onj hlj hgj
   omega
  ·rw [amB hlt2] at hj
   rw [amB (by omega)] at hlj
   rw [amC hge] at hi
   rw [amC (by omega), len] at hli
   have := old j bj lj g hj onj hlj hgj
   have := new _ bi li g hi oni hli hgi
   omega
  ·rw [amC hge] at hi
   rw [amC (by omega), len] at hli
   rw [amC hge2] at hj
   rw [amC (by omega), len] at hlj
   exact h2.apart _ _ bi bj li lj g (by omega) hi hj oni onj hli hlj hgi hgj
 ·rcases akg j bl.length with hlt | hge
  ·rw [amB hlt] at hj
   rw [amB (by omega)] at hl
   exact hg.frn j b1 l1 g hj on1 hl hg1
  ·rw [amC hge] at hj
   rw [amC (by omega), len] at hl
   exact h2.frn _ b1 l1 g hj on1 hl hg1

def O8 : AV -> Value
 | .one s => nT s
 | .agg l => .agg (l.map nT).toArray
def O9 : TV -> Value
 | .v x => O8 x
 | .tup l => .tuple (l.map O8).toArray

theorem uV {l : List SV} (hp : l.all bO = true) {vs : List Value} : aB (aD X lc) l vs ↔ vs = l.map nT := by
 induction l generalizing vs with
 | nil => exact ⟨fun h => by cases h; rfl, fun h => by subst h; exact .nil⟩
 | cons s l ih =>
  simp only [akd, aj0] at hp
  refine ⟨fun h => ?_, fun h => ?_⟩
  ·cases h with
   | cons h1 h2 => rw [(jC hp.1).1 h1, (ih hp.2).1 h2]; rfl
  ·subst h
   exact .cons ((jC hp.1).2 rfl) ((ih hp.2).2 rfl)
theorem nJ {x : AV} (hp : cH x = true) {v : Value} : a7 X lc x v ↔ v = O8 x := by
 cases x with
 | one s => exact jC hp
 | agg l =>
  refine ⟨fun ⟨cs, h1, h2⟩ => ?_, fun h => ⟨_, h, (uV hp).2 (by simp)⟩⟩
  have := (uV hp).1 h2
  rw [h1]
  show _ = Value.agg (l.map nT).toArray
  rw [<- this]
theorem rg {l : List AV} (hp : l.all cH = true) {vs : List Value} : aB (a7 X lc) l vs ↔ vs = l.map O8 := by
 induction l generalizing vs with
 | nil => exact ⟨fun h => by cases h; rfl, fun h => by subst h; exact .nil⟩
 | cons s l ih =>
  simp only [akd, aj0] at hp
  refine ⟨fun h => ?_, fun h => ?_⟩
  ·cases h with
   | cons h1 h2 => rw [(nJ hp.1).1 h1, (ih hp.2).1 h2]; rfl
  ·subst h
   exact .cons ((nJ hp.1).2 rfl) ((ih hp.2).2 rfl)
theorem jD {x : TV} (hp : dg x = true) {v : Value} : aC X lc x v ↔ v = O9 x := by
 cases x with
 | v x => exact nJ hp
 | tup l =>
  refine ⟨fun ⟨cs, h1, h2⟩ => ?_, fun h => ⟨_, h, (rg hp).2 (by simp)⟩⟩
  have := (rg hp).1 h2
  rw [h1]
  show _ = Value.tuple (l.map O8).toArray
  rw [<- this]

theorem rr (bl : List Blk) (s : SV) (h : bO (aU bl s).1 = true) : aU bl s = (s, bl) := by
 cases s <;> first | rfl | cases h
theorem rq : ∀ (l : List SV) (bl : List Blk), (dq bl l).1.all bO = true -> dq bl l = (l, bl)
 | [], bl, _ => rfl
 | s :: l, bl, h => by
  simp only [dq, akd, aj0] at h ⊢
  have h1 := rr bl s h.1
  rw [h1] at h ⊢
  simp only [] at h ⊢
  rw [rq l bl h.2]
theorem rn (bl : List Blk) (x : AV) (h : cH (cu bl x).1 = true) : cu bl x = (x, bl) := by
 cases x with
 | one s =>
  simp only [cu, cH] at h ⊢
  rw [rr bl s h]
 | agg l =>
  simp only [cu, cH] at h ⊢
  rw [rq l bl h]
theorem pI : ∀ (l : List AV) (bl : List Blk), (ct bl l).1.all cH = true -> ct bl l = (l, bl)
 | [], bl, _ => rfl
 | s :: l, bl, h => by
  simp only [ct, akd, aj0] at h ⊢
  have h1 := rn bl s h.1
  rw [h1] at h ⊢
  simp only [] at h ⊢
  rw [pI l bl h.2]
theorem C5 (bl : List Blk) (x : TV) (h : dg (bJ bl x).1 = true) : bJ bl x = (x, bl) := by
 cases x with
 | v x =>
  simp only [bJ, dg] at h ⊢
  rw [rn bl x h]
 | tup l =>
  simp only [bJ, dg] at h ⊢
  rw [pI l bl h]


def SC (I : World -> Prop) (P : Program) (o : Oper) (s : St) (x : TV) (bl : List Blk) : Prop := ∀ (X : Cx I) a w lc, Rel X s a w lc ->
 ∃ g vs, (execOp a.eval o).run P w = .ok (.enter g vs) w /\ Calls P g vs w (fun e w' => ∃ v more X', e = .returned v /\ Below w.heap.size w w' /\ X.Le X' /\ aC X' (lc ++ more) x v /\ aK X' bl w' (lc ++ more))

def SCQ (I : World -> Prop) (P : Program) (o : Oper) (s : St) (x : TV) : Prop := ∀ (X : Cx I) a w lc, Rel X s a w lc ->
 ∃ v, aC X lc x v /\ ∀ w', Below w.heap.size w w' -> ∃ g vs, (execOp a.eval o).run P w' = .ok (.enter g vs) w' /\ Calls P g vs w' (fun e w'' => e = .returned v /\ Below w'.heap.size w' w'')

def bo (I : World -> Prop) (P : Program) (E : Env β) : Prop := ∀ g args K r, gK E.fns g args K = some r ->
 (∃ fn c, P.funcs[g]? = some fn /\ fn.body = some c /\ (fn.name == "runtime.NumGoroutine") = false) /\
 ∃ y, K y = some r /\ ∀ (X : Cx I) vs, cD X -> aB (aC X []) args vs -> Calls P g vs.toArray X.w0 (fun e w' => ∃ v, e = .returned v /\ dY X w' y v)

theorem EO {E : Env β} (h : ∀ g S, (g, S) ∈ E.fns -> ao I P g S) : bo I P E := by
 intro g args K r hr
 have key : ∀ l : List (FuncId × Spec β), (∀ g S, (g, S) ∈ l -> ao I P g S) -> gK l g args K = some r -> ∃ S, ao I P g S /\ S args K = some r := by
  intro l
  induction l with
  | nil => intro _ h; cases h
  | cons p l ih =>
   intro hl hr
   obtain ⟨u, S⟩ := p
   simp only [gK] at hr
   cases hb : Nat.beq u g with
   | true =>
    rw [hb] at hr
    have := aj3 hb
    subst this
    exact ⟨S, hl _ _ (by simp), hr⟩
   | false =>
    rw [hb] at hr
    exact ih (fun g S hg => hl g S (by simp [hg])) hr
 obtain ⟨S, h1, h2⟩ := key E.fns h hr
 exact ⟨h1.1, h1.2 args K r h2⟩

theorem EH {o : Oper} {c : Call} {f : Operand} (ho : o.op = .call c) (hc : c.callee = .value f) {a : Act} {g : FuncId} {fs vs : Array Value} (hf : a.eval f = .func (.func g) fs vs)
  (hg : ∃ fn c, P.funcs[g]? = some fn /\ fn.body = some c /\ (fn.name == "runtime.NumGoroutine") = false) (w : World) :
  (execOp a.eval o).run P w = .ok (.enter g ((fs ++ c.args.map a.eval) ++ vs)) w := by
 obtain ⟨fn, cd, h1, h2, h3⟩ := hg
 unfold execOp
 have h3' : ¬ fn.name = "runtime.NumGoroutine" := by simpa using h3
 simp [ho, resolve, hc, hf, Deferred.ofValue, invoke, callFunc, h1, h2, h3']
theorem xM {o : Oper} {c : Call} {f : Operand} (ho : o.op = .call c) (hc : c.callee = .value f) {a : Act} {g : FuncId} {vs : Array Value} (hf : a.eval f = .func (.func g) #[] vs)
  (hg : ∃ fn c, P.funcs[g]? = some fn /\ fn.body = some c /\ (fn.name == "runtime.NumGoroutine") = false) (w : World) :
  (execOp a.eval o).run P w = .ok (.enter g (c.args.map a.eval ++ vs)) w := by
 obtain ⟨fn, cd, h1, h2, h3⟩ := hg
 unfold execOp
 have h3' : ¬ fn.name = "runtime.NumGoroutine" := by simpa using h3
 simp [ho, resolve, hc, hf, Deferred.ofValue, invoke, callFunc, h1, h2, h3']

theorem wU {Y : Cx I} {cs : List (List FS × Nat)} {vs : List Value} (h : aB (fun c u => dw Y c.1 c.2 u) cs vs) : aB (aC Y []) (cs.map MF) vs := by
 induction h with
 | nil => exact .nil
 | cons h1 _ ih => exact .cons h1 ih

theorem Ex {l : List SV} (h : l.all bO = true) : ∀ bl, BQ bl l = (l, bl) := by
 induction l with
 | nil => intro bl; rfl
 | cons s l ih =>
  intro bl
  simp only [akd, aj0] at h
  have : zh bl s = (s, bl) := by cases s <;> first | rfl | cases h.1
  simp only [BQ, this, ih h.2]
theorem tg {x : AV} (h : cH x = true) (bl : List Blk) : BO bl x = (x, bl) := by
 cases x with
 | one s =>
  have : zh bl s = (s, bl) := by cases s <;> first | rfl | cases h
  simp only [BO, this]
 | agg l => simp only [BO, Ex h]
theorem xe (bl : List Blk) (s : SV) (h : bO (zh bl s).1 = true) : bO s = true := by
 cases s <;> try exact h
 rename_i j
 simp only [zh] at h
 split at h <;> cases h
theorem xd : ∀ (l : List SV) (bl : List Blk), (BQ bl l).1.all bO = true -> l.all bO = true
 | [], _, _ => rfl
 | s :: l, bl, h => by
  simp only [BQ, akd, aj0] at h ⊢
  exact ⟨xe bl s h.1, xd l _ h.2⟩
theorem xb (bl : List Blk) (x : AV) (h : cH (BO bl x).1 = true) : cH x = true := by
 cases x with
 | one s => exact xe bl s h
 | agg l => exact xd l bl h
theorem th : ∀ (l : List AV) (bl : List Blk), (qV bl l).1.all cH = true -> l.all cH = true /\ qV bl l = (l, bl)
 | [], _, _ => ⟨rfl, rfl⟩
 | s :: l, bl, h => by
  simp only [qV, akd, aj0] at h
  have h1 := xb bl s h.1
  have h2 := tg h1 bl
  rw [h2] at h
  obtain ⟨h3, h4⟩ := th l bl h.2
  exact ⟨by simp only [akd, aj0]; exact ⟨h1, h3⟩, by simp only [qV, h2, h4]⟩
theorem Js (bl : List Blk) (x : TV) (h : dg (zi bl x).1 = true) : zi bl x = (x, bl) := by
 cases x with
 | v x => simp only [zi, tg (xb bl x h)]
 | tup l => simp only [zi, (th l bl h).2]

theorem l9 {E : Env β} (hE : bo I P E) {o : Oper} {c : Call} {f : Operand} {s : St} {g : FuncId} {xs : List TV} {bl0 : List Blk} {fl : Bool} {K : TV -> St -> Option β} {r : β} (ho : o.op = .call c) (hc : c.callee = .value f)
  (hargs : ∀ (X : Cx I) a w lc, Rel X s a w lc -> ∃ X0 fs vs, X.Le X0 /\ a.eval f = .func (.func g) fs vs /\ ∃ hW : aK X0 bl0 w lc, aB (aC (X0.call w hW.below) []) xs (fs.toList ++ ((c.args.map a.eval).toList ++ vs.toList)))
  (h : gK E.fns g xs (fun r => KM fl s.tmps bl0 r K) = some r) :
  ∃ x bl, K x ⟨s.tmps, bl⟩ = some r /\ SC I P o s x bl /\ (bl0 = s.blks -> dg x = true -> bl = s.blks /\ SCQ I P o s x) := by
 obtain ⟨hg, y, hy, hcall⟩ := hE g xs _ r h
 have calls : ∀ (X : Cx I) a w lc, Rel X s a w lc -> ∃ g vs, (execOp a.eval o).run P w = .ok (.enter g vs) w /\ Calls P g vs w (fun e w' => ∃ v more X', e = .returned v /\ Below w.heap.size w w' /\ X.Le X' /\ aC X' (lc ++ more) (bJ bl0 y).1 v /\ aK X' (bJ bl0 y).2 w' (lc ++ more)) := by
  intro X a w lc hR
  obtain ⟨X0, fs, vs, hle0, hf, hW0, hrel⟩ := hargs X a w lc hR
  refine ⟨g, _, EH ho hc hf hg w, ?_⟩
  have := hcall (X0.call w hW0.below) _ (yY hW0) hrel
  rw [show (fs.toList ++ ((c.args.map a.eval).toList ++ vs.toList)).toArray = (fs ++ c.args.map a.eval) ++ vs by simp] at this
  refine this.mono fun e w' ⟨v, he, X2, lc2, hle, h1, h2, h3⟩ => ?_
  obtain ⟨j1, j2⟩ := hW0.join hle h1 (ER [] y rfl)
  have hbel : Below w.heap.size w w' := by
   obtain ⟨ft, fw, _, _, _⟩ := hle
   exact ⟨h1.below.os, h1.below.tape, h1.below.output, h1.below.size, fun k hk => h1.below.block k ((yY hW0).old hk)⟩
  have e1 := (C6 bl0 [] y h3).1
  rw [akh] at e1
  refine ⟨v, lc2, _, he, hbel, hle0.trans j1, ?_, ?_⟩
  ·rw [e1, <- hW0.len]
   exact T2 (X := X0.grow X2.ft X2.fw) (X' := X2) rfl rfl (C6 bl0 [] y h3).2 h2
  ·rw [e1]
   exact j2
 have plain : dg (bJ bl0 y).1 = true -> bl0 = s.blks -> (bJ bl0 y).2 = s.blks /\ SCQ I P o s (bJ bl0 y).1 := fun hp hb0 => by
  subst hb0
  have ht := C5 s.blks y hp
  rw [ht] at hp ⊢
  refine ⟨rfl, fun X a w lc hR => ⟨O9 y, (jD hp).2 rfl, fun w' hb => ?_⟩⟩
  obtain ⟨g, vs, h1, h2⟩ := calls X a w' lc ⟨hR.tmps, hR.world.later hb, hR.defers⟩
  refine ⟨g, vs, h1, h2.mono fun e w'' ⟨v, more, X', he, hb2, _, hv, _⟩ => ⟨?_, hb2⟩⟩
  rw [ht] at hv
  rw [he, (jD hp).1 hv]
 unfold KM at hy
 simp only at hy
 cases fl with
 | false =>
  simp only [ajY] at hy
  exact ⟨_, _, hy, calls, fun hb0 hp => plain hp hb0⟩
 | true =>
  simp only [ajZ] at hy
  refine ⟨_, _, hy, fun X a w lc hR => ?_, fun hb0 hp => ?_⟩
  ·obtain ⟨g, vs, h1, h2⟩ := calls X a w lc hR
   refine ⟨g, vs, h1, h2.mono fun e w' ⟨v, more, X', he, hb, hle, hv, hW⟩ => ?_⟩
   obtain ⟨X2, b1, b2, b3⟩ := tj hW hv
   exact ⟨v, more, X2, he, hb, hle.trans b1, b3, b2⟩
  ·have hk := Js _ _ hp
   rw [hk] at hp ⊢
   exact plain hp hb0


def Ly (bl : List Blk) (vps : List Value) (rs : List Row) (w' : World) : Prop :=
 rs.length = bl.length /\ ∀ (k i : Nat) t q0 v q, bl[k]? = some (.prow i t q0) -> vps[k]? = some v -> rs[k]? = some q -> q.deep = false /\ w'.ownsRow 0 t q.sz v q.len q.cells

def V0 (I : World -> Prop) (P : Program) (g : FuncId) (MS : mP β) : Prop :=
 (∃ fn c, P.funcs[g]? = some fn /\ fn.body = some c /\ (fn.name == "runtime.NumGoroutine") = false) /\
 ∀ args bl K r, MS args bl K = some r -> ∃ y rs, K y rs = some r /\ ∀ (X : Cx I) vs, X.gp = [] -> aK X bl X.w0 (X.pins.map Loc.r) -> aB (aC X (X.pins.map Loc.r)) args vs ->
  Calls P g vs.toArray X.w0 (fun e w' => ∃ v, e = .returned v /\ (dg y = true -> v = O9 y) /\ bx X w' /\ Ly bl X.pins rs w')

def cl (I : World -> Prop) (P : Program) (E : Env β) : Prop := ∀ g MS, NI E.muts g = some MS -> V0 I P g MS

theorem vB : ∀ (js : List Nat) (rs : List Row) (bl bl' : List Blk), Dc bl js rs = some bl' -> js.Nodup ->
  bl'.length = bl.length /\ (∀ i, i ∉ js -> bl'[i]? = bl[i]?) /\ ∀ (k j : Nat) r, js[k]? = some j -> rs[k]? = some r -> j < bl.length -> bl'[j]? = some ((nth .dead bl j).with_ r)
 | [], [], bl, bl', h, _ => by simp only [Dc, aj1] at h; subst h; exact ⟨rfl, fun _ _ => rfl, fun k j r hk => by simp at hk⟩
 | [], _ :: _, _, _, h, _ => by cases h
 | _ :: _, [], _, _, h, _ => by cases h
 | j :: js, r :: rs, bl, bl', h, hn => by
  simp only [Dc] at h
  obtain ⟨hj, hn⟩ := alN.1 hn
  obtain ⟨h1, h2, h3⟩ := vB js rs _ bl' h hn
  rw [bS, akA] at h1
  refine ⟨h1, fun i hi => ?_, fun k i q hk hq hlt => ?_⟩
  ·simp only [akf, not_or] at hi
   rw [h2 i hi.2, bS, amK (Ne.symm hi.1)]
  ·cases k with
   | zero =>
    simp only [amE, aj1] at hk hq
    subst hk; subst hq
    rw [h2 j hj, bS, amL hlt]
   | succ k =>
    simp only [amD] at hk hq
    have hne : i ≠ j := fun e => hj (by rw [<- e]; exact amP hk)
    have := h3 k i q hk hq (by rw [bS, akA]; exact hlt)
    rw [this]
    have e : nth Blk.dead (put bl j ((nth .dead bl j).with_ r)) i = nth .dead bl i := by
     refine Ep ?_
     rw [bS, amK (Ne.symm hne)]
     exact jy hlt
    rw [e]

theorem q7 : ∀ (bs : List Blk) (k : Nat) (l : List Blk), pinned bs k = some l -> l.length = bs.length /\ ∀ (i : Nat) b, bs[i]? = some b -> ∃ t q, b.rowOf = some (t, q) /\ l[i]? = some (.prow (k + i) t q)
 | [], k, l, h => by simp only [pinned, aj1] at h; subst h; exact ⟨rfl, fun i b h => by simp at h⟩
 | b :: bs, k, l, h => by
  simp only [pinned] at h
  split at h
  ·rename_i t q l' hb hl
   simp only [aj1] at h
   subst h
   obtain ⟨h1, h2⟩ := q7 bs (k + 1) l' hl
   refine ⟨by simp [h1], fun i b' hi => ?_⟩
   cases i with
   | zero => simp only [amE, aj1] at hi; subst hi; exact ⟨t, q, hb, rfl⟩
   | succ i =>
    obtain ⟨t', q', h3, h4⟩ := h2 i b' (by simpa using hi)
    exact ⟨t', q', h3, by simpa [ak2, Nat.add_comm 1] using h4⟩
  ·cases h

theorem BX {n : Nat} : ∀ {l : List Nat} {i : Nat}, n ∈ l -> ∃ m, nF n l i = some (i + m) /\ l[m]? = some n
 | x :: l, i, h => by
  simp only [nF]
  cases hb : Nat.beq x n with
  | true => exact ⟨0, rfl, by simp [aj3 hb]⟩
  | false =>
   rcases akf.1 h with rfl | h
   ·rw [show Nat.beq n n = true from alV n] at hb; cases hb
   ·obtain ⟨m, h1, h2⟩ := BX (i := i + 1) h
    exact ⟨m + 1, by simp only [ajY]; rw [h1]; congr 1; omega, by simpa using h2⟩

section
variable {X' : Cx I} {js : List Nat} {vps : List Value}
theorem Cd (hv : ∀ (i j : Nat) v, js[i]? = some j -> lc[j]? = some (.r v) -> vps[i]? = some v) {s : SV} {v : Value} (hm : NJ s = true) (hr : ∀ j ∈ eB s, j ∈ js) (h : aD X lc s v) : aD X' (vps.map Loc.r) (gJ js s) v := by
 cases s <;> simp only [NJ, bO, akN] at hm <;> try exact h
 rename_i j
 obtain ⟨m, h1, h2⟩ := BX (i := 0) (hr j (by simp [eB]))
 simp only [gJ, h1]
 obtain ⟨h3, h4⟩ := h
 exact ⟨by simp [hv m j v h2 h3], h4⟩
theorem NK (hv : ∀ (i j : Nat) v, js[i]? = some j -> lc[j]? = some (.r v) -> vps[i]? = some v) {x : TV} {v : Value} (hm : Zh x = true) (hr : ∀ j ∈ dK x, j ∈ js) (h : aC X lc x v) : aC X' (vps.map Loc.r) (nL js x) v := by
 cases x with
 | tup _ => cases hm
 | v x =>
  cases x with
  | one s => exact Cd hv hm hr h
  | agg l =>
   obtain ⟨cs, h1, h2⟩ := h
   refine ⟨cs, h1, ?_⟩
   have hm : l.all NJ = true := hm
   have hr : ∀ j ∈ l.flatMap eB, j ∈ js := hr
   show aB _ (l.map (gJ js)) cs.toList
   generalize cs.toList = vs at h2 ⊢
   induction h2 with
   | nil => exact .nil
   | cons h3 _ ih =>
    simp only [akd, aj0] at hm
    have hr2 : ∀ j ∈ List.flatMap eB _, j ∈ js := fun j hj => hr j (List.mem_append_right _ hj)
    exact .cons (Cd hv hm.1 (fun j hj => hr j (List.mem_append_left _ hj)) h3) (ih hm.2 hr2 hm.2 hr2)
end

theorem xw : ∀ {l : List Nat}, nI l = true -> l.Nodup
 | [], _ => .nil
 | x :: l, h => by
  simp only [nI, aj0, akm, List.any_eq_false] at h
  refine alN.2 ⟨fun hx => ?_, xw h.2⟩
  exact h.1 x hx (alV x)

def SM (I : World -> Prop) (P : Program) (o : Oper) (s : St) (x : TV) (bl : List Blk) : Prop := ∀ (X : Cx I) a w lc, Rel X s a w lc ->
 ∃ g vs, (execOp a.eval o).run P w = .ok (.enter g vs) w /\ Calls P g vs w (fun e w' => ∃ v, e = .returned v /\ aC X lc x v /\ aK X bl w' lc)

theorem NL {o : Oper} {c : Call} {f : Operand} {s : St} {g : FuncId} {MS : mP β} (hM : V0 I P g MS) {K : TV -> St -> Option β} {r : β} (ho : o.op = .call c) (hc : c.callee = .value f) (hv : (aF s f).sv = .fn g [])
  (h : ML MS (c.args.toList.map (aF s)) s K = some r) : ∃ x bl, K x ⟨s.tmps, bl⟩ = some r /\ SM I P o s x bl := by
 unfold ML at h
 simp only at h
 obtain ⟨hb, h⟩ := aH h
 simp only [aj0, aku] at hb
 obtain ⟨hm, hn⟩ := hb
 have hn := xw hn
 generalize hjs : (c.args.toList.map (aF s)).flatMap dK = js at h hn
 split at h
 ·rename_i bs hbs
  obtain ⟨hlen, hpin⟩ := q7 _ _ _ hbs
  obtain ⟨y, rs, hK, hcall⟩ := hM.2 _ _ _ _ h
  split at hK
  ·rename_i bl hbl
   obtain ⟨hpl, hK⟩ := aH hK
   refine ⟨y, bl, hK, fun X a w lc hR => ?_⟩
   have hW := hR.world
   obtain ⟨u1, u2, u3⟩ := vB _ _ _ _ hbl hn
   -- the rows' values
   have hat : ∀ (i j : Nat), js[i]? = some j -> ∃ t q v, (nth Blk.dead s.blks j).rowOf = some (t, q) /\ bs[i]? = some (.prow i t q) /\ lc[j]? = some (.r v) /\ ∃ xs, q.cellsIn X.ft X.fw xs /\ w.ownsRow 0 t q.sz v q.len xs := by
    intro i j hij
    obtain ⟨t, q, h1, h2⟩ := hpin i (nth .dead s.blks j) (by simp [hij])
    obtain ⟨hb1, hb2⟩ := aR h1
    have hl : j < lc.length := by rw [hW.len]; exact (amH.1 hb1).1
    obtain ⟨v, hv, how⟩ := cq (hW.blks j _ _ hb1 (amF hl)) h1
    exact ⟨t, q, v, h1, by simpa using h2, by rw [amF hl, hv], how⟩
   obtain ⟨vps, hvl, hvp⟩ : ∃ vps : List Value, vps.length = js.length /\ ∀ (i j : Nat), js[i]? = some j -> ∃ v, vps[i]? = some v /\ lc[j]? = some (.r v) := by
    refine ⟨js.map fun j => match lc[j]? with | some (Loc.r v) => v | _ => undef, by simp, fun i j hij => ?_⟩
    obtain ⟨t, q, v, _, _, h3, _⟩ := hat i j hij
    exact ⟨v, by simp [hij, h3], h3⟩
   have hvs : ∀ (i j : Nat) v, js[i]? = some j -> lc[j]? = some (.r v) -> vps[i]? = some v := fun i j v hij hl => by
    obtain ⟨v', h1, h2⟩ := hvp i j hij
    rw [hl] at h2
    simp only [aj1, Loc.r.injEq] at h2
    rw [h1, h2]
   have hbsl : bs.length = js.length := by rw [hlen]; simp
   -- a block of ours that was handed over
   have pinMine : ∀ v ∈ vps, ∀ gg, v.ownBlock = some gg -> ∃ j t q, j ∈ js /\ (nth Blk.dead s.blks j).rowOf = some (t, q) /\ lc[j]? = some (.r v) := fun v hvm gg _ => by
    obtain ⟨i, hi⟩ := amO.1 hvm
    have hi' : i < js.length := by rw [<- hvl]; exact (amH.1 hi).1
    obtain ⟨t, q, v2, h1, _, h3, _⟩ := hat i _ (amF hi')
    have := hvs i _ v2 (amF hi') h3
    rw [hi] at this
    simp only [aj1] at this
    subst this
    exact ⟨_, t, q, akn hi', h1, h3⟩
   have pin_ : ∀ v ∈ vps, ∀ gg, v.ownBlock = some gg -> X.mine gg /\ ¬ X.ft gg := fun v hvm gg hvg => by
    obtain ⟨j, t, q, hj, h1, h3⟩ := pinMine v hvm gg hvg
    exact ⟨(Loc.lt (hW.blks j _ _ (aR h1).1 h3) (aR h1).2 hvg).1, hW.frn j _ _ gg (aR h1).1 (aR h1).2 h3 hvg⟩
   obtain ⟨Y, hYw, hYp, hYg, hYf, hYfw⟩ : ∃ Y : Cx I, Y.w0 = w /\ Y.pins = vps /\ Y.gp = [] /\ Y.ft = X.ft /\ Y.fw = X.fw :=
    ⟨⟨w, vps, [], fun _ => False, X.ft, X.fw, fun _ h => h.elim, fun w2 hw2 => X.keep w2 fun k h1 h2 h3 => (hw2 k (aka h1 hW.below.size) (fun v hv e => Cx.mine_old (pin_ v hv k e).1 ⟨h1, h2, h3⟩) (by simp)).trans (hW.below.block k ⟨h1, h2, h3⟩)⟩, rfl, rfl, rfl, rfl, rfl⟩
   subst hYw
   have hW' : aK Y bs Y.w0 (vps.map Loc.r) := by
    refine ⟨by rw [akx, hvl, hbsl], fun i b ℓ hb hl => ?_, fun i k bi bk li lk gg hik hi hk _ _ hli hlk hgi hgk => ?_, ⟨rfl, rfl, rfl, aj8 _, fun _ _ => rfl⟩, by rw [hYf, hYfw]; exact hW.frz, fun i b ℓ gg hb _ hl hg => by
     rw [hYf]
     obtain ⟨v, hv, rfl⟩ := akq.1 (amP hl)
     exact (pin_ v hv gg hg).2⟩
    ·have hi : i < js.length := by rw [<- hbsl]; exact (amH.1 hb).1
     obtain ⟨t, q, v, h1, h2, h3, h4⟩ := hat i _ (amF hi)
     rw [hb] at h2
     simp only [aj1] at h2
     subst h2
     have h5 := hvs i _ v (amF hi) h3
     simp only [amI, h5, akB, aj1] at hl
     subst hl
     refine ⟨by rw [hYp]; exact h5, ?_⟩
     rw [hYf, hYfw]; exact h4
    ·have hi' : i < js.length := by rw [<- hbsl]; exact (amH.1 hi).1
     have hk' : k < js.length := by rw [<- hbsl]; exact (amH.1 hk).1
     obtain ⟨t, q, v, h1, _, h3, _⟩ := hat i _ (amF hi')
     obtain ⟨t2, q2, v2, h12, _, h32, _⟩ := hat k _ (amF hk')
     have e1 := hvs i _ v (amF hi') h3
     have e2 := hvs k _ v2 (amF hk') h32
     simp only [amI, e1, akB, aj1] at hli
     simp only [amI, e2, akB, aj1] at hlk
     subst hli; subst hlk
     have hne : js[i] ≠ js[k] := fun e => by
      rcases Nat.lt_or_gt_of_ne hik with hlt | hlt
      ·exact aln.1 hn i k hi' hk' hlt e
      ·exact aln.1 hn k i hk' hi' hlt e.symm
     exact hW.apart _ _ _ _ _ _ gg hne (aR h1).1 (aR h12).1 (aR h1).2 (aR h12).2 h3 h32 hgi hgk
   have hargs : aB (aC Y (vps.map Loc.r)) ((c.args.toList.map (aF s)).map (nL js)) (c.args.map a.eval).toList := by
    rw [akY, alU]
    have hsub : ∀ x ∈ c.args.toList, Zh (aF s x) = true /\ ∀ j ∈ dK (aF s x), j ∈ js := fun x hx => by
     refine ⟨hm _ (akq.2 ⟨x, hx, rfl⟩), fun j hj => ?_⟩
     rw [<- hjs]
     exact alq.2 ⟨_, akq.2 ⟨x, hx, rfl⟩, hj⟩
    generalize c.args.toList = xs at hsub
    induction xs with
    | nil => exact .nil
    | cons x xs ih => exact .cons (NK hvs (hsub x (by simp)).1 (hsub x (by simp)).2 (az hR.tmps x)) (ih fun x hx => hsub x (by simp [hx]))
   have hf : a.eval f = .func (.func g) #[] #[] := by
    obtain ⟨vs, h1, h2⟩ := aN (az (X := X) hR.tmps f) hv
    have : vs = #[] := by cases vs; cases h2; rfl
    rw [h1, this]
   refine ⟨g, _, xM ho hc hf hM.1 Y.w0, ?_⟩
   have := hcall Y _ hYg (by rw [hYp]; exact hW') (by rw [hYp]; exact hargs)
   rw [show (c.args.map a.eval).toList.toArray = c.args.map a.eval ++ #[] from by rw [Array.append_empty]] at this
   refine this.mono fun e w' ⟨v, he, hval, hbel, hrl, hback⟩ => ⟨v, he, (jD hpl).2 (hval hpl), ?_⟩
   rw [hYp] at hback
   -- a block of ours that was not handed over
   have kept : ∀ (i : Nat) b ℓ gg, i ∉ js -> s.blks[i]? = some b -> b.on = true -> lc[i]? = some ℓ -> ℓ.blk = some gg -> w'.heap[gg]? = Y.w0.heap[gg]? := fun i b ℓ gg hi hb hon hl hg => by
    refine hbel.block gg ⟨(Loc.lt (hW.blks i b ℓ hb hl) hon hg).2, fun v hvm hvg => ?_, by rw [hYg]; simp⟩
    rw [hYp] at hvm
    obtain ⟨j, t, q, hj, h1, h3⟩ := pinMine v hvm gg hvg
    exact hW.apart i j b _ ℓ _ gg (fun e => hi (e ▸ hj)) hb (aR h1).1 hon (aR h1).2 hl h3 hg hvg
   have onw : ∀ (b : Blk) q, (b.with_ q).on = b.on := fun b q => by cases b <;> rfl
   have back : ∀ (i : Nat) b, bl[i]? = some b -> (i ∉ js /\ s.blks[i]? = some b) \/ ∃ k q, js[k]? = some i /\ rs[k]? = some q /\ b = (nth .dead s.blks i).with_ q := fun i b hb => by
    by_cases hi : i ∈ js
    ·right
     obtain ⟨k, hk⟩ := amO.1 hi
     have hkl : k < rs.length := by rw [hrl, hbsl]; exact (amH.1 hk).1
     have := u3 k i _ hk (amF hkl) (by rw [<- u1]; exact (amH.1 hb).1)
     rw [hb] at this
     exact ⟨k, _, hk, amF hkl, by simpa using this⟩
    ·exact .inl ⟨hi, by rw [<- u2 i hi]; exact hb⟩
   have wasOn : ∀ (i : Nat) b, bl[i]? = some b -> b.on = true -> ∃ b0, s.blks[i]? = some b0 /\ b0.on = true := fun i b hb hon => by
    rcases back i b hb with ⟨_, h1⟩ | ⟨k, q, hk, _, he⟩
    ·exact ⟨b, h1, hon⟩
    ·obtain ⟨t, q2, _, h1, _⟩ := hat k i hk
     exact ⟨_, (aR h1).1, (aR h1).2⟩
   refine ⟨by rw [u1]; exact hW.len, fun i b ℓ hb hl => ?_, fun i j bi bj li lj gg hij hi hj oni onj hli hlj hgi hgj => ?_, ?_, fun k hk => ?_, fun i b ℓ gg hb hon hl hg => ?_⟩
   ·rcases back i b hb with ⟨hi, h1⟩ | ⟨k, q, hk, hq, rfl⟩
    ·exact (hW.blks i b ℓ h1 hl).kept fun gg hon hg => kept i b ℓ gg hi h1 hon hl hg
    ·obtain ⟨t, q0, v0, h1, h2, h3, h4⟩ := hat k i hk
     rw [hl] at h3
     simp only [aj1] at h3
     subst h3
     obtain ⟨hdeep, hback'⟩ := hback k k t q0 v0 q h2 (hvs k i v0 hk hl) hq
     have hin : q.cellsIn X.ft X.fw q.cells := (Row.in_plain hdeep).2 rfl
     have hold := hW.blks i _ _ (aR h1).1 hl
     cases hbb : nth Blk.dead s.blks i with
     | mp _ _ => rw [hbb] at h1; cases h1
     | pcells _ _ _ => rw [hbb] at h1; cases h1
     | pmp _ _ _ => rw [hbb] at h1; cases h1
     | srow _ _ => rw [hbb] at h1; cases h1
     | cells _ _ => rw [hbb] at h1; cases h1
     | dead => rw [hbb] at h1; cases h1
     | row t2 r2 =>
      rw [hbb] at h1 hold
      simp only [Blk.rowOf, aj1, akp] at h1
      obtain ⟨rfl, rfl⟩ := h1
      exact ⟨hold.1, _, hin, hback'⟩
     | prow k2 t2 r2 =>
      rw [hbb] at h1 hold
      simp only [Blk.rowOf, aj1, akp] at h1
      obtain ⟨rfl, rfl⟩ := h1
      exact ⟨hold.1, _, hin, hback'⟩
   ·obtain ⟨b1, h1, h2⟩ := wasOn i bi hi oni
    obtain ⟨b2, h3, h4⟩ := wasOn j bj hj onj
    exact hW.apart i j b1 b2 li lj gg hij h1 h3 h2 h4 hli hlj hgi hgj
   ·refine ⟨hbel.os.trans hW.below.os, hbel.tape.trans hW.below.tape, hbel.output.trans hW.below.output, akz hW.below.size hbel.size, fun k hk => ?_⟩
    refine (hbel.block k ⟨aka hk.1 hW.below.size, fun v hvm hvg => ?_, by rw [hYg]; simp⟩).trans (hW.below.block k hk)
    rw [hYp] at hvm
    exact Cx.mine_old (pin_ v hvm k hvg).1 hk
   ·obtain ⟨z1, z2⟩ := hW.frz k hk
    refine ⟨aka z1 hbel.size, (hbel.block k ⟨z1, fun v hvm hvg => ?_, by rw [hYg]; simp⟩).trans z2⟩
    rw [hYp] at hvm
    exact (pin_ v hvm k hvg).2 hk
   ·obtain ⟨b1, h1, h2⟩ := wasOn i b hb hon
    exact hW.frn i b1 ℓ gg h1 h2 hl hg
  ·cases hK
 ·cases h

end
end Go.Rv
