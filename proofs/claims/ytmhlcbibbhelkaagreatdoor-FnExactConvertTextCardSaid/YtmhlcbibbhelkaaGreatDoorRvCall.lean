/- Calls: what is handed over, and what comes back. -/
import Derived.Test.YtmhlcbibbhelkaaGreatDoorRvRun
namespace Go.Rv
set_option linter.unusedSimpArgs false
open Go.RowKit (Below)
section
variable {I : World → Prop} {P : Program} {L : Lay} {X : Cx I} {lc : List Loc} {β : Type} {w : World} {bl : List Blk}

theorem dx {q : Row} {v : Value} (h : dL X q v) (hb : bx X w) : dL (X.call w hb) q v :=
 bf.mono (fun k hk => ag9 (X.sub k hk).1 hb.size) (fun k hk => hb.block k (X.sub k hk)) h
theorem gy {q : Row} {v : Value} (hW : aK X bl w lc) (h : fL X q v) : dL (X.call w hW.below) q v :=
 bf.mono (fun k hk => (hW.frz k hk).1) (fun k hk => (hW.frz k hk).2) h
theorem yj (hW : aK X bl w lc) : cD (X.call w hW.below) := ⟨rfl, rfl, fun _ h => h, hW.frz⟩

theorem BT {f : FSf} {v : Value} (h : fS X f v) (hb : bx X w) : fS (X.call w hb) f v := by
 cases f <;> simp only [fS] at h ⊢ <;> try exact h
 exact dx h hb
theorem A7 {l : List FSf} {off : Nat} {v : Value} (h : dZ X l off v) (hb : bx X w) : dZ (X.call w hb) l off v := by
 obtain ⟨a, h1, h2, h3⟩ := h
 refine ⟨a, h1, ag9 (X.sub _ h2).1 hb.size, fun m f hm => ?_⟩
 obtain ⟨u, hu, hr⟩ := h3 m f hm
 have hbl : X.old ((a.add m).block) := by rw [bL]; exact X.sub _ h2
 exact ⟨u, by show w.cell? _ = _; rw [hb.cell (p := a.add m) hbl]; exact hu, BT hr hb⟩
theorem mU {f : FS} {v : Value} (h : hO X f v) (hb : bx X w) : hO (X.call w hb) f v := by
 cases f <;> simp only [hO] at h ⊢ <;> try exact h
 ·exact dx h hb
 ·exact A7 h hb

theorem mI {l : List FS} {off : Nat} {v : Value} (h : dw X l off v) (hb : bx X w) : dw (X.call w hb) l off v := by
 obtain ⟨a, h1, h2, h3⟩ := h
 refine ⟨a, h1, ag9 (X.sub _ h2).1 hb.size, fun m f hm => ?_⟩
 obtain ⟨u, hu, hr⟩ := h3 m f hm
 have hbl : X.old ((a.add m).block) := by rw [bL]; exact X.sub _ h2
 exact ⟨u, by show w.cell? _ = _; rw [hb.cell (p := a.add m) hbl]; exact hu, mU hr hb⟩

theorem mW (hW : aK X bl w lc) {j : Nat} {t : TypeId} {q : Row} {v : Value} (hb : (nth Blk.dead bl j).rowOf = some (t, q)) (h : lc[j]? = some (.r v)) : dL (X.call w hW.below) q v := by
 have hB := hW.blks j _ _ (aR hb).1 h
 obtain ⟨v', hv', xs, hin, hown⟩ := cq hB hb
 simp only [Loc.r.injEq] at hv'
 subst hv'
 exact tM (S := fun k => k < w.heap.size) hown (cellsIn.mono (fun k hk => (hW.frz k hk).1) (fun k hk => (hW.frz k hk).2) hin) fun g hg => (Loc.lt hB (aR hb).2 hg).2

theorem Ip (hW : aK X bl w lc) {s : SV} {v : Value} (h : aD X lc s v) : fS (X.call w hW.below) (Gk bl s) v := by
 have hb := hW.below
 cases s <;> simp only [aD] at h <;> simp only [Gk, fS] <;> try exact h
 ·rename_i j
  cases hblk : (nth Blk.dead bl j).rowOf with
  | none => trivial
  | some p =>
   obtain ⟨t, q⟩ := p
   exact mW hW hblk h.1
 ·exact dx h hb
 ·rename_i f caps
  cases caps with
  | nil =>
   obtain ⟨vs, h1, h2⟩ := h
   have : vs = #[] := by cases vs; cases h2; rfl
   subst this; exact h1
  | cons _ _ => trivial
 ·exact gy hW h.1
theorem A4 (hW : aK X bl w lc) {j off : Nat} {t : TypeId} {l : List SV} {v : Value} (hblk : (nth Blk.dead bl j).cellsOf = some (t, l)) (h : dC lc (j, off) v) : dZ (X.call w hW.below) (l.map (Gk bl)) off v := by
 obtain ⟨g, hg, rfl⟩ := h
 obtain ⟨cs, hh, hcs⟩ := dm (hW.blks j _ _ (cV hblk).1 hg) hblk
 refine ⟨_, rfl, (ajv.1 hh).1, fun m f hm => ?_⟩
 rw [ajF] at hm
 cases hl : l[off + m]? with
 | none => rw [hl] at hm; cases hm
 | some s =>
  rw [hl] at hm
  simp only [ahA, ag0] at hm
  subst hm
  obtain ⟨u, hu, hr⟩ := hcs.get _ _ hl
  refine ⟨u, ?_, Ip hW hr⟩
  rw [ahL]
  show w.cell? _ = _
  rw [cell_of_row w g (off + m) cs t (0, 0) hh]
  simpa using hu
theorem N8 (hW : aK X bl w lc) {s : SV} {v : Value} (h : aD X lc s v) : hO (X.call w hW.below) (Cu bl s) v := by
 have hb := hW.below
 cases s <;> simp only [aD] at h <;> simp only [Cu, hO] <;> try exact h
 ·rename_i j off
  cases hblk : (nth Blk.dead bl j).cellsOf with
  | none => trivial
  | some p =>
   obtain ⟨t, l⟩ := p
   exact A4 hW hblk h
 ·rename_i j
  cases hblk : (nth Blk.dead bl j).rowOf with
  | none => trivial
  | some p =>
   obtain ⟨t, q⟩ := p
   exact mW hW hblk h.1
 ·exact dx h hb
 ·rename_i f caps
  cases caps with
  | nil =>
   obtain ⟨vs, h1, h2⟩ := h
   have : vs = #[] := by cases vs; cases h2; rfl
   subst this; exact h1
  | cons _ _ => trivial
 ·exact gy hW h.1

theorem sB (hW : aK X bl w lc) {j off : Nat} {t : TypeId} {l : List SV} {v : Value} (hblk : (nth Blk.dead bl j).cellsOf = some (t, l)) (h : dC lc (j, off) v) : dw (X.call w hW.below) (l.map (Cu bl)) off v := by
 obtain ⟨g, hg, rfl⟩ := h
 obtain ⟨cs, hh, hcs⟩ := dm (hW.blks j _ _ (cV hblk).1 hg) hblk
 refine ⟨_, rfl, (ajv.1 hh).1, fun m f hm => ?_⟩
 rw [ajF] at hm
 cases hl : l[off + m]? with
 | none => rw [hl] at hm; cases hm
 | some s =>
  rw [hl] at hm
  simp only [ahA, ag0] at hm
  subst hm
  obtain ⟨u, hu, hr⟩ := hcs.get _ _ hl
  refine ⟨u, ?_, N8 hW hr⟩
  rw [ahL]
  show w.cell? _ = _
  rw [cell_of_row w g (off + m) cs t (0, 0) hh]
  simpa using hu

theorem qf (hW : aK X bl w lc) : ∀ (caps : List (Nat × Nat)) (l : List (List FS × Nat)) (vs : List Value), sA bl caps = some l → aB (dC lc) caps vs → aB (fun c u => dw (X.call w hW.below) c.1 c.2 u) l vs
 | [], l, vs, h, hv => by cases hv; simp only [sA, ag0] at h; subst h; exact .nil
 | (j, o) :: cs, l, vs, h, hv => by
  cases hv with
  | cons h1 h2 =>
  simp only [sA] at h
  split at h
  ·rename_i t l' rest hb hr
   simp only [ag0] at h
   subst h
   exact .cons (sB hW hb h1) (qf hW cs rest _ hr h2)
  ·cases h

theorem vS (hW : aK X bl w lc) {s : SV} {v : Value} (h : aD X lc s v) (ha : Qs (oY bl s) = true) : aD (X.call w hW.below) [] (oY bl s) v := by
 have hb := hW.below
 cases s with
 | int k n => exact h
 | bool b => exact h
 | str b => exact h
 | ptr j off =>
  simp only [oY] at ha ⊢
  cases hblk : (nth Blk.dead bl j).cellsOf with
  | some p => obtain ⟨t, l⟩ := p; exact sB hW hblk h
  | none => rw [hblk] at ha; cases ha
 | row j =>
  simp only [oY] at ha ⊢
  cases hblk : (nth Blk.dead bl j).rowOf with
  | some p => obtain ⟨t, q⟩ := p; exact mW hW hblk h.1
  | none => rw [hblk] at ha; cases ha
 | sl t q => exact dx h hb
 | elt j z i off => cases ha
 | suf j i => cases ha
 | fpt q => cases ha
 | ref q i off => cases ha
 | fn f caps =>
  cases caps with
  | nil =>
   obtain ⟨vs, h1, h2⟩ := h
   exact ⟨vs, h1, by cases vs; cases h2; exact .nil⟩
  | cons c cs =>
   simp only [oY] at ha ⊢
   cases hc : sA bl (c :: cs) with
   | none => rw [hc] at ha; cases ha
   | some l =>
    obtain ⟨vs, h1, h2⟩ := h
    exact ⟨vs, h1, qf hW _ _ _ hc h2⟩
 | cref l off => exact mI h hb
 | dfn f caps =>
  obtain ⟨vs, h1, h2⟩ := h
  exact ⟨vs, h1, h2.mono fun _ _ h => mI h hb⟩
 | mp j => cases ha
 | nilp => cases ha
 | nilm => cases ha
 | no => cases ha
 | und => cases ha
 | fsl t q => exact gy hW h.1
 | fref q i off => cases ha
 | tr two T => exact h
 | tra two T off => cases ha
 | nilf => cases ha
 | bfn f l => obtain ⟨cs, h1, h2⟩ := h; exact ⟨cs, h1, h2.mono fun _ _ h => mU h hb⟩

theorem Hr (hW : aK X bl w lc) {x : TV} {v : Value} (h : aC X lc x v) (ha : abK (Fu bl x) = true) : aC (X.call w hW.below) [] (Fu bl x) v := by
 cases x with
 | tup _ => cases ha
 | v x => cases x with
  | one s => exact vS hW h ha
  | agg l =>
   obtain ⟨cs, rfl, hcs⟩ := h
   refine ⟨cs, rfl, ?_⟩
   have ha : (l.map (oY bl)).all Qs = true := ha
   show aB _ (l.map (oY bl)) cs.toList
   generalize cs.toList = vs at hcs ⊢
   induction hcs with
   | nil => exact .nil
   | cons h1 _ ih =>
    simp only [ahC, ahc, agZ] at ha
    exact .cons (vS hW h1 ha.1) (ih ha.2 ha.2)

theorem Ho {s : St} {a : Act} (hR : Rel X s a w lc) {x : Operand} {t : TypeId} {y : TV} (h : Kz L s x t = some y) : aC (X.call w hR.world.below) [] y (a.eval x) := by
 unfold Kz at h
 split at h
 ·split at h
  ·split at h
   ·rename_i q hq
    simp only [ag0] at h
    subst h
    exact eh (bb hq)
   ·cases h
  ·cases h
 ·obtain ⟨h1, h2⟩ := aH h
  simp only [ag0] at h2
  subst h2
  exact Hr hR.world (az hR.tmps x) h1

theorem iB {s : St} {a : Act} (hR : Rel X s a w lc) : ∀ (xs : List Operand) (ts : List TypeId) (ys : List TV), mF L s xs ts = some ys → aB (aC (X.call w hR.world.below) []) ys (xs.map a.eval)
 | [], [], ys, h => by simp only [mF, ag0] at h; subst h; exact .nil
 | [], _ :: _, ys, h => by cases h
 | _ :: _, [], ys, h => by cases h
 | x :: xs, t :: ts, ys, h => by
  simp only [mF] at h
  split at h
  ·rename_i y ys' h1 h2
   simp only [ag0] at h
   subst h
   exact .cons (Ho hR h1) (iB hR xs ts ys' h2)
  ·cases h

theorem wq (hW : aK X bl w lc) {s : SV} {v : Value} (hk : Br s = true) (h : aD X lc s v) : aD (X.call w hW.below) [] s v := by
 cases s <;> simp only [Br, ahM] at hk <;> try exact h
 rename_i f caps
 cases caps with
 | nil =>
  obtain ⟨vs, h1, h2⟩ := h
  exact ⟨vs, h1, by cases vs; cases h2; exact .nil⟩
 | cons _ _ => cases hk
theorem HQ (hW : aK X bl w lc) {x : TV} {v : Value} (hk : Mb x = true) (h : aC X lc x v) : aC (X.call w hW.below) [] x v := by
 cases x with
 | tup _ => cases hk
 | v x => cases x with
  | one s => exact wq hW hk h
  | agg l =>
   obtain ⟨cs, rfl, hcs⟩ := h
   refine ⟨cs, rfl, ?_⟩
   have hk : l.all Br = true := hk
   generalize cs.toList = vs at hcs ⊢
   induction hcs with
   | nil => exact .nil
   | cons h1 _ ih =>
    simp only [ahc, agZ] at hk
    exact .cons (wq hW hk.1 h1) (ih hk.2 hk.2)
theorem tp (hW : aK X bl w lc) : ∀ {xs : List TV} {vs : List Value}, xs.all Mb = true → aB (aC X lc) xs vs → aB (aC (X.call w hW.below) []) xs vs
 | [], _, _, h => by cases h; exact .nil
 | x :: xs, _, hk, .cons h1 h2 => by
  simp only [ahc, agZ] at hk
  exact .cons (HQ hW hk.1 h1) (tp hW hk.2 h2)
theorem tG {s : St} {a : Act} (hR : Rel X s a w lc) : ∀ (ts : List TypeId) (xs : List Operand), ts.length = xs.length → aB (aC X lc) (List.zipWith (DG L s) ts xs) (xs.map a.eval)
 | [], [], _ => .nil
 | [], _ :: _, h => by cases h
 | _ :: _, [], h => by cases h
 | t :: ts, x :: xs, h => by
  refine .cons ?_ (tG hR ts xs (by simpa using h))
  unfold DG
  split
  ·split
   ·split
    ·rename_i q hq
     exact ⟨eh (bb hq), fH (bb hq)⟩
    ·trivial
   ·trivial
  ·exact az hR.tmps x


def oT : SV → Bool
 | .int .. | .bool _ | .str _ | .sl .. | .fsl .. | .tr .. => true
 | _ => false
def ss : AV → Bool
 | .one s => oT s
 | .agg l => l.all oT
def Hn : TV → Bool
 | .v x => ss x
 | .tup l => l.all ss

def dY (X : Cx I) (w' : World) (y : TV) (v : Value) : Prop :=
 ∃ X' lc, X.Le X' ∧ aK X' (bJ [] y).2 w' lc ∧ aC X' lc (bJ [] y).1 v ∧ Hn y = true

def ao (I : World → Prop) (P : Program) (g : FuncId) (S : Spec β) : Prop :=
 (∃ fn c, P.funcs[g]? = some fn ∧ fn.body = some c ∧ (fn.name == "runtime.NumGoroutine") = false) ∧
 ∀ args K r, S args K = some r → ∃ y, K y = some r ∧ ∀ (X : Cx I) vs, cD X → aB (aC X []) args vs → Calls P g vs.toArray X.w0 (fun e w' => ∃ v, e = .returned v ∧ dY X w' y v)

def shS (n : Nat) : SV → SV
 | .row j => .row (n + j)
 | s => s
def shA (n : Nat) : AV → AV
 | .one s => .one (shS n s)
 | .agg l => .agg (l.map (shS n))
def shT (n : Nat) : TV → TV
 | .v x => .v (shA n x)
 | .tup l => .tup (l.map (shA n))

theorem Cq (bl c : List Blk) (s : SV) : oT s = true → aU (bl ++ c) s = (shS bl.length (aU c s).1, bl ++ (aU c s).2) := by
 cases s <;> simp [aU, shS, oT]
theorem xf (c : List Blk) (s : SV) : oT s = true → ue (aU c s).1 = true := by
 cases s <;> simp [aU, ue, oT]
theorem ux (bl : List Blk) : ∀ (l : List SV) (c : List Blk), l.all oT = true → dq (bl ++ c) l = ((dq c l).1.map (shS bl.length), bl ++ (dq c l).2) ∧ (dq c l).1.all ue = true
 | [], c, _ => ⟨rfl, rfl⟩
 | s :: l, c, h => by
  simp only [ahc, agZ] at h
  obtain ⟨h1, h2⟩ := ux bl l (aU c s).2 h.2
  simp only [dq, ahc, agZ]
  rw [Cq bl c s h.1]
  simp only []
  rw [h1]
  exact ⟨rfl, xf c s h.1, h2⟩
theorem pP (bl c : List Blk) (x : AV) (h : ss x = true) : cu (bl ++ c) x = (shA bl.length (cu c x).1, bl ++ (cu c x).2) ∧ rI (cu c x).1 = true := by
 cases x with
 | one s =>
  simp only [cu]
  rw [Cq bl c s h]; exact ⟨rfl, xf c s h⟩
 | agg l =>
  simp only [cu]
  rw [(ux bl l c h).1]; exact ⟨rfl, (ux bl l c h).2⟩
theorem qT (bl : List Blk) : ∀ (l : List AV) (c : List Blk), l.all ss = true → ct (bl ++ c) l = ((ct c l).1.map (shA bl.length), bl ++ (ct c l).2) ∧ (ct c l).1.all rI = true
 | [], c, _ => ⟨rfl, rfl⟩
 | s :: l, c, h => by
  simp only [ahc, agZ] at h
  obtain ⟨h1, h2⟩ := qT bl l (cu c s).2 h.2
  simp only [ct, ahc, agZ]
  rw [(pP bl c s h.1).1]
  simp only []
  rw [h1]
  exact ⟨rfl, (pP bl c s h.1).2, h2⟩
theorem Cs (bl c : List Blk) (x : TV) (h : Hn x = true) : bJ (bl ++ c) x = (shT bl.length (bJ c x).1, bl ++ (bJ c x).2) ∧ Rn (bJ c x).1 = true := by
 cases x with
 | v x =>
  simp only [bJ]
  rw [(pP bl c x h).1]; exact ⟨rfl, (pP bl c x h).2⟩
 | tup l =>
  simp only [bJ]
  rw [(qT bl l c h).1]; exact ⟨rfl, (qT bl l c h).2⟩

theorem uz (c : List Blk) (s : SV) (h : c.all jw = true) : (aU c s).2.all jw = true := by
 cases s <;> simp only [aU] <;> try exact h
 rw [ait, h]; rfl
theorem uw : ∀ (l : List SV) (c : List Blk), c.all jw = true → (dq c l).2.all jw = true
 | [], _, h => h
 | s :: l, c, h => uw l _ (uz c s h)
theorem uu (c : List Blk) (x : AV) (h : c.all jw = true) : (cu c x).2.all jw = true := by
 cases x with
 | one s => exact uz c s h
 | agg l => exact uw l c h
theorem rx : ∀ (l : List AV) (c : List Blk), c.all jw = true → (ct c l).2.all jw = true
 | [], _, h => h
 | s :: l, c, h => rx l _ (uu c s h)
theorem D9 (c : List Blk) (x : TV) (h : c.all jw = true) : (bJ c x).2.all jw = true := by
 cases x with
 | v x => exact uu c x h
 | tup l => exact rx l c h

theorem F9 {X' : Cx I} {lc2 : List Loc} (hft : X.ft = X'.ft) (hfw : X.fw = X'.fw) {s : SV} {v : Value} (hr : ue s = true) (h : aD X' lc2 s v) : aD X (lc ++ lc2) (shS lc.length s) v := by
 cases s <;> simp only [ue, ahM] at hr <;> try exact h
 ·obtain ⟨h1, h2⟩ := h
  exact ⟨by rw [ajz (by omega)]; simpa using h1, h2⟩
 ·rename_i t q
  show bf X.ft X.fw q v ∧ oQ X.ft X.fw t q.sz q.len v
  rw [hft, hfw]; exact h
 ·rename_i two T
  show cF X.ft X.fw two T v
  rw [hft, hfw]; exact h
theorem RB {X' : Cx I} {lc2 : List Loc} (hft : X.ft = X'.ft) (hfw : X.fw = X'.fw) {l : List SV} {vs : List Value} (hr : l.all ue = true) (h : aB (aD X' lc2) l vs) : aB (aD X (lc ++ lc2)) (l.map (shS lc.length)) vs := by
 induction h with
 | nil => exact .nil
 | cons h1 _ ih =>
  simp only [ahc, agZ] at hr
  exact .cons (F9 hft hfw hr.1 h1) (ih hr.2)
theorem F8 {X' : Cx I} {lc2 : List Loc} (hft : X.ft = X'.ft) (hfw : X.fw = X'.fw) {x : AV} {v : Value} (hr : rI x = true) (h : a7 X' lc2 x v) : a7 X (lc ++ lc2) (shA lc.length x) v := by
 cases x with
 | one s => exact F9 hft hfw hr h
 | agg l =>
  obtain ⟨cs, h1, h2⟩ := h
  exact ⟨cs, h1, RB hft hfw hr h2⟩
theorem RD {X' : Cx I} {lc2 : List Loc} (hft : X.ft = X'.ft) (hfw : X.fw = X'.fw) {x : TV} {v : Value} (hr : Rn x = true) (h : aC X' lc2 x v) : aC X (lc ++ lc2) (shT lc.length x) v := by
 cases x with
 | v x => exact F8 hft hfw hr h
 | tup l =>
  obtain ⟨cs, h1, h2⟩ := h
  refine ⟨cs, h1, ?_⟩
  have hr : l.all rI = true := hr
  generalize cs.toList = vs at h2
  induction h2 with
  | nil => exact .nil
  | cons h1 _ ih =>
   simp only [ahc, agZ] at hr
   exact .cons (F8 hft hfw hr.1 h1) (ih hr.2 hr.2)

theorem aK.join {b : List Blk} {w' : World} {lc2 : List Loc} {X2 : Cx I} (h : aK X bl w lc) (hle : (X.call w h.below).Le X2) (h2 : aK X2 b w' lc2) (hrow : b.all jw = true) :
  X.Le (X.grow X2.ft X2.fw) ∧ aK (X.grow X2.ft X2.fw) (bl ++ b) w' (lc ++ lc2) := by
 obtain ⟨ft, fw, a1, a2, a3⟩ := hle
 have hbel : Below w.heap.size w w' := ⟨h2.below.os, h2.below.tape, h2.below.output, h2.below.size, fun k hk => h2.below.block k ((yj h).old hk)⟩
 have h' := h.later hbel
 have mine_ : ∀ g, ((X.call w h.below).grow ft fw).mine g → w.heap.size ≤ g := fun g hg => by
  rcases hg with h | ⟨v, hv, _⟩ | hg
  ·exact h
  ·simp [Cx.call, Cx.grow] at hv
  ·simp [Cx.call, Cx.grow] at hg
 have a3' : ∀ k, ft k → X.ft k ∨ w.heap.size ≤ k := fun k hk => (a3 k hk).imp id fun hm => mine_ k hm
 have hle : X.Le (X.grow ft fw) := .mk ft fw a1 a2 fun k hk => (a3' k hk).imp id fun hm => .inl (ahy h.base_le hm)
 refine ⟨hle, ?_⟩
 have hg : aK (X.grow ft fw) bl w' lc := h'.grow hle h2.frz fun j b1 ℓ g hj hon hl hg1 hf => by
  rcases a3' g hf with hf | hf
  ·exact h.frn j b1 ℓ g hj hon hl hg1 hf
  ·have := (Loc.lt (h.blks j b1 ℓ hj hl) hon hg1).2
   omega
 have len := h.len
 have len2 := h2.len
 have new : ∀ (i : Nat) bi li g, b[i]? = some bi → bi.on = true → lc2[i]? = some li → li.blk = some g → w.heap.size ≤ g := fun i bi li g hi oni hli hgi => mine_ g (Loc.lt (h2.blks i bi li hi hli) oni hgi).1
 have old : ∀ (i : Nat) bi li g, bl[i]? = some bi → bi.on = true → lc[i]? = some li → li.blk = some g → g < w.heap.size := fun i bi li g hi oni hli hgi => (Loc.lt (h.blks i bi li hi hli) oni hgi).2
 refine ⟨by simp [len, len2], fun j b1 l1 hj hl => ?_, fun i j bi bj li lj g hij hi hj oni onj hli hlj hgi hgj => ?_, hg.below, h2.frz, fun j b1 l1 g hj on1 hl hg1 => ?_⟩
 ·rcases ahf j bl.length with hlt | hge
  ·rw [ajy hlt] at hj
   rw [ajy (by omega)] at hl
   exact (hg.blks j b1 l1 hj hl).more _
  ·rw [ajz hge] at hj
   rw [ajz (by omega), len] at hl
   have hb := h2.blks _ b1 l1 hj hl
   have : jw b1 = true := aht.1 hrow _ (ajM hj)
   cases b1 <;> try cases this
   rename_i t q
   cases l1 with
   | c g => exact hb
   | m g => exact hb
   | r v =>
    obtain ⟨k1, xs, k2, k3⟩ := hb
    exact ⟨fun g hg => .inl (ahy h.base_le (mine_ g (k1 g hg))), xs, k2, k3⟩
 ·rcases ahf i bl.length with hlt | hge <;> rcases ahf j bl.length with hlt2 | hge2
  ·rw [ajy hlt] at hi
   rw [ajy hlt2] at hj
   rw [ajy (by omega)] at hli hlj
   exact h.apart i j bi bj li lj g hij hi hj oni onj hli hlj hgi hgj
  ·rw [ajy hlt] at hi
   rw [ajy (by omega)] at hli
   rw [ajz hge2] at hj
   rw [ajz (by omega), len] at hlj
   have := old i bi li g hi oni hli hgi
   have := new _ bj lj g hj onj hlj hgj
   omega
  ·rw [ajy hlt2] at hj
   rw [ajy (by omega)] at hlj
   rw [ajz hge] at hi
   rw [ajz (by omega), len] at hli
   have := old j bj lj g hj onj hlj hgj
   have := new _ bi li g hi oni hli hgi
   omega
  ·rw [ajz hge] at hi
   rw [ajz (by omega), len] at hli
   rw [ajz hge2] at hj
   rw [ajz (by omega), len] at hlj
   exact h2.apart _ _ bi bj li lj g (by omega) hi hj oni onj hli hlj hgi hgj
 ·rcases ahf j bl.length with hlt | hge
  ·rw [ajy hlt] at hj
   rw [ajy (by omega)] at hl
   exact hg.frn j b1 l1 g hj on1 hl hg1
  ·rw [ajz hge] at hj
   rw [ajz (by omega), len] at hl
   exact h2.frn _ b1 l1 g hj on1 hl hg1

def Oc : AV → Value
 | .one s => m5 s
 | .agg l => .agg (l.map m5).toArray
def Od : TV → Value
 | .v x => Oc x
 | .tup l => .tuple (l.map Oc).toArray

theorem ub {l : List SV} (hp : l.all bO = true) {vs : List Value} : aB (aD X lc) l vs ↔ vs = l.map m5 := by
 induction l generalizing vs with
 | nil => exact ⟨fun h => by cases h; rfl, fun h => by subst h; exact .nil⟩
 | cons s l ih =>
  simp only [ahc, agZ] at hp
  refine ⟨fun h => ?_, fun h => ?_⟩
  ·cases h with
   | cons h1 h2 => rw [(jd hp.1).1 h1, (ih hp.2).1 h2]; rfl
  ·subst h
   exact .cons ((jd hp.1).2 rfl) ((ih hp.2).2 rfl)
theorem mT {x : AV} (hp : cH x = true) {v : Value} : a7 X lc x v ↔ v = Oc x := by
 cases x with
 | one s => exact jd hp
 | agg l =>
  refine ⟨fun ⟨cs, h1, h2⟩ => ?_, fun h => ⟨_, h, (ub hp).2 (by simp)⟩⟩
  have := (ub hp).1 h2
  rw [h1]
  show _ = Value.agg (l.map m5).toArray
  rw [← this]
theorem rk {l : List AV} (hp : l.all cH = true) {vs : List Value} : aB (a7 X lc) l vs ↔ vs = l.map Oc := by
 induction l generalizing vs with
 | nil => exact ⟨fun h => by cases h; rfl, fun h => by subst h; exact .nil⟩
 | cons s l ih =>
  simp only [ahc, agZ] at hp
  refine ⟨fun h => ?_, fun h => ?_⟩
  ·cases h with
   | cons h1 h2 => rw [(mT hp.1).1 h1, (ih hp.2).1 h2]; rfl
  ·subst h
   exact .cons ((mT hp.1).2 rfl) ((ih hp.2).2 rfl)
theorem je {x : TV} (hp : dh x = true) {v : Value} : aC X lc x v ↔ v = Od x := by
 cases x with
 | v x => exact mT hp
 | tup l =>
  refine ⟨fun ⟨cs, h1, h2⟩ => ?_, fun h => ⟨_, h, (rk hp).2 (by simp)⟩⟩
  have := (rk hp).1 h2
  rw [h1]
  show _ = Value.tuple (l.map Oc).toArray
  rw [← this]

theorem rz (bl : List Blk) (s : SV) (h : bO (aU bl s).1 = true) : aU bl s = (s, bl) := by
 cases s <;> first | rfl | cases h
theorem ry : ∀ (l : List SV) (bl : List Blk), (dq bl l).1.all bO = true → dq bl l = (l, bl)
 | [], bl, _ => rfl
 | s :: l, bl, h => by
  simp only [dq, ahc, agZ] at h ⊢
  have h1 := rz bl s h.1
  rw [h1] at h ⊢
  simp only [] at h ⊢
  rw [ry l bl h.2]
theorem rr (bl : List Blk) (x : AV) (h : cH (cu bl x).1 = true) : cu bl x = (x, bl) := by
 cases x with
 | one s =>
  simp only [cu, cH] at h ⊢
  rw [rz bl s h]
 | agg l =>
  simp only [cu, cH] at h ⊢
  rw [ry l bl h]
theorem pQ : ∀ (l : List AV) (bl : List Blk), (ct bl l).1.all cH = true → ct bl l = (l, bl)
 | [], bl, _ => rfl
 | s :: l, bl, h => by
  simp only [ct, ahc, agZ] at h ⊢
  have h1 := rr bl s h.1
  rw [h1] at h ⊢
  simp only [] at h ⊢
  rw [pQ l bl h.2]
theorem Cr (bl : List Blk) (x : TV) (h : dh (bJ bl x).1 = true) : bJ bl x = (x, bl) := by
 cases x with
 | v x =>
  simp only [bJ, dh] at h ⊢
  rw [rr bl x h]
 | tup l =>
  simp only [bJ, dh] at h ⊢
  rw [pQ l bl h]


def SC (I : World → Prop) (P : Program) (o : Oper) (s : St) (x : TV) (bl : List Blk) : Prop := ∀ (X : Cx I) a w lc, Rel X s a w lc →
 ∃ g vs, (execOp a.eval o).run P w = .ok (.enter g vs) w ∧ Calls P g vs w (fun e w' => ∃ v more X', e = .returned v ∧ Below w.heap.size w w' ∧ X.Le X' ∧ aC X' (lc ++ more) x v ∧ aK X' bl w' (lc ++ more))

def SCQ (I : World → Prop) (P : Program) (o : Oper) (s : St) (x : TV) : Prop := ∀ (X : Cx I) a w lc, Rel X s a w lc →
 ∃ v, aC X lc x v ∧ ∀ w', Below w.heap.size w w' → ∃ g vs, (execOp a.eval o).run P w' = .ok (.enter g vs) w' ∧ Calls P g vs w' (fun e w'' => e = .returned v ∧ Below w'.heap.size w' w'')

def bo (I : World → Prop) (P : Program) (E : Env β) : Prop := ∀ g args K r, gG E.fns g args K = some r →
 (∃ fn c, P.funcs[g]? = some fn ∧ fn.body = some c ∧ (fn.name == "runtime.NumGoroutine") = false) ∧
 ∃ y, K y = some r ∧ ∀ (X : Cx I) vs, cD X → aB (aC X []) args vs → Calls P g vs.toArray X.w0 (fun e w' => ∃ v, e = .returned v ∧ dY X w' y v)

theorem D6 {E : Env β} (h : ∀ g S, (g, S) ∈ E.fns → ao I P g S) : bo I P E := by
 intro g args K r hr
 have key : ∀ l : List (FuncId × Spec β), (∀ g S, (g, S) ∈ l → ao I P g S) → gG l g args K = some r → ∃ S, ao I P g S ∧ S args K = some r := by
  intro l
  induction l with
  | nil => intro _ h; cases h
  | cons p l ih =>
   intro hl hr
   obtain ⟨u, S⟩ := p
   simp only [gG] at hr
   cases hb : Nat.beq u g with
   | true =>
    rw [hb] at hr
    have := ag2 hb
    subst this
    exact ⟨S, hl _ _ (by simp), hr⟩
   | false =>
    rw [hb] at hr
    exact ih (fun g S hg => hl g S (by simp [hg])) hr
 obtain ⟨S, h1, h2⟩ := key E.fns h hr
 exact ⟨h1.1, h1.2 args K r h2⟩

theorem DZ {o : Oper} {c : Call} {f : Operand} (ho : o.op = .call c) (hc : c.callee = .value f) {a : Act} {g : FuncId} {fs vs : Array Value} (hf : a.eval f = .func (.func g) fs vs)
  (hg : ∃ fn c, P.funcs[g]? = some fn ∧ fn.body = some c ∧ (fn.name == "runtime.NumGoroutine") = false) (w : World) :
  (execOp a.eval o).run P w = .ok (.enter g ((fs ++ c.args.map a.eval) ++ vs)) w := by
 obtain ⟨fn, cd, h1, h2, h3⟩ := hg
 unfold execOp
 have h3' : ¬ fn.name = "runtime.NumGoroutine" := by simpa using h3
 simp [ho, resolve, hc, hf, Deferred.ofValue, invoke, callFunc, h1, h2, h3']
theorem wR {o : Oper} {c : Call} {f : Operand} (ho : o.op = .call c) (hc : c.callee = .value f) {a : Act} {g : FuncId} {vs : Array Value} (hf : a.eval f = .func (.func g) #[] vs)
  (hg : ∃ fn c, P.funcs[g]? = some fn ∧ fn.body = some c ∧ (fn.name == "runtime.NumGoroutine") = false) (w : World) :
  (execOp a.eval o).run P w = .ok (.enter g (c.args.map a.eval ++ vs)) w := by
 obtain ⟨fn, cd, h1, h2, h3⟩ := hg
 unfold execOp
 have h3' : ¬ fn.name = "runtime.NumGoroutine" := by simpa using h3
 simp [ho, resolve, hc, hf, Deferred.ofValue, invoke, callFunc, h1, h2, h3']

theorem vR {Y : Cx I} {cs : List (List FS × Nat)} {vs : List Value} (h : aB (fun c u => dw Y c.1 c.2 u) cs vs) : aB (aC Y []) (cs.map KJ) vs := by
 induction h with
 | nil => exact .nil
 | cons h1 _ ih => exact .cons h1 ih

theorem DP {l : List SV} (h : l.all bO = true) : ∀ bl, Bd bl l = (l, bl) := by
 induction l with
 | nil => intro bl; rfl
 | cons s l ih =>
  intro bl
  simp only [ahc, agZ] at h
  have : yo bl s = (s, bl) := by cases s <;> first | rfl | cases h.1
  simp only [Bd, this, ih h.2]
theorem sN {x : AV} (h : cH x = true) (bl : List Blk) : Bb bl x = (x, bl) := by
 cases x with
 | one s =>
  have : yo bl s = (s, bl) := by cases s <;> first | rfl | cases h
  simp only [Bb, this]
 | agg l => simp only [Bb, DP h]
theorem wg (bl : List Blk) (s : SV) (h : bO (yo bl s).1 = true) : bO s = true := by
 cases s <;> try exact h
 rename_i j
 simp only [yo] at h
 split at h <;> cases h
theorem we : ∀ (l : List SV) (bl : List Blk), (Bd bl l).1.all bO = true → l.all bO = true
 | [], _, _ => rfl
 | s :: l, bl, h => by
  simp only [Bd, ahc, agZ] at h ⊢
  exact ⟨wg bl s h.1, we l _ h.2⟩
theorem wb (bl : List Blk) (x : AV) (h : cH (Bb bl x).1 = true) : cH x = true := by
 cases x with
 | one s => exact wg bl s h
 | agg l => exact we l bl h
theorem sO : ∀ (l : List AV) (bl : List Blk), (qZ bl l).1.all cH = true → l.all cH = true ∧ qZ bl l = (l, bl)
 | [], _, _ => ⟨rfl, rfl⟩
 | s :: l, bl, h => by
  simp only [qZ, ahc, agZ] at h
  have h1 := wb bl s h.1
  have h2 := sN h1 bl
  rw [h2] at h
  obtain ⟨h3, h4⟩ := sO l bl h.2
  exact ⟨by simp only [ahc, agZ]; exact ⟨h1, h3⟩, by simp only [qZ, h2, h4]⟩
theorem HH (bl : List Blk) (x : TV) (h : dh (yp bl x).1 = true) : yp bl x = (x, bl) := by
 cases x with
 | v x => simp only [yp, sN (wb bl x h)]
 | tup l => simp only [yp, (sO l bl h).2]

theorem kA {E : Env β} (hE : bo I P E) {o : Oper} {c : Call} {f : Operand} {s : St} {g : FuncId} {xs : List TV} {bl0 : List Blk} {fl : Bool} {K : TV → St → Option β} {r : β} (ho : o.op = .call c) (hc : c.callee = .value f)
  (hargs : ∀ (X : Cx I) a w lc, Rel X s a w lc → ∃ X0 fs vs, X.Le X0 ∧ a.eval f = .func (.func g) fs vs ∧ ∃ hW : aK X0 bl0 w lc, aB (aC (X0.call w hW.below) []) xs (fs.toList ++ ((c.args.map a.eval).toList ++ vs.toList)))
  (h : gG E.fns g xs (fun r => Iq fl s.tmps bl0 r K) = some r) :
  ∃ x bl, K x ⟨s.tmps, bl⟩ = some r ∧ SC I P o s x bl ∧ (bl0 = s.blks → dh x = true → bl = s.blks ∧ SCQ I P o s x) := by
 obtain ⟨hg, y, hy, hcall⟩ := hE g xs _ r h
 have calls : ∀ (X : Cx I) a w lc, Rel X s a w lc → ∃ g vs, (execOp a.eval o).run P w = .ok (.enter g vs) w ∧ Calls P g vs w (fun e w' => ∃ v more X', e = .returned v ∧ Below w.heap.size w w' ∧ X.Le X' ∧ aC X' (lc ++ more) (bJ bl0 y).1 v ∧ aK X' (bJ bl0 y).2 w' (lc ++ more)) := by
  intro X a w lc hR
  obtain ⟨X0, fs, vs, hle0, hf, hW0, hrel⟩ := hargs X a w lc hR
  refine ⟨g, _, DZ ho hc hf hg w, ?_⟩
  have := hcall (X0.call w hW0.below) _ (yj hW0) hrel
  rw [show (fs.toList ++ ((c.args.map a.eval).toList ++ vs.toList)).toArray = (fs ++ c.args.map a.eval) ++ vs by simp] at this
  refine this.mono fun e w' ⟨v, he, X2, lc2, hle, h1, h2, h3⟩ => ?_
  obtain ⟨j1, j2⟩ := hW0.join hle h1 (D9 [] y rfl)
  have hbel : Below w.heap.size w w' := by
   obtain ⟨ft, fw, _, _, _⟩ := hle
   exact ⟨h1.below.os, h1.below.tape, h1.below.output, h1.below.size, fun k hk => h1.below.block k ((yj hW0).old hk)⟩
  have e1 := (Cs bl0 [] y h3).1
  rw [ahg] at e1
  refine ⟨v, lc2, _, he, hbel, hle0.trans j1, ?_, ?_⟩
  ·rw [e1, ← hW0.len]
   exact RD (X := X0.grow X2.ft X2.fw) (X' := X2) rfl rfl (Cs bl0 [] y h3).2 h2
  ·rw [e1]
   exact j2
 have plain : dh (bJ bl0 y).1 = true → bl0 = s.blks → (bJ bl0 y).2 = s.blks ∧ SCQ I P o s (bJ bl0 y).1 := fun hp hb0 => by
  subst hb0
  have ht := Cr s.blks y hp
  rw [ht] at hp ⊢
  refine ⟨rfl, fun X a w lc hR => ⟨Od y, (je hp).2 rfl, fun w' hb => ?_⟩⟩
  obtain ⟨g, vs, h1, h2⟩ := calls X a w' lc ⟨hR.tmps, hR.world.later hb, hR.defers⟩
  refine ⟨g, vs, h1, h2.mono fun e w'' ⟨v, more, X', he, hb2, _, hv, _⟩ => ⟨?_, hb2⟩⟩
  rw [ht] at hv
  rw [he, (je hp).1 hv]
 unfold Iq at hy
 simp only at hy
 cases fl with
 | false =>
  simp only [agX] at hy
  exact ⟨_, _, hy, calls, fun hb0 hp => plain hp hb0⟩
 | true =>
  simp only [agY] at hy
  refine ⟨_, _, hy, fun X a w lc hR => ?_, fun hb0 hp => ?_⟩
  ·obtain ⟨g, vs, h1, h2⟩ := calls X a w lc hR
   refine ⟨g, vs, h1, h2.mono fun e w' ⟨v, more, X', he, hb, hle, hv, hW⟩ => ?_⟩
   obtain ⟨X2, b1, b2, b3⟩ := sP hW hv
   exact ⟨v, more, X2, he, hb, hle.trans b1, b3, b2⟩
  ·have hk := HH _ _ hp
   rw [hk] at hp ⊢
   exact plain hp hb0


def JS (bl : List Blk) (vps : List Value) (rs : List Row) (w' : World) : Prop :=
 rs.length = bl.length ∧ ∀ (k i : Nat) t q0 v q, bl[k]? = some (.prow i t q0) → vps[k]? = some v → rs[k]? = some q → q.deep = false ∧ w'.ownsRow 0 t q.sz v q.len q.cells

def SF (I : World → Prop) (P : Program) (g : FuncId) (MS : lX β) : Prop :=
 (∃ fn c, P.funcs[g]? = some fn ∧ fn.body = some c ∧ (fn.name == "runtime.NumGoroutine") = false) ∧
 ∀ args bl K r, MS args bl K = some r → ∃ y rs, K y rs = some r ∧ ∀ (X : Cx I) vs, X.gp = [] → aK X bl X.w0 (X.pins.map Loc.r) → aB (aC X (X.pins.map Loc.r)) args vs →
  Calls P g vs.toArray X.w0 (fun e w' => ∃ v, e = .returned v ∧ (dh y = true → v = Od y) ∧ bx X w' ∧ JS bl X.pins rs w')

def cj (I : World → Prop) (P : Program) (E : Env β) : Prop := ∀ g MS, Mk E.muts g = some MS → SF I P g MS

theorem uC : ∀ (js : List Nat) (rs : List Row) (bl bl' : List Blk), Cz bl js rs = some bl' → js.Nodup →
  bl'.length = bl.length ∧ (∀ i, i ∉ js → bl'[i]? = bl[i]?) ∧ ∀ (k j : Nat) r, js[k]? = some j → rs[k]? = some r → j < bl.length → bl'[j]? = some ((nth .dead bl j).with_ r)
 | [], [], bl, bl', h, _ => by simp only [Cz, ag0] at h; subst h; exact ⟨rfl, fun _ _ => rfl, fun k j r hk => by simp at hk⟩
 | [], _ :: _, _, _, h, _ => by cases h
 | _ :: _, [], _, _, h, _ => by cases h
 | j :: js, r :: rs, bl, bl', h, hn => by
  simp only [Cz] at h
  obtain ⟨hj, hn⟩ := aiK.1 hn
  obtain ⟨h1, h2, h3⟩ := uC js rs _ bl' h hn
  rw [bR, ahz] at h1
  refine ⟨h1, fun i hi => ?_, fun k i q hk hq hlt => ?_⟩
  ·simp only [ahe, not_or] at hi
   rw [h2 i hi.2, bR, ajH (Ne.symm hi.1)]
  ·cases k with
   | zero =>
    simp only [ajB, ag0] at hk hq
    subst hk; subst hq
    rw [h2 j hj, bR, ajI hlt]
   | succ k =>
    simp only [ajA] at hk hq
    have hne : i ≠ j := fun e => hj (by rw [← e]; exact ajM hk)
    have := h3 k i q hk hq (by rw [bR, ahz]; exact hlt)
    rw [this]
    have e : nth Blk.dead (put bl j ((nth .dead bl j).with_ r)) i = nth .dead bl i := by
     refine DJ ?_
     rw [bR, ajH (Ne.symm hne)]
     exact i7 hlt
    rw [e]

theorem re : ∀ (bs : List Blk) (k : Nat) (l : List Blk), pinned bs k = some l → l.length = bs.length ∧ ∀ (i : Nat) b, bs[i]? = some b → ∃ t q, b.rowOf = some (t, q) ∧ l[i]? = some (.prow (k + i) t q)
 | [], k, l, h => by simp only [pinned, ag0] at h; subst h; exact ⟨rfl, fun i b h => by simp at h⟩
 | b :: bs, k, l, h => by
  simp only [pinned] at h
  split at h
  ·rename_i t q l' hb hl
   simp only [ag0] at h
   subst h
   obtain ⟨h1, h2⟩ := re bs (k + 1) l' hl
   refine ⟨by simp [h1], fun i b' hi => ?_⟩
   cases i with
   | zero => simp only [ajB, ag0] at hi; subst hi; exact ⟨t, q, hb, rfl⟩
   | succ i =>
    obtain ⟨t', q', h3, h4⟩ := h2 i b' (by simpa using hi)
    exact ⟨t', q', h3, by simpa [ah1, Nat.add_comm 1] using h4⟩
  ·cases h

theorem Bk {n : Nat} : ∀ {l : List Nat} {i : Nat}, n ∈ l → ∃ m, mP n l i = some (i + m) ∧ l[m]? = some n
 | x :: l, i, h => by
  simp only [mP]
  cases hb : Nat.beq x n with
  | true => exact ⟨0, rfl, by simp [ag2 hb]⟩
  | false =>
   rcases ahe.1 h with rfl | h
   ·rw [show Nat.beq n n = true from aiS n] at hb; cases hb
   ·obtain ⟨m, h1, h2⟩ := Bk (i := i + 1) h
    exact ⟨m + 1, by simp only [agX]; rw [h1]; congr 1; omega, by simpa using h2⟩

section
variable {X' : Cx I} {js : List Nat} {vps : List Value}
theorem By (hv : ∀ (i j : Nat) v, js[i]? = some j → lc[j]? = some (.r v) → vps[i]? = some v) {s : SV} {v : Value} (hm : Ml s = true) (hr : ∀ j ∈ eB s, j ∈ js) (h : aD X lc s v) : aD X' (vps.map Loc.r) (gF js s) v := by
 cases s <;> simp only [Ml, bO, ahM] at hm <;> try exact h
 rename_i j
 obtain ⟨m, h1, h2⟩ := Bk (i := 0) (hr j (by simp [eB]))
 simp only [gF, h1]
 obtain ⟨h3, h4⟩ := h
 exact ⟨by simp [hv m j v h2 h3], h4⟩
theorem Mm (hv : ∀ (i j : Nat) v, js[i]? = some j → lc[j]? = some (.r v) → vps[i]? = some v) {x : TV} {v : Value} (hm : WK x = true) (hr : ∀ j ∈ dK x, j ∈ js) (h : aC X lc x v) : aC X' (vps.map Loc.r) (mV js x) v := by
 cases x with
 | tup _ => cases hm
 | v x =>
  cases x with
  | one s => exact By hv hm hr h
  | agg l =>
   obtain ⟨cs, h1, h2⟩ := h
   refine ⟨cs, h1, ?_⟩
   have hm : l.all Ml = true := hm
   have hr : ∀ j ∈ l.flatMap eB, j ∈ js := hr
   show aB _ (l.map (gF js)) cs.toList
   generalize cs.toList = vs at h2 ⊢
   induction h2 with
   | nil => exact .nil
   | cons h3 _ ih =>
    simp only [ahc, agZ] at hm
    have hr2 : ∀ j ∈ List.flatMap eB _, j ∈ js := fun j hj => hr j (List.mem_append_right _ hj)
    exact .cons (By hv hm.1 (fun j hj => hr j (List.mem_append_left _ hj)) h3) (ih hm.2 hr2 hm.2 hr2)
end

theorem wB : ∀ {l : List Nat}, mS l = true → l.Nodup
 | [], _ => .nil
 | x :: l, h => by
  simp only [mS, agZ, ahl, List.any_eq_false] at h
  refine aiK.2 ⟨fun hx => ?_, wB h.2⟩
  exact h.1 x hx (aiS x)

def SM (I : World → Prop) (P : Program) (o : Oper) (s : St) (x : TV) (bl : List Blk) : Prop := ∀ (X : Cx I) a w lc, Rel X s a w lc →
 ∃ g vs, (execOp a.eval o).run P w = .ok (.enter g vs) w ∧ Calls P g vs w (fun e w' => ∃ v, e = .returned v ∧ aC X lc x v ∧ aK X bl w' lc)

theorem Mn {o : Oper} {c : Call} {f : Operand} {s : St} {g : FuncId} {MS : lX β} (hM : SF I P g MS) {K : TV → St → Option β} {r : β} (ho : o.op = .call c) (hc : c.callee = .value f) (hv : (aF s f).sv = .fn g [])
  (h : KP MS (c.args.toList.map (aF s)) s K = some r) : ∃ x bl, K x ⟨s.tmps, bl⟩ = some r ∧ SM I P o s x bl := by
 unfold KP at h
 simp only at h
 obtain ⟨hb, h⟩ := aH h
 simp only [agZ, aht] at hb
 obtain ⟨hm, hn⟩ := hb
 have hn := wB hn
 generalize hjs : (c.args.toList.map (aF s)).flatMap dK = js at h hn
 split at h
 ·rename_i bs hbs
  obtain ⟨hlen, hpin⟩ := re _ _ _ hbs
  obtain ⟨y, rs, hK, hcall⟩ := hM.2 _ _ _ _ h
  split at hK
  ·rename_i bl hbl
   obtain ⟨hpl, hK⟩ := aH hK
   refine ⟨y, bl, hK, fun X a w lc hR => ?_⟩
   have hW := hR.world
   obtain ⟨u1, u2, u3⟩ := uC _ _ _ _ hbl hn
   -- the rows' values
   have hat : ∀ (i j : Nat), js[i]? = some j → ∃ t q v, (nth Blk.dead s.blks j).rowOf = some (t, q) ∧ bs[i]? = some (.prow i t q) ∧ lc[j]? = some (.r v) ∧ ∃ xs, q.cellsIn X.ft X.fw xs ∧ w.ownsRow 0 t q.sz v q.len xs := by
    intro i j hij
    obtain ⟨t, q, h1, h2⟩ := hpin i (nth .dead s.blks j) (by simp [hij])
    obtain ⟨hb1, hb2⟩ := aR h1
    have hl : j < lc.length := by rw [hW.len]; exact (ajE.1 hb1).1
    obtain ⟨v, hv, how⟩ := cq (hW.blks j _ _ hb1 (ajC hl)) h1
    exact ⟨t, q, v, h1, by simpa using h2, by rw [ajC hl, hv], how⟩
   obtain ⟨vps, hvl, hvp⟩ : ∃ vps : List Value, vps.length = js.length ∧ ∀ (i j : Nat), js[i]? = some j → ∃ v, vps[i]? = some v ∧ lc[j]? = some (.r v) := by
    refine ⟨js.map fun j => match lc[j]? with | some (Loc.r v) => v | _ => undef, by simp, fun i j hij => ?_⟩
    obtain ⟨t, q, v, _, _, h3, _⟩ := hat i j hij
    exact ⟨v, by simp [hij, h3], h3⟩
   have hvs : ∀ (i j : Nat) v, js[i]? = some j → lc[j]? = some (.r v) → vps[i]? = some v := fun i j v hij hl => by
    obtain ⟨v', h1, h2⟩ := hvp i j hij
    rw [hl] at h2
    simp only [ag0, Loc.r.injEq] at h2
    rw [h1, h2]
   have hbsl : bs.length = js.length := by rw [hlen]; simp
   -- a block of ours that was handed over
   have pinMine : ∀ v ∈ vps, ∀ gg, v.ownBlock = some gg → ∃ j t q, j ∈ js ∧ (nth Blk.dead s.blks j).rowOf = some (t, q) ∧ lc[j]? = some (.r v) := fun v hvm gg _ => by
    obtain ⟨i, hi⟩ := ajL.1 hvm
    have hi' : i < js.length := by rw [← hvl]; exact (ajE.1 hi).1
    obtain ⟨t, q, v2, h1, _, h3, _⟩ := hat i _ (ajC hi')
    have := hvs i _ v2 (ajC hi') h3
    rw [hi] at this
    simp only [ag0] at this
    subst this
    exact ⟨_, t, q, ahm hi', h1, h3⟩
   have pin_ : ∀ v ∈ vps, ∀ gg, v.ownBlock = some gg → X.mine gg ∧ ¬ X.ft gg := fun v hvm gg hvg => by
    obtain ⟨j, t, q, hj, h1, h3⟩ := pinMine v hvm gg hvg
    exact ⟨(Loc.lt (hW.blks j _ _ (aR h1).1 h3) (aR h1).2 hvg).1, hW.frn j _ _ gg (aR h1).1 (aR h1).2 h3 hvg⟩
   obtain ⟨Y, hYw, hYp, hYg, hYf, hYfw⟩ : ∃ Y : Cx I, Y.w0 = w ∧ Y.pins = vps ∧ Y.gp = [] ∧ Y.ft = X.ft ∧ Y.fw = X.fw :=
    ⟨⟨w, vps, [], fun _ => False, X.ft, X.fw, fun _ h => h.elim, fun w2 hw2 => X.keep w2 fun k h1 h2 h3 => (hw2 k (ag9 h1 hW.below.size) (fun v hv e => Cx.mine_old (pin_ v hv k e).1 ⟨h1, h2, h3⟩) (by simp)).trans (hW.below.block k ⟨h1, h2, h3⟩)⟩, rfl, rfl, rfl, rfl, rfl⟩
   subst hYw
   have hW' : aK Y bs Y.w0 (vps.map Loc.r) := by
    refine ⟨by rw [ahw, hvl, hbsl], fun i b ℓ hb hl => ?_, fun i k bi bk li lk gg hik hi hk _ _ hli hlk hgi hgk => ?_, ⟨rfl, rfl, rfl, ag7 _, fun _ _ => rfl⟩, by rw [hYf, hYfw]; exact hW.frz, fun i b ℓ gg hb _ hl hg => by
     rw [hYf]
     obtain ⟨v, hv, rfl⟩ := ahp.1 (ajM hl)
     exact (pin_ v hv gg hg).2⟩
    ·have hi : i < js.length := by rw [← hbsl]; exact (ajE.1 hb).1
     obtain ⟨t, q, v, h1, h2, h3, h4⟩ := hat i _ (ajC hi)
     rw [hb] at h2
     simp only [ag0] at h2
     subst h2
     have h5 := hvs i _ v (ajC hi) h3
     simp only [ajF, h5, ahA, ag0] at hl
     subst hl
     refine ⟨by rw [hYp]; exact h5, ?_⟩
     rw [hYf, hYfw]; exact h4
    ·have hi' : i < js.length := by rw [← hbsl]; exact (ajE.1 hi).1
     have hk' : k < js.length := by rw [← hbsl]; exact (ajE.1 hk).1
     obtain ⟨t, q, v, h1, _, h3, _⟩ := hat i _ (ajC hi')
     obtain ⟨t2, q2, v2, h12, _, h32, _⟩ := hat k _ (ajC hk')
     have e1 := hvs i _ v (ajC hi') h3
     have e2 := hvs k _ v2 (ajC hk') h32
     simp only [ajF, e1, ahA, ag0] at hli
     simp only [ajF, e2, ahA, ag0] at hlk
     subst hli; subst hlk
     have hne : js[i] ≠ js[k] := fun e => by
      rcases Nat.lt_or_gt_of_ne hik with hlt | hlt
      ·exact ail.1 hn i k hi' hk' hlt e
      ·exact ail.1 hn k i hk' hi' hlt e.symm
     exact hW.apart _ _ _ _ _ _ gg hne (aR h1).1 (aR h12).1 (aR h1).2 (aR h12).2 h3 h32 hgi hgk
   have hargs : aB (aC Y (vps.map Loc.r)) ((c.args.toList.map (aF s)).map (mV js)) (c.args.map a.eval).toList := by
    rw [ahX, aiR]
    have hsub : ∀ x ∈ c.args.toList, WK (aF s x) = true ∧ ∀ j ∈ dK (aF s x), j ∈ js := fun x hx => by
     refine ⟨hm _ (ahp.2 ⟨x, hx, rfl⟩), fun j hj => ?_⟩
     rw [← hjs]
     exact aio.2 ⟨_, ahp.2 ⟨x, hx, rfl⟩, hj⟩
    generalize c.args.toList = xs at hsub
    induction xs with
    | nil => exact .nil
    | cons x xs ih => exact .cons (Mm hvs (hsub x (by simp)).1 (hsub x (by simp)).2 (az hR.tmps x)) (ih fun x hx => hsub x (by simp [hx]))
   have hf : a.eval f = .func (.func g) #[] #[] := by
    obtain ⟨vs, h1, h2⟩ := aN (az (X := X) hR.tmps f) hv
    have : vs = #[] := by cases vs; cases h2; rfl
    rw [h1, this]
   refine ⟨g, _, wR ho hc hf hM.1 Y.w0, ?_⟩
   have := hcall Y _ hYg (by rw [hYp]; exact hW') (by rw [hYp]; exact hargs)
   rw [show (c.args.map a.eval).toList.toArray = c.args.map a.eval ++ #[] from by rw [Array.append_empty]] at this
   refine this.mono fun e w' ⟨v, he, hval, hbel, hrl, hback⟩ => ⟨v, he, (je hpl).2 (hval hpl), ?_⟩
   rw [hYp] at hback
   -- a block of ours that was not handed over
   have kept : ∀ (i : Nat) b ℓ gg, i ∉ js → s.blks[i]? = some b → b.on = true → lc[i]? = some ℓ → ℓ.blk = some gg → w'.heap[gg]? = Y.w0.heap[gg]? := fun i b ℓ gg hi hb hon hl hg => by
    refine hbel.block gg ⟨(Loc.lt (hW.blks i b ℓ hb hl) hon hg).2, fun v hvm hvg => ?_, by rw [hYg]; simp⟩
    rw [hYp] at hvm
    obtain ⟨j, t, q, hj, h1, h3⟩ := pinMine v hvm gg hvg
    exact hW.apart i j b _ ℓ _ gg (fun e => hi (e ▸ hj)) hb (aR h1).1 hon (aR h1).2 hl h3 hg hvg
   have onw : ∀ (b : Blk) q, (b.with_ q).on = b.on := fun b q => by cases b <;> rfl
   have back : ∀ (i : Nat) b, bl[i]? = some b → (i ∉ js ∧ s.blks[i]? = some b) ∨ ∃ k q, js[k]? = some i ∧ rs[k]? = some q ∧ b = (nth .dead s.blks i).with_ q := fun i b hb => by
    by_cases hi : i ∈ js
    ·right
     obtain ⟨k, hk⟩ := ajL.1 hi
     have hkl : k < rs.length := by rw [hrl, hbsl]; exact (ajE.1 hk).1
     have := u3 k i _ hk (ajC hkl) (by rw [← u1]; exact (ajE.1 hb).1)
     rw [hb] at this
     exact ⟨k, _, hk, ajC hkl, by simpa using this⟩
    ·exact .inl ⟨hi, by rw [← u2 i hi]; exact hb⟩
   have wasOn : ∀ (i : Nat) b, bl[i]? = some b → b.on = true → ∃ b0, s.blks[i]? = some b0 ∧ b0.on = true := fun i b hb hon => by
    rcases back i b hb with ⟨_, h1⟩ | ⟨k, q, hk, _, he⟩
    ·exact ⟨b, h1, hon⟩
    ·obtain ⟨t, q2, _, h1, _⟩ := hat k i hk
     exact ⟨_, (aR h1).1, (aR h1).2⟩
   refine ⟨by rw [u1]; exact hW.len, fun i b ℓ hb hl => ?_, fun i j bi bj li lj gg hij hi hj oni onj hli hlj hgi hgj => ?_, ?_, fun k hk => ?_, fun i b ℓ gg hb hon hl hg => ?_⟩
   ·rcases back i b hb with ⟨hi, h1⟩ | ⟨k, q, hk, hq, rfl⟩
    ·exact (hW.blks i b ℓ h1 hl).kept fun gg hon hg => kept i b ℓ gg hi h1 hon hl hg
    ·obtain ⟨t, q0, v0, h1, h2, h3, h4⟩ := hat k i hk
     rw [hl] at h3
     simp only [ag0] at h3
     subst h3
     obtain ⟨hdeep, hback'⟩ := hback k k t q0 v0 q h2 (hvs k i v0 hk hl) hq
     have hin : q.cellsIn X.ft X.fw q.cells := (Row.in_plain hdeep).2 rfl
     have hold := hW.blks i _ _ (aR h1).1 hl
     cases hbb : nth Blk.dead s.blks i with
     | mp _ _ => rw [hbb] at h1; cases h1
     | pcells _ _ _ => rw [hbb] at h1; cases h1
     | pmp _ _ _ => rw [hbb] at h1; cases h1
     | srow _ _ => rw [hbb] at h1; cases h1
     | cells _ _ => rw [hbb] at h1; cases h1
     | dead => rw [hbb] at h1; cases h1
     | row t2 r2 =>
      rw [hbb] at h1 hold
      simp only [Blk.rowOf, ag0, aho] at h1
      obtain ⟨rfl, rfl⟩ := h1
      exact ⟨hold.1, _, hin, hback'⟩
     | prow k2 t2 r2 =>
      rw [hbb] at h1 hold
      simp only [Blk.rowOf, ag0, aho] at h1
      obtain ⟨rfl, rfl⟩ := h1
      exact ⟨hold.1, _, hin, hback'⟩
   ·obtain ⟨b1, h1, h2⟩ := wasOn i bi hi oni
    obtain ⟨b2, h3, h4⟩ := wasOn j bj hj onj
    exact hW.apart i j b1 b2 li lj gg hij h1 h3 h2 h4 hli hlj hgi hgj
   ·refine ⟨hbel.os.trans hW.below.os, hbel.tape.trans hW.below.tape, hbel.output.trans hW.below.output, ahy hW.below.size hbel.size, fun k hk => ?_⟩
    refine (hbel.block k ⟨ag9 hk.1 hW.below.size, fun v hvm hvg => ?_, by rw [hYg]; simp⟩).trans (hW.below.block k hk)
    rw [hYp] at hvm
    exact Cx.mine_old (pin_ v hvm k hvg).1 hk
   ·obtain ⟨z1, z2⟩ := hW.frz k hk
    refine ⟨ag9 z1 hbel.size, (hbel.block k ⟨z1, fun v hvm hvg => ?_, by rw [hYg]; simp⟩).trans z2⟩
    rw [hYp] at hvm
    exact (pin_ v hvm k hvg).2 hk
   ·obtain ⟨b1, h1, h2⟩ := wasOn i b hb hon
    exact hW.frn i b1 ℓ gg h1 h2 hl hg
  ·cases hK
 ·cases h

end
end Go.Rv
