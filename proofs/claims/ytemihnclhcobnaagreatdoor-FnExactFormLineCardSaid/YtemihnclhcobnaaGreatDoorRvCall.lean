/- Calls: what is handed over, and what comes back. -/
import Derived.Test.YtemihnclhcobnaaGreatDoorRvRun
namespace Go.Rv
set_option linter.unusedSimpArgs false
open Go.RowKit (Below)
section
variable {I : World → Prop} {P : Program} {L : Lay} {X : Cx I} {lc : List Loc} {β : Type} {w : World} {bl : List Blk}

theorem dh {q : Row} {v : Value} (h : dc X q v) (hb : bu X w) : dc (X.call w hb) q v :=
 bf.mono (fun k hk => YJ (X.sub k hk).1 hb.size) (fun k hk => hb.block k (X.sub k hk)) h
theorem fW {q : Row} {v : Value} (hW : aH X bl w lc) (h : fB X q v) : dc (X.call w hW.below) q v :=
 bf.mono (fun k hk => (hW.frz k hk).1) (fun k hk => (hW.frz k hk).2) h
theorem wc (hW : aH X bl w lc) : cr (X.call w hW.below) := ⟨rfl, rfl, fun _ h => h, hW.frz⟩

theorem zI {f : FSf} {v : Value} (h : fJ X f v) (hb : bu X w) : fJ (X.call w hb) f v := by
 cases f <;> simp only [fJ] at h ⊢ <;> try exact h
 exact dh h hb
theorem yF {l : List FSf} {off : Nat} {v : Value} (h : dJ X l off v) (hb : bu X w) : dJ (X.call w hb) l off v := by
 obtain ⟨a, h1, h2, h3⟩ := h
 refine ⟨a, h1, YJ (X.sub _ h2).1 hb.size, fun m f hm => ?_⟩
 obtain ⟨u, hu, hr⟩ := h3 m f hm
 have hbl : X.old ((a.add m).block) := by rw [bF]; exact X.sub _ h2
 exact ⟨u, by show w.cell? _ = _; rw [hb.cell (p := a.add m) hbl]; exact hu, zI hr hb⟩
theorem mA {f : FS} {v : Value} (h : hZ X f v) (hb : bu X w) : hZ (X.call w hb) f v := by
 cases f <;> simp only [hZ] at h ⊢ <;> try exact h
 ·exact dh h hb
 ·exact yF h hb

theorem mn {l : List FS} {off : Nat} {v : Value} (h : dg X l off v) (hb : bu X w) : dg (X.call w hb) l off v := by
 obtain ⟨a, h1, h2, h3⟩ := h
 refine ⟨a, h1, YJ (X.sub _ h2).1 hb.size, fun m f hm => ?_⟩
 obtain ⟨u, hu, hr⟩ := h3 m f hm
 have hbl : X.old ((a.add m).block) := by rw [bF]; exact X.sub _ h2
 exact ⟨u, by show w.cell? _ = _; rw [hb.cell (p := a.add m) hbl]; exact hu, mA hr hb⟩

theorem mC (hW : aH X bl w lc) {j : Nat} {t : TypeId} {q : Row} {v : Value} (hb : (nth Blk.dead bl j).rowOf = some (t, q)) (h : lc[j]? = some (.r v)) : dc (X.call w hW.below) q v := by
 have hB := hW.blks j _ _ (aM hb).1 h
 obtain ⟨v', hv', xs, hin, hown⟩ := b9 hB hb
 simp only [Loc.r.injEq] at hv'
 subst hv'
 exact ro (S := fun k => k < w.heap.size) hown (cellsIn.mono (fun k hk => (hW.frz k hk).1) (fun k hk => (hW.frz k hk).2) hin) fun g hg => (Loc.lt hB (aM hb).2 hg).2

theorem G8 (hW : aH X bl w lc) {s : SV} {v : Value} (h : aD X lc s v) : fJ (X.call w hW.below) (Eo bl s) v := by
 have hb := hW.below
 cases s <;> simp only [aD] at h <;> simp only [Eo, fJ] <;> try exact h
 ·rename_i j
  cases hblk : (nth Blk.dead bl j).rowOf with
  | none => trivial
  | some p =>
   obtain ⟨t, q⟩ := p
   exact mC hW hblk h.1
 ·exact dh h hb
 ·rename_i f caps
  cases caps with
  | nil =>
   obtain ⟨vs, h1, h2⟩ := h
   have : vs = #[] := by cases vs; cases h2; rfl
   subst this; exact h1
  | cons _ _ => trivial
 ·exact fW hW h.1
theorem yB (hW : aH X bl w lc) {j off : Nat} {t : TypeId} {l : List SV} {v : Value} (hblk : (nth Blk.dead bl j).cellsOf = some (t, l)) (h : dk lc (j, off) v) : dJ (X.call w hW.below) (l.map (Eo bl)) off v := by
 obtain ⟨g, hg, rfl⟩ := h
 obtain ⟨cs, hh, hcs⟩ := cX (hW.blks j _ _ (cJ hblk).1 hg) hblk
 refine ⟨_, rfl, (aa5.1 hh).1, fun m f hm => ?_⟩
 rw [abe] at hm
 cases hl : l[off + m]? with
 | none => rw [hl] at hm; cases hm
 | some s =>
  rw [hl] at hm
  simp only [Zf, Yy] at hm
  subst hm
  obtain ⟨u, hu, hr⟩ := hcs.get _ _ hl
  refine ⟨u, ?_, G8 hW hr⟩
  rw [Zr]
  show w.cell? _ = _
  rw [cell_of_row w g (off + m) cs t (0, 0) hh]
  simpa using hu
theorem Kw (hW : aH X bl w lc) {s : SV} {v : Value} (h : aD X lc s v) : hZ (X.call w hW.below) (Am bl s) v := by
 have hb := hW.below
 cases s <;> simp only [aD] at h <;> simp only [Am, hZ] <;> try exact h
 ·rename_i j off
  cases hblk : (nth Blk.dead bl j).cellsOf with
  | none => trivial
  | some p =>
   obtain ⟨t, l⟩ := p
   exact yB hW hblk h
 ·rename_i j
  cases hblk : (nth Blk.dead bl j).rowOf with
  | none => trivial
  | some p =>
   obtain ⟨t, q⟩ := p
   exact mC hW hblk h.1
 ·exact dh h hb
 ·rename_i f caps
  cases caps with
  | nil =>
   obtain ⟨vs, h1, h2⟩ := h
   have : vs = #[] := by cases vs; cases h2; rfl
   subst this; exact h1
  | cons _ _ => trivial
 ·exact fW hW h.1

theorem qw (hW : aH X bl w lc) {j off : Nat} {t : TypeId} {l : List SV} {v : Value} (hblk : (nth Blk.dead bl j).cellsOf = some (t, l)) (h : dk lc (j, off) v) : dg (X.call w hW.below) (l.map (Am bl)) off v := by
 obtain ⟨g, hg, rfl⟩ := h
 obtain ⟨cs, hh, hcs⟩ := cX (hW.blks j _ _ (cJ hblk).1 hg) hblk
 refine ⟨_, rfl, (aa5.1 hh).1, fun m f hm => ?_⟩
 rw [abe] at hm
 cases hl : l[off + m]? with
 | none => rw [hl] at hm; cases hm
 | some s =>
  rw [hl] at hm
  simp only [Zf, Yy] at hm
  subst hm
  obtain ⟨u, hu, hr⟩ := hcs.get _ _ hl
  refine ⟨u, ?_, Kw hW hr⟩
  rw [Zr]
  show w.cell? _ = _
  rw [cell_of_row w g (off + m) cs t (0, 0) hh]
  simpa using hu

theorem n5 (hW : aH X bl w lc) : ∀ (caps : List (Nat × Nat)) (l : List (List FS × Nat)) (vs : List Value), qv bl caps = some l → aw (dk lc) caps vs → aw (fun c u => dg (X.call w hW.below) c.1 c.2 u) l vs
 | [], l, vs, h, hv => by cases hv; simp only [qv, Yy] at h; subst h; exact .nil
 | (j, o) :: cs, l, vs, h, hv => by
  cases hv with
  | cons h1 h2 =>
  simp only [qv] at h
  split at h
  ·rename_i t l' rest hb hr
   simp only [Yy] at h
   subst h
   exact .cons (qw hW hb h1) (n5 hW cs rest _ hr h2)
  ·cases h

theorem uf (hW : aH X bl w lc) {s : SV} {v : Value} (h : aD X lc s v) (ha : MQ (m7 bl s) = true) : aD (X.call w hW.below) [] (m7 bl s) v := by
 have hb := hW.below
 cases s with
 | int k n => exact h
 | bool b => exact h
 | str b => exact h
 | ptr j off =>
  simp only [m7] at ha ⊢
  cases hblk : (nth Blk.dead bl j).cellsOf with
  | some p => obtain ⟨t, l⟩ := p; exact qw hW hblk h
  | none => rw [hblk] at ha; cases ha
 | row j =>
  simp only [m7] at ha ⊢
  cases hblk : (nth Blk.dead bl j).rowOf with
  | some p => obtain ⟨t, q⟩ := p; exact mC hW hblk h.1
  | none => rw [hblk] at ha; cases ha
 | sl t q => exact dh h hb
 | elt j z i off => cases ha
 | suf j i => cases ha
 | fpt q => cases ha
 | ref q i off => cases ha
 | fn f caps =>
  cases caps with
  | nil =>
   obtain ⟨vs, h1, h2⟩ := h
   exact ⟨vs, h1, by cases vs; cases h2; exact .nil⟩
  | cons c cs =>
   simp only [m7] at ha ⊢
   cases hc : qv bl (c :: cs) with
   | none => rw [hc] at ha; cases ha
   | some l =>
    obtain ⟨vs, h1, h2⟩ := h
    exact ⟨vs, h1, n5 hW _ _ _ hc h2⟩
 | cref l off => exact mn h hb
 | dfn f caps =>
  obtain ⟨vs, h1, h2⟩ := h
  exact ⟨vs, h1, h2.mono fun _ _ h => mn h hb⟩
 | mp j => cases ha
 | nilp => cases ha
 | nilm => cases ha
 | no => cases ha
 | und => cases ha
 | fsl t q => exact fW hW h.1
 | fref q i off => cases ha
 | tr two T => exact h
 | tra two T off => cases ha
 | nilf => cases ha
 | bfn f l => obtain ⟨cs, h1, h2⟩ := h; exact ⟨cs, h1, h2.mono fun _ _ h => mA h hb⟩

theorem E4 (hW : aH X bl w lc) {x : TV} {v : Value} (h : aC X lc x v) (ha : V0 (Dy bl x) = true) : aC (X.call w hW.below) [] (Dy bl x) v := by
 cases x with
 | tup _ => cases ha
 | v x => cases x with
  | one s => exact uf hW h ha
  | agg l =>
   obtain ⟨cs, rfl, hcs⟩ := h
   refine ⟨cs, rfl, ?_⟩
   have ha : (l.map (m7 bl)).all MQ = true := ha
   show aw _ (l.map (m7 bl)) cs.toList
   generalize cs.toList = vs at hcs ⊢
   induction hcs with
   | nil => exact .nil
   | cons h1 _ ih =>
    simp only [Zh, YK, Yz] at ha
    exact .cons (uf hW h1 ha.1) (ih ha.2 ha.2)

theorem E0 {s : St} {a : Act} (hR : Rel X s a w lc) {x : Operand} {t : TypeId} {y : TV} (h : Iv L s x t = some y) : aC (X.call w hR.world.below) [] y (a.eval x) := by
 unfold Iv at h
 split at h
 ·split at h
  ·split at h
   ·rename_i q hq
    simp only [Yy] at h
    subst h
    exact dW (ba hq)
   ·cases h
  ·cases h
 ·obtain ⟨h1, h2⟩ := aF h
  simp only [Yy] at h2
  subst h2
  exact E4 hR.world (au hR.tmps x) h1

theorem iz {s : St} {a : Act} (hR : Rel X s a w lc) : ∀ (xs : List Operand) (ts : List TypeId) (ys : List TV), mi L s xs ts = some ys → aw (aC (X.call w hR.world.below) []) ys (xs.map a.eval)
 | [], [], ys, h => by simp only [mi, Yy] at h; subst h; exact .nil
 | [], _ :: _, ys, h => by cases h
 | _ :: _, [], ys, h => by cases h
 | x :: xs, t :: ts, ys, h => by
  simp only [mi] at h
  split at h
  ·rename_i y ys' h1 h2
   simp only [Yy] at h
   subst h
   exact .cons (E0 hR h1) (iz hR xs ts ys' h2)
  ·cases h

theorem uz (hW : aH X bl w lc) {s : SV} {v : Value} (hk : zh s = true) (h : aD X lc s v) : aD (X.call w hW.below) [] s v := by
 cases s <;> simp only [zh, Zs] at hk <;> try exact h
 rename_i f caps
 cases caps with
 | nil =>
  obtain ⟨vs, h1, h2⟩ := h
  exact ⟨vs, h1, by cases vs; cases h2; exact .nil⟩
 | cons _ _ => cases hk
theorem F0 (hW : aH X bl w lc) {x : TV} {v : Value} (hk : Jk x = true) (h : aC X lc x v) : aC (X.call w hW.below) [] x v := by
 cases x with
 | tup _ => cases hk
 | v x => cases x with
  | one s => exact uz hW hk h
  | agg l =>
   obtain ⟨cs, rfl, hcs⟩ := h
   refine ⟨cs, rfl, ?_⟩
   have hk : l.all zh = true := hk
   generalize cs.toList = vs at hcs ⊢
   induction hcs with
   | nil => exact .nil
   | cons h1 _ ih =>
    simp only [YK, Yz] at hk
    exact .cons (uz hW hk.1 h1) (ih hk.2 hk.2)
theorem q6 (hW : aH X bl w lc) : ∀ {xs : List TV} {vs : List Value}, xs.all Jk = true → aw (aC X lc) xs vs → aw (aC (X.call w hW.below) []) xs vs
 | [], _, _, h => by cases h; exact .nil
 | x :: xs, _, hk, .cons h1 h2 => by
  simp only [YK, Yz] at hk
  exact .cons (F0 hW hk.1 h1) (q6 hW hk.2 h2)
theorem ri {s : St} {a : Act} (hR : Rel X s a w lc) : ∀ (ts : List TypeId) (xs : List Operand), ts.length = xs.length → aw (aC X lc) (List.zipWith (Bs L s) ts xs) (xs.map a.eval)
 | [], [], _ => .nil
 | [], _ :: _, h => by cases h
 | _ :: _, [], h => by cases h
 | t :: ts, x :: xs, h => by
  refine .cons ?_ (ri hR ts xs (by simpa using h))
  unfold Bs
  split
  ·split
   ·split
    ·rename_i q hq
     exact ⟨dW (ba hq), fx (ba hq)⟩
    ·trivial
   ·trivial
  ·exact au hR.tmps x


def m2 : SV → Bool
 | .int .. | .bool _ | .str _ | .sl .. | .fsl .. | .tr .. => true
 | _ => false
def qr : AV → Bool
 | .one s => m2 s
 | .agg l => l.all m2
def EZ : TV → Bool
 | .v x => qr x
 | .tup l => l.all qr

def dI (X : Cx I) (w' : World) (y : TV) (v : Value) : Prop :=
 ∃ X' lc, X.Le X' ∧ aH X' (bE [] y).2 w' lc ∧ aC X' lc (bE [] y).1 v ∧ EZ y = true

def ap (I : World → Prop) (P : Program) (g : FuncId) (S : Spec β) : Prop :=
 (∃ fn c, P.funcs[g]? = some fn ∧ fn.body = some c ∧ (fn.name == "runtime.NumGoroutine") = false) ∧
 ∀ args K r, S args K = some r → ∃ y, K y = some r ∧ ∀ (X : Cx I) vs, cr X → aw (aC X []) args vs → Calls P g vs.toArray X.w0 (fun e w' => ∃ v, e = .returned v ∧ dI X w' y v)

def shS (n : Nat) : SV → SV
 | .row j => .row (n + j)
 | s => s
def shA (n : Nat) : AV → AV
 | .one s => .one (shS n s)
 | .agg l => .agg (l.map (shS n))
def shT (n : Nat) : TV → TV
 | .v x => .v (shA n x)
 | .tup l => .tup (l.map (shA n))

theorem Ai (bl c : List Blk) (s : SV) : m2 s = true → aP (bl ++ c) s = (shS bl.length (aP c s).1, bl ++ (aP c s).2) := by
 cases s <;> simp [aP, shS, m2]
theorem vk (c : List Blk) (s : SV) : m2 s = true → sn (aP c s).1 = true := by
 cases s <;> simp [aP, sn, m2]
theorem sI (bl : List Blk) : ∀ (l : List SV) (c : List Blk), l.all m2 = true → c7 (bl ++ c) l = ((c7 c l).1.map (shS bl.length), bl ++ (c7 c l).2) ∧ (c7 c l).1.all sn = true
 | [], c, _ => ⟨rfl, rfl⟩
 | s :: l, c, h => by
  simp only [YK, Yz] at h
  obtain ⟨h1, h2⟩ := sI bl l (aP c s).2 h.2
  simp only [c7, YK, Yz]
  rw [Ai bl c s h.1]
  simp only []
  rw [h1]
  exact ⟨rfl, vk c s h.1, h2⟩
theorem nN (bl c : List Blk) (x : AV) (h : qr x = true) : cg (bl ++ c) x = (shA bl.length (cg c x).1, bl ++ (cg c x).2) ∧ pF (cg c x).1 = true := by
 cases x with
 | one s =>
  simp only [cg]
  rw [Ai bl c s h]; exact ⟨rfl, vk c s h⟩
 | agg l =>
  simp only [cg]
  rw [(sI bl l c h).1]; exact ⟨rfl, (sI bl l c h).2⟩
theorem oS (bl : List Blk) : ∀ (l : List AV) (c : List Blk), l.all qr = true → ce (bl ++ c) l = ((ce c l).1.map (shA bl.length), bl ++ (ce c l).2) ∧ (ce c l).1.all pF = true
 | [], c, _ => ⟨rfl, rfl⟩
 | s :: l, c, h => by
  simp only [YK, Yz] at h
  obtain ⟨h1, h2⟩ := oS bl l (cg c s).2 h.2
  simp only [ce, YK, Yz]
  rw [(nN bl c s h.1).1]
  simp only []
  rw [h1]
  exact ⟨rfl, (nN bl c s h.1).2, h2⟩
theorem Ak (bl c : List Blk) (x : TV) (h : EZ x = true) : bE (bl ++ c) x = (shT bl.length (bE c x).1, bl ++ (bE c x).2) ∧ Ob (bE c x).1 = true := by
 cases x with
 | v x =>
  simp only [bE]
  rw [(nN bl c x h).1]; exact ⟨rfl, (nN bl c x h).2⟩
 | tup l =>
  simp only [bE]
  rw [(oS bl l c h).1]; exact ⟨rfl, (oS bl l c h).2⟩

theorem sK (c : List Blk) (s : SV) (h : c.all je = true) : (aP c s).2.all je = true := by
 cases s <;> simp only [aP] <;> try exact h
 rw [aaV, h]; rfl
theorem sH : ∀ (l : List SV) (c : List Blk), c.all je = true → (c7 c l).2.all je = true
 | [], _, h => h
 | s :: l, c, h => sH l _ (sK c s h)
theorem sF (c : List Blk) (x : AV) (h : c.all je = true) : (cg c x).2.all je = true := by
 cases x with
 | one s => exact sK c s h
 | agg l => exact sH l c h
theorem pv : ∀ (l : List AV) (c : List Blk), c.all je = true → (ce c l).2.all je = true
 | [], _, h => h
 | s :: l, c, h => pv l _ (sF c s h)
theorem BV (c : List Blk) (x : TV) (h : c.all je = true) : (bE c x).2.all je = true := by
 cases x with
 | v x => exact sF c x h
 | tup l => exact pv l c h

theorem Ec {X' : Cx I} {lc2 : List Loc} (hft : X.ft = X'.ft) (hfw : X.fw = X'.fw) {s : SV} {v : Value} (hr : sn s = true) (h : aD X' lc2 s v) : aD X (lc ++ lc2) (shS lc.length s) v := by
 cases s <;> simp only [sn, Zs] at hr <;> try exact h
 ·obtain ⟨h1, h2⟩ := h
  exact ⟨by rw [aa8 (by omega)]; simpa using h1, h2⟩
 ·rename_i t q
  show bf X.ft X.fw q v ∧ mZ X.ft X.fw t q.sz q.len v
  rw [hft, hfw]; exact h
 ·rename_i two T
  show ct X.ft X.fw two T v
  rw [hft, hfw]; exact h
theorem OY {X' : Cx I} {lc2 : List Loc} (hft : X.ft = X'.ft) (hfw : X.fw = X'.fw) {l : List SV} {vs : List Value} (hr : l.all sn = true) (h : aw (aD X' lc2) l vs) : aw (aD X (lc ++ lc2)) (l.map (shS lc.length)) vs := by
 induction h with
 | nil => exact .nil
 | cons h1 _ ih =>
  simp only [YK, Yz] at hr
  exact .cons (Ec hft hfw hr.1 h1) (ih hr.2)
theorem Eb {X' : Cx I} {lc2 : List Loc} (hft : X.ft = X'.ft) (hfw : X.fw = X'.fw) {x : AV} {v : Value} (hr : pF x = true) (h : a6 X' lc2 x v) : a6 X (lc ++ lc2) (shA lc.length x) v := by
 cases x with
 | one s => exact Ec hft hfw hr h
 | agg l =>
  obtain ⟨cs, h1, h2⟩ := h
  exact ⟨cs, h1, OY hft hfw hr h2⟩
theorem OZ {X' : Cx I} {lc2 : List Loc} (hft : X.ft = X'.ft) (hfw : X.fw = X'.fw) {x : TV} {v : Value} (hr : Ob x = true) (h : aC X' lc2 x v) : aC X (lc ++ lc2) (shT lc.length x) v := by
 cases x with
 | v x => exact Eb hft hfw hr h
 | tup l =>
  obtain ⟨cs, h1, h2⟩ := h
  refine ⟨cs, h1, ?_⟩
  have hr : l.all pF = true := hr
  generalize cs.toList = vs at h2
  induction h2 with
  | nil => exact .nil
  | cons h1 _ ih =>
   simp only [YK, Yz] at hr
   exact .cons (Eb hft hfw hr.1 h1) (ih hr.2 hr.2)

theorem aH.join {b : List Blk} {w' : World} {lc2 : List Loc} {X2 : Cx I} (h : aH X bl w lc) (hle : (X.call w h.below).Le X2) (h2 : aH X2 b w' lc2) (hrow : b.all je = true) :
  X.Le (X.grow X2.ft X2.fw) ∧ aH (X.grow X2.ft X2.fw) (bl ++ b) w' (lc ++ lc2) := by
 obtain ⟨ft, fw, a1, a2, a3⟩ := hle
 have hbel : Below w.heap.size w w' := ⟨h2.below.os, h2.below.tape, h2.below.output, h2.below.size, fun k hk => h2.below.block k ((wc h).old hk)⟩
 have h' := h.later hbel
 have mine_ : ∀ g, ((X.call w h.below).grow ft fw).mine g → w.heap.size ≤ g := fun g hg => by
  rcases hg with h | ⟨v, hv, _⟩ | hg
  ·exact h
  ·simp [Cx.call, Cx.grow] at hv
  ·simp [Cx.call, Cx.grow] at hg
 have a3' : ∀ k, ft k → X.ft k ∨ w.heap.size ≤ k := fun k hk => (a3 k hk).imp id fun hm => mine_ k hm
 have hle : X.Le (X.grow ft fw) := .mk ft fw a1 a2 fun k hk => (a3' k hk).imp id fun hm => .inl (Zd h.base_le hm)
 refine ⟨hle, ?_⟩
 have hg : aH (X.grow ft fw) bl w' lc := h'.grow hle h2.frz fun j b1 ℓ g hj hon hl hg1 hf => by
  rcases a3' g hf with hf | hf
  ·exact h.frn j b1 ℓ g hj hon hl hg1 hf
  ·have := (Loc.lt (h.blks j b1 ℓ hj hl) hon hg1).2
   omega
 have len := h.len
 have len2 := h2.len
 have new : ∀ (i : Nat) bi li g, b[i]? = some bi → bi.on = true → lc2[i]? = some li → li.blk = some g → w.heap.size ≤ g := fun i bi li g hi oni hli hgi => mine_ g (Loc.lt (h2.blks i bi li hi hli) oni hgi).1
 have old : ∀ (i : Nat) bi li g, bl[i]? = some bi → bi.on = true → lc[i]? = some li → li.blk = some g → g < w.heap.size := fun i bi li g hi oni hli hgi => (Loc.lt (h.blks i bi li hi hli) oni hgi).2
 refine ⟨by simp [len, len2], fun j b1 l1 hj hl => ?_, fun i j bi bj li lj g hij hi hj oni onj hli hlj hgi hgj => ?_, hg.below, h2.frz, fun j b1 l1 g hj on1 hl hg1 => ?_⟩
 ·rcases YM j bl.length with hlt | hge
  ·rw [aa7 hlt] at hj
   rw [aa7 (by omega)] at hl
   exact (hg.blks j b1 l1 hj hl).more _
  ·rw [aa8 hge] at hj
   rw [aa8 (by omega), len] at hl
   have hb := h2.blks _ b1 l1 hj hl
   have : je b1 = true := Zc.1 hrow _ (abl hj)
   cases b1 <;> try cases this
   rename_i t q
   cases l1 with
   | c g => exact hb
   | m g => exact hb
   | r v =>
    obtain ⟨k1, xs, k2, k3⟩ := hb
    exact ⟨fun g hg => .inl (Zd h.base_le (mine_ g (k1 g hg))), xs, k2, k3⟩
 ·rcases YM i bl.length with hlt | hge <;> rcases YM j bl.length with hlt2 | hge2
  ·rw [aa7 hlt] at hi
   rw [aa7 hlt2] at hj
   rw [aa7 (by omega)] at hli hlj
   exact h.apart i j bi bj li lj g hij hi hj oni onj hli hlj hgi hgj
  ·rw [aa7 hlt] at hi
   rw [aa7 (by omega)] at hli
   rw [aa8 hge2] at hj
   rw [aa8 (by omega), len] at hlj
   have := old i bi li g hi oni hli hgi
   have := new _ bj lj g hj onj hlj hgj
   omega
  ·rw [aa7 hlt2] at hj
   rw [aa7 (by omega)] at hlj
   rw [aa8 hge] at hi
   rw [aa8 (by omega), len] at hli
   have := old j bj lj g hj onj hlj hgj
   have := new _ bi li g hi oni hli hgi
   omega
  ·rw [aa8 hge] at hi
   rw [aa8 (by omega), len] at hli
   rw [aa8 hge2] at hj
   rw [aa8 (by omega), len] at hlj
   exact h2.apart _ _ bi bj li lj g (by omega) hi hj oni onj hli hlj hgi hgj
 ·rcases YM j bl.length with hlt | hge
  ·rw [aa7 hlt] at hj
   rw [aa7 (by omega)] at hl
   exact hg.frn j b1 l1 g hj on1 hl hg1
  ·rw [aa8 hge] at hj
   rw [aa8 (by omega), len] at hl
   exact h2.frn _ b1 l1 g hj on1 hl hg1

def KA : AV → Value
 | .one s => mF s
 | .agg l => .agg (l.map mF).toArray
def KB : TV → Value
 | .v x => KA x
 | .tup l => .tuple (l.map KA).toArray

theorem sj {l : List SV} (hp : l.all bI = true) {vs : List Value} : aw (aD X lc) l vs ↔ vs = l.map mF := by
 induction l generalizing vs with
 | nil => exact ⟨fun h => by cases h; rfl, fun h => by subst h; exact .nil⟩
 | cons s l ih =>
  simp only [YK, Yz] at hp
  refine ⟨fun h => ?_, fun h => ?_⟩
  ·cases h with
   | cons h1 h2 => rw [(iT hp.1).1 h1, (ih hp.2).1 h2]; rfl
  ·subst h
   exact .cons ((iT hp.1).2 rfl) ((ih hp.2).2 rfl)
theorem mz {x : AV} (hp : cw x = true) {v : Value} : a6 X lc x v ↔ v = KA x := by
 cases x with
 | one s => exact iT hp
 | agg l =>
  refine ⟨fun ⟨cs, h1, h2⟩ => ?_, fun h => ⟨_, h, (sj hp).2 (by simp)⟩⟩
  have := (sj hp).1 h2
  rw [h1]
  show _ = Value.agg (l.map mF).toArray
  rw [← this]
theorem pk {l : List AV} (hp : l.all cw = true) {vs : List Value} : aw (a6 X lc) l vs ↔ vs = l.map KA := by
 induction l generalizing vs with
 | nil => exact ⟨fun h => by cases h; rfl, fun h => by subst h; exact .nil⟩
 | cons s l ih =>
  simp only [YK, Yz] at hp
  refine ⟨fun h => ?_, fun h => ?_⟩
  ·cases h with
   | cons h1 h2 => rw [(mz hp.1).1 h1, (ih hp.2).1 h2]; rfl
  ·subst h
   exact .cons ((mz hp.1).2 rfl) ((ih hp.2).2 rfl)
theorem iU {x : TV} (hp : cR x = true) {v : Value} : aC X lc x v ↔ v = KB x := by
 cases x with
 | v x => exact mz hp
 | tup l =>
  refine ⟨fun ⟨cs, h1, h2⟩ => ?_, fun h => ⟨_, h, (pk hp).2 (by simp)⟩⟩
  have := (pk hp).1 h2
  rw [h1]
  show _ = Value.tuple (l.map KA).toArray
  rw [← this]

theorem px (bl : List Blk) (s : SV) (h : bI (aP bl s).1 = true) : aP bl s = (s, bl) := by
 cases s <;> first | rfl | cases h
theorem pw : ∀ (l : List SV) (bl : List Blk), (c7 bl l).1.all bI = true → c7 bl l = (l, bl)
 | [], bl, _ => rfl
 | s :: l, bl, h => by
  simp only [c7, YK, Yz] at h ⊢
  have h1 := px bl s h.1
  rw [h1] at h ⊢
  simp only [] at h ⊢
  rw [pw l bl h.2]
theorem pt (bl : List Blk) (x : AV) (h : cw (cg bl x).1 = true) : cg bl x = (x, bl) := by
 cases x with
 | one s =>
  simp only [cg, cw] at h ⊢
  rw [px bl s h]
 | agg l =>
  simp only [cg, cw] at h ⊢
  rw [pw l bl h]
theorem nO : ∀ (l : List AV) (bl : List Blk), (ce bl l).1.all cw = true → ce bl l = (l, bl)
 | [], bl, _ => rfl
 | s :: l, bl, h => by
  simp only [ce, YK, Yz] at h ⊢
  have h1 := pt bl s h.1
  rw [h1] at h ⊢
  simp only [] at h ⊢
  rw [nO l bl h.2]
theorem Aj (bl : List Blk) (x : TV) (h : cR (bE bl x).1 = true) : bE bl x = (x, bl) := by
 cases x with
 | v x =>
  simp only [bE, cR] at h ⊢
  rw [pt bl x h]
 | tup l =>
  simp only [bE, cR] at h ⊢
  rw [nO l bl h]


def SC (I : World → Prop) (P : Program) (o : Oper) (s : St) (x : TV) (bl : List Blk) : Prop := ∀ (X : Cx I) a w lc, Rel X s a w lc →
 ∃ g vs, (execOp a.eval o).run P w = .ok (.enter g vs) w ∧ Calls P g vs w (fun e w' => ∃ v more X', e = .returned v ∧ Below w.heap.size w w' ∧ X.Le X' ∧ aC X' (lc ++ more) x v ∧ aH X' bl w' (lc ++ more))

def SCQ (I : World → Prop) (P : Program) (o : Oper) (s : St) (x : TV) : Prop := ∀ (X : Cx I) a w lc, Rel X s a w lc →
 ∃ v, aC X lc x v ∧ ∀ w', Below w.heap.size w w' → ∃ g vs, (execOp a.eval o).run P w' = .ok (.enter g vs) w' ∧ Calls P g vs w' (fun e w'' => e = .returned v ∧ Below w'.heap.size w' w'')

def bp (I : World → Prop) (P : Program) (E : Env β) : Prop := ∀ g args K r, f6 E.fns g args K = some r →
 (∃ fn c, P.funcs[g]? = some fn ∧ fn.body = some c ∧ (fn.name == "runtime.NumGoroutine") = false) ∧
 ∃ y, K y = some r ∧ ∀ (X : Cx I) vs, cr X → aw (aC X []) args vs → Calls P g vs.toArray X.w0 (fun e w' => ∃ v, e = .returned v ∧ dI X w' y v)

theorem BS {E : Env β} (h : ∀ g S, (g, S) ∈ E.fns → ap I P g S) : bp I P E := by
 intro g args K r hr
 have key : ∀ l : List (FuncId × Spec β), (∀ g S, (g, S) ∈ l → ap I P g S) → f6 l g args K = some r → ∃ S, ap I P g S ∧ S args K = some r := by
  intro l
  induction l with
  | nil => intro _ h; cases h
  | cons p l ih =>
   intro hl hr
   obtain ⟨u, S⟩ := p
   simp only [f6] at hr
   cases hb : Nat.beq u g with
   | true =>
    rw [hb] at hr
    have := YA hb
    subst this
    exact ⟨S, hl _ _ (by simp), hr⟩
   | false =>
    rw [hb] at hr
    exact ih (fun g S hg => hl g S (by simp [hg])) hr
 obtain ⟨S, h1, h2⟩ := key E.fns h hr
 exact ⟨h1.1, h1.2 args K r h2⟩

theorem BL {o : Oper} {c : Call} {f : Operand} (ho : o.op = .call c) (hc : c.callee = .value f) {a : Act} {g : FuncId} {fs vs : Array Value} (hf : a.eval f = .func (.func g) fs vs)
  (hg : ∃ fn c, P.funcs[g]? = some fn ∧ fn.body = some c ∧ (fn.name == "runtime.NumGoroutine") = false) (w : World) :
  (execOp a.eval o).run P w = .ok (.enter g ((fs ++ c.args.map a.eval) ++ vs)) w := by
 obtain ⟨fn, cd, h1, h2, h3⟩ := hg
 unfold execOp
 have h3' : ¬ fn.name = "runtime.NumGoroutine" := by simpa using h3
 simp [ho, resolve, hc, hf, Deferred.ofValue, invoke, callFunc, h1, h2, h3']
theorem uW {o : Oper} {c : Call} {f : Operand} (ho : o.op = .call c) (hc : c.callee = .value f) {a : Act} {g : FuncId} {vs : Array Value} (hf : a.eval f = .func (.func g) #[] vs)
  (hg : ∃ fn c, P.funcs[g]? = some fn ∧ fn.body = some c ∧ (fn.name == "runtime.NumGoroutine") = false) (w : World) :
  (execOp a.eval o).run P w = .ok (.enter g (c.args.map a.eval ++ vs)) w := by
 obtain ⟨fn, cd, h1, h2, h3⟩ := hg
 unfold execOp
 have h3' : ¬ fn.name = "runtime.NumGoroutine" := by simpa using h3
 simp [ho, resolve, hc, hf, Deferred.ofValue, invoke, callFunc, h1, h2, h3']

theorem ue {Y : Cx I} {cs : List (List FS × Nat)} {vs : List Value} (h : aw (fun c u => dg Y c.1 c.2 u) cs vs) : aw (aC Y []) (cs.map IE) vs := by
 induction h with
 | nil => exact .nil
 | cons h1 _ ih => exact .cons h1 ih

theorem BB {l : List SV} (h : l.all bI = true) : ∀ bl, yO bl l = (l, bl) := by
 induction l with
 | nil => intro bl; rfl
 | cons s l ih =>
  intro bl
  simp only [YK, Yz] at h
  have : wi bl s = (s, bl) := by cases s <;> first | rfl | cases h.1
  simp only [yO, this, ih h.2]
theorem qJ {x : AV} (h : cw x = true) (bl : List Blk) : yM bl x = (x, bl) := by
 cases x with
 | one s =>
  have : wi bl s = (s, bl) := by cases s <;> first | rfl | cases h
  simp only [yM, this]
 | agg l => simp only [yM, BB h]
theorem ur (bl : List Blk) (s : SV) (h : bI (wi bl s).1 = true) : bI s = true := by
 cases s <;> try exact h
 rename_i j
 simp only [wi] at h
 split at h <;> cases h
theorem uq : ∀ (l : List SV) (bl : List Blk), (yO bl l).1.all bI = true → l.all bI = true
 | [], _, _ => rfl
 | s :: l, bl, h => by
  simp only [yO, YK, Yz] at h ⊢
  exact ⟨ur bl s h.1, uq l _ h.2⟩
theorem un (bl : List Blk) (x : AV) (h : cw (yM bl x).1 = true) : cw x = true := by
 cases x with
 | one s => exact ur bl s h
 | agg l => exact uq l bl h
theorem qK : ∀ (l : List AV) (bl : List Blk), (o5 bl l).1.all cw = true → l.all cw = true ∧ o5 bl l = (l, bl)
 | [], _, _ => ⟨rfl, rfl⟩
 | s :: l, bl, h => by
  simp only [o5, YK, Yz] at h
  have h1 := un bl s h.1
  have h2 := qJ h1 bl
  rw [h2] at h
  obtain ⟨h3, h4⟩ := qK l bl h.2
  exact ⟨by simp only [YK, Yz]; exact ⟨h1, h3⟩, by simp only [o5, h2, h4]⟩
theorem FU (bl : List Blk) (x : TV) (h : cR (wj bl x).1 = true) : wj bl x = (x, bl) := by
 cases x with
 | v x => simp only [wj, qJ (un bl x h)]
 | tup l => simp only [wj, (qK l bl h).2]

theorem lb {E : Env β} (hE : bp I P E) {o : Oper} {c : Call} {f : Operand} {s : St} {g : FuncId} {xs : List TV} {bl0 : List Blk} {fl : Bool} {K : TV → St → Option β} {r : β} (ho : o.op = .call c) (hc : c.callee = .value f)
  (hargs : ∀ (X : Cx I) a w lc, Rel X s a w lc → ∃ X0 fs vs, X.Le X0 ∧ a.eval f = .func (.func g) fs vs ∧ ∃ hW : aH X0 bl0 w lc, aw (aC (X0.call w hW.below) []) xs (fs.toList ++ ((c.args.map a.eval).toList ++ vs.toList)))
  (h : f6 E.fns g xs (fun r => G9 fl s.tmps bl0 r K) = some r) :
  ∃ x bl, K x ⟨s.tmps, bl⟩ = some r ∧ SC I P o s x bl ∧ (bl0 = s.blks → cR x = true → bl = s.blks ∧ SCQ I P o s x) := by
 obtain ⟨hg, y, hy, hcall⟩ := hE g xs _ r h
 have calls : ∀ (X : Cx I) a w lc, Rel X s a w lc → ∃ g vs, (execOp a.eval o).run P w = .ok (.enter g vs) w ∧ Calls P g vs w (fun e w' => ∃ v more X', e = .returned v ∧ Below w.heap.size w w' ∧ X.Le X' ∧ aC X' (lc ++ more) (bE bl0 y).1 v ∧ aH X' (bE bl0 y).2 w' (lc ++ more)) := by
  intro X a w lc hR
  obtain ⟨X0, fs, vs, hle0, hf, hW0, hrel⟩ := hargs X a w lc hR
  refine ⟨g, _, BL ho hc hf hg w, ?_⟩
  have := hcall (X0.call w hW0.below) _ (wc hW0) hrel
  rw [show (fs.toList ++ ((c.args.map a.eval).toList ++ vs.toList)).toArray = (fs ++ c.args.map a.eval) ++ vs by simp] at this
  refine this.mono fun e w' ⟨v, he, X2, lc2, hle, h1, h2, h3⟩ => ?_
  obtain ⟨j1, j2⟩ := hW0.join hle h1 (BV [] y rfl)
  have hbel : Below w.heap.size w w' := by
   obtain ⟨ft, fw, _, _, _⟩ := hle
   exact ⟨h1.below.os, h1.below.tape, h1.below.output, h1.below.size, fun k hk => h1.below.block k ((wc hW0).old hk)⟩
  have e1 := (Ak bl0 [] y h3).1
  rw [YR] at e1
  refine ⟨v, lc2, _, he, hbel, hle0.trans j1, ?_, ?_⟩
  ·rw [e1, ← hW0.len]
   exact OZ (X := X0.grow X2.ft X2.fw) (X' := X2) rfl rfl (Ak bl0 [] y h3).2 h2
  ·rw [e1]
   exact j2
 have plain : cR (bE bl0 y).1 = true → bl0 = s.blks → (bE bl0 y).2 = s.blks ∧ SCQ I P o s (bE bl0 y).1 := fun hp hb0 => by
  subst hb0
  have ht := Aj s.blks y hp
  rw [ht] at hp ⊢
  refine ⟨rfl, fun X a w lc hR => ⟨KB y, (iU hp).2 rfl, fun w' hb => ?_⟩⟩
  obtain ⟨g, vs, h1, h2⟩ := calls X a w' lc ⟨hR.tmps, hR.world.later hb, hR.defers⟩
  refine ⟨g, vs, h1, h2.mono fun e w'' ⟨v, more, X', he, hb2, _, hv, _⟩ => ⟨?_, hb2⟩⟩
  rw [ht] at hv
  rw [he, (iU hp).1 hv]
 unfold G9 at hy
 simp only at hy
 cases fl with
 | false =>
  simp only [YB] at hy
  exact ⟨_, _, hy, calls, fun hb0 hp => plain hp hb0⟩
 | true =>
  simp only [YC] at hy
  refine ⟨_, _, hy, fun X a w lc hR => ?_, fun hb0 hp => ?_⟩
  ·obtain ⟨g, vs, h1, h2⟩ := calls X a w lc hR
   refine ⟨g, vs, h1, h2.mono fun e w' ⟨v, more, X', he, hb, hle, hv, hW⟩ => ?_⟩
   obtain ⟨X2, b1, b2, b3⟩ := qL hW hv
   exact ⟨v, more, X2, he, hb, hle.trans b1, b3, b2⟩
  ·have hk := FU _ _ hp
   rw [hk] at hp ⊢
   exact plain hp hb0


def HC (bl : List Blk) (vps : List Value) (rs : List Row) (w' : World) : Prop :=
 rs.length = bl.length ∧ ∀ (k i : Nat) t q0 v q, bl[k]? = some (.prow i t q0) → vps[k]? = some v → rs[k]? = some q → q.deep = false ∧ w'.ownsRow 0 t q.sz v q.len q.cells

def Qz (I : World → Prop) (P : Program) (g : FuncId) (MS : lM β) : Prop :=
 (∃ fn c, P.funcs[g]? = some fn ∧ fn.body = some c ∧ (fn.name == "runtime.NumGoroutine") = false) ∧
 ∀ args bl K r, MS args bl K = some r → ∃ y rs, K y rs = some r ∧ ∀ (X : Cx I) vs, X.gp = [] → aH X bl X.w0 (X.pins.map Loc.r) → aw (aC X (X.pins.map Loc.r)) args vs →
  Calls P g vs.toArray X.w0 (fun e w' => ∃ v, e = .returned v ∧ (cR y = true → v = KB y) ∧ bu X w' ∧ HC bl X.pins rs w')

def b7 (I : World → Prop) (P : Program) (E : Env β) : Prop := ∀ g MS, Jq E.muts g = some MS → Qz I P g MS

theorem sN : ∀ (js : List Nat) (rs : List Row) (bl bl' : List Blk), Aq bl js rs = some bl' → js.Nodup →
  bl'.length = bl.length ∧ (∀ i, i ∉ js → bl'[i]? = bl[i]?) ∧ ∀ (k j : Nat) r, js[k]? = some j → rs[k]? = some r → j < bl.length → bl'[j]? = some ((nth .dead bl j).with_ r)
 | [], [], bl, bl', h, _ => by simp only [Aq, Yy] at h; subst h; exact ⟨rfl, fun _ _ => rfl, fun k j r hk => by simp at hk⟩
 | [], _ :: _, _, _, h, _ => by cases h
 | _ :: _, [], _, _, h, _ => by cases h
 | j :: js, r :: rs, bl, bl', h, hn => by
  simp only [Aq] at h
  obtain ⟨hj, hn⟩ := aal.1 hn
  obtain ⟨h1, h2, h3⟩ := sN js rs _ bl' h hn
  rw [bM, Ze] at h1
  refine ⟨h1, fun i hi => ?_, fun k i q hk hq hlt => ?_⟩
  ·simp only [YN, not_or] at hi
   rw [h2 i hi.2, bM, abg (Ne.symm hi.1)]
  ·cases k with
   | zero =>
    simp only [aba, Yy] at hk hq
    subst hk; subst hq
    rw [h2 j hj, bM, abh hlt]
   | succ k =>
    simp only [aa9] at hk hq
    have hne : i ≠ j := fun e => hj (by rw [← e]; exact abl hk)
    have := h3 k i q hk hq (by rw [bM, Ze]; exact hlt)
    rw [this]
    have e : nth Blk.dead (put bl j ((nth .dead bl j).with_ r)) i = nth .dead bl i := by
     refine Bv ?_
     rw [bM, abg (Ne.symm hne)]
     exact iP hlt
    rw [e]

theorem pf : ∀ (bs : List Blk) (k : Nat) (l : List Blk), pinned bs k = some l → l.length = bs.length ∧ ∀ (i : Nat) b, bs[i]? = some b → ∃ t q, b.rowOf = some (t, q) ∧ l[i]? = some (.prow (k + i) t q)
 | [], k, l, h => by simp only [pinned, Yy] at h; subst h; exact ⟨rfl, fun i b h => by simp at h⟩
 | b :: bs, k, l, h => by
  simp only [pinned] at h
  split at h
  ·rename_i t q l' hb hl
   simp only [Yy] at h
   subst h
   obtain ⟨h1, h2⟩ := pf bs (k + 1) l' hl
   refine ⟨by simp [h1], fun i b' hi => ?_⟩
   cases i with
   | zero => simp only [aba, Yy] at hi; subst hi; exact ⟨t, q, hb, rfl⟩
   | succ i =>
    obtain ⟨t', q', h3, h4⟩ := h2 i b' (by simpa using hi)
    exact ⟨t', q', h3, by simpa [ZC, Nat.add_comm 1] using h4⟩
  ·cases h

theorem yX {n : Nat} : ∀ {l : List Nat} {i : Nat}, n ∈ l → ∃ m, mt n l i = some (i + m) ∧ l[m]? = some n
 | x :: l, i, h => by
  simp only [mt]
  cases hb : Nat.beq x n with
  | true => exact ⟨0, rfl, by simp [YA hb]⟩
  | false =>
   rcases YN.1 h with rfl | h
   ·rw [show Nat.beq n n = true from aar n] at hb; cases hb
   ·obtain ⟨m, h1, h2⟩ := yX (i := i + 1) h
    exact ⟨m + 1, by simp only [YB]; rw [h1]; congr 1; omega, by simpa using h2⟩

section
variable {X' : Cx I} {js : List Nat} {vps : List Value}
theorem zn (hv : ∀ (i j : Nat) v, js[i]? = some j → lc[j]? = some (.r v) → vps[i]? = some v) {s : SV} {v : Value} (hm : Jr s = true) (hr : ∀ j ∈ d7 s, j ∈ js) (h : aD X lc s v) : aD X' (vps.map Loc.r) (f5 js s) v := by
 cases s <;> simp only [Jr, bI, Zs] at hm <;> try exact h
 rename_i j
 obtain ⟨m, h1, h2⟩ := yX (i := 0) (hr j (by simp [d7]))
 simp only [f5, h1]
 obtain ⟨h3, h4⟩ := h
 exact ⟨by simp [hv m j v h2 h3], h4⟩
theorem Js (hv : ∀ (i j : Nat) v, js[i]? = some j → lc[j]? = some (.r v) → vps[i]? = some v) {x : TV} {v : Value} (hm : SE x = true) (hr : ∀ j ∈ dw x, j ∈ js) (h : aC X lc x v) : aC X' (vps.map Loc.r) (mB js x) v := by
 cases x with
 | tup _ => cases hm
 | v x =>
  cases x with
  | one s => exact zn hv hm hr h
  | agg l =>
   obtain ⟨cs, h1, h2⟩ := h
   refine ⟨cs, h1, ?_⟩
   have hm : l.all Jr = true := hm
   have hr : ∀ j ∈ l.flatMap d7, j ∈ js := hr
   show aw _ (l.map (f5 js)) cs.toList
   generalize cs.toList = vs at h2 ⊢
   induction h2 with
   | nil => exact .nil
   | cons h3 _ ih =>
    simp only [YK, Yz] at hm
    have hr2 : ∀ j ∈ List.flatMap d7 _, j ∈ js := fun j hj => hr j (List.mem_append_right _ hj)
    exact .cons (zn hv hm.1 (fun j hj => hr j (List.mem_append_left _ hj)) h3) (ih hm.2 hr2 hm.2 hr2)
end

theorem uH : ∀ {l : List Nat}, my l = true → l.Nodup
 | [], _ => .nil
 | x :: l, h => by
  simp only [my, Yz, YT, List.any_eq_false] at h
  refine aal.2 ⟨fun hx => ?_, uH h.2⟩
  exact h.1 x hx (aar x)

def SM (I : World → Prop) (P : Program) (o : Oper) (s : St) (x : TV) (bl : List Blk) : Prop := ∀ (X : Cx I) a w lc, Rel X s a w lc →
 ∃ g vs, (execOp a.eval o).run P w = .ok (.enter g vs) w ∧ Calls P g vs w (fun e w' => ∃ v, e = .returned v ∧ aC X lc x v ∧ aH X bl w' lc)

theorem Jt {o : Oper} {c : Call} {f : Operand} {s : St} {g : FuncId} {MS : lM β} (hM : Qz I P g MS) {K : TV → St → Option β} {r : β} (ho : o.op = .call c) (hc : c.callee = .value f) (hv : (aE s f).sv = .fn g [])
  (h : IL MS (c.args.toList.map (aE s)) s K = some r) : ∃ x bl, K x ⟨s.tmps, bl⟩ = some r ∧ SM I P o s x bl := by
 unfold IL at h
 simp only at h
 obtain ⟨hb, h⟩ := aF h
 simp only [Yz, Zc] at hb
 obtain ⟨hm, hn⟩ := hb
 have hn := uH hn
 generalize hjs : (c.args.toList.map (aE s)).flatMap dw = js at h hn
 split at h
 ·rename_i bs hbs
  obtain ⟨hlen, hpin⟩ := pf _ _ _ hbs
  obtain ⟨y, rs, hK, hcall⟩ := hM.2 _ _ _ _ h
  split at hK
  ·rename_i bl hbl
   obtain ⟨hpl, hK⟩ := aF hK
   refine ⟨y, bl, hK, fun X a w lc hR => ?_⟩
   have hW := hR.world
   obtain ⟨u1, u2, u3⟩ := sN _ _ _ _ hbl hn
   -- the rows' values
   have hat : ∀ (i j : Nat), js[i]? = some j → ∃ t q v, (nth Blk.dead s.blks j).rowOf = some (t, q) ∧ bs[i]? = some (.prow i t q) ∧ lc[j]? = some (.r v) ∧ ∃ xs, q.cellsIn X.ft X.fw xs ∧ w.ownsRow 0 t q.sz v q.len xs := by
    intro i j hij
    obtain ⟨t, q, h1, h2⟩ := hpin i (nth .dead s.blks j) (by simp [hij])
    obtain ⟨hb1, hb2⟩ := aM h1
    have hl : j < lc.length := by rw [hW.len]; exact (abd.1 hb1).1
    obtain ⟨v, hv, how⟩ := b9 (hW.blks j _ _ hb1 (abb hl)) h1
    exact ⟨t, q, v, h1, by simpa using h2, by rw [abb hl, hv], how⟩
   obtain ⟨vps, hvl, hvp⟩ : ∃ vps : List Value, vps.length = js.length ∧ ∀ (i j : Nat), js[i]? = some j → ∃ v, vps[i]? = some v ∧ lc[j]? = some (.r v) := by
    refine ⟨js.map fun j => match lc[j]? with | some (Loc.r v) => v | _ => undef, by simp, fun i j hij => ?_⟩
    obtain ⟨t, q, v, _, _, h3, _⟩ := hat i j hij
    exact ⟨v, by simp [hij, h3], h3⟩
   have hvs : ∀ (i j : Nat) v, js[i]? = some j → lc[j]? = some (.r v) → vps[i]? = some v := fun i j v hij hl => by
    obtain ⟨v', h1, h2⟩ := hvp i j hij
    rw [hl] at h2
    simp only [Yy, Loc.r.injEq] at h2
    rw [h1, h2]
   have hbsl : bs.length = js.length := by rw [hlen]; simp
   -- a block of ours that was handed over
   have pinMine : ∀ v ∈ vps, ∀ gg, v.ownBlock = some gg → ∃ j t q, j ∈ js ∧ (nth Blk.dead s.blks j).rowOf = some (t, q) ∧ lc[j]? = some (.r v) := fun v hvm gg _ => by
    obtain ⟨i, hi⟩ := abk.1 hvm
    have hi' : i < js.length := by rw [← hvl]; exact (abd.1 hi).1
    obtain ⟨t, q, v2, h1, _, h3, _⟩ := hat i _ (abb hi')
    have := hvs i _ v2 (abb hi') h3
    rw [hi] at this
    simp only [Yy] at this
    subst this
    exact ⟨_, t, q, YS hi', h1, h3⟩
   have pin_ : ∀ v ∈ vps, ∀ gg, v.ownBlock = some gg → X.mine gg ∧ ¬ X.ft gg := fun v hvm gg hvg => by
    obtain ⟨j, t, q, hj, h1, h3⟩ := pinMine v hvm gg hvg
    exact ⟨(Loc.lt (hW.blks j _ _ (aM h1).1 h3) (aM h1).2 hvg).1, hW.frn j _ _ gg (aM h1).1 (aM h1).2 h3 hvg⟩
   obtain ⟨Y, hYw, hYp, hYg, hYf, hYfw⟩ : ∃ Y : Cx I, Y.w0 = w ∧ Y.pins = vps ∧ Y.gp = [] ∧ Y.ft = X.ft ∧ Y.fw = X.fw :=
    ⟨⟨w, vps, [], fun _ => False, X.ft, X.fw, fun _ h => h.elim, fun w2 hw2 => X.keep w2 fun k h1 h2 h3 => (hw2 k (YJ h1 hW.below.size) (fun v hv e => Cx.mine_old (pin_ v hv k e).1 ⟨h1, h2, h3⟩) (by simp)).trans (hW.below.block k ⟨h1, h2, h3⟩)⟩, rfl, rfl, rfl, rfl, rfl⟩
   subst hYw
   have hW' : aH Y bs Y.w0 (vps.map Loc.r) := by
    refine ⟨by rw [Zm, hvl, hbsl], fun i b ℓ hb hl => ?_, fun i k bi bk li lk gg hik hi hk _ _ hli hlk hgi hgk => ?_, ⟨rfl, rfl, rfl, YG _, fun _ _ => rfl⟩, by rw [hYf, hYfw]; exact hW.frz, fun i b ℓ gg hb _ hl hg => by
     rw [hYf]
     obtain ⟨v, hv, rfl⟩ := YY.1 (abl hl)
     exact (pin_ v hv gg hg).2⟩
    ·have hi : i < js.length := by rw [← hbsl]; exact (abd.1 hb).1
     obtain ⟨t, q, v, h1, h2, h3, h4⟩ := hat i _ (abb hi)
     rw [hb] at h2
     simp only [Yy] at h2
     subst h2
     have h5 := hvs i _ v (abb hi) h3
     simp only [abe, h5, Zf, Yy] at hl
     subst hl
     refine ⟨by rw [hYp]; exact h5, ?_⟩
     rw [hYf, hYfw]; exact h4
    ·have hi' : i < js.length := by rw [← hbsl]; exact (abd.1 hi).1
     have hk' : k < js.length := by rw [← hbsl]; exact (abd.1 hk).1
     obtain ⟨t, q, v, h1, _, h3, _⟩ := hat i _ (abb hi')
     obtain ⟨t2, q2, v2, h12, _, h32, _⟩ := hat k _ (abb hk')
     have e1 := hvs i _ v (abb hi') h3
     have e2 := hvs k _ v2 (abb hk') h32
     simp only [abe, e1, Zf, Yy] at hli
     simp only [abe, e2, Zf, Yy] at hlk
     subst hli; subst hlk
     have hne : js[i] ≠ js[k] := fun e => by
      rcases Nat.lt_or_gt_of_ne hik with hlt | hlt
      ·exact ZY.1 hn i k hi' hk' hlt e
      ·exact ZY.1 hn k i hk' hi' hlt e.symm
     exact hW.apart _ _ _ _ _ _ gg hne (aM h1).1 (aM h12).1 (aM h1).2 (aM h12).2 h3 h32 hgi hgk
   have hargs : aw (aC Y (vps.map Loc.r)) ((c.args.toList.map (aE s)).map (mB js)) (c.args.map a.eval).toList := by
    rw [ZA, aaC]
    have hsub : ∀ x ∈ c.args.toList, SE (aE s x) = true ∧ ∀ j ∈ dw (aE s x), j ∈ js := fun x hx => by
     refine ⟨hm _ (YY.2 ⟨x, hx, rfl⟩), fun j hj => ?_⟩
     rw [← hjs]
     exact Z5.2 ⟨_, YY.2 ⟨x, hx, rfl⟩, hj⟩
    generalize c.args.toList = xs at hsub
    induction xs with
    | nil => exact .nil
    | cons x xs ih => exact .cons (Js hvs (hsub x (by simp)).1 (hsub x (by simp)).2 (au hR.tmps x)) (ih fun x hx => hsub x (by simp [hx]))
   have hf : a.eval f = .func (.func g) #[] #[] := by
    obtain ⟨vs, h1, h2⟩ := aI (au (X := X) hR.tmps f) hv
    have : vs = #[] := by cases vs; cases h2; rfl
    rw [h1, this]
   refine ⟨g, _, uW ho hc hf hM.1 Y.w0, ?_⟩
   have := hcall Y _ hYg (by rw [hYp]; exact hW') (by rw [hYp]; exact hargs)
   rw [show (c.args.map a.eval).toList.toArray = c.args.map a.eval ++ #[] from by rw [Array.append_empty]] at this
   refine this.mono fun e w' ⟨v, he, hval, hbel, hrl, hback⟩ => ⟨v, he, (iU hpl).2 (hval hpl), ?_⟩
   rw [hYp] at hback
   -- a block of ours that was not handed over
   have kept : ∀ (i : Nat) b ℓ gg, i ∉ js → s.blks[i]? = some b → b.on = true → lc[i]? = some ℓ → ℓ.blk = some gg → w'.heap[gg]? = Y.w0.heap[gg]? := fun i b ℓ gg hi hb hon hl hg => by
    refine hbel.block gg ⟨(Loc.lt (hW.blks i b ℓ hb hl) hon hg).2, fun v hvm hvg => ?_, by rw [hYg]; simp⟩
    rw [hYp] at hvm
    obtain ⟨j, t, q, hj, h1, h3⟩ := pinMine v hvm gg hvg
    exact hW.apart i j b _ ℓ _ gg (fun e => hi (e ▸ hj)) hb (aM h1).1 hon (aM h1).2 hl h3 hg hvg
   have onw : ∀ (b : Blk) q, (b.with_ q).on = b.on := fun b q => by cases b <;> rfl
   have back : ∀ (i : Nat) b, bl[i]? = some b → (i ∉ js ∧ s.blks[i]? = some b) ∨ ∃ k q, js[k]? = some i ∧ rs[k]? = some q ∧ b = (nth .dead s.blks i).with_ q := fun i b hb => by
    by_cases hi : i ∈ js
    ·right
     obtain ⟨k, hk⟩ := abk.1 hi
     have hkl : k < rs.length := by rw [hrl, hbsl]; exact (abd.1 hk).1
     have := u3 k i _ hk (abb hkl) (by rw [← u1]; exact (abd.1 hb).1)
     rw [hb] at this
     exact ⟨k, _, hk, abb hkl, by simpa using this⟩
    ·exact .inl ⟨hi, by rw [← u2 i hi]; exact hb⟩
   have wasOn : ∀ (i : Nat) b, bl[i]? = some b → b.on = true → ∃ b0, s.blks[i]? = some b0 ∧ b0.on = true := fun i b hb hon => by
    rcases back i b hb with ⟨_, h1⟩ | ⟨k, q, hk, _, he⟩
    ·exact ⟨b, h1, hon⟩
    ·obtain ⟨t, q2, _, h1, _⟩ := hat k i hk
     exact ⟨_, (aM h1).1, (aM h1).2⟩
   refine ⟨by rw [u1]; exact hW.len, fun i b ℓ hb hl => ?_, fun i j bi bj li lj gg hij hi hj oni onj hli hlj hgi hgj => ?_, ?_, fun k hk => ?_, fun i b ℓ gg hb hon hl hg => ?_⟩
   ·rcases back i b hb with ⟨hi, h1⟩ | ⟨k, q, hk, hq, rfl⟩
    ·exact (hW.blks i b ℓ h1 hl).kept fun gg hon hg => kept i b ℓ gg hi h1 hon hl hg
    ·obtain ⟨t, q0, v0, h1, h2, h3, h4⟩ := hat k i hk
     rw [hl] at h3
     simp only [Yy] at h3
     subst h3
     obtain ⟨hdeep, hback'⟩ := hback k k t q0 v0 q h2 (hvs k i v0 hk hl) hq
     have hin : q.cellsIn X.ft X.fw q.cells := (Row.in_plain hdeep).2 rfl
     have hold := hW.blks i _ _ (aM h1).1 hl
     cases hbb : nth Blk.dead s.blks i with
     | mp _ _ => rw [hbb] at h1; cases h1
     | pcells _ _ _ => rw [hbb] at h1; cases h1
     | pmp _ _ _ => rw [hbb] at h1; cases h1
     | srow _ _ => rw [hbb] at h1; cases h1
     | cells _ _ => rw [hbb] at h1; cases h1
     | dead => rw [hbb] at h1; cases h1
     | row t2 r2 =>
      rw [hbb] at h1 hold
      simp only [Blk.rowOf, Yy, YU] at h1
      obtain ⟨rfl, rfl⟩ := h1
      exact ⟨hold.1, _, hin, hback'⟩
     | prow k2 t2 r2 =>
      rw [hbb] at h1 hold
      simp only [Blk.rowOf, Yy, YU] at h1
      obtain ⟨rfl, rfl⟩ := h1
      exact ⟨hold.1, _, hin, hback'⟩
   ·obtain ⟨b1, h1, h2⟩ := wasOn i bi hi oni
    obtain ⟨b2, h3, h4⟩ := wasOn j bj hj onj
    exact hW.apart i j b1 b2 li lj gg hij h1 h3 h2 h4 hli hlj hgi hgj
   ·refine ⟨hbel.os.trans hW.below.os, hbel.tape.trans hW.below.tape, hbel.output.trans hW.below.output, Zd hW.below.size hbel.size, fun k hk => ?_⟩
    refine (hbel.block k ⟨YJ hk.1 hW.below.size, fun v hvm hvg => ?_, by rw [hYg]; simp⟩).trans (hW.below.block k hk)
    rw [hYp] at hvm
    exact Cx.mine_old (pin_ v hvm k hvg).1 hk
   ·obtain ⟨z1, z2⟩ := hW.frz k hk
    refine ⟨YJ z1 hbel.size, (hbel.block k ⟨z1, fun v hvm hvg => ?_, by rw [hYg]; simp⟩).trans z2⟩
    rw [hYp] at hvm
    exact (pin_ v hvm k hvg).2 hk
   ·obtain ⟨b1, h1, h2⟩ := wasOn i b hb hon
    exact hW.frn i b1 ℓ gg h1 h2 hl hg
  ·cases hK
 ·cases h

end
end Go.Rv
