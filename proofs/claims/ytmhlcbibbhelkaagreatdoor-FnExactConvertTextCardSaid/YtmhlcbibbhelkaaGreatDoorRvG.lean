/- Calls that may turn what they are handed. -/
import Derived.Test.YtmhlcbibbhelkaaGreatDoorRvCall
import Derived.Test.YtmhlcbibbhelkaaGreatDoorRvTidy
namespace Go.Rv
set_option linter.unusedSimpArgs false
open Go.RowKit (Below)
set_option linter.unusedVariables false
section
variable {I : World → Prop} {P : Program} {L : Lay} {β : Type}

def GOK (I : World → Prop) (P : Program) (g : FuncId) (GS : cc β) : Prop :=
 (∃ fn c, P.funcs[g]? = some fn ∧ fn.body = some c ∧ (fn.name == "runtime.NumGoroutine") = false) ∧
 ∀ args bl K r, GS args bl K = some r → ∃ y bl', K y bl' = some r ∧ ∀ (X : Cx I) vs lc, aK X bl X.w0 lc → aB (aC X lc) args vs →
  Calls P g vs.toArray X.w0 (fun e w' => ∃ v X' lc', e = .returned v ∧ X.Le X' ∧ aK X' bl' w' lc' ∧ aC X' lc' y v)
def gu (I : World → Prop) (P : Program) (E : Env β) : Prop := ∀ g GS, gOf E.gfns g = some GS → GOK I P g GS

section
variable {X X' : Cx I} (hf : ∀ k, X.fz k → X'.fz k) (hc : ∀ k, X.fz k → X'.w0.heap[k]? = X.w0.heap[k]?) (hft : X'.ft = X.ft) (hfw : X'.fw = X.fw)
include hf hc hft hfw
theorem MM {f : FSf} {v : Value} (h : fS X f v) : fS X' f v := by
 cases f <;> simp only [fS] at h ⊢ <;> try exact h
 ·exact bf.mono hf hc h
 ·rw [hft, hfw]; exact h
theorem KL {l : List FSf} {off : Nat} {v : Value} (h : dZ X l off v) : dZ X' l off v := by
 obtain ⟨a, h1, h2, h3⟩ := h
 refine ⟨a, h1, hf _ h2, fun m f hm => ?_⟩
 obtain ⟨u, hu, hr⟩ := h3 m f hm
 exact ⟨u, (eV hf hc ⟨h2, hu⟩).2, MM hf hc hft hfw hr⟩
theorem F0 {f : FS} {v : Value} (h : hO X f v) : hO X' f v := by
 cases f <;> simp only [hO] at h ⊢ <;> try exact h
 ·exact bf.mono hf hc h
 ·rw [hft, hfw]; exact h
 ·exact KL hf hc hft hfw h
theorem Fs {l : List FS} {off : Nat} {v : Value} (h : dw X l off v) : dw X' l off v := by
 obtain ⟨a, h1, h2, h3⟩ := h
 refine ⟨a, h1, hf _ h2, fun m f hm => ?_⟩
 obtain ⟨u, hu, hr⟩ := h3 m f hm
 exact ⟨u, (eV hf hc ⟨h2, hu⟩).2, F0 hf hc hft hfw hr⟩
theorem F2 {lc : List Loc} {s : SV} {v : Value} (h : aD X lc s v) : aD X' lc s v := by
 cases s <;> simp only [aD] at h ⊢ <;> try exact h
 ·exact bf.mono hf hc h
 ·obtain ⟨h0, h1, a, h2, h3, h4⟩ := h
  refine ⟨h0, h1, a, h2, hf _ h3, fun m s hm => ?_⟩
  obtain ⟨u, hu, hr⟩ := h4 m s hm
  exact ⟨u, (eV hf hc ⟨h3, hu⟩).2, hr.mono hf hc⟩
 ·exact Fs hf hc hft hfw h
 ·obtain ⟨vs, h1, h2⟩ := h
  exact ⟨vs, h1, h2.mono fun _ _ h => Fs hf hc hft hfw h⟩
 ·rw [fL, hft, hfw]; exact h
 ·rw [hft, hfw]; exact h
 ·rw [hft, hfw]; exact h
 ·rw [hft, hfw]; exact h
 ·obtain ⟨cs, h1, h2⟩ := h
  exact ⟨cs, h1, h2.mono fun _ _ h => F0 hf hc hft hfw h⟩
 ·rw [fL, hft, hfw]; exact h
theorem jc {lc : List Loc} {l : List SV} {vs : List Value} (h : aB (aD X lc) l vs) : aB (aD X' lc) l vs := h.mono fun _ _ h => F2 hf hc hft hfw h
theorem FZ {lc : List Loc} {x : AV} {v : Value} (h : a7 X lc x v) : a7 X' lc x v := by
 cases x with
 | one s => exact F2 hf hc hft hfw h
 | agg l => obtain ⟨cs, h1, h2⟩ := h; exact ⟨cs, h1, jc hf hc hft hfw h2⟩
theorem F3 {lc : List Loc} {x : TV} {v : Value} (h : aC X lc x v) : aC X' lc x v := by
 cases x with
 | v x => exact FZ hf hc hft hfw h
 | tup l => obtain ⟨cs, h1, h2⟩ := h; exact ⟨cs, h1, h2.mono fun _ _ h => FZ hf hc hft hfw h⟩
end

theorem qm {own : Bool} : ∀ (bs : List Blk) (n : Nat) (l : List Blk), HI own bs n = some l → l.length = bs.length ∧ ∀ (i : Nat) b, bs[i]? = some b → ∃ b', l[i]? = some b' ∧ giv own (n + i) b = some b'
 | [], n, l, h => by simp only [HI, ag0] at h; subst h; exact ⟨rfl, fun i b hb => by simp at hb⟩
 | b :: bs, n, l, h => by
  simp only [HI] at h
  split at h
  ·rename_i b' r' h1 h2
   simp only [ag0] at h
   subst h
   obtain ⟨h3, h4⟩ := qm bs (n + 1) r' h2
   refine ⟨by simp [h3], fun i b0 hb => ?_⟩
   cases i with
   | zero => simp at hb; subst hb; exact ⟨b', rfl, h1⟩
   | succ i =>
    obtain ⟨b2, h5, h6⟩ := h4 i b0 (by simpa using hb)
    exact ⟨b2, by simpa using h5, by rw [← h6]; congr 1; omega⟩
  ·cases h
theorem yq {own : Bool} {n : Nat} {b b' : Blk} (h : giv own n b = some b') : b.on = true ∧ b'.on = true := by
 cases own <;> cases b <;> simp only [giv, agY, agX, ag0, reduceCtorEq] at h <;> subst h <;> exact ⟨rfl, rfl⟩

def H2 : Loc → Value
 | .r v => v
 | _ => undef
def g8 (n : Nat) : Loc → Nat
 | .c g | .m g => g
 | .r _ => n
theorem LZ {X : Cx I} {w : World} {lc : List Loc} (h : ∀ k, X.fz k → k < w.heap.size ∧ ∀ ℓ ∈ lc, ℓ.blk ≠ some k) (k : Nat) (hk : X.fz k) :
  k < w.heap.size ∧ (∀ v ∈ lc.map H2, v.ownBlock ≠ some k) ∧ k ∉ lc.map (g8 w.heap.size) := by
 refine ⟨(h k hk).1, fun v hv hb => ?_, fun hg => ?_⟩
 ·obtain ⟨ℓ, hℓ, rfl⟩ := ahp.1 hv
  cases ℓ with
  | r v => exact (h k hk).2 _ hℓ hb
  | c g => cases hb
  | m g => cases hb
 ·obtain ⟨ℓ, hℓ, he⟩ := ahp.1 hg
  cases ℓ with
  | r v => have := (h k hk).1; simp only [g8] at he; omega
  | c g => exact (h k hk).2 _ hℓ (by simp only [g8] at he; rw [← he]; rfl)
  | m g => exact (h k hk).2 _ hℓ (by simp only [g8] at he; rw [← he]; rfl)
def bQ (X : Cx I) (w : World) (lc : List Loc) (h : ∀ k, X.fz k → k < w.heap.size ∧ ∀ ℓ ∈ lc, ℓ.blk ≠ some k) (hb : bx X w) (hm : ∀ ℓ ∈ lc, ∀ k, ℓ.blk = some k → X.mine k) : Cx I :=
 ⟨w, lc.map H2, lc.map (g8 w.heap.size), X.fz, X.ft, X.fw, LZ h, fun w2 hw2 => X.keep w2 fun k h1 h2 h3 => by
  refine (hw2 k (ag9 h1 hb.size) (fun v hv e => ?_) fun hg => ?_).trans (hb.block k ⟨h1, h2, h3⟩)
  ·obtain ⟨ℓ, hℓ, rfl⟩ := ahp.1 hv
   cases ℓ with
   | r v => exact Cx.mine_old (hm _ hℓ k e) ⟨h1, h2, h3⟩
   | c g => cases e
   | m g => cases e
  ·obtain ⟨ℓ, hℓ, he⟩ := ahp.1 hg
   cases ℓ with
   | r v => have := hb.size; simp only [g8] at he; omega
   | c g => exact Cx.mine_old (hm _ hℓ k (by simp only [g8] at he; rw [← he]; rfl)) ⟨h1, h2, h3⟩
   | m g => exact Cx.mine_old (hm _ hℓ k (by simp only [g8] at he; rw [← he]; rfl)) ⟨h1, h2, h3⟩⟩

theorem LY {own : Bool} {X : Cx I} {w : World} {bs0 bs : List Blk} {lc : List Loc} (hW : aK X bs0 w lc) (hg : HI own bs0 0 = some bs) (h) (hm) : aK (bQ X w lc h hW.below hm) bs w lc := by
 obtain ⟨hlen, hgiv⟩ := qm _ _ _ hg
 have hcell : ∀ k, X.fz k → (bQ X w lc h hW.below hm).w0.heap[k]? = X.w0.heap[k]? := fun k hk => hW.below.block k (X.sub _ hk)
 have back : ∀ (i : Nat) b', bs[i]? = some b' → ∃ b, bs0[i]? = some b ∧ giv own i b = some b' := fun i b' hb' => by
  have hi : i < bs0.length := by rw [← hlen]; exact (ajE.1 hb').1
  obtain ⟨b2, h1, h2⟩ := hgiv i _ (ajC hi)
  rw [hb'] at h1
  simp only [ag0] at h1
  subst h1
  exact ⟨_, ajC hi, by simpa using h2⟩
 refine ⟨by rw [hW.len, hlen], fun i b' ℓ hb' hl => ?_, fun i j bi bj li lj g hij hi hj oni onj hli hlj hgi => ?_, ⟨rfl, rfl, rfl, ag7 _, fun _ _ => rfl⟩, hW.frz, fun i b' ℓ g hb' _ hl hg => by
  obtain ⟨b, hb, hgv⟩ := back i b' hb'
  exact hW.frn i b ℓ g hb (yq hgv).1 hl hg⟩
 ·obtain ⟨b, hb, hgv⟩ := back i b' hb'
  have hr := hW.blks i b ℓ hb hl
  have hgp : ∀ g, ℓ.blk = some g → (∀ v, ℓ ≠ .r v) → (bQ X w lc h hW.below hm).gp[i]? = some g := fun g hg hv => by
   show (lc.map (g8 w.heap.size))[i]? = some g
   rw [ajF, hl]
   cases ℓ with
   | r v => exact absurd rfl (hv v)
   | c g' => simpa [Loc.blk, g8] using hg
   | m g' => simpa [Loc.blk, g8] using hg
  have hpin : ∀ v, ℓ = .r v → (bQ X w lc h hW.below hm).pins[i]? = some v := fun v hv => by
   show (lc.map H2)[i]? = some v
   rw [ajF, hl, hv]; rfl
  cases own <;> cases b <;> simp only [giv, agY, agX, ag0, reduceCtorEq] at hgv <;> subst hgv <;> cases ℓ <;> simp only [di] at hr ⊢
  ·obtain ⟨_, cs, h1, h2⟩ := hr
   exact ⟨hgp _ rfl (fun v e => by cases e), cs, h1, jc (X := X) (X' := bQ X w lc h hW.below hm) (fun k hk => hk) hcell rfl rfl h2⟩
  ·exact ⟨hpin _ rfl, hr.2⟩
  ·exact ⟨hpin _ rfl, hr.2⟩
  ·exact ⟨hgp _ rfl (fun v e => by cases e), hr.2⟩
  ·obtain ⟨_, cs, h1, h2⟩ := hr
   exact ⟨hgp _ rfl (fun v e => by cases e), cs, h1, jc (X := X) (X' := bQ X w lc h hW.below hm) (fun k hk => hk) hcell rfl rfl h2⟩
  ·exact ⟨hgp _ rfl (fun v e => by cases e), hr.2⟩
  ·obtain ⟨_, cs, h1, h2⟩ := hr
   exact ⟨hgp _ rfl (fun v e => by cases e), cs, h1, jc (X := X) (X' := bQ X w lc h hW.below hm) (fun k hk => hk) hcell rfl rfl h2⟩
  ·exact ⟨fun g hg => .inr (.inl ⟨_, ajM (hpin _ rfl), hg⟩), hr.2⟩
  ·exact ⟨fun g hg => .inr (.inl ⟨_, ajM (hpin _ rfl), hg⟩), hr.2⟩
  ·exact ⟨hgp _ rfl (fun v e => by cases e), hr.2⟩
  ·obtain ⟨_, cs, h1, h2⟩ := hr
   exact ⟨hgp _ rfl (fun v e => by cases e), cs, h1, jc (X := X) (X' := bQ X w lc h hW.below hm) (fun k hk => hk) hcell rfl rfl h2⟩
  ·exact ⟨hgp _ rfl (fun v e => by cases e), hr.2⟩
 ·obtain ⟨b1, h1, h2⟩ := back i bi hi
  obtain ⟨b2, h3, h4⟩ := back j bj hj
  exact hW.apart i j b1 b2 li lj g hij h1 h3 (yq h2).1 (yq h4).1 hli hlj hgi

def bY : List Blk → List Loc → List Loc
 | b :: r, ℓ :: ls => match b.num with
  | some _ => bY r ls
  | none => ℓ :: bY r ls
 | _, _ => []

theorem jy {bl0 : List Blk} {js : List Nat} : ∀ (bl : List Blk) (lc : List Loc) (n : Nat) (f : List Nat), bl.length = lc.length → mG bl0 js bl n = some f → f.length = bl.length ∧
  ∀ (i : Nat) b ℓ, bl[i]? = some b → lc[i]? = some ℓ → (∃ k j, b.num = some k ∧ js[k]? = some j ∧ f[i]? = some j ∧ so b (nth .dead bl0 j) = true) ∨
   (b.num = none ∧ ∃ m, f[i]? = some (n + m) ∧ (bY bl lc)[m]? = some ℓ ∧ ∀ F, (cO F bl)[m]? = some (atB F b))
 | [], lc, n, f, _, h => by simp only [mG, ag0] at h; subst h; exact ⟨rfl, fun i b ℓ hb => by simp at hb⟩
 | b :: bl, [], n, f, hl, h => by simp at hl
 | b :: bl, ℓ0 :: lc, n, f, hl, h => by
  simp only [mG] at h
  have hl' : bl.length = lc.length := by simpa using hl
  split at h
  ·rename_i k hk
   split at h
   ·rename_i j l hj hb
    obtain ⟨hag, h⟩ := aH h
    simp only [ag0] at h
    subst h
    obtain ⟨h1, h2⟩ := jy bl lc n l hl' hb
    refine ⟨by simp [h1], fun i b' ℓ hi hℓ => ?_⟩
    cases i with
    | zero => simp at hi; subst hi; exact .inl ⟨k, j, hk, hj, rfl, hag⟩
    | succ i =>
     rcases h2 i b' ℓ (by simpa using hi) (by simpa using hℓ) with ⟨k', j', h3, h4, h5, h7⟩ | ⟨h3, m, h4, h5, h6⟩
     ·exact .inl ⟨k', j', h3, h4, by simpa using h5, h7⟩
     ·exact .inr ⟨h3, m, by simpa using h4, by simpa [bY, hk] using h5, fun F => by simpa [cO, hk] using h6 F⟩
   ·cases h
  ·rename_i hk
   split at h
   ·rename_i l hb
    simp only [ag0] at h
    subst h
    obtain ⟨h1, h2⟩ := jy bl lc (n + 1) l hl' hb
    refine ⟨by simp [h1], fun i b' ℓ hi hℓ => ?_⟩
    cases i with
    | zero =>
     simp at hi hℓ
     subst hi; subst hℓ
     exact .inr ⟨hk, 0, by simp, by simp [bY, hk], fun F => by simp [cO, hk]⟩
    | succ i =>
     rcases h2 i b' ℓ (by simpa using hi) (by simpa using hℓ) with ⟨k', j', h3, h4, h5, h7⟩ | ⟨h3, m, h4, h5, h6⟩
     ·exact .inl ⟨k', j', h3, h4, by simpa using h5, h7⟩
     ·exact .inr ⟨h3, m + 1, by simp only [ajA]; rw [h4]; congr 1; omega, by simpa [bY, hk] using h5, fun F => by simpa [cO, hk] using h6 F⟩
   ·cases h

theorem wA {F : List Nat} : ∀ (bl : List Blk) (lc : List Loc), bl.length = lc.length → (bY bl lc).length = (cO F bl).length ∧
  ∀ (m : Nat) b', (cO F bl)[m]? = some b' → ∃ (i : Nat) (b : Blk) (ℓ : Loc), bl[i]? = some b ∧ lc[i]? = some ℓ ∧ b.num = none ∧ b' = atB F b ∧ (bY bl lc)[m]? = some ℓ ∧ (bl.take i).countP (fun b => b.num.isNone) = m
 | [], [], _ => ⟨rfl, fun m b' h => by simp [cO] at h⟩
 | [], _ :: _, h => by simp at h
 | _ :: _, [], h => by simp at h
 | b :: bl, ℓ :: lc, hl => by
  obtain ⟨h1, h2⟩ := wA bl lc (F := F) (by simpa using hl)
  cases hk : b.num with
  | some k =>
   refine ⟨by simp [bY, cO, hk, h1], fun m b' h => ?_⟩
   simp only [cO, hk] at h
   obtain ⟨i, b2, ℓ2, e1, e2, e3, e4, e5, e6⟩ := h2 m b' h
   exact ⟨i + 1, b2, ℓ2, by simpa using e1, by simpa using e2, e3, e4, by simpa [bY, hk] using e5, by simpa [hk] using e6⟩
  | none =>
   refine ⟨by simp [bY, cO, hk, h1], fun m b' h => ?_⟩
   simp only [cO, hk] at h
   cases m with
   | zero => simp at h; exact ⟨0, b, ℓ, rfl, rfl, hk, h.symm, by simp [bY, hk], rfl⟩
   | succ m =>
    obtain ⟨i, b2, ℓ2, e1, e2, e3, e4, e5, e6⟩ := h2 m b' (by simpa using h)
    exact ⟨i + 1, b2, ℓ2, by simpa using e1, by simpa using e2, e3, e4, by simpa [bY, hk] using e5, by simp [hk, e6]⟩

theorem iE {k : Nat} : ∀ {bl : List Blk} {b : Blk}, pe k bl = some b → ∃ i : Nat, bl[i]? = some b ∧ b.num = some k
 | [], b, h => by cases h
 | b0 :: bl, b, h => by
  simp only [pe] at h
  cases hk : b0.num with
  | none => rw [hk] at h; obtain ⟨i, h1, h2⟩ := iE h; exact ⟨i + 1, by simpa using h1, h2⟩
  | some i =>
   rw [hk] at h
   simp only at h
   cases hb : Nat.beq i k with
   | true =>
    rw [hb] at h
    simp only [agY, ag0] at h
    subst h
    exact ⟨0, rfl, by rw [hk, ag2 hb]⟩
   | false => rw [hb] at h; obtain ⟨i, h1, h2⟩ := iE (by simpa using h); exact ⟨i + 1, by simpa using h1, h2⟩

theorem tJ {bl bl' : List Blk} {f : List Nat} : ∀ (js : List Nat) (k : Nat) (al : List (Nat × Blk)), wF bl f bl' js k = some al → al.map Prod.fst = js ∧
  ∀ (n j : Nat) (b' : Blk), js[n]? = some j → (j, b') ∈ al → al[n]? = some (j, b') → b' = .dead ∨ ∃ (i : Nat) (b : Blk), bl'[i]? = some b ∧ b.num = some (k + n) ∧ Fm f (nth .dead bl j) b = some b'
 | [], k, al, h => by simp only [wF, ag0] at h; subst h; exact ⟨rfl, fun n j b' hn => by simp at hn⟩
 | j :: js, k, al, h => by
  simp only [wF] at h
  split at h
  ·rename_i b1 l h1 h2
   simp only [ag0] at h
   subst h
   obtain ⟨h3, h4⟩ := tJ js (k + 1) l h2
   refine ⟨by simp [h3], fun n j' b' hn hm ha => ?_⟩
   cases n with
   | zero =>
    simp at hn ha
    obtain ⟨rfl, rfl⟩ := ha
    split at h1
    ·rename_i b hb
     obtain ⟨i, hi, hk⟩ := iE hb
     exact .inr ⟨i, b, hi, by simpa using hk, h1⟩
    ·simp only [ag0] at h1
     exact .inl h1.symm
   | succ n =>
    have ha' : l[n]? = some (j', b') := by simpa using ha
    rcases h4 n j' b' (by simpa using hn) (ajM ha') ha' with h | ⟨i, b, h5, h6, h7⟩
    ·exact .inl h
    ·exact .inr ⟨i, b, h5, by rw [h6]; congr 1; omega, h7⟩
  ·cases h

theorem rn : ∀ (al : List (Nat × Blk)) (bl : List Blk), (al.map Prod.fst).Nodup → (∀ p ∈ al, p.1 < bl.length) → (fF bl al).length = bl.length ∧
  (∀ j, j ∉ al.map Prod.fst → (fF bl al)[j]? = bl[j]?) ∧ ∀ p ∈ al, (fF bl al)[p.1]? = some p.2
 | [], bl, _, _ => ⟨rfl, fun _ _ => rfl, fun p hp => by simp at hp⟩
 | (j, b) :: al, bl, hn, hl => by
  simp only [ahC, aiK] at hn
  obtain ⟨h1, h2, h3⟩ := rn al bl hn.2 (fun p hp => hl p (by simp [hp]))
  have hj : j < bl.length := hl (j, b) (by simp)
  refine ⟨by simp [fF, bR, h1], fun i hi => ?_, fun p hp => ?_⟩
  ·simp only [ahC, ahe, not_or] at hi
   simp only [fF, bR]
   rw [ajH (Ne.symm hi.1)]
   exact h2 i hi.2
  ·simp only [fF, bR]
   rcases ahe.1 hp with rfl | hp
   ·rw [ajI (by rw [h1]; exact hj)]
   ·have : j ≠ p.1 := fun e => hn.1 (by rw [e]; exact ahp.2 ⟨p, hp, rfl⟩)
    rw [ajH this]
    exact h3 p hp

theorem q8 {lc lc2 : List Loc} {f : List Nat} (hloc : ∀ (i j : Nat) g, lc[i]? = some (.c g) → f[i]? = some j → lc2[j]? = some (.c g)) : ∀ (caps l : List (Nat × Nat)) (vs : List Value), pv f caps = some l → aB (dC lc) caps vs → aB (dC lc2) l vs
 | [], l, vs, h, hv => by cases hv; simp only [pv, ag0] at h; subst h; exact .nil
 | (j, o) :: caps, l, vs, h, hv => by
  cases hv with
  | cons h1 h2 =>
  simp only [pv] at h
  split at h
  ·rename_i i l' hi hl
   simp only [ag0] at h
   subst h
   obtain ⟨g, hg, he⟩ := h1
   exact .cons ⟨g, hloc _ _ _ hg hi, he⟩ (q8 hloc caps l' _ hl h2)
  ·cases h

theorem Fk {X : Cx I} {lc lc2 : List Loc} {f : List Nat} (hloc : ∀ (i j : Nat) ℓ, lc[i]? = some ℓ → f[i]? = some j → lc2[j]? = some ℓ) {s : SV} {v : Value} (h : aD X lc s v) : aD X lc2 (atS f s) v := by
 cases s <;> try exact h
 ·rename_i j o
  obtain ⟨g, hg, he⟩ := h
  simp only [atS]
  split
  ·rename_i i hi; exact ⟨g, hloc _ _ _ hg hi, he⟩
  ·trivial
 ·rename_i j
  obtain ⟨hg, he⟩ := h
  simp only [atS]
  split
  ·rename_i i hi; exact ⟨hloc _ _ _ hg hi, he⟩
  ·trivial
 ·rename_i j z i o
  obtain ⟨g, n, c, hg, he⟩ := h
  simp only [atS]
  split
  ·rename_i k hi; exact ⟨g, n, c, hloc _ _ _ hg hi, he⟩
  ·trivial
 ·rename_i g caps
  obtain ⟨vs, h1, h2⟩ := h
  simp only [atS]
  split
  ·rename_i c hc; exact ⟨vs, h1, q8 (fun i j g => hloc i j _) _ _ _ hc h2⟩
  ·trivial
 ·rename_i j
  obtain ⟨g, hg, he⟩ := h
  simp only [atS]
  split
  ·rename_i i hi; exact ⟨g, hloc _ _ _ hg hi, he⟩
  ·trivial
 ·rename_i j i
  obtain ⟨g, n, c, hg, he⟩ := h
  simp only [atS]
  split
  ·rename_i k hi; exact ⟨g, n, c, hloc _ _ _ hg hi, he⟩
  ·trivial

theorem xY {X : Cx I} {lc lc2 : List Loc} {f : List Nat} (hloc : ∀ (i j : Nat) ℓ, lc[i]? = some ℓ → f[i]? = some j → lc2[j]? = some ℓ) {l : List SV} {vs : List Value} (h : aB (aD X lc) l vs) : aB (aD X lc2) (l.map (atS f)) vs :=
 aB.map_left (h.mono fun _ _ h => Fk hloc h)
theorem Fj {X : Cx I} {lc lc2 : List Loc} {f : List Nat} (hloc : ∀ (i j : Nat) ℓ, lc[i]? = some ℓ → f[i]? = some j → lc2[j]? = some ℓ) {x : AV} {v : Value} (h : a7 X lc x v) : a7 X lc2 (atA f x) v := by
 cases x with
 | one s => exact Fk hloc h
 | agg l => obtain ⟨cs, h1, h2⟩ := h; exact ⟨cs, h1, xY hloc h2⟩
theorem Qt {X : Cx I} {lc lc2 : List Loc} {f : List Nat} (hloc : ∀ (i j : Nat) ℓ, lc[i]? = some ℓ → f[i]? = some j → lc2[j]? = some ℓ) {x : TV} {v : Value} (h : aC X lc x v) : aC X lc2 (atT f x) v := by
 cases x with
 | v x => exact Fj hloc h
 | tup l => obtain ⟨cs, h1, h2⟩ := h; exact ⟨cs, h1, aB.map_left (h2.mono fun _ _ h => Fj hloc h)⟩

theorem Hp {X X2 : Cx I} {blks bl' : List Blk} {w w' : World} {lc lc' : List Loc} {js f : List Nat} {al : List (Nat × Blk)} (hW : aK X blks w lc) (hn : js.Nodup) (hon : ∀ j ∈ js, (nth Blk.dead blks j).on = true) (h) (hm)
    (hle : (bQ X w (ba lc js) h hW.below hm).Le X2) (hW' : aK X2 bl' w' lc') (hf : mG blks js bl' blks.length = some f) (hal : wF blks f bl' js 0 = some al) :
    ∃ more, X.Le (X.grow X2.ft X2.fw) ∧ aK (X.grow X2.ft X2.fw) (fF blks al ++ cO f bl') w' (lc ++ more) ∧ ∀ y v, aC X2 lc' y v → aC (X.grow X2.ft X2.fw) (lc ++ more) (atT f y) v := by
  obtain ⟨ft, fw, a1, a2, a3⟩ := hle
  show ∃ more, X.Le (X.grow ft fw) ∧ aK (X.grow ft fw) (fF blks al ++ cO f bl') w' (lc ++ more) ∧ ∀ y v, aC _ lc' y v → aC (X.grow ft fw) (lc ++ more) (atT f y) v
  have blk_ : ∀ j ∈ js, blks[j]? = some (nth .dead blks j) := fun j hj => cn rfl (fun e => by have := hon j hj; rw [e] at this; cases this)
  have lc_ : ∀ j ∈ js, ∃ ℓ, lc[j]? = some ℓ := fun j hj => by
    have : j < lc.length := by rw [hW.len]; exact (ajE.1 (blk_ j hj)).1
    exact ⟨_, ajC this⟩
  have sel_ : ∀ (k j : Nat) ℓ, js[k]? = some j → lc[j]? = some ℓ → (ba lc js)[k]? = some ℓ := fun k j ℓ hk hl => dj hk hl
  obtain ⟨hfl, hfs⟩ := jy bl' lc' blks.length f hW'.len.symm hf
  -- what the call may have turned
  have mineOf : ∀ g, ((bQ X w (ba lc js) h hW.below hm).grow ft fw).mine g → w.heap.size ≤ g ∨ ∃ j ∈ js, ∃ ℓ, lc[j]? = some ℓ ∧ ℓ.blk = some g := by
    intro g hg
    rcases hg with hg | ⟨v, hv, hvg⟩ | hg
    · exact .inl hg
    · obtain ⟨ℓ1, hm1, rfl⟩ := ahp.1 hv
      obtain ⟨j1, hj1, he⟩ := ahp.1 hm1
      obtain ⟨ℓ2, hl2⟩ := lc_ j1 hj1
      rw [hl2] at he
      simp only [ah0] at he
      subst he
      cases ℓ2 with
      | r v => exact .inr ⟨j1, hj1, _, hl2, hvg⟩
      | c g => cases hvg
      | m g => cases hvg
    · obtain ⟨ℓ1, hm1, he1⟩ := ahp.1 hg
      obtain ⟨j1, hj1, he⟩ := ahp.1 hm1
      obtain ⟨ℓ2, hl2⟩ := lc_ j1 hj1
      rw [hl2] at he
      simp only [ah0] at he
      subst he
      cases ℓ2 with
      | r v => simp only [g8] at he1; exact .inl (by omega)
      | c g2 => exact .inr ⟨j1, hj1, _, hl2, by simp only [g8] at he1; rw [← he1]; rfl⟩
      | m g2 => exact .inr ⟨j1, hj1, _, hl2, by simp only [g8] at he1; rw [← he1]; rfl⟩
  have hbase : X.base ≤ w.heap.size := hW.below.size
  have mineX : ∀ g, ((bQ X w (ba lc js) h hW.below hm).grow ft fw).mine g → X.mine g := by
    intro g hg
    rcases mineOf g hg with hg | ⟨j1, hj1, ℓ2, hl2, hg⟩
    · exact .inl (ahy hbase hg)
    · exact (Loc.lt (hW.blks j1 _ ℓ2 (blk_ j1 hj1) hl2) (hon j1 hj1) hg).1
  have hle : X.Le (X.grow ft fw) := .mk ft fw a1 a2 fun k hk => (a3 k hk).imp id fun hm => mineX k hm
  -- a block that came back lies where it lay
  have pinLoc : ∀ (i : Nat) b ℓ k j, bl'[i]? = some b → lc'[i]? = some ℓ → b.num = some k → js[k]? = some j → so b (nth .dead blks j) = true → lc[j]? = some ℓ := by
    intro i b ℓ k j hb hl hk hj hag
    have hjm : j ∈ js := ajM hj
    obtain ⟨ℓ0, hl0⟩ := lc_ j hjm
    have hs := sel_ k j ℓ0 hj hl0
    have hr := hW'.blks i b ℓ hb hl
    have hr0 := hW.blks j _ ℓ0 (blk_ j hjm) hl0
    have hgp : ((bQ X w (ba lc js) h hW.below hm).grow ft fw).gp[k]? = some (g8 w.heap.size ℓ0) := by
      show ((ba lc js).map (g8 w.heap.size))[k]? = _
      rw [ajF, hs]; rfl
    have hpn : ((bQ X w (ba lc js) h hW.below hm).grow ft fw).pins[k]? = some (H2 ℓ0) := by
      show ((ba lc js).map H2)[k]? = _
      rw [ajF, hs]; rfl
    rw [hl0]
    cases b <;> simp only [Blk.num, ag0, reduceCtorEq] at hk <;> subst hk <;> cases hbo : nth Blk.dead blks j <;> rw [hbo] at hag hr0 <;> simp only [so, ahM] at hag <;>
      cases ℓ <;> simp only [di] at hr <;> cases ℓ0 <;> simp only [di] at hr0
    all_goals first
      | (have e := hr.1
         rw [hgp] at e
         simp only [g8, ag0] at e
         rw [e])
      | (have e := hr.1
         rw [hpn] at e
         simp only [H2, ag0] at e
         rw [e])
  have hloc : ∀ (i j : Nat) ℓ, lc'[i]? = some ℓ → f[i]? = some j → (lc ++ bY bl' lc')[j]? = some ℓ := by
    intro i j ℓ hl hfi
    have hi : i < bl'.length := by rw [← hW'.len]; exact (ajE.1 hl).1
    rcases hfs i _ ℓ (ajC hi) hl with ⟨k, j', h1, h2, h3, h4⟩ | ⟨h1, m, h2, h3, _⟩
    · rw [hfi] at h3
      simp only [ag0] at h3
      subst h3
      exact dA _ (pinLoc i _ ℓ k j (ajC hi) hl h1 h2 h4)
    · rw [hfi] at h2
      simp only [ag0] at h2
      subst h2
      rw [← hW.len, ajz (by omega)]
      simpa using h3
  have hcell : ∀ k, ((bQ X w (ba lc js) h hW.below hm).grow ft fw).fz k → (X.grow ft fw).w0.heap[k]? = ((bQ X w (ba lc js) h hW.below hm).grow ft fw).w0.heap[k]? := fun k hk => (hW.below.block k (X.sub _ hk)).symm
  have hfz : ∀ k, ((bQ X w (ba lc js) h hW.below hm).grow ft fw).fz k → (X.grow ft fw).fz k := fun k hk => hk
  obtain ⟨ha1, ha2⟩ := tJ js 0 al hal
  have hkeys : ∀ p ∈ al, p.1 < blks.length := fun p hp => by
    have : p.1 ∈ js := by rw [← ha1]; exact ahp.2 ⟨p, hp, rfl⟩
    exact (ajE.1 (blk_ _ this)).1
  obtain ⟨hs1, hs2, hs3⟩ := rn al blks (by rw [ha1]; exact hn) hkeys
  obtain ⟨hm1, hm2⟩ := wA (F := f) bl' lc' hW'.len.symm
  -- what was not handed over is none of what the call may have turned
  have away : ∀ (j : Nat) b ℓ g, j ∉ js → blks[j]? = some b → b.on = true → lc[j]? = some ℓ → ℓ.blk = some g → ¬ ((bQ X w (ba lc js) h hW.below hm).grow ft fw).mine g := by
    intro j b ℓ g hj hb ho hl hg hmn
    rcases mineOf g hmn with h1 | ⟨j1, hj1, ℓ2, hl2, hg2⟩
    · have := (Loc.lt (hW.blks j b ℓ hb hl) ho hg).2
      omega
    · exact hW.apart j j1 b _ ℓ ℓ2 g (fun e => hj (e ▸ hj1)) hb (blk_ j1 hj1) ho (hon j1 hj1) hl hl2 hg hg2
  have untouched : ∀ (j : Nat) b ℓ g, j ∉ js → blks[j]? = some b → b.on = true → lc[j]? = some ℓ → ℓ.blk = some g → w'.heap[g]? = w.heap[g]? := by
    intro j b ℓ g hj hb ho hl hg
    rcases Cx.old_or (X := (bQ X w (ba lc js) h hW.below hm).grow ft fw) g with ho' | hm'
    · exact hW'.below.block g ho'
    · exact absurd hm' (away j b ℓ g hj hb ho hl hg)
  -- the blocks afterwards
  have back : ∀ (j : Nat) b ℓ, (fF blks al ++ cO f bl')[j]? = some b → (lc ++ bY bl' lc')[j]? = some ℓ → b.on = true →
      (j ∉ js ∧ blks[j]? = some b ∧ lc[j]? = some ℓ) ∨
      (∃ (i : Nat) (b0 : Blk), bl'[i]? = some b0 ∧ lc'[i]? = some ℓ ∧ b0.on = true ∧ ((∃ k, b0.num = some k ∧ js[k]? = some j) ∨ (b0.num = none ∧ blks.length ≤ j ∧ (bl'.take i).countP (fun b => b.num.isNone) = j - blks.length)) ∧ di (X.grow ft fw) (lc ++ bY bl' lc') w' b ℓ) := by
    intro j b ℓ hb hl ho
    rcases ahf j blks.length with hlt | hge
    · rw [ajy (by rw [hs1]; exact hlt)] at hb
      rw [ajy (by rw [hW.len]; exact hlt)] at hl
      by_cases hj : j ∈ js
      · right
        obtain ⟨n, hnj⟩ := ajL.1 hj
        have : ∃ b', al[n]? = some (j, b') := by
          have e : (al.map Prod.fst)[n]? = some j := by rw [ha1]; exact hnj
          rw [ajF] at e
          cases ha : al[n]? with
          | none => rw [ha] at e; cases e
          | some p =>
            rw [ha] at e
            simp only [ahA, ag0] at e
            exact ⟨p.2, by rw [← e]⟩
        obtain ⟨b', hb'⟩ := this
        have e := hs3 _ (ajM hb')
        simp only at e
        rw [hb] at e
        simp only [ag0] at e
        subst e
        rcases ha2 n j b hnj (ajM hb') hb' with hd | ⟨i, b0, h1, h2, h3⟩
        · rw [hd] at ho; cases ho
        · have hi : i < lc'.length := by rw [hW'.len]; exact (ajE.1 h1).1
          have hli := ajC hi
          have hr := hW'.blks i b0 _ h1 hli
          have hag : so b0 (nth .dead blks j) = true := by
            cases b0 <;> simp only [Fm, reduceCtorEq] at h3 <;> cases hbo : nth Blk.dead blks j <;> rw [hbo] at h3 <;> first | rfl | cases h3
          have hll := pinLoc i b0 _ _ j h1 hli (by rw [h2, ahD]) hnj hag
          rw [hl] at hll
          simp only [ag0] at hll
          have hon0 : b0.on = true := by cases b0 <;> first | rfl | cases h2
          refine ⟨i, b0, h1, by rw [hll]; exact hli, hon0, .inl ⟨n, by rw [h2, ahD], hnj⟩, ?_⟩
          rw [← hll] at hr
          have hr0 := hW.blks j _ ℓ (blk_ j hj) hl
          have cellsBack : ∀ {l : List SV} {t : TypeId} {g : Nat}, (∃ cs, w'.heap[g]? = some (.cells cs t (0, 0)) ∧ aB (aD ((bQ X w (ba lc js) h hW.below hm).grow ft fw) lc') l cs.toList) →
              ∃ cs, w'.heap[g]? = some (.cells cs t (0, 0)) ∧ aB (aD (X.grow ft fw) (lc ++ bY bl' lc')) (l.map (atS f)) cs.toList := fun ⟨cs, e1, e2⟩ => ⟨cs, e1, xY hloc (jc hfz hcell rfl rfl e2)⟩
          cases b0 <;> simp only [Fm, reduceCtorEq] at h3 <;> cases hbo : nth Blk.dead blks j <;> rw [hbo] at h3 hr0 <;> simp only [ag0, reduceCtorEq] at h3 <;> subst h3 <;>
            cases ℓ <;> simp only [di] at hr hr0 ⊢
          all_goals first
            | exact ⟨hr0.1, cellsBack hr.2⟩
            | exact ⟨hr0.1, hr.2⟩
      · refine .inl ⟨hj, ?_, hl⟩
        rw [hs2 j (by rw [ha1]; exact hj)] at hb
        exact hb
    · right
      rw [ajz (by rw [hs1]; exact hge), hs1] at hb
      rw [ajz (by rw [hW.len]; exact hge), hW.len] at hl
      obtain ⟨i, b0, ℓ0, h1, h2, h3, h4, h5, h6⟩ := hm2 _ b hb
      rw [hl] at h5
      simp only [ag0] at h5
      subst h5
      have hr := hW'.blks i b0 ℓ h1 h2
      have ho0 : b0.on = true := by subst h4; cases b0 <;> first | rfl | exact ho
      refine ⟨i, b0, h1, h2, ho0, .inr ⟨h3, hge, h6⟩, ?_⟩
      subst h4
      cases b0 <;> simp only [Blk.num, reduceCtorEq] at h3 <;> cases ℓ <;> simp only [di] at hr <;> simp only [atB, di]
      · obtain ⟨e1, cs, e2, e3⟩ := hr
        exact ⟨ahy hbase e1, cs, e2, xY hloc (jc hfz hcell rfl rfl e3)⟩
      · exact ⟨fun g hg => mineX g (hr.1 g hg), hr.2⟩
      · exact ⟨ahy hbase hr.1, hr.2⟩
      · exact ⟨fun g hg => mineX g (hr.1 g hg), hr.2⟩
  refine ⟨bY bl' lc', hle, ⟨by simp [hs1, hW.len, hm1], fun j b ℓ hb hl => ?_, fun j1 j2 b1 b2 l1 l2 g hj hb1 hb2 on1 on2 hl1 hl2 hg1 hg2 => ?_, ?_, hW'.frz, fun j b ℓ g hb ho hl hg => ?_⟩, fun y v hy => Qt hloc (F3 (X' := X.grow ft fw) hfz hcell rfl rfl hy)⟩
  · cases ho : b.on with
    | false => cases b <;> first | (cases ho; done) | (cases ℓ <;> trivial)
    | true =>
      rcases back j b ℓ hb hl ho with ⟨h1, h2, h3⟩ | ⟨_, _, _, _, _, _, h3⟩
      · exact (((hW.blks j b ℓ h2 h3).kept fun g hon' hg => untouched j b ℓ g h1 h2 hon' h3 hg).grow hle).more _
      · exact h3
  · rcases back j1 b1 l1 hb1 hl1 on1 with ⟨n1, h2, h3⟩ | ⟨i1, c1, h1, h2, h3, h4, _⟩ <;> rcases back j2 b2 l2 hb2 hl2 on2 with ⟨n2, k2, k3⟩ | ⟨i2, c2, k1, k2, k3, k4, _⟩
    · exact hW.apart j1 j2 b1 b2 l1 l2 g hj h2 k2 on1 on2 h3 k3 hg1 hg2
    · exact away j1 b1 l1 g n1 h2 on1 h3 hg1 (Loc.lt (hW'.blks i2 c2 l2 k1 k2) k3 hg2).1
    · exact away j2 b2 l2 g n2 k2 on2 k3 hg2 (Loc.lt (hW'.blks i1 c1 l1 h1 h2) h3 hg1).1
    · have hne : i1 ≠ i2 := fun e => by
        subst e
        rw [h1] at k1
        cases k1
        rcases h4 with ⟨k, e1, e2⟩ | ⟨e1, e2, e3⟩ <;> rcases k4 with ⟨k', e1', e2'⟩ | ⟨e1', e2', e3'⟩
        · rw [e1] at e1'
          cases e1'
          rw [e2] at e2'
          cases e2'
          exact hj rfl
        · rw [e1] at e1'; cases e1'
        · rw [e1] at e1'; cases e1'
        · omega
      exact hW'.apart i1 i2 c1 c2 l1 l2 g hne h1 k1 h3 k3 h2 k2 hg1 hg2
  · have hb := hW'.below
    refine ⟨hb.os.trans hW.below.os, hb.tape.trans hW.below.tape, hb.output.trans hW.below.output, ahy hW.below.size hb.size, fun k hk => ?_⟩
    rcases Cx.old_or (X := (bQ X w (ba lc js) h hW.below hm).grow ft fw) k with ho' | hm'
    · exact (hb.block k ho').trans (hW.below.block k hk)
    · exact absurd hk fun hk => Cx.mine_old (mineX k hm') hk
  · rcases back j b ℓ hb hl ho with ⟨n1, h2, h3⟩ | ⟨i, c, h1, h2, h3, _, _⟩
    · intro hf'
      rcases a3 g hf' with h4 | h4
      · exact hW.frn j b ℓ g h2 ho h3 hg h4
      · exact away j b ℓ g n1 h2 ho h3 hg h4
    · exact hW'.frn i c ℓ g h1 h3 h2 hg

def acp (V : List Nat) (lc : List Loc) : Nat → Prop := fun k => ∃ j ℓ, jv j V = true ∧ lc[j]? = some ℓ ∧ ℓ.blk = some k
def SG (I : World → Prop) (P : Program) (o : Oper) (s : St) (x : TV) (bl : List Blk) : Prop := ∀ (X : Cx I) a w lc, Rel X s a w lc →
 ∃ g vs, (execOp a.eval o).run P w = .ok (.enter g vs) w ∧ Calls P g vs w (fun e w' => ∃ v more X', e = .returned v ∧ X.Le X' ∧ aC X' (lc ++ more) x v ∧ aK X' bl w' (lc ++ more) ∧
  ∀ V, uo V (tK s o) = true → Lat (acp V lc) w w')

theorem Kw {acc : List Nat} {n m : Nat} (h : m ∈ Da acc n) : m ∈ acc ∨ m = n := by
 unfold Da at h
 cases hb : jv n acc with
 | true => rw [hb] at h; exact .inl h
 | false =>
  rw [hb] at h
  rcases ahB.1 (by simpa using h : m ∈ acc ++ [n]) with h | h
  ·exact .inl h
  ·exact .inr (by simpa using h)
theorem ix : ∀ {l acc : List Nat} {m : Nat}, m ∈ eJ acc l → m ∈ acc ∨ m ∈ l
 | [], _, _, h => .inl h
 | n :: l, acc, m, h => by
  rcases ix (l := l) h with h | h
  ·rcases Kw h with h | h
   ·exact .inl h
   ·exact .inr (by simp [h])
  ·exact .inr (by simp [h])
theorem ri : ∀ {xs : List TV} {acc : List Nat} {m : Nat}, m ∈ jb acc xs → m ∈ acc ∨ ∃ x ∈ xs, m ∈ dE x
 | [], _, _, h => .inl h
 | x :: xs, acc, m, h => by
  rcases ri (xs := xs) h with h | ⟨y, hy, hm⟩
  ·rcases ix h with h | h
   ·exact .inl h
   ·exact .inr ⟨x, by simp, h⟩
  ·exact .inr ⟨y, by simp [hy], hm⟩
theorem pf (bl : List Blk) : ∀ (l a : List Nat) (m : Nat), m ∈ l.foldl (fun a j => eJ a (t8 (nth .dead bl j))) a ↔ m ∈ a ∨ ∃ j ∈ l, m ∈ t8 (nth .dead bl j)
 | [], a, m => by simp
 | j :: l, a, m => by
  simp only [ajl]
  rw [pf bl l]
  constructor
  ·rintro (h | ⟨i, hi, hm⟩)
   ·rcases ix h with h | h
    ·exact .inl h
    ·exact .inr ⟨j, by simp, h⟩
   ·exact .inr ⟨i, by simp [hi], hm⟩
  ·rintro (h | ⟨i, hi, hm⟩)
   ·exact .inl (dR (.inl h))
   ·rcases ahe.1 hi with rfl | hi
    ·exact .inl (dR (.inr hm))
    ·exact .inr ⟨i, hi, hm⟩
theorem KF {X : Cx I} {lc : List Loc} {caps : List (Nat × Nat)} {vs : List Value} (h : aB (dC lc) caps vs) : aB (aC X lc) (caps.map Dk) vs := by
 induction h with
 | nil => exact .nil
 | cons h1 _ ih => exact .cons h1 ih

theorem uq {V : List Nat} : ∀ {l : List Nat}, uo V l = true → ∀ j ∈ l, jv j V = true
 | x :: l, h, j, hj => by
  simp only [uo, agZ] at h
  rcases ahe.1 hj with rfl | hj
  ·exact h.1
  ·exact uq h.2 j hj

theorem Im : ∀ (l : List Nat), uo l l = true := by
 have key : ∀ (l V : List Nat), (∀ j ∈ l, j ∈ V) → uo V l = true := by
  intro l
  induction l with
  | nil => intro V _; rfl
  | cons x l ih =>
   intro V h
   simp only [uo, agZ]
   exact ⟨rV (h x (by simp)), ih V fun j hj => h j (by simp [hj])⟩
 exact fun l => key l l fun _ h => h
theorem WU {b : Blk} : onB b = b.on := by cases b <;> rfl
theorem rY {bl : List Blk} : ∀ {V : List Nat}, onN bl V = true → ∀ j ∈ V, ∃ b, bl[j]? = some b ∧ b.on = true
 | x :: V, h, j, hj => by
  simp only [onN, agZ, WU] at h
  rcases ahe.1 hj with rfl | hj
  ·exact ⟨_, cn rfl (fun e => by have := h.1; rw [e] at this; cases this), h.1⟩
  ·exact rY h.2 j hj
def Ma (X : Cx I) (N : List Nat) (lc : List Loc) : Nat → Prop := fun k => ¬ X.old k ∧ ¬ X.ft k ∧ ∀ j ∈ N, ∀ ℓ, lc[j]? = some ℓ → ℓ.blk ≠ some k
def dB (X : Cx I) (lc : List Loc) : Option (List Nat) → Nat → Prop
 | none => fun _ => False
 | some N => Ma X N lc
def fA : Option (List Nat) → Op → Bool
 | none => yn true
 | some _ => yn false
def i6 (lc : List Loc) : Option (List Nat) → Prop
 | none => True
 | some N => ∀ j ∈ N, j < lc.length
theorem mR {X : Cx I} {V : Option (List Nat)} {lc : List Loc} (h : i6 lc V) (more : List Loc) : dB X (lc ++ more) V = dB X lc V := by
 cases V with
 | none => rfl
 | some N =>
  funext k
  apply propext
  constructor
  ·exact fun ⟨h1, h3, h2⟩ => ⟨h1, h3, fun j hj ℓ hl => h2 j hj ℓ (by rw [ajy (h j hj)]; exact hl)⟩
  ·exact fun ⟨h1, h3, h2⟩ => ⟨h1, h3, fun j hj ℓ hl => h2 j hj ℓ (by rw [ajy (h j hj)] at hl; exact hl)⟩
theorem tD {X Y : Cx I} (h : X.Le Y) {lc : List Loc} {V : Option (List Nat)} : ∀ k, dB Y lc V k → dB X lc V k := by
 have hft := h.ft
 obtain ⟨ft, fw, a1, a2, a3⟩ := h
 cases V with
 | none => exact fun _ h => h
 | some N => exact fun k ⟨h1, h2, h3⟩ => ⟨h1, fun hf => h2 (hft k hf), h3⟩
theorem jO {V : Option (List Nat)} {lc : List Loc} (h : i6 lc V) (more : List Loc) : i6 (lc ++ more) V := by
 cases V with
 | none => trivial
 | some N => exact fun j hj => by rw [ag4]; exact ag9 (h j hj) (Nat.le_add_right _ _)
theorem HR {X : Cx I} {bl : List Blk} {lc : List Loc} {N R : List Nat} (h : uo N R = true) : uZ X bl lc R (Ma X N lc) :=
 ⟨fun hj _ _ hl hg hG => hG.2.2 _ (px (uq h _ hj)) _ hl hg, fun ho hG => hG.1 ho, fun hf hG => hG.2.1 hf⟩
theorem wt {X : Cx I} {bl : List Blk} {w : World} {lc : List Loc} (hW : aK X bl w lc) {N R : List Nat} (hd : oZ N R = true) (hN : onN bl N = true) (hR : onN bl R = true) : ∀ k, acp R lc k → Ma X N lc k := by
 intro k ⟨j, ℓ, h1, h2, h3⟩
 obtain ⟨b, hb, hon⟩ := rY hR j (px h1)
 refine ⟨fun ho => Cx.mine_old (Loc.lt (hW.blks j b ℓ hb h2) hon h3).1 ho, hW.frn j b ℓ k hb hon h2 h3, fun i hi ℓ' hl' => ?_⟩
 obtain ⟨b', hb', hon'⟩ := rY hN i hi
 have hne : j ≠ i := fun e => by
  subst e
  have := vU hd j (px h1)
  rw [rV hi] at this
  cases this
 exact hW.apart j i b b' ℓ ℓ' k hne hb hb' hon hon' h2 hl' h3
structure TL (s : St) (c : Call) (xs : List TV) (b : List Blk) : Prop where
 ext : ∃ ex, b = s.blks ++ ex ∧ ∀ e ∈ ex, t8 e = []
 refs : ∀ j, j < s.blks.length → (∃ x ∈ xs, j ∈ dE x) → ∃ z ∈ c.args.toList, j ∈ dE (aF s z)
 rel : ∀ (X : Cx I) (a : Act) w lc, Rel X s a w lc → ∃ more, (∀ ℓ ∈ more, ℓ.blk = none) ∧ aK X b w (lc ++ more) ∧ aB (aC X (lc ++ more)) xs (c.args.toList.map a.eval)
theorem Bh {s : St} : ∀ {ts : List TypeId} {os : List Operand} {bl : List Blk} {xs : List TV} {b : List Blk}, FB L s bl ts os = some (xs, b) →
  (∃ ex, b = bl ++ ex ∧ ∀ e ∈ ex, t8 e = []) ∧ (∀ j, j < bl.length → (∃ x ∈ xs, j ∈ dE x) → ∃ z ∈ os, j ∈ dE (aF s z)) ∧
  ∀ (X : Cx I) (a : Act) w lc, aB (aC X lc) s.tmps a.tmps.toList → aK X bl w lc → ∃ more, (∀ ℓ ∈ more, ℓ.blk = none) ∧ aK X b w (lc ++ more) ∧ aB (aC X (lc ++ more)) xs (os.map a.eval)
 | [], [], bl, xs, b, h => by
  cases h
  exact ⟨⟨[], by simp, fun e he => by cases he⟩, (fun j _ ⟨x, hx, _⟩ => by cases hx), fun X a w lc _ hW => ⟨[], (fun ℓ h => by cases h), by simpa using hW, .nil⟩⟩
 | [], _ :: _, _, _, _, h => by cases h
 | _ :: _, [], _, _, _, h => by cases h
 | t :: ts, o :: os, bl, xs, b, h => by
  simp only [FB] at h
  split at h
  ·rename_i y b1 hy
   split at h
   ·rename_i ys b2 hys
    cases h
    obtain ⟨⟨ex, he1, he2⟩, hr, hrel⟩ := Bh hys
    unfold abO at hy
    split at hy
    ·split at hy
     ·rename_i e hte
      split at hy
      ·rename_i q hq
       cases hy
       refine ⟨⟨.row e q :: ex, by rw [he1]; simp, fun e' he' => ?_⟩, fun j hj ⟨x, hx, hm⟩ => ?_, fun X a w lc ht hW => ?_⟩
       ·rcases ahe.1 he' with rfl | he'
        ·rfl
        ·exact he2 _ he'
       ·rcases ahe.1 hx with rfl | hx
        ·simp only [one, dE, FY, hJ, ahI] at hm
         omega
        ·obtain ⟨z, hz, hm⟩ := hr j (by simp; omega) ⟨x, hx, hm⟩
         exact ⟨z, ahd _ hz, hm⟩
       ·have hW1 : aK X (bl ++ [.row e q]) w (lc ++ [.r (.slice none 0 0)]) := by
         refine hW.add ?_ (fun g hg => by cases hg) (fun g _ hg => by cases hg)
         refine ⟨(fun g hg => by cases hg), [], rR (bb hq), ?_⟩
         rw [bb hq]
         exact ⟨by simp, .inl ⟨rfl, rfl⟩⟩
        obtain ⟨more, h1, h2, h3⟩ := hrel X a w _ (ht.mono fun _ _ h => aC.more _ h) hW1
        refine ⟨[.r (.slice none 0 0)] ++ more, fun ℓ hl => ?_, by rw [← ahs]; exact h2, ?_⟩
        ·rcases ahB.1 hl with hl | hl
         ·simp only [ahI] at hl
          subst hl; rfl
         ·exact h1 _ hl
        ·rw [← ahs]
         refine .cons ?_ h3
         refine ⟨?_, none, 0, 0, rfl⟩
         rw [ahs, ajz (by rw [hW.len]; exact ag7 _), hW.len, aid]
         rfl
      ·cases hy
     ·cases hy
    ·cases hy
     refine ⟨⟨ex, he1, he2⟩, fun j hj ⟨x, hx, hm⟩ => ?_, fun X a w lc ht hW => ?_⟩
     ·rcases ahe.1 hx with rfl | hx
      ·exact ⟨o, ahn, hm⟩
      ·obtain ⟨z, hz, hm⟩ := hr j hj ⟨x, hx, hm⟩
       exact ⟨z, ahd _ hz, hm⟩
     ·obtain ⟨more, h1, h2, h3⟩ := hrel X a w lc ht hW
      exact ⟨more, h1, h2, .cons ((az ht o).more more) h3⟩
   ·cases h
  ·cases h
theorem vQ {bl ex : List Blk} (he : ∀ e ∈ ex, t8 e = []) : ∀ (n : Nat) {acc acc' : List Nat}, (∀ j ∈ acc, j < bl.length → j ∈ acc') → ∀ j ∈ close (bl ++ ex) n acc, j < bl.length → j ∈ close bl n acc'
 | 0, _, _, h, j, hj, hlt => h j hj hlt
 | n + 1, acc, acc', h, j, hj, hlt => vQ he n (fun i hi hil => by
   rcases (pf (bl ++ ex) acc acc i).1 hi with hi | ⟨k, hk, hm⟩
   ·exact (pf bl acc' acc' i).2 (.inl (h i hi hil))
   ·rcases ahf k bl.length with hkl | hkl
    ·have e : nth Blk.dead (bl ++ ex) k = nth Blk.dead bl k := DJ (by rw [ajy hkl]; exact i7 hkl)
     rw [e] at hm
     exact (pf bl acc' acc' i).2 (.inr ⟨k, h k hk hkl, hm⟩)
    ·rcases ahf k (bl ++ ex).length with hk2 | hk2
     ·have h2 := i7 (d := Blk.dead) hk2
      rw [ajz hkl] at h2
      rw [he _ (ajM h2)] at hm
      cases hm
     ·have : nth Blk.dead (bl ++ ex) k = .dead := by
       cases hb : nth Blk.dead (bl ++ ex) k with
       | dead => rfl
       | _ =>
        have := cn hb (by simp)
        rw [ajD hk2] at this
        cases this
      rw [this] at hm
      cases hm) j hj hlt
theorem VK {own : Bool} {o : Oper} {c : Call} {f : Operand} {s : St} {g : FuncId} {caps : List (Nat × Nat)} {GS : cc β} (hG : GOK I P g GS) {K : TV → St → Option β} {r : β} (ho : o.op = .call c) (hc : c.callee = .value f) (hv : (aF s f).sv = .fn g caps)
  {xs : List TV} {b : List Blk} (hh : TL (I := I) s c xs b) (h : evG own GS (xs ++ caps.map Dk) ⟨s.tmps, b⟩ K = some r) : ∃ x bl, K x ⟨s.tmps, bl⟩ = some r ∧ SG I P o s x bl := by
 unfold evG at h
 simp only [qz] at h
 generalize hjs : cZ b (xs ++ caps.map Dk) = js at h
 have hn : js.Nodup := by rw [← hjs]; exact jC _ _ (gD _ .nil)
 split at h
 ·rename_i bs hbs
  obtain ⟨y, bl', hK, hcall⟩ := hG.2 _ _ _ _ h
  split at hK
  ·rename_i ff hff
   split at hK
   ·rename_i al hal
    refine ⟨_, _, hK, fun X a w lc0 hR => ?_⟩
    obtain ⟨more0, hno, hW, hxs⟩ := hh.rel X a w lc0 hR
    have hlc0 : lc0.length = s.blks.length := hR.world.len
    have hin0 : ∀ (j : Nat) ℓ k, (lc0 ++ more0)[j]? = some ℓ → ℓ.blk = some k → j < s.blks.length ∧ lc0[j]? = some ℓ := fun j ℓ k hj hk => by
     rcases ahf j lc0.length with hl | hl
     ·exact ⟨by omega, by rw [ajy hl] at hj; exact hj⟩
     ·rw [ajz hl] at hj
      rw [hno _ (ajM hj)] at hk
      cases hk
    have hcv := az (X := X) hR.tmps f
    generalize hlc : lc0 ++ more0 = lc at hW hxs hin0
    obtain ⟨glen, ggiv⟩ := qm _ _ _ hbs
    have hon : ∀ j ∈ js, (nth Blk.dead b j).on = true := fun j hj => by
     obtain ⟨i, hi⟩ := ajL.1 hj
     obtain ⟨b', _, h2⟩ := ggiv i (zQ js (nth .dead b j)) (by simp [hi])
     have := (yq h2).1
     rwa [zR] at this
    have blk_ : ∀ j ∈ js, b[j]? = some (nth .dead b j) := fun j hj => cn rfl (fun e => by have := hon j hj; rw [e] at this; cases this)
    have hfz : ∀ k, X.fz k → k < w.heap.size ∧ ∀ ℓ ∈ ba lc js, ℓ.blk ≠ some k := fun k hk => by
     refine ⟨ag9 (X.sub k hk).1 hW.below.size, fun ℓ hℓ hb => ?_⟩
     obtain ⟨j, hj, he⟩ := ahp.1 hℓ
     have hjl : j < lc.length := by rw [hW.len]; exact (ajE.1 (blk_ j hj)).1
     rw [ajC hjl, ah0] at he
     exact Cx.mine_old (Loc.lt (hW.blks j _ ℓ (blk_ j hj) (by rw [ajC hjl, he])) (hon j hj) hb).1 (X.sub k hk)
    have hmn : ∀ ℓ ∈ ba lc js, ∀ k, ℓ.blk = some k → X.mine k := fun ℓ hℓ k hb => by
     obtain ⟨j, hj, he⟩ := ahp.1 hℓ
     have hjl : j < lc.length := by rw [hW.len]; exact (ajE.1 (blk_ j hj)).1
     rw [ajC hjl, ah0] at he
     exact (Loc.lt (hW.blks j _ ℓ (blk_ j hj) (by rw [ajC hjl, he])) (hon j hj) hb).1
    have hW0 := hW.sel hn
    have hW1 := LY hW0 hbs hfz hmn
    have hcellF : ∀ k, X.fz k → (bQ X w (ba lc js) hfz hW.below hmn).w0.heap[k]? = X.w0.heap[k]? := fun k hk => hW.below.block k (X.sub _ hk)
    obtain ⟨cv, hf1, hf2⟩ := aN hcv hv
    have hf2 : aB (dC lc) caps cv.toList := hf2.mono fun _ _ ⟨g, h1, h2⟩ => ⟨g, by rw [← hlc]; exact dA _ h1, h2⟩
    have hargs : aB (aC (bQ X w (ba lc js) hfz hW.below hmn) (ba lc js)) ((xs ++ caps.map Dk).map (mV js)) ((c.args.map a.eval ++ cv).toList) := by
     rw [aiZ, ahX]
     have h0 : aB (aC X lc) (xs ++ caps.map Dk) (c.args.toList.map a.eval ++ cv.toList) := by
      exact aB.append hxs (KF hf2)
     exact aB.map_left (h0.mono fun _ _ h => F3 (X := X) (X' := bQ X w (ba lc js) hfz hW.below hmn) (fun k hk => hk) hcellF rfl rfl (pG h))
    refine ⟨g, _, wR ho hc hf1 hG.1 w, ?_⟩
    have := hcall (bQ X w (ba lc js) hfz hW.below hmn) _ _ hW1 hargs
    refine this.mono fun e w' ⟨v, X2, lc', he, hle, hWb, hy⟩ => ?_
    obtain ⟨more, hj0, hj1, hj2⟩ := Hp hW hn hon hfz hmn hle hWb hff hal
    refine ⟨v, more0 ++ more, _, he, hj0, by rw [← ahs, hlc]; exact hj2 y v hy, by rw [← ahs, hlc]; exact hj1, fun V hV => ?_⟩
    ·obtain ⟨ft, fw, _, _, _⟩ := hle
     have hb := hWb.below
     have inV : ∀ j ∈ js, j < s.blks.length → jv j V = true := fun j hj hlt => by
      refine uq hV j ?_
      obtain ⟨⟨ex, he1, he2⟩, hrefs, _⟩ := hh
      subst he1
      rw [← hjs] at hj
      refine vQ he2 4 (fun i hi hil => ?_) j hj hlt
      rcases ri hi with hi | ⟨x, hx, hm⟩
      ·cases hi
      refine jN (.inr ?_)
      rcases ahB.1 hx with hx | hx
      ·obtain ⟨z, hz, hm⟩ := hrefs i hil ⟨x, hx, hm⟩
       exact ⟨_, ahp.2 ⟨z, by simp only [ho, Op.operands, Call.operands, hc]; simp; exact .inr (by simpa using hz), rfl⟩, hm⟩
      ·obtain ⟨z, hz, rfl⟩ := ahp.1 hx
       refine ⟨aF s f, ahp.2 ⟨f, by simp [ho, Op.operands, Call.operands, hc], rfl⟩, ?_⟩
       rw [jh hv (by simp)]
       simp only [Dk, one, dE, FY, hJ, ahI] at hm
       subst hm
       exact ahp.2 ⟨z, hz, rfl⟩
     refine ⟨hb.os, hb.tape, hb.output, hb.size, fun k hk hg => hb.block k ⟨hk, fun v hv hvg => ?_, fun hgg => ?_⟩⟩
     ·obtain ⟨ℓ1, hm, rfl⟩ := ahp.1 hv
      obtain ⟨j1, hj1, he⟩ := ahp.1 hm
      have hjl : j1 < lc.length := by rw [hW.len]; exact (ajE.1 (blk_ j1 hj1)).1
      rw [ajC hjl, ah0] at he
      have hb1 : ℓ1.blk = some k := by
       cases ℓ1 with
       | r v => exact hvg
       | c g => cases hvg
       | m g => cases hvg
      obtain ⟨hlt, h0⟩ := hin0 j1 ℓ1 k (by rw [ajC hjl, he]) hb1
      exact hg ⟨j1, ℓ1, inV j1 hj1 hlt, h0, hb1⟩
     ·obtain ⟨ℓ1, hm, he1⟩ := ahp.1 hgg
      obtain ⟨j1, hj1, he⟩ := ahp.1 hm
      have hjl : j1 < lc.length := by rw [hW.len]; exact (ajE.1 (blk_ j1 hj1)).1
      rw [ajC hjl, ah0] at he
      cases ℓ1 with
      | r v => simp only [g8] at he1; omega
      | c g2 =>
       have hb1 : (Loc.c g2).blk = some k := by simp only [g8] at he1; rw [← he1]; rfl
       obtain ⟨hlt, h0⟩ := hin0 j1 _ k (by rw [ajC hjl, he]) hb1
       exact hg ⟨j1, .c g2, inV j1 hj1 hlt, h0, hb1⟩
      | m g2 =>
       have hb1 : (Loc.m g2).blk = some k := by simp only [g8] at he1; rw [← he1]; rfl
       obtain ⟨hlt, h0⟩ := hin0 j1 _ k (by rw [ajC hjl, he]) hb1
       exact hg ⟨j1, .m g2, inV j1 hj1 hlt, h0, hb1⟩
   ·cases hK
  ·cases hK
 ·cases h

theorem rZ {E : Env β} (hE : bo I P E) (hM : cj I P E) (hG : gu I P E) {o : Oper} {s : St} {K : TV → St → Option β} {r : β} (hc : ce o.op = true) (h : dM L E o s K = some r) :
  (∃ x bl, K x ⟨s.tmps, bl⟩ = some r ∧ SC I P o s x bl ∧ (te E s o = false → dh x = true → bl = s.blks ∧ SCQ I P o s x)) ∨ (E.muts ≠ [] ∧ ∃ x bl, K x ⟨s.tmps, bl⟩ = some r ∧ SM I P o s x bl) ∨ (iX E s o = true ∧ ∃ x bl, K x ⟨s.tmps, bl⟩ = some r ∧ SG I P o s x bl) := by
 have ⟨c, f, ho, hf⟩ : ∃ c f, o.op = .call c ∧ c.callee = .value f := by
  unfold ce at hc
  split at hc
  ·rename_i f args ts ho
   exact ⟨_, f, ho, rfl⟩
  ·cases hc
 unfold dM at h
 simp only [ho] at h
 unfold mJ at h
 simp only [hf] at h
 split at h
 ·rename_i g caps hv
  split at h
  ·rename_i GS hGS
   split at h
   ·rename_i xs b hxs
    obtain ⟨h1, h2, h3⟩ := Bh (I := I) hxs
    exact .inr (.inr ⟨by simp [iX, ho, hf, hv, hGS], VK (hG g GS hGS) ho hf hv ⟨h1, h2, fun X a w lc hR => h3 X a w lc hR.tmps hR.world⟩ h⟩)
   ·cases h
  split at h
  ·rename_i MS hMS
   obtain ⟨hb, h⟩ := aH h
   have hcaps : caps = [] := ahv (ag2 hb)
   subst hcaps
   exact .inr (.inl ⟨fun e => (by rw [e] at hMS; cases hMS), Mn (hM g MS hMS) ho hf hv h⟩)
  ·left
   cases hkp : qw g E.hints.args with
   | true =>
    have hkeep : te E s o = true := by simp [te, ho, hf, hv, hkp]
    rw [hkp] at h
    simp only [agY] at h
    obtain ⟨hcaps, h4⟩ := aH h
    clear h
    simp only [agZ] at hcaps
    obtain ⟨hcaps, hl⟩ := hcaps
    have hl := ag2 hl
    obtain ⟨hall, h5⟩ := aH h4
    clear h4
    have hcaps : caps = [] := ahv (ag2 hcaps)
    subst hcaps
    obtain ⟨x, bl, h1, h2, _⟩ := kA hE ho hf (fun X a w lc hR => by
     obtain ⟨vs, h1, h2⟩ := aN (az (X := X) hR.tmps f) hv
     have hvs : vs = #[] := by cases vs; cases h2; rfl
     subst hvs
     obtain ⟨X0, k1, k2, k3⟩ := ql hR.world (tG (L := L) hR c.argTypes.toList c.args.toList hl)
     refine ⟨X0, #[], #[], k1, h1, k2, ?_⟩
     rw [ahX, ahg]
     exact tp k2 hall k3) h5
    exact ⟨x, bl, h1, h2, fun hk => by rw [hkeep] at hk; cases hk⟩
   | false =>
    rw [hkp] at h
    simp only [agX] at h
    split at h
    ·rename_i cs xs hcs hxs
     obtain ⟨x, bl, h1, h2, h3⟩ := kA hE ho hf (fun X a w lc hR => by
      obtain ⟨vs, h1, h2⟩ := aN (az (X := X) hR.tmps f) hv
      refine ⟨X, #[], vs, .refl X, h1, hR.world, ?_⟩
      rw [ahX]
      exact (iB hR _ _ _ hxs).append (vR (qf hR.world _ _ _ hcs h2))) h
     exact ⟨x, bl, h1, h2, fun _ => h3 rfl⟩
    ·cases h
 ·rename_i g l hv
  left
  split at h
  ·rename_i xs hxs
   obtain ⟨x, bl, h1, h2, h3⟩ := kA hE ho hf (fun X a w lc hR => by
    obtain ⟨vs, h1, h2⟩ := aN (az (X := X) hR.tmps f) hv
    refine ⟨X, #[.agg vs], #[], .refl X, h1, hR.world, ?_⟩
    rw [ahX]
    refine .cons ?_ ?_
    ·exact ⟨vs, rfl, aB.map_left (h2.mono fun _ _ h => F1 (mU h hR.world.below))⟩
    ·rw [ahg]
     exact iB hR _ _ _ hxs) h
   exact ⟨x, bl, h1, h2, fun _ => h3 rfl⟩
  ·cases h
 ·rename_i g cs hv
  left
  split at h
  ·rename_i xs hxs
   obtain ⟨x, bl, h1, h2, h3⟩ := kA hE ho hf (fun X a w lc hR => by
    obtain ⟨vs, h1, h2⟩ := aN (az (X := X) hR.tmps f) hv
    refine ⟨X, #[], vs, .refl X, h1, hR.world, ?_⟩
    rw [ahX]
    exact (iB hR _ _ _ hxs).append (vR (h2.mono fun _ _ h => mI h hR.world.below))) h
   exact ⟨x, bl, h1, h2, fun _ => h3 rfl⟩
  ·cases h
 ·cases h
end
end Go.Rv
