/- Calls that may turn what they are handed. -/
import Derived.Test.YtemihnclhcobnaaGreatDoorRvCall
import Derived.Test.YtemihnclhcobnaaGreatDoorRvTidy
namespace Go.Rv
set_option linter.unusedSimpArgs false
open Go.RowKit (Below)
set_option linter.unusedVariables false
section
variable {I : World → Prop} {P : Program} {L : Lay} {β : Type}

def GOK (I : World → Prop) (P : Program) (g : FuncId) (GS : bO β) : Prop :=
 (∃ fn c, P.funcs[g]? = some fn ∧ fn.body = some c ∧ (fn.name == "runtime.NumGoroutine") = false) ∧
 ∀ args bl K r, GS args bl K = some r → ∃ y bl', K y bl' = some r ∧ ∀ (X : Cx I) vs lc, aH X bl X.w0 lc → aw (aC X lc) args vs →
  Calls P g vs.toArray X.w0 (fun e w' => ∃ v X' lc', e = .returned v ∧ X.Le X' ∧ aH X' bl' w' lc' ∧ aC X' lc' y v)
def fS (I : World → Prop) (P : Program) (E : Env β) : Prop := ∀ g GS, gOf E.gfns g = some GS → GOK I P g GS

section
variable {X X' : Cx I} (hf : ∀ k, X.fz k → X'.fz k) (hc : ∀ k, X.fz k → X'.w0.heap[k]? = X.w0.heap[k]?) (hft : X'.ft = X.ft) (hfw : X'.fw = X.fw)
include hf hc hft hfw
theorem J1 {f : FSf} {v : Value} (h : fJ X f v) : fJ X' f v := by
 cases f <;> simp only [fJ] at h ⊢ <;> try exact h
 ·exact bf.mono hf hc h
 ·rw [hft, hfw]; exact h
theorem IF {l : List FSf} {off : Nat} {v : Value} (h : dJ X l off v) : dJ X' l off v := by
 obtain ⟨a, h1, h2, h3⟩ := h
 refine ⟨a, h1, hf _ h2, fun m f hm => ?_⟩
 obtain ⟨u, hu, hr⟩ := h3 m f hm
 exact ⟨u, (eE hf hc ⟨h2, hu⟩).2, J1 hf hc hft hfw hr⟩
theorem D3 {f : FS} {v : Value} (h : hZ X f v) : hZ X' f v := by
 cases f <;> simp only [hZ] at h ⊢ <;> try exact h
 ·exact bf.mono hf hc h
 ·rw [hft, hfw]; exact h
 ·exact IF hf hc hft hfw h
theorem Dw {l : List FS} {off : Nat} {v : Value} (h : dg X l off v) : dg X' l off v := by
 obtain ⟨a, h1, h2, h3⟩ := h
 refine ⟨a, h1, hf _ h2, fun m f hm => ?_⟩
 obtain ⟨u, hu, hr⟩ := h3 m f hm
 exact ⟨u, (eE hf hc ⟨h2, hu⟩).2, D3 hf hc hft hfw hr⟩
theorem D5 {lc : List Loc} {s : SV} {v : Value} (h : aD X lc s v) : aD X' lc s v := by
 cases s <;> simp only [aD] at h ⊢ <;> try exact h
 ·exact bf.mono hf hc h
 ·obtain ⟨h0, h1, a, h2, h3, h4⟩ := h
  refine ⟨h0, h1, a, h2, hf _ h3, fun m s hm => ?_⟩
  obtain ⟨u, hu, hr⟩ := h4 m s hm
  exact ⟨u, (eE hf hc ⟨h3, hu⟩).2, hr.mono hf hc⟩
 ·exact Dw hf hc hft hfw h
 ·obtain ⟨vs, h1, h2⟩ := h
  exact ⟨vs, h1, h2.mono fun _ _ h => Dw hf hc hft hfw h⟩
 ·rw [fB, hft, hfw]; exact h
 ·rw [hft, hfw]; exact h
 ·rw [hft, hfw]; exact h
 ·rw [hft, hfw]; exact h
 ·obtain ⟨cs, h1, h2⟩ := h
  exact ⟨cs, h1, h2.mono fun _ _ h => D3 hf hc hft hfw h⟩
 ·rw [fB, hft, hfw]; exact h
theorem iS {lc : List Loc} {l : List SV} {vs : List Value} (h : aw (aD X lc) l vs) : aw (aD X' lc) l vs := h.mono fun _ _ h => D5 hf hc hft hfw h
theorem D2 {lc : List Loc} {x : AV} {v : Value} (h : a6 X lc x v) : a6 X' lc x v := by
 cases x with
 | one s => exact D5 hf hc hft hfw h
 | agg l => obtain ⟨cs, h1, h2⟩ := h; exact ⟨cs, h1, iS hf hc hft hfw h2⟩
theorem D6 {lc : List Loc} {x : TV} {v : Value} (h : aC X lc x v) : aC X' lc x v := by
 cases x with
 | v x => exact D2 hf hc hft hfw h
 | tup l => obtain ⟨cs, h1, h2⟩ := h; exact ⟨cs, h1, h2.mono fun _ _ h => D2 hf hc hft hfw h⟩
end

theorem ob {own : Bool} : ∀ (bs : List Blk) (n : Nat) (l : List Blk), FV own bs n = some l → l.length = bs.length ∧ ∀ (i : Nat) b, bs[i]? = some b → ∃ b', l[i]? = some b' ∧ giv own (n + i) b = some b'
 | [], n, l, h => by simp only [FV, Yy] at h; subst h; exact ⟨rfl, fun i b hb => by simp at hb⟩
 | b :: bs, n, l, h => by
  simp only [FV] at h
  split at h
  ·rename_i b' r' h1 h2
   simp only [Yy] at h
   subst h
   obtain ⟨h3, h4⟩ := ob bs (n + 1) r' h2
   refine ⟨by simp [h3], fun i b0 hb => ?_⟩
   cases i with
   | zero => simp at hb; subst hb; exact ⟨b', rfl, h1⟩
   | succ i =>
    obtain ⟨b2, h5, h6⟩ := h4 i b0 (by simpa using hb)
    exact ⟨b2, by simpa using h5, by rw [← h6]; congr 1; omega⟩
  ·cases h
theorem wk {own : Bool} {n : Nat} {b b' : Blk} (h : giv own n b = some b') : b.on = true ∧ b'.on = true := by
 cases own <;> cases b <;> simp only [giv, YC, YB, Yy, reduceCtorEq] at h <;> subst h <;> exact ⟨rfl, rfl⟩

def Gc : Loc → Value
 | .r v => v
 | _ => undef
def hO (n : Nat) : Loc → Nat
 | .c g | .m g => g
 | .r _ => n
theorem Ja {X : Cx I} {w : World} {lc : List Loc} (h : ∀ k, X.fz k → k < w.heap.size ∧ ∀ ℓ ∈ lc, ℓ.blk ≠ some k) (k : Nat) (hk : X.fz k) :
  k < w.heap.size ∧ (∀ v ∈ lc.map Gc, v.ownBlock ≠ some k) ∧ k ∉ lc.map (hO w.heap.size) := by
 refine ⟨(h k hk).1, fun v hv hb => ?_, fun hg => ?_⟩
 ·obtain ⟨ℓ, hℓ, rfl⟩ := YY.1 hv
  cases ℓ with
  | r v => exact (h k hk).2 _ hℓ hb
  | c g => cases hb
  | m g => cases hb
 ·obtain ⟨ℓ, hℓ, he⟩ := YY.1 hg
  cases ℓ with
  | r v => have := (h k hk).1; simp only [hO] at he; omega
  | c g => exact (h k hk).2 _ hℓ (by simp only [hO] at he; rw [← he]; rfl)
  | m g => exact (h k hk).2 _ hℓ (by simp only [hO] at he; rw [← he]; rfl)
def bL (X : Cx I) (w : World) (lc : List Loc) (h : ∀ k, X.fz k → k < w.heap.size ∧ ∀ ℓ ∈ lc, ℓ.blk ≠ some k) (hb : bu X w) (hm : ∀ ℓ ∈ lc, ∀ k, ℓ.blk = some k → X.mine k) : Cx I :=
 ⟨w, lc.map Gc, lc.map (hO w.heap.size), X.fz, X.ft, X.fw, Ja h, fun w2 hw2 => X.keep w2 fun k h1 h2 h3 => by
  refine (hw2 k (YJ h1 hb.size) (fun v hv e => ?_) fun hg => ?_).trans (hb.block k ⟨h1, h2, h3⟩)
  ·obtain ⟨ℓ, hℓ, rfl⟩ := YY.1 hv
   cases ℓ with
   | r v => exact Cx.mine_old (hm _ hℓ k e) ⟨h1, h2, h3⟩
   | c g => cases e
   | m g => cases e
  ·obtain ⟨ℓ, hℓ, he⟩ := YY.1 hg
   cases ℓ with
   | r v => have := hb.size; simp only [hO] at he; omega
   | c g => exact Cx.mine_old (hm _ hℓ k (by simp only [hO] at he; rw [← he]; rfl)) ⟨h1, h2, h3⟩
   | m g => exact Cx.mine_old (hm _ hℓ k (by simp only [hO] at he; rw [← he]; rfl)) ⟨h1, h2, h3⟩⟩

theorem I9 {own : Bool} {X : Cx I} {w : World} {bs0 bs : List Blk} {lc : List Loc} (hW : aH X bs0 w lc) (hg : FV own bs0 0 = some bs) (h) (hm) : aH (bL X w lc h hW.below hm) bs w lc := by
 obtain ⟨hlen, hgiv⟩ := ob _ _ _ hg
 have hcell : ∀ k, X.fz k → (bL X w lc h hW.below hm).w0.heap[k]? = X.w0.heap[k]? := fun k hk => hW.below.block k (X.sub _ hk)
 have back : ∀ (i : Nat) b', bs[i]? = some b' → ∃ b, bs0[i]? = some b ∧ giv own i b = some b' := fun i b' hb' => by
  have hi : i < bs0.length := by rw [← hlen]; exact (abd.1 hb').1
  obtain ⟨b2, h1, h2⟩ := hgiv i _ (abb hi)
  rw [hb'] at h1
  simp only [Yy] at h1
  subst h1
  exact ⟨_, abb hi, by simpa using h2⟩
 refine ⟨by rw [hW.len, hlen], fun i b' ℓ hb' hl => ?_, fun i j bi bj li lj g hij hi hj oni onj hli hlj hgi => ?_, ⟨rfl, rfl, rfl, YG _, fun _ _ => rfl⟩, hW.frz, fun i b' ℓ g hb' _ hl hg => by
  obtain ⟨b, hb, hgv⟩ := back i b' hb'
  exact hW.frn i b ℓ g hb (wk hgv).1 hl hg⟩
 ·obtain ⟨b, hb, hgv⟩ := back i b' hb'
  have hr := hW.blks i b ℓ hb hl
  have hgp : ∀ g, ℓ.blk = some g → (∀ v, ℓ ≠ .r v) → (bL X w lc h hW.below hm).gp[i]? = some g := fun g hg hv => by
   show (lc.map (hO w.heap.size))[i]? = some g
   rw [abe, hl]
   cases ℓ with
   | r v => exact absurd rfl (hv v)
   | c g' => simpa [Loc.blk, hO] using hg
   | m g' => simpa [Loc.blk, hO] using hg
  have hpin : ∀ v, ℓ = .r v → (bL X w lc h hW.below hm).pins[i]? = some v := fun v hv => by
   show (lc.map Gc)[i]? = some v
   rw [abe, hl, hv]; rfl
  cases own <;> cases b <;> simp only [giv, YC, YB, Yy, reduceCtorEq] at hgv <;> subst hgv <;> cases ℓ <;> simp only [cS] at hr ⊢
  ·obtain ⟨_, cs, h1, h2⟩ := hr
   exact ⟨hgp _ rfl (fun v e => by cases e), cs, h1, iS (X := X) (X' := bL X w lc h hW.below hm) (fun k hk => hk) hcell rfl rfl h2⟩
  ·exact ⟨hpin _ rfl, hr.2⟩
  ·exact ⟨hpin _ rfl, hr.2⟩
  ·exact ⟨hgp _ rfl (fun v e => by cases e), hr.2⟩
  ·obtain ⟨_, cs, h1, h2⟩ := hr
   exact ⟨hgp _ rfl (fun v e => by cases e), cs, h1, iS (X := X) (X' := bL X w lc h hW.below hm) (fun k hk => hk) hcell rfl rfl h2⟩
  ·exact ⟨hgp _ rfl (fun v e => by cases e), hr.2⟩
  ·obtain ⟨_, cs, h1, h2⟩ := hr
   exact ⟨hgp _ rfl (fun v e => by cases e), cs, h1, iS (X := X) (X' := bL X w lc h hW.below hm) (fun k hk => hk) hcell rfl rfl h2⟩
  ·exact ⟨fun g hg => .inr (.inl ⟨_, abl (hpin _ rfl), hg⟩), hr.2⟩
  ·exact ⟨fun g hg => .inr (.inl ⟨_, abl (hpin _ rfl), hg⟩), hr.2⟩
  ·exact ⟨hgp _ rfl (fun v e => by cases e), hr.2⟩
  ·obtain ⟨_, cs, h1, h2⟩ := hr
   exact ⟨hgp _ rfl (fun v e => by cases e), cs, h1, iS (X := X) (X' := bL X w lc h hW.below hm) (fun k hk => hk) hcell rfl rfl h2⟩
  ·exact ⟨hgp _ rfl (fun v e => by cases e), hr.2⟩
 ·obtain ⟨b1, h1, h2⟩ := back i bi hi
  obtain ⟨b2, h3, h4⟩ := back j bj hj
  exact hW.apart i j b1 b2 li lj g hij h1 h3 (wk h2).1 (wk h4).1 hli hlj hgi

def bR : List Blk → List Loc → List Loc
 | b :: r, ℓ :: ls => match b.num with
  | some _ => bR r ls
  | none => ℓ :: bR r ls
 | _, _ => []

theorem jh {bl0 : List Blk} {js : List Nat} : ∀ (bl : List Blk) (lc : List Loc) (n : Nat) (f : List Nat), bl.length = lc.length → mj bl0 js bl n = some f → f.length = bl.length ∧
  ∀ (i : Nat) b ℓ, bl[i]? = some b → lc[i]? = some ℓ → (∃ k j, b.num = some k ∧ js[k]? = some j ∧ f[i]? = some j ∧ qp b (nth .dead bl0 j) = true) ∨
   (b.num = none ∧ ∃ m, f[i]? = some (n + m) ∧ (bR bl lc)[m]? = some ℓ ∧ ∀ F, (cD F bl)[m]? = some (atB F b))
 | [], lc, n, f, _, h => by simp only [mj, Yy] at h; subst h; exact ⟨rfl, fun i b ℓ hb => by simp at hb⟩
 | b :: bl, [], n, f, hl, h => by simp at hl
 | b :: bl, ℓ0 :: lc, n, f, hl, h => by
  simp only [mj] at h
  have hl' : bl.length = lc.length := by simpa using hl
  split at h
  ·rename_i k hk
   split at h
   ·rename_i j l hj hb
    obtain ⟨hag, h⟩ := aF h
    simp only [Yy] at h
    subst h
    obtain ⟨h1, h2⟩ := jh bl lc n l hl' hb
    refine ⟨by simp [h1], fun i b' ℓ hi hℓ => ?_⟩
    cases i with
    | zero => simp at hi; subst hi; exact .inl ⟨k, j, hk, hj, rfl, hag⟩
    | succ i =>
     rcases h2 i b' ℓ (by simpa using hi) (by simpa using hℓ) with ⟨k', j', h3, h4, h5, h7⟩ | ⟨h3, m, h4, h5, h6⟩
     ·exact .inl ⟨k', j', h3, h4, by simpa using h5, h7⟩
     ·exact .inr ⟨h3, m, by simpa using h4, by simpa [bR, hk] using h5, fun F => by simpa [cD, hk] using h6 F⟩
   ·cases h
  ·rename_i hk
   split at h
   ·rename_i l hb
    simp only [Yy] at h
    subst h
    obtain ⟨h1, h2⟩ := jh bl lc (n + 1) l hl' hb
    refine ⟨by simp [h1], fun i b' ℓ hi hℓ => ?_⟩
    cases i with
    | zero =>
     simp at hi hℓ
     subst hi; subst hℓ
     exact .inr ⟨hk, 0, by simp, by simp [bR, hk], fun F => by simp [cD, hk]⟩
    | succ i =>
     rcases h2 i b' ℓ (by simpa using hi) (by simpa using hℓ) with ⟨k', j', h3, h4, h5, h7⟩ | ⟨h3, m, h4, h5, h6⟩
     ·exact .inl ⟨k', j', h3, h4, by simpa using h5, h7⟩
     ·exact .inr ⟨h3, m + 1, by simp only [aa9]; rw [h4]; congr 1; omega, by simpa [bR, hk] using h5, fun F => by simpa [cD, hk] using h6 F⟩
   ·cases h

theorem uG {F : List Nat} : ∀ (bl : List Blk) (lc : List Loc), bl.length = lc.length → (bR bl lc).length = (cD F bl).length ∧
  ∀ (m : Nat) b', (cD F bl)[m]? = some b' → ∃ (i : Nat) (b : Blk) (ℓ : Loc), bl[i]? = some b ∧ lc[i]? = some ℓ ∧ b.num = none ∧ b' = atB F b ∧ (bR bl lc)[m]? = some ℓ ∧ (bl.take i).countP (fun b => b.num.isNone) = m
 | [], [], _ => ⟨rfl, fun m b' h => by simp [cD] at h⟩
 | [], _ :: _, h => by simp at h
 | _ :: _, [], h => by simp at h
 | b :: bl, ℓ :: lc, hl => by
  obtain ⟨h1, h2⟩ := uG bl lc (F := F) (by simpa using hl)
  cases hk : b.num with
  | some k =>
   refine ⟨by simp [bR, cD, hk, h1], fun m b' h => ?_⟩
   simp only [cD, hk] at h
   obtain ⟨i, b2, ℓ2, e1, e2, e3, e4, e5, e6⟩ := h2 m b' h
   exact ⟨i + 1, b2, ℓ2, by simpa using e1, by simpa using e2, e3, e4, by simpa [bR, hk] using e5, by simpa [hk] using e6⟩
  | none =>
   refine ⟨by simp [bR, cD, hk, h1], fun m b' h => ?_⟩
   simp only [cD, hk] at h
   cases m with
   | zero => simp at h; exact ⟨0, b, ℓ, rfl, rfl, hk, h.symm, by simp [bR, hk], rfl⟩
   | succ m =>
    obtain ⟨i, b2, ℓ2, e1, e2, e3, e4, e5, e6⟩ := h2 m b' (by simpa using h)
    exact ⟨i + 1, b2, ℓ2, by simpa using e1, by simpa using e2, e3, e4, by simpa [bR, hk] using e5, by simp [hk, e6]⟩

theorem iC {k : Nat} : ∀ {bl : List Blk} {b : Blk}, nd k bl = some b → ∃ i : Nat, bl[i]? = some b ∧ b.num = some k
 | [], b, h => by cases h
 | b0 :: bl, b, h => by
  simp only [nd] at h
  cases hk : b0.num with
  | none => rw [hk] at h; obtain ⟨i, h1, h2⟩ := iC h; exact ⟨i + 1, by simpa using h1, h2⟩
  | some i =>
   rw [hk] at h
   simp only at h
   cases hb : Nat.beq i k with
   | true =>
    rw [hb] at h
    simp only [YC, Yy] at h
    subst h
    exact ⟨0, rfl, by rw [hk, YA hb]⟩
   | false => rw [hb] at h; obtain ⟨i, h1, h2⟩ := iC (by simpa using h); exact ⟨i + 1, by simpa using h1, h2⟩

theorem rl {bl bl' : List Blk} {f : List Nat} : ∀ (js : List Nat) (k : Nat) (al : List (Nat × Blk)), uL bl f bl' js k = some al → al.map Prod.fst = js ∧
  ∀ (n j : Nat) (b' : Blk), js[n]? = some j → (j, b') ∈ al → al[n]? = some (j, b') → b' = .dead ∨ ∃ (i : Nat) (b : Blk), bl'[i]? = some b ∧ b.num = some (k + n) ∧ Ds f (nth .dead bl j) b = some b'
 | [], k, al, h => by simp only [uL, Yy] at h; subst h; exact ⟨rfl, fun n j b' hn => by simp at hn⟩
 | j :: js, k, al, h => by
  simp only [uL] at h
  split at h
  ·rename_i b1 l h1 h2
   simp only [Yy] at h
   subst h
   obtain ⟨h3, h4⟩ := rl js (k + 1) l h2
   refine ⟨by simp [h3], fun n j' b' hn hm ha => ?_⟩
   cases n with
   | zero =>
    simp at hn ha
    obtain ⟨rfl, rfl⟩ := ha
    split at h1
    ·rename_i b hb
     obtain ⟨i, hi, hk⟩ := iC hb
     exact .inr ⟨i, b, hi, by simpa using hk, h1⟩
    ·simp only [Yy] at h1
     exact .inl h1.symm
   | succ n =>
    have ha' : l[n]? = some (j', b') := by simpa using ha
    rcases h4 n j' b' (by simpa using hn) (abl ha') ha' with h | ⟨i, b, h5, h6, h7⟩
    ·exact .inl h
    ·exact .inr ⟨i, b, h5, by rw [h6]; congr 1; omega, h7⟩
  ·cases h

theorem po : ∀ (al : List (Nat × Blk)) (bl : List Blk), (al.map Prod.fst).Nodup → (∀ p ∈ al, p.1 < bl.length) → (fv bl al).length = bl.length ∧
  (∀ j, j ∉ al.map Prod.fst → (fv bl al)[j]? = bl[j]?) ∧ ∀ p ∈ al, (fv bl al)[p.1]? = some p.2
 | [], bl, _, _ => ⟨rfl, fun _ _ => rfl, fun p hp => by simp at hp⟩
 | (j, b) :: al, bl, hn, hl => by
  simp only [Zh, aal] at hn
  obtain ⟨h1, h2, h3⟩ := po al bl hn.2 (fun p hp => hl p (by simp [hp]))
  have hj : j < bl.length := hl (j, b) (by simp)
  refine ⟨by simp [fv, bM, h1], fun i hi => ?_, fun p hp => ?_⟩
  ·simp only [Zh, YN, not_or] at hi
   simp only [fv, bM]
   rw [abg (Ne.symm hi.1)]
   exact h2 i hi.2
  ·simp only [fv, bM]
   rcases YN.1 hp with rfl | hp
   ·rw [abh (by rw [h1]; exact hj)]
   ·have : j ≠ p.1 := fun e => hn.1 (by rw [e]; exact YY.2 ⟨p, hp, rfl⟩)
    rw [abg this]
    exact h3 p hp

theorem pb {lc lc2 : List Loc} {f : List Nat} (hloc : ∀ (i j : Nat) g, lc[i]? = some (.c g) → f[i]? = some j → lc2[j]? = some (.c g)) : ∀ (caps l : List (Nat × Nat)) (vs : List Value), nw f caps = some l → aw (dk lc) caps vs → aw (dk lc2) l vs
 | [], l, vs, h, hv => by cases hv; simp only [nw, Yy] at h; subst h; exact .nil
 | (j, o) :: caps, l, vs, h, hv => by
  cases hv with
  | cons h1 h2 =>
  simp only [nw] at h
  split at h
  ·rename_i i l' hi hl
   simp only [Yy] at h
   subst h
   obtain ⟨g, hg, he⟩ := h1
   exact .cons ⟨g, hloc _ _ _ hg hi, he⟩ (pb hloc caps l' _ hl h2)
  ·cases h

theorem Dq {X : Cx I} {lc lc2 : List Loc} {f : List Nat} (hloc : ∀ (i j : Nat) ℓ, lc[i]? = some ℓ → f[i]? = some j → lc2[j]? = some ℓ) {s : SV} {v : Value} (h : aD X lc s v) : aD X lc2 (atS f s) v := by
 cases s <;> try exact h
 ·rename_i j o
  obtain ⟨g, hg, he⟩ := h
  simp only [atS]
  split
  ·rename_i i hi; exact ⟨g, hloc _ _ _ hg hi, he⟩
  ·trivial
 ·rename_i j
  obtain ⟨hg, he⟩ := h
  simp only [atS]
  split
  ·rename_i i hi; exact ⟨hloc _ _ _ hg hi, he⟩
  ·trivial
 ·rename_i j z i o
  obtain ⟨g, n, c, hg, he⟩ := h
  simp only [atS]
  split
  ·rename_i k hi; exact ⟨g, n, c, hloc _ _ _ hg hi, he⟩
  ·trivial
 ·rename_i g caps
  obtain ⟨vs, h1, h2⟩ := h
  simp only [atS]
  split
  ·rename_i c hc; exact ⟨vs, h1, pb (fun i j g => hloc i j _) _ _ _ hc h2⟩
  ·trivial
 ·rename_i j
  obtain ⟨g, hg, he⟩ := h
  simp only [atS]
  split
  ·rename_i i hi; exact ⟨g, hloc _ _ _ hg hi, he⟩
  ·trivial
 ·rename_i j i
  obtain ⟨g, n, c, hg, he⟩ := h
  simp only [atS]
  split
  ·rename_i k hi; exact ⟨g, n, c, hloc _ _ _ hg hi, he⟩
  ·trivial

theorem vW {X : Cx I} {lc lc2 : List Loc} {f : List Nat} (hloc : ∀ (i j : Nat) ℓ, lc[i]? = some ℓ → f[i]? = some j → lc2[j]? = some ℓ) {l : List SV} {vs : List Value} (h : aw (aD X lc) l vs) : aw (aD X lc2) (l.map (atS f)) vs :=
 aw.map_left (h.mono fun _ _ h => Dq hloc h)
theorem Dp {X : Cx I} {lc lc2 : List Loc} {f : List Nat} (hloc : ∀ (i j : Nat) ℓ, lc[i]? = some ℓ → f[i]? = some j → lc2[j]? = some ℓ) {x : AV} {v : Value} (h : a6 X lc x v) : a6 X lc2 (atA f x) v := by
 cases x with
 | one s => exact Dq hloc h
 | agg l => obtain ⟨cs, h1, h2⟩ := h; exact ⟨cs, h1, vW hloc h2⟩
theorem MR {X : Cx I} {lc lc2 : List Loc} {f : List Nat} (hloc : ∀ (i j : Nat) ℓ, lc[i]? = some ℓ → f[i]? = some j → lc2[j]? = some ℓ) {x : TV} {v : Value} (h : aC X lc x v) : aC X lc2 (atT f x) v := by
 cases x with
 | v x => exact Dp hloc h
 | tup l => obtain ⟨cs, h1, h2⟩ := h; exact ⟨cs, h1, aw.map_left (h2.mono fun _ _ h => Dp hloc h)⟩

theorem E1 {X X2 : Cx I} {blks bl' : List Blk} {w w' : World} {lc lc' : List Loc} {js f : List Nat} {al : List (Nat × Blk)} (hW : aH X blks w lc) (hn : js.Nodup) (hon : ∀ j ∈ js, (nth Blk.dead blks j).on = true) (h) (hm)
    (hle : (bL X w (a8 lc js) h hW.below hm).Le X2) (hW' : aH X2 bl' w' lc') (hf : mj blks js bl' blks.length = some f) (hal : uL blks f bl' js 0 = some al) :
    ∃ more, X.Le (X.grow X2.ft X2.fw) ∧ aH (X.grow X2.ft X2.fw) (fv blks al ++ cD f bl') w' (lc ++ more) ∧ ∀ y v, aC X2 lc' y v → aC (X.grow X2.ft X2.fw) (lc ++ more) (atT f y) v := by
  obtain ⟨ft, fw, a1, a2, a3⟩ := hle
  show ∃ more, X.Le (X.grow ft fw) ∧ aH (X.grow ft fw) (fv blks al ++ cD f bl') w' (lc ++ more) ∧ ∀ y v, aC _ lc' y v → aC (X.grow ft fw) (lc ++ more) (atT f y) v
  have blk_ : ∀ j ∈ js, blks[j]? = some (nth .dead blks j) := fun j hj => b8 rfl (fun e => by have := hon j hj; rw [e] at this; cases this)
  have lc_ : ∀ j ∈ js, ∃ ℓ, lc[j]? = some ℓ := fun j hj => by
    have : j < lc.length := by rw [hW.len]; exact (abd.1 (blk_ j hj)).1
    exact ⟨_, abb this⟩
  have sel_ : ∀ (k j : Nat) ℓ, js[k]? = some j → lc[j]? = some ℓ → (a8 lc js)[k]? = some ℓ := fun k j ℓ hk hl => cT hk hl
  obtain ⟨hfl, hfs⟩ := jh bl' lc' blks.length f hW'.len.symm hf
  -- what the call may have turned
  have mineOf : ∀ g, ((bL X w (a8 lc js) h hW.below hm).grow ft fw).mine g → w.heap.size ≤ g ∨ ∃ j ∈ js, ∃ ℓ, lc[j]? = some ℓ ∧ ℓ.blk = some g := by
    intro g hg
    rcases hg with hg | ⟨v, hv, hvg⟩ | hg
    · exact .inl hg
    · obtain ⟨ℓ1, hm1, rfl⟩ := YY.1 hv
      obtain ⟨j1, hj1, he⟩ := YY.1 hm1
      obtain ⟨ℓ2, hl2⟩ := lc_ j1 hj1
      rw [hl2] at he
      simp only [ZB] at he
      subst he
      cases ℓ2 with
      | r v => exact .inr ⟨j1, hj1, _, hl2, hvg⟩
      | c g => cases hvg
      | m g => cases hvg
    · obtain ⟨ℓ1, hm1, he1⟩ := YY.1 hg
      obtain ⟨j1, hj1, he⟩ := YY.1 hm1
      obtain ⟨ℓ2, hl2⟩ := lc_ j1 hj1
      rw [hl2] at he
      simp only [ZB] at he
      subst he
      cases ℓ2 with
      | r v => simp only [hO] at he1; exact .inl (by omega)
      | c g2 => exact .inr ⟨j1, hj1, _, hl2, by simp only [hO] at he1; rw [← he1]; rfl⟩
      | m g2 => exact .inr ⟨j1, hj1, _, hl2, by simp only [hO] at he1; rw [← he1]; rfl⟩
  have hbase : X.base ≤ w.heap.size := hW.below.size
  have mineX : ∀ g, ((bL X w (a8 lc js) h hW.below hm).grow ft fw).mine g → X.mine g := by
    intro g hg
    rcases mineOf g hg with hg | ⟨j1, hj1, ℓ2, hl2, hg⟩
    · exact .inl (Zd hbase hg)
    · exact (Loc.lt (hW.blks j1 _ ℓ2 (blk_ j1 hj1) hl2) (hon j1 hj1) hg).1
  have hle : X.Le (X.grow ft fw) := .mk ft fw a1 a2 fun k hk => (a3 k hk).imp id fun hm => mineX k hm
  -- a block that came back lies where it lay
  have pinLoc : ∀ (i : Nat) b ℓ k j, bl'[i]? = some b → lc'[i]? = some ℓ → b.num = some k → js[k]? = some j → qp b (nth .dead blks j) = true → lc[j]? = some ℓ := by
    intro i b ℓ k j hb hl hk hj hag
    have hjm : j ∈ js := abl hj
    obtain ⟨ℓ0, hl0⟩ := lc_ j hjm
    have hs := sel_ k j ℓ0 hj hl0
    have hr := hW'.blks i b ℓ hb hl
    have hr0 := hW.blks j _ ℓ0 (blk_ j hjm) hl0
    have hgp : ((bL X w (a8 lc js) h hW.below hm).grow ft fw).gp[k]? = some (hO w.heap.size ℓ0) := by
      show ((a8 lc js).map (hO w.heap.size))[k]? = _
      rw [abe, hs]; rfl
    have hpn : ((bL X w (a8 lc js) h hW.below hm).grow ft fw).pins[k]? = some (Gc ℓ0) := by
      show ((a8 lc js).map Gc)[k]? = _
      rw [abe, hs]; rfl
    rw [hl0]
    cases b <;> simp only [Blk.num, Yy, reduceCtorEq] at hk <;> subst hk <;> cases hbo : nth Blk.dead blks j <;> rw [hbo] at hag hr0 <;> simp only [qp, Zs] at hag <;>
      cases ℓ <;> simp only [cS] at hr <;> cases ℓ0 <;> simp only [cS] at hr0
    all_goals first
      | (have e := hr.1
         rw [hgp] at e
         simp only [hO, Yy] at e
         rw [e])
      | (have e := hr.1
         rw [hpn] at e
         simp only [Gc, Yy] at e
         rw [e])
  have hloc : ∀ (i j : Nat) ℓ, lc'[i]? = some ℓ → f[i]? = some j → (lc ++ bR bl' lc')[j]? = some ℓ := by
    intro i j ℓ hl hfi
    have hi : i < bl'.length := by rw [← hW'.len]; exact (abd.1 hl).1
    rcases hfs i _ ℓ (abb hi) hl with ⟨k, j', h1, h2, h3, h4⟩ | ⟨h1, m, h2, h3, _⟩
    · rw [hfi] at h3
      simp only [Yy] at h3
      subst h3
      exact di _ (pinLoc i _ ℓ k j (abb hi) hl h1 h2 h4)
    · rw [hfi] at h2
      simp only [Yy] at h2
      subst h2
      rw [← hW.len, aa8 (by omega)]
      simpa using h3
  have hcell : ∀ k, ((bL X w (a8 lc js) h hW.below hm).grow ft fw).fz k → (X.grow ft fw).w0.heap[k]? = ((bL X w (a8 lc js) h hW.below hm).grow ft fw).w0.heap[k]? := fun k hk => (hW.below.block k (X.sub _ hk)).symm
  have hfz : ∀ k, ((bL X w (a8 lc js) h hW.below hm).grow ft fw).fz k → (X.grow ft fw).fz k := fun k hk => hk
  obtain ⟨ha1, ha2⟩ := rl js 0 al hal
  have hkeys : ∀ p ∈ al, p.1 < blks.length := fun p hp => by
    have : p.1 ∈ js := by rw [← ha1]; exact YY.2 ⟨p, hp, rfl⟩
    exact (abd.1 (blk_ _ this)).1
  obtain ⟨hs1, hs2, hs3⟩ := po al blks (by rw [ha1]; exact hn) hkeys
  obtain ⟨hm1, hm2⟩ := uG (F := f) bl' lc' hW'.len.symm
  -- what was not handed over is none of what the call may have turned
  have away : ∀ (j : Nat) b ℓ g, j ∉ js → blks[j]? = some b → b.on = true → lc[j]? = some ℓ → ℓ.blk = some g → ¬ ((bL X w (a8 lc js) h hW.below hm).grow ft fw).mine g := by
    intro j b ℓ g hj hb ho hl hg hmn
    rcases mineOf g hmn with h1 | ⟨j1, hj1, ℓ2, hl2, hg2⟩
    · have := (Loc.lt (hW.blks j b ℓ hb hl) ho hg).2
      omega
    · exact hW.apart j j1 b _ ℓ ℓ2 g (fun e => hj (e ▸ hj1)) hb (blk_ j1 hj1) ho (hon j1 hj1) hl hl2 hg hg2
  have untouched : ∀ (j : Nat) b ℓ g, j ∉ js → blks[j]? = some b → b.on = true → lc[j]? = some ℓ → ℓ.blk = some g → w'.heap[g]? = w.heap[g]? := by
    intro j b ℓ g hj hb ho hl hg
    rcases Cx.old_or (X := (bL X w (a8 lc js) h hW.below hm).grow ft fw) g with ho' | hm'
    · exact hW'.below.block g ho'
    · exact absurd hm' (away j b ℓ g hj hb ho hl hg)
  -- the blocks afterwards
  have back : ∀ (j : Nat) b ℓ, (fv blks al ++ cD f bl')[j]? = some b → (lc ++ bR bl' lc')[j]? = some ℓ → b.on = true →
      (j ∉ js ∧ blks[j]? = some b ∧ lc[j]? = some ℓ) ∨
      (∃ (i : Nat) (b0 : Blk), bl'[i]? = some b0 ∧ lc'[i]? = some ℓ ∧ b0.on = true ∧ ((∃ k, b0.num = some k ∧ js[k]? = some j) ∨ (b0.num = none ∧ blks.length ≤ j ∧ (bl'.take i).countP (fun b => b.num.isNone) = j - blks.length)) ∧ cS (X.grow ft fw) (lc ++ bR bl' lc') w' b ℓ) := by
    intro j b ℓ hb hl ho
    rcases YM j blks.length with hlt | hge
    · rw [aa7 (by rw [hs1]; exact hlt)] at hb
      rw [aa7 (by rw [hW.len]; exact hlt)] at hl
      by_cases hj : j ∈ js
      · right
        obtain ⟨n, hnj⟩ := abk.1 hj
        have : ∃ b', al[n]? = some (j, b') := by
          have e : (al.map Prod.fst)[n]? = some j := by rw [ha1]; exact hnj
          rw [abe] at e
          cases ha : al[n]? with
          | none => rw [ha] at e; cases e
          | some p =>
            rw [ha] at e
            simp only [Zf, Yy] at e
            exact ⟨p.2, by rw [← e]⟩
        obtain ⟨b', hb'⟩ := this
        have e := hs3 _ (abl hb')
        simp only at e
        rw [hb] at e
        simp only [Yy] at e
        subst e
        rcases ha2 n j b hnj (abl hb') hb' with hd | ⟨i, b0, h1, h2, h3⟩
        · rw [hd] at ho; cases ho
        · have hi : i < lc'.length := by rw [hW'.len]; exact (abd.1 h1).1
          have hli := abb hi
          have hr := hW'.blks i b0 _ h1 hli
          have hag : qp b0 (nth .dead blks j) = true := by
            cases b0 <;> simp only [Ds, reduceCtorEq] at h3 <;> cases hbo : nth Blk.dead blks j <;> rw [hbo] at h3 <;> first | rfl | cases h3
          have hll := pinLoc i b0 _ _ j h1 hli (by rw [h2, ZN]) hnj hag
          rw [hl] at hll
          simp only [Yy] at hll
          have hon0 : b0.on = true := by cases b0 <;> first | rfl | cases h2
          refine ⟨i, b0, h1, by rw [hll]; exact hli, hon0, .inl ⟨n, by rw [h2, ZN], hnj⟩, ?_⟩
          rw [← hll] at hr
          have hr0 := hW.blks j _ ℓ (blk_ j hj) hl
          have cellsBack : ∀ {l : List SV} {t : TypeId} {g : Nat}, (∃ cs, w'.heap[g]? = some (.cells cs t (0, 0)) ∧ aw (aD ((bL X w (a8 lc js) h hW.below hm).grow ft fw) lc') l cs.toList) →
              ∃ cs, w'.heap[g]? = some (.cells cs t (0, 0)) ∧ aw (aD (X.grow ft fw) (lc ++ bR bl' lc')) (l.map (atS f)) cs.toList := fun ⟨cs, e1, e2⟩ => ⟨cs, e1, vW hloc (iS hfz hcell rfl rfl e2)⟩
          cases b0 <;> simp only [Ds, reduceCtorEq] at h3 <;> cases hbo : nth Blk.dead blks j <;> rw [hbo] at h3 hr0 <;> simp only [Yy, reduceCtorEq] at h3 <;> subst h3 <;>
            cases ℓ <;> simp only [cS] at hr hr0 ⊢
          all_goals first
            | exact ⟨hr0.1, cellsBack hr.2⟩
            | exact ⟨hr0.1, hr.2⟩
      · refine .inl ⟨hj, ?_, hl⟩
        rw [hs2 j (by rw [ha1]; exact hj)] at hb
        exact hb
    · right
      rw [aa8 (by rw [hs1]; exact hge), hs1] at hb
      rw [aa8 (by rw [hW.len]; exact hge), hW.len] at hl
      obtain ⟨i, b0, ℓ0, h1, h2, h3, h4, h5, h6⟩ := hm2 _ b hb
      rw [hl] at h5
      simp only [Yy] at h5
      subst h5
      have hr := hW'.blks i b0 ℓ h1 h2
      have ho0 : b0.on = true := by subst h4; cases b0 <;> first | rfl | exact ho
      refine ⟨i, b0, h1, h2, ho0, .inr ⟨h3, hge, h6⟩, ?_⟩
      subst h4
      cases b0 <;> simp only [Blk.num, reduceCtorEq] at h3 <;> cases ℓ <;> simp only [cS] at hr <;> simp only [atB, cS]
      · obtain ⟨e1, cs, e2, e3⟩ := hr
        exact ⟨Zd hbase e1, cs, e2, vW hloc (iS hfz hcell rfl rfl e3)⟩
      · exact ⟨fun g hg => mineX g (hr.1 g hg), hr.2⟩
      · exact ⟨Zd hbase hr.1, hr.2⟩
      · exact ⟨fun g hg => mineX g (hr.1 g hg), hr.2⟩
  refine ⟨bR bl' lc', hle, ⟨by simp [hs1, hW.len, hm1], fun j b ℓ hb hl => ?_, fun j1 j2 b1 b2 l1 l2 g hj hb1 hb2 on1 on2 hl1 hl2 hg1 hg2 => ?_, ?_, hW'.frz, fun j b ℓ g hb ho hl hg => ?_⟩, fun y v hy => MR hloc (D6 (X' := X.grow ft fw) hfz hcell rfl rfl hy)⟩
  · cases ho : b.on with
    | false => cases b <;> first | (cases ho; done) | (cases ℓ <;> trivial)
    | true =>
      rcases back j b ℓ hb hl ho with ⟨h1, h2, h3⟩ | ⟨_, _, _, _, _, _, h3⟩
      · exact (((hW.blks j b ℓ h2 h3).kept fun g hon' hg => untouched j b ℓ g h1 h2 hon' h3 hg).grow hle).more _
      · exact h3
  · rcases back j1 b1 l1 hb1 hl1 on1 with ⟨n1, h2, h3⟩ | ⟨i1, c1, h1, h2, h3, h4, _⟩ <;> rcases back j2 b2 l2 hb2 hl2 on2 with ⟨n2, k2, k3⟩ | ⟨i2, c2, k1, k2, k3, k4, _⟩
    · exact hW.apart j1 j2 b1 b2 l1 l2 g hj h2 k2 on1 on2 h3 k3 hg1 hg2
    · exact away j1 b1 l1 g n1 h2 on1 h3 hg1 (Loc.lt (hW'.blks i2 c2 l2 k1 k2) k3 hg2).1
    · exact away j2 b2 l2 g n2 k2 on2 k3 hg2 (Loc.lt (hW'.blks i1 c1 l1 h1 h2) h3 hg1).1
    · have hne : i1 ≠ i2 := fun e => by
        subst e
        rw [h1] at k1
        cases k1
        rcases h4 with ⟨k, e1, e2⟩ | ⟨e1, e2, e3⟩ <;> rcases k4 with ⟨k', e1', e2'⟩ | ⟨e1', e2', e3'⟩
        · rw [e1] at e1'
          cases e1'
          rw [e2] at e2'
          cases e2'
          exact hj rfl
        · rw [e1] at e1'; cases e1'
        · rw [e1] at e1'; cases e1'
        · omega
      exact hW'.apart i1 i2 c1 c2 l1 l2 g hne h1 k1 h3 k3 h2 k2 hg1 hg2
  · have hb := hW'.below
    refine ⟨hb.os.trans hW.below.os, hb.tape.trans hW.below.tape, hb.output.trans hW.below.output, Zd hW.below.size hb.size, fun k hk => ?_⟩
    rcases Cx.old_or (X := (bL X w (a8 lc js) h hW.below hm).grow ft fw) k with ho' | hm'
    · exact (hb.block k ho').trans (hW.below.block k hk)
    · exact absurd hk fun hk => Cx.mine_old (mineX k hm') hk
  · rcases back j b ℓ hb hl ho with ⟨n1, h2, h3⟩ | ⟨i, c, h1, h2, h3, _, _⟩
    · intro hf'
      rcases a3 g hf' with h4 | h4
      · exact hW.frn j b ℓ g h2 ho h3 hg h4
      · exact away j b ℓ g n1 h2 ho h3 hg h4
    · exact hW'.frn i c ℓ g h1 h3 h2 hg

def WR (V : List Nat) (lc : List Loc) : Nat → Prop := fun k => ∃ j ℓ, jd j V = true ∧ lc[j]? = some ℓ ∧ ℓ.blk = some k
def SG (I : World → Prop) (P : Program) (o : Oper) (s : St) (x : TV) (bl : List Blk) : Prop := ∀ (X : Cx I) a w lc, Rel X s a w lc →
 ∃ g vs, (execOp a.eval o).run P w = .ok (.enter g vs) w ∧ Calls P g vs w (fun e w' => ∃ v more X', e = .returned v ∧ X.Le X' ∧ aC X' (lc ++ more) x v ∧ aH X' bl w' (lc ++ more) ∧
  ∀ V, sA V (rm s o) = true → Lat (WR V lc) w w')

theorem It {acc : List Nat} {n m : Nat} (h : m ∈ AQ acc n) : m ∈ acc ∨ m = n := by
 unfold AQ at h
 cases hb : jd n acc with
 | true => rw [hb] at h; exact .inl h
 | false =>
  rw [hb] at h
  rcases Zl.1 (by simpa using h : m ∈ acc ++ [n]) with h | h
  ·exact .inl h
  ·exact .inr (by simpa using h)
theorem iw : ∀ {l acc : List Nat} {m : Nat}, m ∈ ee acc l → m ∈ acc ∨ m ∈ l
 | [], _, _, h => .inl h
 | n :: l, acc, m, h => by
  rcases iw (l := l) h with h | h
  ·rcases It h with h | h
   ·exact .inl h
   ·exact .inr (by simp [h])
  ·exact .inr (by simp [h])
theorem pi : ∀ {xs : List TV} {acc : List Nat} {m : Nat}, m ∈ iR acc xs → m ∈ acc ∨ ∃ x ∈ xs, m ∈ dn x
 | [], _, _, h => .inl h
 | x :: xs, acc, m, h => by
  rcases pi (xs := xs) h with h | ⟨y, hy, hm⟩
  ·rcases iw h with h | h
   ·exact .inl h
   ·exact .inr ⟨x, by simp, h⟩
  ·exact .inr ⟨y, by simp [hy], hm⟩
theorem nf (bl : List Blk) : ∀ (l a : List Nat) (m : Nat), m ∈ l.foldl (fun a j => ee a (sh (nth .dead bl j))) a ↔ m ∈ a ∨ ∃ j ∈ l, m ∈ sh (nth .dead bl j)
 | [], a, m => by simp
 | j :: l, a, m => by
  simp only [aaW]
  rw [nf bl l]
  constructor
  ·rintro (h | ⟨i, hi, hm⟩)
   ·rcases iw h with h | h
    ·exact .inl h
    ·exact .inr ⟨j, by simp, h⟩
   ·exact .inr ⟨i, by simp [hi], hm⟩
  ·rintro (h | ⟨i, hi, hm⟩)
   ·exact .inl (dD (.inl h))
   ·rcases YN.1 hi with rfl | hi
    ·exact .inl (dD (.inr hm))
    ·exact .inr ⟨i, hi, hm⟩
theorem IA {X : Cx I} {lc : List Loc} {caps : List (Nat × Nat)} {vs : List Value} (h : aw (dk lc) caps vs) : aw (aC X lc) (caps.map A4) vs := by
 induction h with
 | nil => exact .nil
 | cons h1 _ ih => exact .cons h1 ih

theorem sB {V : List Nat} : ∀ {l : List Nat}, sA V l = true → ∀ j ∈ l, jd j V = true
 | x :: l, h, j, hj => by
  simp only [sA, Yz] at h
  rcases YN.1 hj with rfl | hj
  ·exact h.1
  ·exact sB h.2 j hj

theorem G5 : ∀ (l : List Nat), sA l l = true := by
 have key : ∀ (l V : List Nat), (∀ j ∈ l, j ∈ V) → sA V l = true := by
  intro l
  induction l with
  | nil => intro V _; rfl
  | cons x l ih =>
   intro V h
   simp only [sA, Yz]
   exact ⟨pR (h x (by simp)), ih V fun j hj => h j (by simp [hj])⟩
 exact fun l => key l l fun _ h => h
theorem SY {b : Blk} : onB b = b.on := by cases b <;> rfl
theorem pT {bl : List Blk} : ∀ {V : List Nat}, onN bl V = true → ∀ j ∈ V, ∃ b, bl[j]? = some b ∧ b.on = true
 | x :: V, h, j, hj => by
  simp only [onN, Yz, SY] at h
  rcases YN.1 hj with rfl | hj
  ·exact ⟨_, b8 rfl (fun e => by have := h.1; rw [e] at this; cases this), h.1⟩
  ·exact pT h.2 j hj
def Jj (X : Cx I) (N : List Nat) (lc : List Loc) : Nat → Prop := fun k => ¬ X.old k ∧ ¬ X.ft k ∧ ∀ j ∈ N, ∀ ℓ, lc[j]? = some ℓ → ℓ.blk ≠ some k
def dj (X : Cx I) (lc : List Loc) : Option (List Nat) → Nat → Prop
 | none => fun _ => False
 | some N => Jj X N lc
def fm : Option (List Nat) → Op → Bool
 | none => wh true
 | some _ => wh false
def iN (lc : List Loc) : Option (List Nat) → Prop
 | none => True
 | some N => ∀ j ∈ N, j < lc.length
theorem mv {X : Cx I} {V : Option (List Nat)} {lc : List Loc} (h : iN lc V) (more : List Loc) : dj X (lc ++ more) V = dj X lc V := by
 cases V with
 | none => rfl
 | some N =>
  funext k
  apply propext
  constructor
  ·exact fun ⟨h1, h3, h2⟩ => ⟨h1, h3, fun j hj ℓ hl => h2 j hj ℓ (by rw [aa7 (h j hj)]; exact hl)⟩
  ·exact fun ⟨h1, h3, h2⟩ => ⟨h1, h3, fun j hj ℓ hl => h2 j hj ℓ (by rw [aa7 (h j hj)] at hl; exact hl)⟩
theorem re {X Y : Cx I} (h : X.Le Y) {lc : List Loc} {V : Option (List Nat)} : ∀ k, dj Y lc V k → dj X lc V k := by
 have hft := h.ft
 obtain ⟨ft, fw, a1, a2, a3⟩ := h
 cases V with
 | none => exact fun _ h => h
 | some N => exact fun k ⟨h1, h2, h3⟩ => ⟨h1, fun hf => h2 (hft k hf), h3⟩
theorem jy {V : Option (List Nat)} {lc : List Loc} (h : iN lc V) (more : List Loc) : iN (lc ++ more) V := by
 cases V with
 | none => trivial
 | some N => exact fun j hj => by rw [YF]; exact YJ (h j hj) (Nat.le_add_right _ _)
theorem F1 {X : Cx I} {bl : List Blk} {lc : List Loc} {N R : List Nat} (h : sA N R = true) : th X bl lc R (Jj X N lc) :=
 ⟨fun hj _ _ hl hg hG => hG.2.2 _ (nz (sB h _ hj)) _ hl hg, fun ho hG => hG.1 ho, fun hf hG => hG.2.1 hf⟩
theorem uA {X : Cx I} {bl : List Blk} {w : World} {lc : List Loc} (hW : aH X bl w lc) {N R : List Nat} (hd : m8 N R = true) (hN : onN bl N = true) (hR : onN bl R = true) : ∀ k, WR R lc k → Jj X N lc k := by
 intro k ⟨j, ℓ, h1, h2, h3⟩
 obtain ⟨b, hb, hon⟩ := pT hR j (nz h1)
 refine ⟨fun ho => Cx.mine_old (Loc.lt (hW.blks j b ℓ hb h2) hon h3).1 ho, hW.frn j b ℓ k hb hon h2 h3, fun i hi ℓ' hl' => ?_⟩
 obtain ⟨b', hb', hon'⟩ := pT hN i hi
 have hne : j ≠ i := fun e => by
  subst e
  have := ug hd j (nz h1)
  rw [pR hi] at this
  cases this
 exact hW.apart j i b b' ℓ ℓ' k hne hb hb' hon hon' h2 hl' h3
structure Rq (s : St) (c : Call) (xs : List TV) (b : List Blk) : Prop where
 ext : ∃ ex, b = s.blks ++ ex ∧ ∀ e ∈ ex, sh e = []
 refs : ∀ j, j < s.blks.length → (∃ x ∈ xs, j ∈ dn x) → ∃ z ∈ c.args.toList, j ∈ dn (aE s z)
 rel : ∀ (X : Cx I) (a : Act) w lc, Rel X s a w lc → ∃ more, (∀ ℓ ∈ more, ℓ.blk = none) ∧ aH X b w (lc ++ more) ∧ aw (aC X (lc ++ more)) xs (c.args.toList.map a.eval)
theorem yT {s : St} : ∀ {ts : List TypeId} {os : List Operand} {bl : List Blk} {xs : List TV} {b : List Blk}, DD L s bl ts os = some (xs, b) →
  (∃ ex, b = bl ++ ex ∧ ∀ e ∈ ex, sh e = []) ∧ (∀ j, j < bl.length → (∃ x ∈ xs, j ∈ dn x) → ∃ z ∈ os, j ∈ dn (aE s z)) ∧
  ∀ (X : Cx I) (a : Act) w lc, aw (aC X lc) s.tmps a.tmps.toList → aH X bl w lc → ∃ more, (∀ ℓ ∈ more, ℓ.blk = none) ∧ aH X b w (lc ++ more) ∧ aw (aC X (lc ++ more)) xs (os.map a.eval)
 | [], [], bl, xs, b, h => by
  cases h
  exact ⟨⟨[], by simp, fun e he => by cases he⟩, (fun j _ ⟨x, hx, _⟩ => by cases hx), fun X a w lc _ hW => ⟨[], (fun ℓ h => by cases h), by simpa using hW, .nil⟩⟩
 | [], _ :: _, _, _, _, h => by cases h
 | _ :: _, [], _, _, _, h => by cases h
 | t :: ts, o :: os, bl, xs, b, h => by
  simp only [DD] at h
  split at h
  ·rename_i y b1 hy
   split at h
   ·rename_i ys b2 hys
    cases h
    obtain ⟨⟨ex, he1, he2⟩, hr, hrel⟩ := yT hys
    unfold V4 at hy
    split at hy
    ·split at hy
     ·rename_i e hte
      split at hy
      ·rename_i q hq
       cases hy
       refine ⟨⟨.row e q :: ex, by rw [he1]; simp, fun e' he' => ?_⟩, fun j hj ⟨x, hx, hm⟩ => ?_, fun X a w lc ht hW => ?_⟩
       ·rcases YN.1 he' with rfl | he'
        ·rfl
        ·exact he2 _ he'
       ·rcases YN.1 hx with rfl | hx
        ·simp only [one, dn, D1, hY, ZG] at hm
         omega
        ·obtain ⟨z, hz, hm⟩ := hr j (by simp; omega) ⟨x, hx, hm⟩
         exact ⟨z, YL _ hz, hm⟩
       ·have hW1 : aH X (bl ++ [.row e q]) w (lc ++ [.r (.slice none 0 0)]) := by
         refine hW.add ?_ (fun g hg => by cases hg) (fun g _ hg => by cases hg)
         refine ⟨(fun g hg => by cases hg), [], pM (ba hq), ?_⟩
         rw [ba hq]
         exact ⟨by simp, .inl ⟨rfl, rfl⟩⟩
        obtain ⟨more, h1, h2, h3⟩ := hrel X a w _ (ht.mono fun _ _ h => aC.more _ h) hW1
        refine ⟨[.r (.slice none 0 0)] ++ more, fun ℓ hl => ?_, by rw [← Zg]; exact h2, ?_⟩
        ·rcases Zl.1 hl with hl | hl
         ·simp only [ZG] at hl
          subst hl; rfl
         ·exact h1 _ hl
        ·rw [← Zg]
         refine .cons ?_ h3
         refine ⟨?_, none, 0, 0, rfl⟩
         rw [Zg, aa8 (by rw [hW.len]; exact YG _), hW.len, Z2]
         rfl
      ·cases hy
     ·cases hy
    ·cases hy
     refine ⟨⟨ex, he1, he2⟩, fun j hj ⟨x, hx, hm⟩ => ?_, fun X a w lc ht hW => ?_⟩
     ·rcases YN.1 hx with rfl | hx
      ·exact ⟨o, YW, hm⟩
      ·obtain ⟨z, hz, hm⟩ := hr j hj ⟨x, hx, hm⟩
       exact ⟨z, YL _ hz, hm⟩
     ·obtain ⟨more, h1, h2, h3⟩ := hrel X a w lc ht hW
      exact ⟨more, h1, h2, .cons ((au ht o).more more) h3⟩
   ·cases h
  ·cases h
theorem ud {bl ex : List Blk} (he : ∀ e ∈ ex, sh e = []) : ∀ (n : Nat) {acc acc' : List Nat}, (∀ j ∈ acc, j < bl.length → j ∈ acc') → ∀ j ∈ close (bl ++ ex) n acc, j < bl.length → j ∈ close bl n acc'
 | 0, _, _, h, j, hj, hlt => h j hj hlt
 | n + 1, acc, acc', h, j, hj, hlt => ud he n (fun i hi hil => by
   rcases (nf (bl ++ ex) acc acc i).1 hi with hi | ⟨k, hk, hm⟩
   ·exact (nf bl acc' acc' i).2 (.inl (h i hi hil))
   ·rcases YM k bl.length with hkl | hkl
    ·have e : nth Blk.dead (bl ++ ex) k = nth Blk.dead bl k := Bv (by rw [aa7 hkl]; exact iP hkl)
     rw [e] at hm
     exact (nf bl acc' acc' i).2 (.inr ⟨k, h k hk hkl, hm⟩)
    ·rcases YM k (bl ++ ex).length with hk2 | hk2
     ·have h2 := iP (d := Blk.dead) hk2
      rw [aa8 hkl] at h2
      rw [he _ (abl h2)] at hm
      cases hm
     ·have : nth Blk.dead (bl ++ ex) k = .dead := by
       cases hb : nth Blk.dead (bl ++ ex) k with
       | dead => rfl
       | _ =>
        have := b8 hb (by simp)
        rw [abc hk2] at this
        cases this
      rw [this] at hm
      cases hm) j hj hlt
theorem Sg {own : Bool} {o : Oper} {c : Call} {f : Operand} {s : St} {g : FuncId} {caps : List (Nat × Nat)} {GS : bO β} (hG : GOK I P g GS) {K : TV → St → Option β} {r : β} (ho : o.op = .call c) (hc : c.callee = .value f) (hv : (aE s f).sv = .fn g caps)
  {xs : List TV} {b : List Blk} (hh : Rq (I := I) s c xs b) (h : evG own GS (xs ++ caps.map A4) ⟨s.tmps, b⟩ K = some r) : ∃ x bl, K x ⟨s.tmps, bl⟩ = some r ∧ SG I P o s x bl := by
 unfold evG at h
 simp only [ou] at h
 generalize hjs : dl b (xs ++ caps.map A4) = js at h
 have hn : js.Nodup := by rw [← hjs]; exact jl _ _ (f4 _ .nil)
 split at h
 ·rename_i bs hbs
  obtain ⟨y, bl', hK, hcall⟩ := hG.2 _ _ _ _ h
  split at hK
  ·rename_i ff hff
   split at hK
   ·rename_i al hal
    refine ⟨_, _, hK, fun X a w lc0 hR => ?_⟩
    obtain ⟨more0, hno, hW, hxs⟩ := hh.rel X a w lc0 hR
    have hlc0 : lc0.length = s.blks.length := hR.world.len
    have hin0 : ∀ (j : Nat) ℓ k, (lc0 ++ more0)[j]? = some ℓ → ℓ.blk = some k → j < s.blks.length ∧ lc0[j]? = some ℓ := fun j ℓ k hj hk => by
     rcases YM j lc0.length with hl | hl
     ·exact ⟨by omega, by rw [aa7 hl] at hj; exact hj⟩
     ·rw [aa8 hl] at hj
      rw [hno _ (abl hj)] at hk
      cases hk
    have hcv := au (X := X) hR.tmps f
    generalize hlc : lc0 ++ more0 = lc at hW hxs hin0
    obtain ⟨glen, ggiv⟩ := ob _ _ _ hbs
    have hon : ∀ j ∈ js, (nth Blk.dead b j).on = true := fun j hj => by
     obtain ⟨i, hi⟩ := abk.1 hj
     obtain ⟨b', _, h2⟩ := ggiv i (wZ js (nth .dead b j)) (by simp [hi])
     have := (wk h2).1
     rwa [w7] at this
    have blk_ : ∀ j ∈ js, b[j]? = some (nth .dead b j) := fun j hj => b8 rfl (fun e => by have := hon j hj; rw [e] at this; cases this)
    have hfz : ∀ k, X.fz k → k < w.heap.size ∧ ∀ ℓ ∈ a8 lc js, ℓ.blk ≠ some k := fun k hk => by
     refine ⟨YJ (X.sub k hk).1 hW.below.size, fun ℓ hℓ hb => ?_⟩
     obtain ⟨j, hj, he⟩ := YY.1 hℓ
     have hjl : j < lc.length := by rw [hW.len]; exact (abd.1 (blk_ j hj)).1
     rw [abb hjl, ZB] at he
     exact Cx.mine_old (Loc.lt (hW.blks j _ ℓ (blk_ j hj) (by rw [abb hjl, he])) (hon j hj) hb).1 (X.sub k hk)
    have hmn : ∀ ℓ ∈ a8 lc js, ∀ k, ℓ.blk = some k → X.mine k := fun ℓ hℓ k hb => by
     obtain ⟨j, hj, he⟩ := YY.1 hℓ
     have hjl : j < lc.length := by rw [hW.len]; exact (abd.1 (blk_ j hj)).1
     rw [abb hjl, ZB] at he
     exact (Loc.lt (hW.blks j _ ℓ (blk_ j hj) (by rw [abb hjl, he])) (hon j hj) hb).1
    have hW0 := hW.sel hn
    have hW1 := I9 hW0 hbs hfz hmn
    have hcellF : ∀ k, X.fz k → (bL X w (a8 lc js) hfz hW.below hmn).w0.heap[k]? = X.w0.heap[k]? := fun k hk => hW.below.block k (X.sub _ hk)
    obtain ⟨cv, hf1, hf2⟩ := aI hcv hv
    have hf2 : aw (dk lc) caps cv.toList := hf2.mono fun _ _ ⟨g, h1, h2⟩ => ⟨g, by rw [← hlc]; exact di _ h1, h2⟩
    have hargs : aw (aC (bL X w (a8 lc js) hfz hW.below hmn) (a8 lc js)) ((xs ++ caps.map A4).map (mB js)) ((c.args.map a.eval ++ cv).toList) := by
     rw [aaA, ZA]
     have h0 : aw (aC X lc) (xs ++ caps.map A4) (c.args.toList.map a.eval ++ cv.toList) := by
      exact aw.append hxs (IA hf2)
     exact aw.map_left (h0.mono fun _ _ h => D6 (X := X) (X' := bL X w (a8 lc js) hfz hW.below hmn) (fun k hk => hk) hcellF rfl rfl (nG h))
    refine ⟨g, _, uW ho hc hf1 hG.1 w, ?_⟩
    have := hcall (bL X w (a8 lc js) hfz hW.below hmn) _ _ hW1 hargs
    refine this.mono fun e w' ⟨v, X2, lc', he, hle, hWb, hy⟩ => ?_
    obtain ⟨more, hj0, hj1, hj2⟩ := E1 hW hn hon hfz hmn hle hWb hff hal
    refine ⟨v, more0 ++ more, _, he, hj0, by rw [← Zg, hlc]; exact hj2 y v hy, by rw [← Zg, hlc]; exact hj1, fun V hV => ?_⟩
    ·obtain ⟨ft, fw, _, _, _⟩ := hle
     have hb := hWb.below
     have inV : ∀ j ∈ js, j < s.blks.length → jd j V = true := fun j hj hlt => by
      refine sB hV j ?_
      obtain ⟨⟨ex, he1, he2⟩, hrefs, _⟩ := hh
      subst he1
      rw [← hjs] at hj
      refine ud he2 4 (fun i hi hil => ?_) j hj hlt
      rcases pi hi with hi | ⟨x, hx, hm⟩
      ·cases hi
      refine jx (.inr ?_)
      rcases Zl.1 hx with hx | hx
      ·obtain ⟨z, hz, hm⟩ := hrefs i hil ⟨x, hx, hm⟩
       exact ⟨_, YY.2 ⟨z, by simp only [ho, Op.operands, Call.operands, hc]; simp; exact .inr (by simpa using hz), rfl⟩, hm⟩
      ·obtain ⟨z, hz, rfl⟩ := YY.1 hx
       refine ⟨aE s f, YY.2 ⟨f, by simp [ho, Op.operands, Call.operands, hc], rfl⟩, ?_⟩
       rw [iX hv (by simp)]
       simp only [A4, one, dn, D1, hY, ZG] at hm
       subst hm
       exact YY.2 ⟨z, hz, rfl⟩
     refine ⟨hb.os, hb.tape, hb.output, hb.size, fun k hk hg => hb.block k ⟨hk, fun v hv hvg => ?_, fun hgg => ?_⟩⟩
     ·obtain ⟨ℓ1, hm, rfl⟩ := YY.1 hv
      obtain ⟨j1, hj1, he⟩ := YY.1 hm
      have hjl : j1 < lc.length := by rw [hW.len]; exact (abd.1 (blk_ j1 hj1)).1
      rw [abb hjl, ZB] at he
      have hb1 : ℓ1.blk = some k := by
       cases ℓ1 with
       | r v => exact hvg
       | c g => cases hvg
       | m g => cases hvg
      obtain ⟨hlt, h0⟩ := hin0 j1 ℓ1 k (by rw [abb hjl, he]) hb1
      exact hg ⟨j1, ℓ1, inV j1 hj1 hlt, h0, hb1⟩
     ·obtain ⟨ℓ1, hm, he1⟩ := YY.1 hgg
      obtain ⟨j1, hj1, he⟩ := YY.1 hm
      have hjl : j1 < lc.length := by rw [hW.len]; exact (abd.1 (blk_ j1 hj1)).1
      rw [abb hjl, ZB] at he
      cases ℓ1 with
      | r v => simp only [hO] at he1; omega
      | c g2 =>
       have hb1 : (Loc.c g2).blk = some k := by simp only [hO] at he1; rw [← he1]; rfl
       obtain ⟨hlt, h0⟩ := hin0 j1 _ k (by rw [abb hjl, he]) hb1
       exact hg ⟨j1, .c g2, inV j1 hj1 hlt, h0, hb1⟩
      | m g2 =>
       have hb1 : (Loc.m g2).blk = some k := by simp only [hO] at he1; rw [← he1]; rfl
       obtain ⟨hlt, h0⟩ := hin0 j1 _ k (by rw [abb hjl, he]) hb1
       exact hg ⟨j1, .m g2, inV j1 hj1 hlt, h0, hb1⟩
   ·cases hK
  ·cases hK
 ·cases h

theorem pU {E : Env β} (hE : bp I P E) (hM : b7 I P E) (hG : fS I P E) {o : Oper} {s : St} {K : TV → St → Option β} {r : β} (hc : bY o.op = true) (h : dy L E o s K = some r) :
  (∃ x bl, K x ⟨s.tmps, bl⟩ = some r ∧ SC I P o s x bl ∧ (qX E s o = false → cR x = true → bl = s.blks ∧ SCQ I P o s x)) ∨ (E.muts ≠ [] ∧ ∃ x bl, K x ⟨s.tmps, bl⟩ = some r ∧ SM I P o s x bl) ∨ (iM E s o = true ∧ ∃ x bl, K x ⟨s.tmps, bl⟩ = some r ∧ SG I P o s x bl) := by
 have ⟨c, f, ho, hf⟩ : ∃ c f, o.op = .call c ∧ c.callee = .value f := by
  unfold bY at hc
  split at hc
  ·rename_i f args ts ho
   exact ⟨_, f, ho, rfl⟩
  ·cases hc
 unfold dy at h
 simp only [ho] at h
 unfold mo at h
 simp only [hf] at h
 split at h
 ·rename_i g caps hv
  split at h
  ·rename_i GS hGS
   split at h
   ·rename_i xs b hxs
    obtain ⟨h1, h2, h3⟩ := yT (I := I) hxs
    exact .inr (.inr ⟨by simp [iM, ho, hf, hv, hGS], Sg (hG g GS hGS) ho hf hv ⟨h1, h2, fun X a w lc hR => h3 X a w lc hR.tmps hR.world⟩ h⟩)
   ·cases h
  split at h
  ·rename_i MS hMS
   obtain ⟨hb, h⟩ := aF h
   have hcaps : caps = [] := Zj (YA hb)
   subst hcaps
   exact .inr (.inl ⟨fun e => (by rw [e] at hMS; cases hMS), Jt (hM g MS hMS) ho hf hv h⟩)
  ·left
   cases hkp : oo g E.hints.args with
   | true =>
    have hkeep : qX E s o = true := by simp [qX, ho, hf, hv, hkp]
    rw [hkp] at h
    simp only [YC] at h
    obtain ⟨hcaps, h4⟩ := aF h
    clear h
    simp only [Yz] at hcaps
    obtain ⟨hcaps, hl⟩ := hcaps
    have hl := YA hl
    obtain ⟨hall, h5⟩ := aF h4
    clear h4
    have hcaps : caps = [] := Zj (YA hcaps)
    subst hcaps
    obtain ⟨x, bl, h1, h2, _⟩ := lb hE ho hf (fun X a w lc hR => by
     obtain ⟨vs, h1, h2⟩ := aI (au (X := X) hR.tmps f) hv
     have hvs : vs = #[] := by cases vs; cases h2; rfl
     subst hvs
     obtain ⟨X0, k1, k2, k3⟩ := oa hR.world (ri (L := L) hR c.argTypes.toList c.args.toList hl)
     refine ⟨X0, #[], #[], k1, h1, k2, ?_⟩
     rw [ZA, YR]
     exact q6 k2 hall k3) h5
    exact ⟨x, bl, h1, h2, fun hk => by rw [hkeep] at hk; cases hk⟩
   | false =>
    rw [hkp] at h
    simp only [YB] at h
    split at h
    ·rename_i cs xs hcs hxs
     obtain ⟨x, bl, h1, h2, h3⟩ := lb hE ho hf (fun X a w lc hR => by
      obtain ⟨vs, h1, h2⟩ := aI (au (X := X) hR.tmps f) hv
      refine ⟨X, #[], vs, .refl X, h1, hR.world, ?_⟩
      rw [ZA]
      exact (iz hR _ _ _ hxs).append (ue (n5 hR.world _ _ _ hcs h2))) h
     exact ⟨x, bl, h1, h2, fun _ => h3 rfl⟩
    ·cases h
 ·rename_i g l hv
  left
  split at h
  ·rename_i xs hxs
   obtain ⟨x, bl, h1, h2, h3⟩ := lb hE ho hf (fun X a w lc hR => by
    obtain ⟨vs, h1, h2⟩ := aI (au (X := X) hR.tmps f) hv
    refine ⟨X, #[.agg vs], #[], .refl X, h1, hR.world, ?_⟩
    rw [ZA]
    refine .cons ?_ ?_
    ·exact ⟨vs, rfl, aw.map_left (h2.mono fun _ _ h => D4 (mA h hR.world.below))⟩
    ·rw [YR]
     exact iz hR _ _ _ hxs) h
   exact ⟨x, bl, h1, h2, fun _ => h3 rfl⟩
  ·cases h
 ·rename_i g cs hv
  left
  split at h
  ·rename_i xs hxs
   obtain ⟨x, bl, h1, h2, h3⟩ := lb hE ho hf (fun X a w lc hR => by
    obtain ⟨vs, h1, h2⟩ := aI (au (X := X) hR.tmps f) hv
    refine ⟨X, #[], vs, .refl X, h1, hR.world, ?_⟩
    rw [ZA]
    exact (iz hR _ _ _ hxs).append (ue (h2.mono fun _ _ h => mn h hR.world.below))) h
   exact ⟨x, bl, h1, h2, fun _ => h3 rfl⟩
  ·cases h
 ·cases h
end
end Go.Rv
