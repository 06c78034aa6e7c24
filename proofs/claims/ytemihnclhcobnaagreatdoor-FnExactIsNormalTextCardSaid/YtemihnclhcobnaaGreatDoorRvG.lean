/- Calls that may turn what they are handed. -/
import Derived.Test.YtemihnclhcobnaaGreatDoorRvCall
import Derived.Test.YtemihnclhcobnaaGreatDoorRvTidy
namespace Go.Rv
set_option linter.unusedSimpArgs false
open Go.RowKit (Below)
set_option linter.unusedVariables false
section
variable {I : World -> Prop} {P : Program} {L : Lay} {β : Type}

def GOK (I : World -> Prop) (P : Program) (g : FuncId) (GS : ce β) : Prop :=
 (∃ fn c, P.funcs[g]? = some fn /\ fn.body = some c /\ (fn.name == "runtime.NumGoroutine") = false) /\
 ∀ args bl K r, GS args bl K = some r -> ∃ y bl', K y bl' = some r /\ ∀ (X : Cx I) vs lc, aK X bl X.w0 lc -> aB (aC X lc) args vs ->
  Calls P g vs.toArray X.w0 (fun e w' => ∃ v X' lc', e = .returned v /\ X.Le X' /\ aK X' bl' w' lc' /\ aC X' lc' y v)
def gy (I : World -> Prop) (P : Program) (E : Env β) : Prop := ∀ g GS, gOf E.gfns g = some GS -> GOK I P g GS

section
variable {X X' : Cx I} (hf : ∀ k, X.fz k -> X'.fz k) (hc : ∀ k, X.fz k -> X'.w0.heap[k]? = X.w0.heap[k]?) (hft : X'.ft = X.ft) (hfw : X'.fw = X.fw)
include hf hc hft hfw
theorem Oh {f : FSf} {v : Value} (h : f5 X f v) : f5 X' f v := by
 cases f <;> simp only [f5] at h ⊢ <;> try exact h
 ·exact bf.mono hf hc h
 ·rw [hft, hfw]; exact h
theorem MG {l : List FSf} {off : Nat} {v : Value} (h : dZ X l off v) : dZ X' l off v := by
 obtain ⟨a, h1, h2, h3⟩ := h
 refine ⟨a, h1, hf _ h2, fun m f hm => ?_⟩
 obtain ⟨u, hu, hr⟩ := h3 m f hm
 exact ⟨u, (eU hf hc ⟨h2, hu⟩).2, Oh hf hc hft hfw hr⟩
theorem Hh {f : FS} {v : Value} (h : iJ X f v) : iJ X' f v := by
 cases f <;> simp only [iJ] at h ⊢ <;> try exact h
 ·exact bf.mono hf hc h
 ·rw [hft, hfw]; exact h
 ·exact MG hf hc hft hfw h
theorem GI {l : List FS} {off : Nat} {v : Value} (h : dw X l off v) : dw X' l off v := by
 obtain ⟨a, h1, h2, h3⟩ := h
 refine ⟨a, h1, hf _ h2, fun m f hm => ?_⟩
 obtain ⟨u, hu, hr⟩ := h3 m f hm
 exact ⟨u, (eU hf hc ⟨h2, hu⟩).2, Hh hf hc hft hfw hr⟩
theorem Hj {lc : List Loc} {s : SV} {v : Value} (h : aD X lc s v) : aD X' lc s v := by
 cases s <;> simp only [aD] at h ⊢ <;> try exact h
 ·exact bf.mono hf hc h
 ·obtain ⟨h0, h1, a, h2, h3, h4⟩ := h
  refine ⟨h0, h1, a, h2, hf _ h3, fun m s hm => ?_⟩
  obtain ⟨u, hu, hr⟩ := h4 m s hm
  exact ⟨u, (eU hf hc ⟨h3, hu⟩).2, hr.mono hf hc⟩
 ·exact GI hf hc hft hfw h
 ·obtain ⟨vs, h1, h2⟩ := h
  exact ⟨vs, h1, h2.mono fun _ _ h => GI hf hc hft hfw h⟩
 ·rw [fT, hft, hfw]; exact h
 ·rw [hft, hfw]; exact h
 ·rw [hft, hfw]; exact h
 ·rw [hft, hfw]; exact h
 ·obtain ⟨cs, h1, h2⟩ := h
  exact ⟨cs, h1, h2.mono fun _ _ h => Hh hf hc hft hfw h⟩
 ·rw [fT, hft, hfw]; exact h
theorem jB {lc : List Loc} {l : List SV} {vs : List Value} (h : aB (aD X lc) l vs) : aB (aD X' lc) l vs := h.mono fun _ _ h => Hj hf hc hft hfw h
theorem Hg {lc : List Loc} {x : AV} {v : Value} (h : a7 X lc x v) : a7 X' lc x v := by
 cases x with
 | one s => exact Hj hf hc hft hfw h
 | agg l => obtain ⟨cs, h1, h2⟩ := h; exact ⟨cs, h1, jB hf hc hft hfw h2⟩
theorem Hk {lc : List Loc} {x : TV} {v : Value} (h : aC X lc x v) : aC X' lc x v := by
 cases x with
 | v x => exact Hg hf hc hft hfw h
 | tup l => obtain ⟨cs, h1, h2⟩ := h; exact ⟨cs, h1, h2.mono fun _ _ h => Hg hf hc hft hfw h⟩
end

theorem qf {own : Bool} : ∀ (bs : List Blk) (n : Nat) (l : List Blk), Jt own bs n = some l -> l.length = bs.length /\ ∀ (i : Nat) b, bs[i]? = some b -> ∃ b', l[i]? = some b' /\ giv own (n + i) b = some b'
 | [], n, l, h => by simp only [Jt, aj1] at h; subst h; exact ⟨rfl, fun i b hb => by simp at hb⟩
 | b :: bs, n, l, h => by
  simp only [Jt] at h
  split at h
  ·rename_i b' r' h1 h2
   simp only [aj1] at h
   subst h
   obtain ⟨h3, h4⟩ := qf bs (n + 1) r' h2
   refine ⟨by simp [h3], fun i b0 hb => ?_⟩
   cases i with
   | zero => simp at hb; subst hb; exact ⟨b', rfl, h1⟩
   | succ i =>
    obtain ⟨b2, h5, h6⟩ := h4 i b0 (by simpa using hb)
    exact ⟨b2, by simpa using h5, by rw [<- h6]; congr 1; omega⟩
  ·cases h
theorem zj {own : Bool} {n : Nat} {b b' : Blk} (h : giv own n b = some b') : b.on = true /\ b'.on = true := by
 cases own <;> cases b <;> simp only [giv, ajZ, ajY, aj1, reduceCtorEq] at h <;> subst h <;> exact ⟨rfl, rfl⟩

def JO : Loc -> Value
 | .r v => v
 | _ => undef
def iH (n : Nat) : Loc -> Nat
 | .c g | .m g => g
 | .r _ => n
theorem Nm {X : Cx I} {w : World} {lc : List Loc} (h : ∀ k, X.fz k -> k < w.heap.size /\ ∀ ℓ ∈ lc, ℓ.blk ≠ some k) (k : Nat) (hk : X.fz k) :
  k < w.heap.size /\ (∀ v ∈ lc.map JO, v.ownBlock ≠ some k) /\ k ∉ lc.map (iH w.heap.size) := by
 refine ⟨(h k hk).1, fun v hv hb => ?_, fun hg => ?_⟩
 ·obtain ⟨ℓ, hℓ, rfl⟩ := akq.1 hv
  cases ℓ with
  | r v => exact (h k hk).2 _ hℓ hb
  | c g => cases hb
  | m g => cases hb
 ·obtain ⟨ℓ, hℓ, he⟩ := akq.1 hg
  cases ℓ with
  | r v => have := (h k hk).1; simp only [iH] at he; omega
  | c g => exact (h k hk).2 _ hℓ (by simp only [iH] at he; rw [<- he]; rfl)
  | m g => exact (h k hk).2 _ hℓ (by simp only [iH] at he; rw [<- he]; rfl)
def bR (X : Cx I) (w : World) (lc : List Loc) (h : ∀ k, X.fz k -> k < w.heap.size /\ ∀ ℓ ∈ lc, ℓ.blk ≠ some k) (hb : bx X w) (hm : ∀ ℓ ∈ lc, ∀ k, ℓ.blk = some k -> X.mine k) : Cx I :=
 ⟨w, lc.map JO, lc.map (iH w.heap.size), X.fz, X.ft, X.fw, Nm h, fun w2 hw2 => X.keep w2 fun k h1 h2 h3 => by
  refine (hw2 k (aka h1 hb.size) (fun v hv e => ?_) fun hg => ?_).trans (hb.block k ⟨h1, h2, h3⟩)
  ·obtain ⟨ℓ, hℓ, rfl⟩ := akq.1 hv
   cases ℓ with
   | r v => exact Cx.mine_old (hm _ hℓ k e) ⟨h1, h2, h3⟩
   | c g => cases e
   | m g => cases e
  ·obtain ⟨ℓ, hℓ, he⟩ := akq.1 hg
   cases ℓ with
   | r v => have := hb.size; simp only [iH] at he; omega
   | c g => exact Cx.mine_old (hm _ hℓ k (by simp only [iH] at he; rw [<- he]; rfl)) ⟨h1, h2, h3⟩
   | m g => exact Cx.mine_old (hm _ hℓ k (by simp only [iH] at he; rw [<- he]; rfl)) ⟨h1, h2, h3⟩⟩

theorem Nl {own : Bool} {X : Cx I} {w : World} {bs0 bs : List Blk} {lc : List Loc} (hW : aK X bs0 w lc) (hg : Jt own bs0 0 = some bs) (h) (hm) : aK (bR X w lc h hW.below hm) bs w lc := by
 obtain ⟨hlen, hgiv⟩ := qf _ _ _ hg
 have hcell : ∀ k, X.fz k -> (bR X w lc h hW.below hm).w0.heap[k]? = X.w0.heap[k]? := fun k hk => hW.below.block k (X.sub _ hk)
 have back : ∀ (i : Nat) b', bs[i]? = some b' -> ∃ b, bs0[i]? = some b /\ giv own i b = some b' := fun i b' hb' => by
  have hi : i < bs0.length := by rw [<- hlen]; exact (amH.1 hb').1
  obtain ⟨b2, h1, h2⟩ := hgiv i _ (amF hi)
  rw [hb'] at h1
  simp only [aj1] at h1
  subst h1
  exact ⟨_, amF hi, by simpa using h2⟩
 refine ⟨by rw [hW.len, hlen], fun i b' ℓ hb' hl => ?_, fun i j bi bj li lj g hij hi hj oni onj hli hlj hgi => ?_, ⟨rfl, rfl, rfl, aj8 _, fun _ _ => rfl⟩, hW.frz, fun i b' ℓ g hb' _ hl hg => by
  obtain ⟨b, hb, hgv⟩ := back i b' hb'
  exact hW.frn i b ℓ g hb (zj hgv).1 hl hg⟩
 ·obtain ⟨b, hb, hgv⟩ := back i b' hb'
  have hr := hW.blks i b ℓ hb hl
  have hgp : ∀ g, ℓ.blk = some g -> (∀ v, ℓ ≠ .r v) -> (bR X w lc h hW.below hm).gp[i]? = some g := fun g hg hv => by
   show (lc.map (iH w.heap.size))[i]? = some g
   rw [amI, hl]
   cases ℓ with
   | r v => exact absurd rfl (hv v)
   | c g' => simpa [Loc.blk, iH] using hg
   | m g' => simpa [Loc.blk, iH] using hg
  have hpin : ∀ v, ℓ = .r v -> (bR X w lc h hW.below hm).pins[i]? = some v := fun v hv => by
   show (lc.map JO)[i]? = some v
   rw [amI, hl, hv]; rfl
  cases own <;> cases b <;> simp only [giv, ajZ, ajY, aj1, reduceCtorEq] at hgv <;> subst hgv <;> cases ℓ <;> simp only [dh] at hr ⊢
  ·obtain ⟨_, cs, h1, h2⟩ := hr
   exact ⟨hgp _ rfl (fun v e => by cases e), cs, h1, jB (X := X) (X' := bR X w lc h hW.below hm) (fun k hk => hk) hcell rfl rfl h2⟩
  ·exact ⟨hpin _ rfl, hr.2⟩
  ·exact ⟨hpin _ rfl, hr.2⟩
  ·exact ⟨hgp _ rfl (fun v e => by cases e), hr.2⟩
  ·obtain ⟨_, cs, h1, h2⟩ := hr
   exact ⟨hgp _ rfl (fun v e => by cases e), cs, h1, jB (X := X) (X' := bR X w lc h hW.below hm) (fun k hk => hk) hcell rfl rfl h2⟩
  ·exact ⟨hgp _ rfl (fun v e => by cases e), hr.2⟩
  ·obtain ⟨_, cs, h1, h2⟩ := hr
   exact ⟨hgp _ rfl (fun v e => by cases e), cs, h1, jB (X := X) (X' := bR X w lc h hW.below hm) (fun k hk => hk) hcell rfl rfl h2⟩
  ·exact ⟨fun g hg => .inr (.inl ⟨_, amP (hpin _ rfl), hg⟩), hr.2⟩
  ·exact ⟨fun g hg => .inr (.inl ⟨_, amP (hpin _ rfl), hg⟩), hr.2⟩
  ·exact ⟨hgp _ rfl (fun v e => by cases e), hr.2⟩
  ·obtain ⟨_, cs, h1, h2⟩ := hr
   exact ⟨hgp _ rfl (fun v e => by cases e), cs, h1, jB (X := X) (X' := bR X w lc h hW.below hm) (fun k hk => hk) hcell rfl rfl h2⟩
  ·exact ⟨hgp _ rfl (fun v e => by cases e), hr.2⟩
 ·obtain ⟨b1, h1, h2⟩ := back i bi hi
  obtain ⟨b2, h3, h4⟩ := back j bj hj
  exact hW.apart i j b1 b2 li lj g hij h1 h3 (zj h2).1 (zj h4).1 hli hlj hgi

def bY : List Blk -> List Loc -> List Loc
 | b :: r, ℓ :: ls => match b.num with
  | some _ => bY r ls
  | none => ℓ :: bY r ls
 | _, _ => []

theorem jW {bl0 : List Blk} {js : List Nat} : ∀ (bl : List Blk) (lc : List Loc) (n : Nat) (f : List Nat), bl.length = lc.length -> nv bl0 js bl n = some f -> f.length = bl.length /\
  ∀ (i : Nat) b ℓ, bl[i]? = some b -> lc[i]? = some ℓ -> (∃ k j, b.num = some k /\ js[k]? = some j /\ f[i]? = some j /\ sK b (nth .dead bl0 j) = true) \/
   (b.num = none /\ ∃ m, f[i]? = some (n + m) /\ (bY bl lc)[m]? = some ℓ /\ ∀ F, (cO F bl)[m]? = some (atB F b))
 | [], lc, n, f, _, h => by simp only [nv, aj1] at h; subst h; exact ⟨rfl, fun i b ℓ hb => by simp at hb⟩
 | b :: bl, [], n, f, hl, h => by simp at hl
 | b :: bl, ℓ0 :: lc, n, f, hl, h => by
  simp only [nv] at h
  have hl' : bl.length = lc.length := by simpa using hl
  split at h
  ·rename_i k hk
   split at h
   ·rename_i j l hj hb
    obtain ⟨hag, h⟩ := aH h
    simp only [aj1] at h
    subst h
    obtain ⟨h1, h2⟩ := jW bl lc n l hl' hb
    refine ⟨by simp [h1], fun i b' ℓ hi hℓ => ?_⟩
    cases i with
    | zero => simp at hi; subst hi; exact .inl ⟨k, j, hk, hj, rfl, hag⟩
    | succ i =>
     rcases h2 i b' ℓ (by simpa using hi) (by simpa using hℓ) with ⟨k', j', h3, h4, h5, h7⟩ | ⟨h3, m, h4, h5, h6⟩
     ·exact .inl ⟨k', j', h3, h4, by simpa using h5, h7⟩
     ·exact .inr ⟨h3, m, by simpa using h4, by simpa [bY, hk] using h5, fun F => by simpa [cO, hk] using h6 F⟩
   ·cases h
  ·rename_i hk
   split at h
   ·rename_i l hb
    simp only [aj1] at h
    subst h
    obtain ⟨h1, h2⟩ := jW bl lc (n + 1) l hl' hb
    refine ⟨by simp [h1], fun i b' ℓ hi hℓ => ?_⟩
    cases i with
    | zero =>
     simp at hi hℓ
     subst hi; subst hℓ
     exact .inr ⟨hk, 0, by simp, by simp [bY, hk], fun F => by simp [cO, hk]⟩
    | succ i =>
     rcases h2 i b' ℓ (by simpa using hi) (by simpa using hℓ) with ⟨k', j', h3, h4, h5, h7⟩ | ⟨h3, m, h4, h5, h6⟩
     ·exact .inl ⟨k', j', h3, h4, by simpa using h5, h7⟩
     ·exact .inr ⟨h3, m + 1, by simp only [amD]; rw [h4]; congr 1; omega, by simpa [bY, hk] using h5, fun F => by simpa [cO, hk] using h6 F⟩
   ·cases h

theorem xv {F : List Nat} : ∀ (bl : List Blk) (lc : List Loc), bl.length = lc.length -> (bY bl lc).length = (cO F bl).length /\
  ∀ (m : Nat) b', (cO F bl)[m]? = some b' -> ∃ (i : Nat) (b : Blk) (ℓ : Loc), bl[i]? = some b /\ lc[i]? = some ℓ /\ b.num = none /\ b' = atB F b /\ (bY bl lc)[m]? = some ℓ /\ (bl.take i).countP (fun b => b.num.isNone) = m
 | [], [], _ => ⟨rfl, fun m b' h => by simp [cO] at h⟩
 | [], _ :: _, h => by simp at h
 | _ :: _, [], h => by simp at h
 | b :: bl, ℓ :: lc, hl => by
  obtain ⟨h1, h2⟩ := xv bl lc (F := F) (by simpa using hl)
  cases hk : b.num with
  | some k =>
   refine ⟨by simp [bY, cO, hk, h1], fun m b' h => ?_⟩
   simp only [cO, hk] at h
   obtain ⟨i, b2, ℓ2, e1, e2, e3, e4, e5, e6⟩ := h2 m b' h
   exact ⟨i + 1, b2, ℓ2, by simpa using e1, by simpa using e2, e3, e4, by simpa [bY, hk] using e5, by simpa [hk] using e6⟩
  | none =>
   refine ⟨by simp [bY, cO, hk, h1], fun m b' h => ?_⟩
   simp only [cO, hk] at h
   cases m with
   | zero => simp at h; exact ⟨0, b, ℓ, rfl, rfl, hk, h.symm, by simp [bY, hk], rfl⟩
   | succ m =>
    obtain ⟨i, b2, ℓ2, e1, e2, e3, e4, e5, e6⟩ := h2 m b' (by simpa using h)
    exact ⟨i + 1, b2, ℓ2, by simpa using e1, by simpa using e2, e3, e4, by simpa [bY, hk] using e5, by simp [hk, e6]⟩

theorem ji {k : Nat} : ∀ {bl : List Blk} {b : Blk}, o4 k bl = some b -> ∃ i : Nat, bl[i]? = some b /\ b.num = some k
 | [], b, h => by cases h
 | b0 :: bl, b, h => by
  simp only [o4] at h
  cases hk : b0.num with
  | none => rw [hk] at h; obtain ⟨i, h1, h2⟩ := ji h; exact ⟨i + 1, by simpa using h1, h2⟩
  | some i =>
   rw [hk] at h
   simp only at h
   cases hb : Nat.beq i k with
   | true =>
    rw [hb] at h
    simp only [ajZ, aj1] at h
    subst h
    exact ⟨0, rfl, by rw [hk, aj3 hb]⟩
   | false => rw [hb] at h; obtain ⟨i, h1, h2⟩ := ji (by simpa using h); exact ⟨i + 1, by simpa using h1, h2⟩

theorem t6 {bl bl' : List Blk} {f : List Nat} : ∀ (js : List Nat) (k : Nat) (al : List (Nat × Blk)), xA bl f bl' js k = some al -> al.map Prod.fst = js /\
  ∀ (n j : Nat) (b' : Blk), js[n]? = some j -> (j, b') ∈ al -> al[n]? = some (j, b') -> b' = .dead \/ ∃ (i : Nat) (b : Blk), bl'[i]? = some b /\ b.num = some (k + n) /\ GC f (nth .dead bl j) b = some b'
 | [], k, al, h => by simp only [xA, aj1] at h; subst h; exact ⟨rfl, fun n j b' hn => by simp at hn⟩
 | j :: js, k, al, h => by
  simp only [xA] at h
  split at h
  ·rename_i b1 l h1 h2
   simp only [aj1] at h
   subst h
   obtain ⟨h3, h4⟩ := t6 js (k + 1) l h2
   refine ⟨by simp [h3], fun n j' b' hn hm ha => ?_⟩
   cases n with
   | zero =>
    simp at hn ha
    obtain ⟨rfl, rfl⟩ := ha
    split at h1
    ·rename_i b hb
     obtain ⟨i, hi, hk⟩ := ji hb
     exact .inr ⟨i, b, hi, by simpa using hk, h1⟩
    ·simp only [aj1] at h1
     exact .inl h1.symm
   | succ n =>
    have ha' : l[n]? = some (j', b') := by simpa using ha
    rcases h4 n j' b' (by simpa using hn) (amP ha') ha' with h | ⟨i, b, h5, h6, h7⟩
    ·exact .inl h
    ·exact .inr ⟨i, b, h5, by rw [h6]; congr 1; omega, h7⟩
  ·cases h

theorem rj : ∀ (al : List (Nat × Blk)) (bl : List Blk), (al.map Prod.fst).Nodup -> (∀ p ∈ al, p.1 < bl.length) -> (fM bl al).length = bl.length /\
  (∀ j, j ∉ al.map Prod.fst -> (fM bl al)[j]? = bl[j]?) /\ ∀ p ∈ al, (fM bl al)[p.1]? = some p.2
 | [], bl, _, _ => ⟨rfl, fun _ _ => rfl, fun p hp => by simp at hp⟩
 | (j, b) :: al, bl, hn, hl => by
  simp only [akD, alN] at hn
  obtain ⟨h1, h2, h3⟩ := rj al bl hn.2 (fun p hp => hl p (by simp [hp]))
  have hj : j < bl.length := hl (j, b) (by simp)
  refine ⟨by simp [fM, bS, h1], fun i hi => ?_, fun p hp => ?_⟩
  ·simp only [akD, akf, not_or] at hi
   simp only [fM, bS]
   rw [amK (Ne.symm hi.1)]
   exact h2 i hi.2
  ·simp only [fM, bS]
   rcases akf.1 hp with rfl | hp
   ·rw [amL (by rw [h1]; exact hj)]
   ·have : j ≠ p.1 := fun e => hn.1 (by rw [e]; exact akq.2 ⟨p, hp, rfl⟩)
    rw [amK this]
    exact h3 p hp

theorem qZ {lc lc2 : List Loc} {f : List Nat} (hloc : ∀ (i j : Nat) g, lc[i]? = some (.c g) -> f[i]? = some j -> lc2[j]? = some (.c g)) : ∀ (caps l : List (Nat × Nat)) (vs : List Value), pk f caps = some l -> aB (dC lc) caps vs -> aB (dC lc2) l vs
 | [], l, vs, h, hv => by cases hv; simp only [pk, aj1] at h; subst h; exact .nil
 | (j, o) :: caps, l, vs, h, hv => by
  cases hv with
  | cons h1 h2 =>
  simp only [pk] at h
  split at h
  ·rename_i i l' hi hl
   simp only [aj1] at h
   subst h
   obtain ⟨g, hg, he⟩ := h1
   exact .cons ⟨g, hloc _ _ _ hg hi, he⟩ (qZ hloc caps l' _ hl h2)
  ·cases h

theorem GA {X : Cx I} {lc lc2 : List Loc} {f : List Nat} (hloc : ∀ (i j : Nat) ℓ, lc[i]? = some ℓ -> f[i]? = some j -> lc2[j]? = some ℓ) {s : SV} {v : Value} (h : aD X lc s v) : aD X lc2 (atS f s) v := by
 cases s <;> try exact h
 ·rename_i j o
  obtain ⟨g, hg, he⟩ := h
  simp only [atS]
  split
  ·rename_i i hi; exact ⟨g, hloc _ _ _ hg hi, he⟩
  ·trivial
 ·rename_i j
  obtain ⟨hg, he⟩ := h
  simp only [atS]
  split
  ·rename_i i hi; exact ⟨hloc _ _ _ hg hi, he⟩
  ·trivial
 ·rename_i j z i o
  obtain ⟨g, n, c, hg, he⟩ := h
  simp only [atS]
  split
  ·rename_i k hi; exact ⟨g, n, c, hloc _ _ _ hg hi, he⟩
  ·trivial
 ·rename_i g caps
  obtain ⟨vs, h1, h2⟩ := h
  simp only [atS]
  split
  ·rename_i c hc; exact ⟨vs, h1, qZ (fun i j g => hloc i j _) _ _ _ hc h2⟩
  ·trivial
 ·rename_i j
  obtain ⟨g, hg, he⟩ := h
  simp only [atS]
  split
  ·rename_i i hi; exact ⟨g, hloc _ _ _ hg hi, he⟩
  ·trivial
 ·rename_i j i
  obtain ⟨g, n, c, hg, he⟩ := h
  simp only [atS]
  split
  ·rename_i k hi; exact ⟨g, n, c, hloc _ _ _ hg hi, he⟩
  ·trivial

theorem yO {X : Cx I} {lc lc2 : List Loc} {f : List Nat} (hloc : ∀ (i j : Nat) ℓ, lc[i]? = some ℓ -> f[i]? = some j -> lc2[j]? = some ℓ) {l : List SV} {vs : List Value} (h : aB (aD X lc) l vs) : aB (aD X lc2) (l.map (atS f)) vs :=
 aB.map_left (h.mono fun _ _ h => GA hloc h)
theorem Gz {X : Cx I} {lc lc2 : List Loc} {f : List Nat} (hloc : ∀ (i j : Nat) ℓ, lc[i]? = some ℓ -> f[i]? = some j -> lc2[j]? = some ℓ) {x : AV} {v : Value} (h : a7 X lc x v) : a7 X lc2 (atA f x) v := by
 cases x with
 | one s => exact GA hloc h
 | agg l => obtain ⟨cs, h1, h2⟩ := h; exact ⟨cs, h1, yO hloc h2⟩
theorem RL {X : Cx I} {lc lc2 : List Loc} {f : List Nat} (hloc : ∀ (i j : Nat) ℓ, lc[i]? = some ℓ -> f[i]? = some j -> lc2[j]? = some ℓ) {x : TV} {v : Value} (h : aC X lc x v) : aC X lc2 (atT f x) v := by
 cases x with
 | v x => exact Gz hloc h
 | tup l => obtain ⟨cs, h1, h2⟩ := h; exact ⟨cs, h1, aB.map_left (h2.mono fun _ _ h => Gz hloc h)⟩

theorem IA {X X2 : Cx I} {blks bl' : List Blk} {w w' : World} {lc lc' : List Loc} {js f : List Nat} {al : List (Nat × Blk)} (hW : aK X blks w lc) (hn : js.Nodup) (hon : ∀ j ∈ js, (nth Blk.dead blks j).on = true) (h) (hm)
    (hle : (bR X w (ba lc js) h hW.below hm).Le X2) (hW' : aK X2 bl' w' lc') (hf : nv blks js bl' blks.length = some f) (hal : xA blks f bl' js 0 = some al) :
    ∃ more, X.Le (X.grow X2.ft X2.fw) /\ aK (X.grow X2.ft X2.fw) (fM blks al ++ cO f bl') w' (lc ++ more) /\ ∀ y v, aC X2 lc' y v -> aC (X.grow X2.ft X2.fw) (lc ++ more) (atT f y) v := by
  obtain ⟨ft, fw, a1, a2, a3⟩ := hle
  show ∃ more, X.Le (X.grow ft fw) /\ aK (X.grow ft fw) (fM blks al ++ cO f bl') w' (lc ++ more) /\ ∀ y v, aC _ lc' y v -> aC (X.grow ft fw) (lc ++ more) (atT f y) v
  have blk_ : ∀ j ∈ js, blks[j]? = some (nth .dead blks j) := fun j hj => cn rfl (fun e => by have := hon j hj; rw [e] at this; cases this)
  have lc_ : ∀ j ∈ js, ∃ ℓ, lc[j]? = some ℓ := fun j hj => by
    have : j < lc.length := by rw [hW.len]; exact (amH.1 (blk_ j hj)).1
    exact ⟨_, amF this⟩
  have sel_ : ∀ (k j : Nat) ℓ, js[k]? = some j -> lc[j]? = some ℓ -> (ba lc js)[k]? = some ℓ := fun k j ℓ hk hl => di hk hl
  obtain ⟨hfl, hfs⟩ := jW bl' lc' blks.length f hW'.len.symm hf
  -- what the call may have turned
  have mineOf : ∀ g, ((bR X w (ba lc js) h hW.below hm).grow ft fw).mine g -> w.heap.size <= g \/ ∃ j ∈ js, ∃ ℓ, lc[j]? = some ℓ /\ ℓ.blk = some g := by
    intro g hg
    rcases hg with hg | ⟨v, hv, hvg⟩ | hg
    · exact .inl hg
    · obtain ⟨ℓ1, hm1, rfl⟩ := akq.1 hv
      obtain ⟨j1, hj1, he⟩ := akq.1 hm1
      obtain ⟨ℓ2, hl2⟩ := lc_ j1 hj1
      rw [hl2] at he
      simp only [ak1] at he
      subst he
      cases ℓ2 with
      | r v => exact .inr ⟨j1, hj1, _, hl2, hvg⟩
      | c g => cases hvg
      | m g => cases hvg
    · obtain ⟨ℓ1, hm1, he1⟩ := akq.1 hg
      obtain ⟨j1, hj1, he⟩ := akq.1 hm1
      obtain ⟨ℓ2, hl2⟩ := lc_ j1 hj1
      rw [hl2] at he
      simp only [ak1] at he
      subst he
      cases ℓ2 with
      | r v => simp only [iH] at he1; exact .inl (by omega)
      | c g2 => exact .inr ⟨j1, hj1, _, hl2, by simp only [iH] at he1; rw [<- he1]; rfl⟩
      | m g2 => exact .inr ⟨j1, hj1, _, hl2, by simp only [iH] at he1; rw [<- he1]; rfl⟩
  have hbase : X.base <= w.heap.size := hW.below.size
  have mineX : ∀ g, ((bR X w (ba lc js) h hW.below hm).grow ft fw).mine g -> X.mine g := by
    intro g hg
    rcases mineOf g hg with hg | ⟨j1, hj1, ℓ2, hl2, hg⟩
    · exact .inl (akz hbase hg)
    · exact (Loc.lt (hW.blks j1 _ ℓ2 (blk_ j1 hj1) hl2) (hon j1 hj1) hg).1
  have hle : X.Le (X.grow ft fw) := .mk ft fw a1 a2 fun k hk => (a3 k hk).imp id fun hm => mineX k hm
  -- a block that came back lies where it lay
  have pinLoc : ∀ (i : Nat) b ℓ k j, bl'[i]? = some b -> lc'[i]? = some ℓ -> b.num = some k -> js[k]? = some j -> sK b (nth .dead blks j) = true -> lc[j]? = some ℓ := by
    intro i b ℓ k j hb hl hk hj hag
    have hjm : j ∈ js := amP hj
    obtain ⟨ℓ0, hl0⟩ := lc_ j hjm
    have hs := sel_ k j ℓ0 hj hl0
    have hr := hW'.blks i b ℓ hb hl
    have hr0 := hW.blks j _ ℓ0 (blk_ j hjm) hl0
    have hgp : ((bR X w (ba lc js) h hW.below hm).grow ft fw).gp[k]? = some (iH w.heap.size ℓ0) := by
      show ((ba lc js).map (iH w.heap.size))[k]? = _
      rw [amI, hs]; rfl
    have hpn : ((bR X w (ba lc js) h hW.below hm).grow ft fw).pins[k]? = some (JO ℓ0) := by
      show ((ba lc js).map JO)[k]? = _
      rw [amI, hs]; rfl
    rw [hl0]
    cases b <;> simp only [Blk.num, aj1, reduceCtorEq] at hk <;> subst hk <;> cases hbo : nth Blk.dead blks j <;> rw [hbo] at hag hr0 <;> simp only [sK, akN] at hag <;>
      cases ℓ <;> simp only [dh] at hr <;> cases ℓ0 <;> simp only [dh] at hr0
    all_goals first
      | (have e := hr.1
         rw [hgp] at e
         simp only [iH, aj1] at e
         rw [e])
      | (have e := hr.1
         rw [hpn] at e
         simp only [JO, aj1] at e
         rw [e])
  have hloc : ∀ (i j : Nat) ℓ, lc'[i]? = some ℓ -> f[i]? = some j -> (lc ++ bY bl' lc')[j]? = some ℓ := by
    intro i j ℓ hl hfi
    have hi : i < bl'.length := by rw [<- hW'.len]; exact (amH.1 hl).1
    rcases hfs i _ ℓ (amF hi) hl with ⟨k, j', h1, h2, h3, h4⟩ | ⟨h1, m, h2, h3, _⟩
    · rw [hfi] at h3
      simp only [aj1] at h3
      subst h3
      exact dA _ (pinLoc i _ ℓ k j (amF hi) hl h1 h2 h4)
    · rw [hfi] at h2
      simp only [aj1] at h2
      subst h2
      rw [<- hW.len, amC (by omega)]
      simpa using h3
  have hcell : ∀ k, ((bR X w (ba lc js) h hW.below hm).grow ft fw).fz k -> (X.grow ft fw).w0.heap[k]? = ((bR X w (ba lc js) h hW.below hm).grow ft fw).w0.heap[k]? := fun k hk => (hW.below.block k (X.sub _ hk)).symm
  have hfz : ∀ k, ((bR X w (ba lc js) h hW.below hm).grow ft fw).fz k -> (X.grow ft fw).fz k := fun k hk => hk
  obtain ⟨ha1, ha2⟩ := t6 js 0 al hal
  have hkeys : ∀ p ∈ al, p.1 < blks.length := fun p hp => by
    have : p.1 ∈ js := by rw [<- ha1]; exact akq.2 ⟨p, hp, rfl⟩
    exact (amH.1 (blk_ _ this)).1
  obtain ⟨hs1, hs2, hs3⟩ := rj al blks (by rw [ha1]; exact hn) hkeys
  obtain ⟨hm1, hm2⟩ := xv (F := f) bl' lc' hW'.len.symm
  -- what was not handed over is none of what the call may have turned
  have away : ∀ (j : Nat) b ℓ g, j ∉ js -> blks[j]? = some b -> b.on = true -> lc[j]? = some ℓ -> ℓ.blk = some g -> ¬ ((bR X w (ba lc js) h hW.below hm).grow ft fw).mine g := by
    intro j b ℓ g hj hb ho hl hg hmn
    rcases mineOf g hmn with h1 | ⟨j1, hj1, ℓ2, hl2, hg2⟩
    · have := (Loc.lt (hW.blks j b ℓ hb hl) ho hg).2
      omega
    · exact hW.apart j j1 b _ ℓ ℓ2 g (fun e => hj (e ▸ hj1)) hb (blk_ j1 hj1) ho (hon j1 hj1) hl hl2 hg hg2
  have untouched : ∀ (j : Nat) b ℓ g, j ∉ js -> blks[j]? = some b -> b.on = true -> lc[j]? = some ℓ -> ℓ.blk = some g -> w'.heap[g]? = w.heap[g]? := by
    intro j b ℓ g hj hb ho hl hg
    rcases Cx.old_or (X := (bR X w (ba lc js) h hW.below hm).grow ft fw) g with ho' | hm'
    · exact hW'.below.block g ho'
    · exact absurd hm' (away j b ℓ g hj hb ho hl hg)
  -- the blocks afterwards
  have back : ∀ (j : Nat) b ℓ, (fM blks al ++ cO f bl')[j]? = some b -> (lc ++ bY bl' lc')[j]? = some ℓ -> b.on = true ->
      (j ∉ js /\ blks[j]? = some b /\ lc[j]? = some ℓ) \/
      (∃ (i : Nat) (b0 : Blk), bl'[i]? = some b0 /\ lc'[i]? = some ℓ /\ b0.on = true /\ ((∃ k, b0.num = some k /\ js[k]? = some j) \/ (b0.num = none /\ blks.length <= j /\ (bl'.take i).countP (fun b => b.num.isNone) = j - blks.length)) /\ dh (X.grow ft fw) (lc ++ bY bl' lc') w' b ℓ) := by
    intro j b ℓ hb hl ho
    rcases akg j blks.length with hlt | hge
    · rw [amB (by rw [hs1]; exact hlt)] at hb
      rw [amB (by rw [hW.len]; exact hlt)] at hl
      by_cases hj : j ∈ js
      · right
        obtain ⟨n, hnj⟩ := amO.1 hj
        have : ∃ b', al[n]? = some (j, b') := by
          have e : (al.map Prod.fst)[n]? = some j := by rw [ha1]; exact hnj
          rw [amI] at e
          cases ha : al[n]? with
          | none => rw [ha] at e; cases e
          | some p =>
            rw [ha] at e
            simp only [akB, aj1] at e
            exact ⟨p.2, by rw [<- e]⟩
        obtain ⟨b', hb'⟩ := this
        have e := hs3 _ (amP hb')
        simp only at e
        rw [hb] at e
        simp only [aj1] at e
        subst e
        rcases ha2 n j b hnj (amP hb') hb' with hd | ⟨i, b0, h1, h2, h3⟩
        · rw [hd] at ho; cases ho
        · have hi : i < lc'.length := by rw [hW'.len]; exact (amH.1 h1).1
          have hli := amF hi
          have hr := hW'.blks i b0 _ h1 hli
          have hag : sK b0 (nth .dead blks j) = true := by
            cases b0 <;> simp only [GC, reduceCtorEq] at h3 <;> cases hbo : nth Blk.dead blks j <;> rw [hbo] at h3 <;> first | rfl | cases h3
          have hll := pinLoc i b0 _ _ j h1 hli (by rw [h2, akE]) hnj hag
          rw [hl] at hll
          simp only [aj1] at hll
          have hon0 : b0.on = true := by cases b0 <;> first | rfl | cases h2
          refine ⟨i, b0, h1, by rw [hll]; exact hli, hon0, .inl ⟨n, by rw [h2, akE], hnj⟩, ?_⟩
          rw [<- hll] at hr
          have hr0 := hW.blks j _ ℓ (blk_ j hj) hl
          have cellsBack : ∀ {l : List SV} {t : TypeId} {g : Nat}, (∃ cs, w'.heap[g]? = some (.cells cs t (0, 0)) /\ aB (aD ((bR X w (ba lc js) h hW.below hm).grow ft fw) lc') l cs.toList) ->
              ∃ cs, w'.heap[g]? = some (.cells cs t (0, 0)) /\ aB (aD (X.grow ft fw) (lc ++ bY bl' lc')) (l.map (atS f)) cs.toList := fun ⟨cs, e1, e2⟩ => ⟨cs, e1, yO hloc (jB hfz hcell rfl rfl e2)⟩
          cases b0 <;> simp only [GC, reduceCtorEq] at h3 <;> cases hbo : nth Blk.dead blks j <;> rw [hbo] at h3 hr0 <;> simp only [aj1, reduceCtorEq] at h3 <;> subst h3 <;>
            cases ℓ <;> simp only [dh] at hr hr0 ⊢
          all_goals first
            | exact ⟨hr0.1, cellsBack hr.2⟩
            | exact ⟨hr0.1, hr.2⟩
      · refine .inl ⟨hj, ?_, hl⟩
        rw [hs2 j (by rw [ha1]; exact hj)] at hb
        exact hb
    · right
      rw [amC (by rw [hs1]; exact hge), hs1] at hb
      rw [amC (by rw [hW.len]; exact hge), hW.len] at hl
      obtain ⟨i, b0, ℓ0, h1, h2, h3, h4, h5, h6⟩ := hm2 _ b hb
      rw [hl] at h5
      simp only [aj1] at h5
      subst h5
      have hr := hW'.blks i b0 ℓ h1 h2
      have ho0 : b0.on = true := by subst h4; cases b0 <;> first | rfl | exact ho
      refine ⟨i, b0, h1, h2, ho0, .inr ⟨h3, hge, h6⟩, ?_⟩
      subst h4
      cases b0 <;> simp only [Blk.num, reduceCtorEq] at h3 <;> cases ℓ <;> simp only [dh] at hr <;> simp only [atB, dh]
      · obtain ⟨e1, cs, e2, e3⟩ := hr
        exact ⟨akz hbase e1, cs, e2, yO hloc (jB hfz hcell rfl rfl e3)⟩
      · exact ⟨fun g hg => mineX g (hr.1 g hg), hr.2⟩
      · exact ⟨akz hbase hr.1, hr.2⟩
      · exact ⟨fun g hg => mineX g (hr.1 g hg), hr.2⟩
  refine ⟨bY bl' lc', hle, ⟨by simp [hs1, hW.len, hm1], fun j b ℓ hb hl => ?_, fun j1 j2 b1 b2 l1 l2 g hj hb1 hb2 on1 on2 hl1 hl2 hg1 hg2 => ?_, ?_, hW'.frz, fun j b ℓ g hb ho hl hg => ?_⟩, fun y v hy => RL hloc (Hk (X' := X.grow ft fw) hfz hcell rfl rfl hy)⟩
  · cases ho : b.on with
    | false => cases b <;> first | (cases ho; done) | (cases ℓ <;> trivial)
    | true =>
      rcases back j b ℓ hb hl ho with ⟨h1, h2, h3⟩ | ⟨_, _, _, _, _, _, h3⟩
      · exact (((hW.blks j b ℓ h2 h3).kept fun g hon' hg => untouched j b ℓ g h1 h2 hon' h3 hg).grow hle).more _
      · exact h3
  · rcases back j1 b1 l1 hb1 hl1 on1 with ⟨n1, h2, h3⟩ | ⟨i1, c1, h1, h2, h3, h4, _⟩ <;> rcases back j2 b2 l2 hb2 hl2 on2 with ⟨n2, k2, k3⟩ | ⟨i2, c2, k1, k2, k3, k4, _⟩
    · exact hW.apart j1 j2 b1 b2 l1 l2 g hj h2 k2 on1 on2 h3 k3 hg1 hg2
    · exact away j1 b1 l1 g n1 h2 on1 h3 hg1 (Loc.lt (hW'.blks i2 c2 l2 k1 k2) k3 hg2).1
    · exact away j2 b2 l2 g n2 k2 on2 k3 hg2 (Loc.lt (hW'.blks i1 c1 l1 h1 h2) h3 hg1).1
    · have hne : i1 ≠ i2 := fun e => by
        subst e
        rw [h1] at k1
        cases k1
        rcases h4 with ⟨k, e1, e2⟩ | ⟨e1, e2, e3⟩ <;> rcases k4 with ⟨k', e1', e2'⟩ | ⟨e1', e2', e3'⟩
        · rw [e1] at e1'
          cases e1'
          rw [e2] at e2'
          cases e2'
          exact hj rfl
        · rw [e1] at e1'; cases e1'
        · rw [e1] at e1'; cases e1'
        · omega
      exact hW'.apart i1 i2 c1 c2 l1 l2 g hne h1 k1 h3 k3 h2 k2 hg1 hg2
  · have hb := hW'.below
    refine ⟨hb.os.trans hW.below.os, hb.tape.trans hW.below.tape, hb.output.trans hW.below.output, akz hW.below.size hb.size, fun k hk => ?_⟩
    rcases Cx.old_or (X := (bR X w (ba lc js) h hW.below hm).grow ft fw) k with ho' | hm'
    · exact (hb.block k ho').trans (hW.below.block k hk)
    · exact absurd hk fun hk => Cx.mine_old (mineX k hm') hk
  · rcases back j b ℓ hb hl ho with ⟨n1, h2, h3⟩ | ⟨i, c, h1, h2, h3, _, _⟩
    · intro hf'
      rcases a3 g hf' with h4 | h4
      · exact hW.frn j b ℓ g h2 ho h3 hg h4
      · exact away j b ℓ g n1 h2 ho h3 hg h4
    · exact hW'.frn i c ℓ g h1 h3 h2 hg

def aep (V : List Nat) (lc : List Loc) : Nat -> Prop := fun k => ∃ j ℓ, jT j V = true /\ lc[j]? = some ℓ /\ ℓ.blk = some k
def SG (I : World -> Prop) (P : Program) (o : Oper) (s : St) (x : TV) (bl : List Blk) : Prop := ∀ (X : Cx I) a w lc, Rel X s a w lc ->
 ∃ g vs, (execOp a.eval o).run P w = .ok (.enter g vs) w /\ Calls P g vs w (fun e w' => ∃ v more X', e = .returned v /\ X.Le X' /\ aC X' (lc ++ more) x v /\ aK X' bl w' (lc ++ more) /\
  ∀ V, vg V (t7 s o) = true -> Lat (aep V lc) w w')

theorem Ms {acc : List Nat} {n m : Nat} (h : m ∈ DQ acc n) : m ∈ acc \/ m = n := by
 unfold DQ at h
 cases hb : jT n acc with
 | true => rw [hb] at h; exact .inl h
 | false =>
  rw [hb] at h
  rcases akC.1 (by simpa using h : m ∈ acc ++ [n]) with h | h
  ·exact .inl h
  ·exact .inr (by simpa using h)
theorem jb : ∀ {l acc : List Nat} {m : Nat}, m ∈ eJ acc l -> m ∈ acc \/ m ∈ l
 | [], _, _, h => .inl h
 | n :: l, acc, m, h => by
  rcases jb (l := l) h with h | h
  ·rcases Ms h with h | h
   ·exact .inl h
   ·exact .inr (by simp [h])
  ·exact .inr (by simp [h])
theorem re : ∀ {xs : List TV} {acc : List Nat} {m : Nat}, m ∈ jA acc xs -> m ∈ acc \/ ∃ x ∈ xs, m ∈ dE x
 | [], _, _, h => .inl h
 | x :: xs, acc, m, h => by
  rcases re (xs := xs) h with h | ⟨y, hy, hm⟩
  ·rcases jb h with h | h
   ·exact .inl h
   ·exact .inr ⟨x, by simp, h⟩
  ·exact .inr ⟨y, by simp [hy], hm⟩
theorem o5 (bl : List Blk) : ∀ (l a : List Nat) (m : Nat), m ∈ l.foldl (fun a j => eJ a (uT (nth .dead bl j))) a ↔ m ∈ a \/ ∃ j ∈ l, m ∈ uT (nth .dead bl j)
 | [], a, m => by simp
 | j :: l, a, m => by
  simp only [amo]
  rw [o5 bl l]
  constructor
  ·rintro (h | ⟨i, hi, hm⟩)
   ·rcases jb h with h | h
    ·exact .inl h
    ·exact .inr ⟨j, by simp, h⟩
   ·exact .inr ⟨i, by simp [hi], hm⟩
  ·rintro (h | ⟨i, hi, hm⟩)
   ·exact .inl (dR (.inl h))
   ·rcases akf.1 hi with rfl | hi
    ·exact .inl (dR (.inr hm))
    ·exact .inr ⟨i, hi, hm⟩
theorem MB {X : Cx I} {lc : List Loc} {caps : List (Nat × Nat)} {vs : List Value} (h : aB (dC lc) caps vs) : aB (aC X lc) (caps.map D0) vs := by
 induction h with
 | nil => exact .nil
 | cons h1 _ ih => exact .cons h1 ih

theorem vh {V : List Nat} : ∀ {l : List Nat}, vg V l = true -> ∀ j ∈ l, jT j V = true
 | x :: l, h, j, hj => by
  simp only [vg, aj0] at h
  rcases akf.1 hj with rfl | hj
  ·exact h.1
  ·exact vh h.2 j hj

theorem KH : ∀ (l : List Nat), vg l l = true := by
 have key : ∀ (l V : List Nat), (∀ j ∈ l, j ∈ V) -> vg V l = true := by
  intro l
  induction l with
  | nil => intro V _; rfl
  | cons x l ih =>
   intro V h
   simp only [vg, aj0]
   exact ⟨rQ (h x (by simp)), ih V fun j hj => h j (by simp [hj])⟩
 exact fun l => key l l fun _ h => h
theorem Zw {b : Blk} : onB b = b.on := by cases b <;> rfl
theorem rT {bl : List Blk} : ∀ {V : List Nat}, onN bl V = true -> ∀ j ∈ V, ∃ b, bl[j]? = some b /\ b.on = true
 | x :: V, h, j, hj => by
  simp only [onN, aj0, Zw] at h
  rcases akf.1 hj with rfl | hj
  ·exact ⟨_, cn rfl (fun e => by have := h.1; rw [e] at this; cases this), h.1⟩
  ·exact rT h.2 j hj
def Ny (X : Cx I) (N : List Nat) (lc : List Loc) : Nat -> Prop := fun k => ¬ X.old k /\ ¬ X.ft k /\ ∀ j ∈ N, ∀ ℓ, lc[j]? = some ℓ -> ℓ.blk ≠ some k
def dB (X : Cx I) (lc : List Loc) : Option (List Nat) -> Nat -> Prop
 | none => fun _ => False
 | some N => Ny X N lc
def fH : Option (List Nat) -> Op -> Bool
 | none => ze true
 | some _ => ze false
def jx (lc : List Loc) : Option (List Nat) -> Prop
 | none => True
 | some N => ∀ j ∈ N, j < lc.length
theorem nH {X : Cx I} {V : Option (List Nat)} {lc : List Loc} (h : jx lc V) (more : List Loc) : dB X (lc ++ more) V = dB X lc V := by
 cases V with
 | none => rfl
 | some N =>
  funext k
  apply propext
  constructor
  ·exact fun ⟨h1, h3, h2⟩ => ⟨h1, h3, fun j hj ℓ hl => h2 j hj ℓ (by rw [amB (h j hj)]; exact hl)⟩
  ·exact fun ⟨h1, h3, h2⟩ => ⟨h1, h3, fun j hj ℓ hl => h2 j hj ℓ (by rw [amB (h j hj)] at hl; exact hl)⟩
theorem tV {X Y : Cx I} (h : X.Le Y) {lc : List Loc} {V : Option (List Nat)} : ∀ k, dB Y lc V k -> dB X lc V k := by
 have hft := h.ft
 obtain ⟨ft, fw, a1, a2, a3⟩ := h
 cases V with
 | none => exact fun _ h => h
 | some N => exact fun k ⟨h1, h2, h3⟩ => ⟨h1, fun hf => h2 (hft k hf), h3⟩
theorem kf {V : Option (List Nat)} {lc : List Loc} (h : jx lc V) (more : List Loc) : jx (lc ++ more) V := by
 cases V with
 | none => trivial
 | some N => exact fun j hj => by rw [aj6]; exact aka (h j hj) (Nat.le_add_right _ _)
theorem JC {X : Cx I} {bl : List Blk} {lc : List Loc} {N R : List Nat} (h : vg N R = true) : vZ X bl lc R (Ny X N lc) :=
 ⟨fun hj _ _ hl hg hG => hG.2.2 _ (pn (vh h _ hj)) _ hl hg, fun ho hG => hG.1 ho, fun hf hG => hG.2.1 hf⟩
theorem xo {X : Cx I} {bl : List Blk} {w : World} {lc : List Loc} (hW : aK X bl w lc) {N R : List Nat} (hd : oW N R = true) (hN : onN bl N = true) (hR : onN bl R = true) : ∀ k, aep R lc k -> Ny X N lc k := by
 intro k ⟨j, ℓ, h1, h2, h3⟩
 obtain ⟨b, hb, hon⟩ := rT hR j (pn h1)
 refine ⟨fun ho => Cx.mine_old (Loc.lt (hW.blks j b ℓ hb h2) hon h3).1 ho, hW.frn j b ℓ k hb hon h2 h3, fun i hi ℓ' hl' => ?_⟩
 obtain ⟨b', hb', hon'⟩ := rT hN i hi
 have hne : j ≠ i := fun e => by
  subst e
  have := wW hd j (pn h1)
  rw [rQ hi] at this
  cases this
 exact hW.apart j i b b' ℓ ℓ' k hne hb hb' hon hon' h2 hl' h3
structure Xk (s : St) (c : Call) (xs : List TV) (b : List Blk) : Prop where
 ext : ∃ ex, b = s.blks ++ ex /\ ∀ e ∈ ex, uT e = []
 refs : ∀ j, j < s.blks.length -> (∃ x ∈ xs, j ∈ dE x) -> ∃ z ∈ c.args.toList, j ∈ dE (aF s z)
 rel : ∀ (X : Cx I) (a : Act) w lc, Rel X s a w lc -> ∃ more, (∀ ℓ ∈ more, ℓ.blk = none) /\ aK X b w (lc ++ more) /\ aB (aC X (lc ++ more)) xs (c.args.toList.map a.eval)
theorem BU {s : St} : ∀ {ts : List TypeId} {os : List Operand} {bl : List Blk} {xs : List TV} {b : List Blk}, GR L s bl ts os = some (xs, b) ->
  (∃ ex, b = bl ++ ex /\ ∀ e ∈ ex, uT e = []) /\ (∀ j, j < bl.length -> (∃ x ∈ xs, j ∈ dE x) -> ∃ z ∈ os, j ∈ dE (aF s z)) /\
  ∀ (X : Cx I) (a : Act) w lc, aB (aC X lc) s.tmps a.tmps.toList -> aK X bl w lc -> ∃ more, (∀ ℓ ∈ more, ℓ.blk = none) /\ aK X b w (lc ++ more) /\ aB (aC X (lc ++ more)) xs (os.map a.eval)
 | [], [], bl, xs, b, h => by
  cases h
  exact ⟨⟨[], by simp, fun e he => by cases he⟩, (fun j _ ⟨x, hx, _⟩ => by cases hx), fun X a w lc _ hW => ⟨[], (fun ℓ h => by cases h), by simpa using hW, .nil⟩⟩
 | [], _ :: _, _, _, _, h => by cases h
 | _ :: _, [], _, _, _, h => by cases h
 | t :: ts, o :: os, bl, xs, b, h => by
  simp only [GR] at h
  split at h
  ·rename_i y b1 hy
   split at h
   ·rename_i ys b2 hys
    cases h
    obtain ⟨⟨ex, he1, he2⟩, hr, hrel⟩ := BU hys
    unfold ado at hy
    split at hy
    ·split at hy
     ·rename_i e hte
      split at hy
      ·rename_i q hq
       cases hy
       refine ⟨⟨.row e q :: ex, by rw [he1]; simp, fun e' he' => ?_⟩, fun j hj ⟨x, hx, hm⟩ => ?_, fun X a w lc ht hW => ?_⟩
       ·rcases akf.1 he' with rfl | he'
        ·rfl
        ·exact he2 _ he'
       ·rcases akf.1 hx with rfl | hx
        ·simp only [one, dE, Hf, iI, akJ] at hm
         omega
        ·obtain ⟨z, hz, hm⟩ := hr j (by simp; omega) ⟨x, hx, hm⟩
         exact ⟨z, ake _ hz, hm⟩
       ·have hW1 : aK X (bl ++ [.row e q]) w (lc ++ [.r (.slice none 0 0)]) := by
         refine hW.add ?_ (fun g hg => by cases hg) (fun g _ hg => by cases hg)
         refine ⟨(fun g hg => by cases hg), [], rM (bb hq), ?_⟩
         rw [bb hq]
         exact ⟨by simp, .inl ⟨rfl, rfl⟩⟩
        obtain ⟨more, h1, h2, h3⟩ := hrel X a w _ (ht.mono fun _ _ h => aC.more _ h) hW1
        refine ⟨[.r (.slice none 0 0)] ++ more, fun ℓ hl => ?_, by rw [<- akt]; exact h2, ?_⟩
        ·rcases akC.1 hl with hl | hl
         ·simp only [akJ] at hl
          subst hl; rfl
         ·exact h1 _ hl
        ·rw [<- akt]
         refine .cons ?_ h3
         refine ⟨?_, none, 0, 0, rfl⟩
         rw [akt, amC (by rw [hW.len]; exact aj8 _), hW.len, ale]
         rfl
      ·cases hy
     ·cases hy
    ·cases hy
     refine ⟨⟨ex, he1, he2⟩, fun j hj ⟨x, hx, hm⟩ => ?_, fun X a w lc ht hW => ?_⟩
     ·rcases akf.1 hx with rfl | hx
      ·exact ⟨o, ako, hm⟩
      ·obtain ⟨z, hz, hm⟩ := hr j hj ⟨x, hx, hm⟩
       exact ⟨z, ake _ hz, hm⟩
     ·obtain ⟨more, h1, h2, h3⟩ := hrel X a w lc ht hW
      exact ⟨more, h1, h2, .cons ((az ht o).more more) h3⟩
   ·cases h
  ·cases h
theorem wT {bl ex : List Blk} (he : ∀ e ∈ ex, uT e = []) : ∀ (n : Nat) {acc acc' : List Nat}, (∀ j ∈ acc, j < bl.length -> j ∈ acc') -> ∀ j ∈ close (bl ++ ex) n acc, j < bl.length -> j ∈ close bl n acc'
 | 0, _, _, h, j, hj, hlt => h j hj hlt
 | n + 1, acc, acc', h, j, hj, hlt => wT he n (fun i hi hil => by
   rcases (o5 (bl ++ ex) acc acc i).1 hi with hi | ⟨k, hk, hm⟩
   ·exact (o5 bl acc' acc' i).2 (.inl (h i hi hil))
   ·rcases akg k bl.length with hkl | hkl
    ·have e : nth Blk.dead (bl ++ ex) k = nth Blk.dead bl k := Ep (by rw [amB hkl]; exact jy hkl)
     rw [e] at hm
     exact (o5 bl acc' acc' i).2 (.inr ⟨k, h k hk hkl, hm⟩)
    ·rcases akg k (bl ++ ex).length with hk2 | hk2
     ·have h2 := jy (d := Blk.dead) hk2
      rw [amC hkl] at h2
      rw [he _ (amP h2)] at hm
      cases hm
     ·have : nth Blk.dead (bl ++ ex) k = .dead := by
       cases hb : nth Blk.dead (bl ++ ex) k with
       | dead => rfl
       | _ =>
        have := cn hb (by simp)
        rw [amG hk2] at this
        cases this
      rw [this] at hm
      cases hm) j hj hlt
theorem YC {own : Bool} {o : Oper} {c : Call} {f : Operand} {s : St} {g : FuncId} {caps : List (Nat × Nat)} {GS : ce β} (hG : GOK I P g GS) {K : TV -> St -> Option β} {r : β} (ho : o.op = .call c) (hc : c.callee = .value f) (hv : (aF s f).sv = .fn g caps)
  {xs : List TV} {b : List Blk} (hh : Xk (I := I) s c xs b) (h : evG own GS (xs ++ caps.map D0) ⟨s.tmps, b⟩ K = some r) : ∃ x bl, K x ⟨s.tmps, bl⟩ = some r /\ SG I P o s x bl := by
 unfold evG at h
 simp only [qu] at h
 generalize hjs : cY b (xs ++ caps.map D0) = js at h
 have hn : js.Nodup := by rw [<- hjs]; exact j0 _ _ (gI _ .nil)
 split at h
 ·rename_i bs hbs
  obtain ⟨y, bl', hK, hcall⟩ := hG.2 _ _ _ _ h
  split at hK
  ·rename_i ff hff
   split at hK
   ·rename_i al hal
    refine ⟨_, _, hK, fun X a w lc0 hR => ?_⟩
    obtain ⟨more0, hno, hW, hxs⟩ := hh.rel X a w lc0 hR
    have hlc0 : lc0.length = s.blks.length := hR.world.len
    have hin0 : ∀ (j : Nat) ℓ k, (lc0 ++ more0)[j]? = some ℓ -> ℓ.blk = some k -> j < s.blks.length /\ lc0[j]? = some ℓ := fun j ℓ k hj hk => by
     rcases akg j lc0.length with hl | hl
     ·exact ⟨by omega, by rw [amB hl] at hj; exact hj⟩
     ·rw [amC hl] at hj
      rw [hno _ (amP hj)] at hk
      cases hk
    have hcv := az (X := X) hR.tmps f
    generalize hlc : lc0 ++ more0 = lc at hW hxs hin0
    obtain ⟨glen, ggiv⟩ := qf _ _ _ hbs
    have hon : ∀ j ∈ js, (nth Blk.dead b j).on = true := fun j hj => by
     obtain ⟨i, hi⟩ := amO.1 hj
     obtain ⟨b', _, h2⟩ := ggiv i (Ac js (nth .dead b j)) (by simp [hi])
     have := (zj h2).1
     rwa [Ad] at this
    have blk_ : ∀ j ∈ js, b[j]? = some (nth .dead b j) := fun j hj => cn rfl (fun e => by have := hon j hj; rw [e] at this; cases this)
    have hfz : ∀ k, X.fz k -> k < w.heap.size /\ ∀ ℓ ∈ ba lc js, ℓ.blk ≠ some k := fun k hk => by
     refine ⟨aka (X.sub k hk).1 hW.below.size, fun ℓ hℓ hb => ?_⟩
     obtain ⟨j, hj, he⟩ := akq.1 hℓ
     have hjl : j < lc.length := by rw [hW.len]; exact (amH.1 (blk_ j hj)).1
     rw [amF hjl, ak1] at he
     exact Cx.mine_old (Loc.lt (hW.blks j _ ℓ (blk_ j hj) (by rw [amF hjl, he])) (hon j hj) hb).1 (X.sub k hk)
    have hmn : ∀ ℓ ∈ ba lc js, ∀ k, ℓ.blk = some k -> X.mine k := fun ℓ hℓ k hb => by
     obtain ⟨j, hj, he⟩ := akq.1 hℓ
     have hjl : j < lc.length := by rw [hW.len]; exact (amH.1 (blk_ j hj)).1
     rw [amF hjl, ak1] at he
     exact (Loc.lt (hW.blks j _ ℓ (blk_ j hj) (by rw [amF hjl, he])) (hon j hj) hb).1
    have hW0 := hW.sel hn
    have hW1 := Nl hW0 hbs hfz hmn
    have hcellF : ∀ k, X.fz k -> (bR X w (ba lc js) hfz hW.below hmn).w0.heap[k]? = X.w0.heap[k]? := fun k hk => hW.below.block k (X.sub _ hk)
    obtain ⟨cv, hf1, hf2⟩ := aN hcv hv
    have hf2 : aB (dC lc) caps cv.toList := hf2.mono fun _ _ ⟨g, h1, h2⟩ => ⟨g, by rw [<- hlc]; exact dA _ h1, h2⟩
    have hargs : aB (aC (bR X w (ba lc js) hfz hW.below hmn) (ba lc js)) ((xs ++ caps.map D0).map (nL js)) ((c.args.map a.eval ++ cv).toList) := by
     rw [al2, akY]
     have h0 : aB (aC X lc) (xs ++ caps.map D0) (c.args.toList.map a.eval ++ cv.toList) := by
      exact aB.append hxs (MB hf2)
     exact aB.map_left (h0.mono fun _ _ h => Hk (X := X) (X' := bR X w (ba lc js) hfz hW.below hmn) (fun k hk => hk) hcellF rfl rfl (py h))
    refine ⟨g, _, xM ho hc hf1 hG.1 w, ?_⟩
    have := hcall (bR X w (ba lc js) hfz hW.below hmn) _ _ hW1 hargs
    refine this.mono fun e w' ⟨v, X2, lc', he, hle, hWb, hy⟩ => ?_
    obtain ⟨more, hj0, hj1, hj2⟩ := IA hW hn hon hfz hmn hle hWb hff hal
    refine ⟨v, more0 ++ more, _, he, hj0, by rw [<- akt, hlc]; exact hj2 y v hy, by rw [<- akt, hlc]; exact hj1, fun V hV => ?_⟩
    ·obtain ⟨ft, fw, _, _, _⟩ := hle
     have hb := hWb.below
     have inV : ∀ j ∈ js, j < s.blks.length -> jT j V = true := fun j hj hlt => by
      refine vh hV j ?_
      obtain ⟨⟨ex, he1, he2⟩, hrefs, _⟩ := hh
      subst he1
      rw [<- hjs] at hj
      refine wT he2 4 (fun i hi hil => ?_) j hj hlt
      rcases re hi with hi | ⟨x, hx, hm⟩
      ·cases hi
      refine ke (.inr ?_)
      rcases akC.1 hx with hx | hx
      ·obtain ⟨z, hz, hm⟩ := hrefs i hil ⟨x, hx, hm⟩
       exact ⟨_, akq.2 ⟨z, by simp only [ho, Op.operands, Call.operands, hc]; simp; exact .inr (by simpa using hz), rfl⟩, hm⟩
      ·obtain ⟨z, hz, rfl⟩ := akq.1 hx
       refine ⟨aF s f, akq.2 ⟨f, by simp [ho, Op.operands, Call.operands, hc], rfl⟩, ?_⟩
       rw [jG hv (by simp)]
       simp only [D0, one, dE, Hf, iI, akJ] at hm
       subst hm
       exact akq.2 ⟨z, hz, rfl⟩
     refine ⟨hb.os, hb.tape, hb.output, hb.size, fun k hk hg => hb.block k ⟨hk, fun v hv hvg => ?_, fun hgg => ?_⟩⟩
     ·obtain ⟨ℓ1, hm, rfl⟩ := akq.1 hv
      obtain ⟨j1, hj1, he⟩ := akq.1 hm
      have hjl : j1 < lc.length := by rw [hW.len]; exact (amH.1 (blk_ j1 hj1)).1
      rw [amF hjl, ak1] at he
      have hb1 : ℓ1.blk = some k := by
       cases ℓ1 with
       | r v => exact hvg
       | c g => cases hvg
       | m g => cases hvg
      obtain ⟨hlt, h0⟩ := hin0 j1 ℓ1 k (by rw [amF hjl, he]) hb1
      exact hg ⟨j1, ℓ1, inV j1 hj1 hlt, h0, hb1⟩
     ·obtain ⟨ℓ1, hm, he1⟩ := akq.1 hgg
      obtain ⟨j1, hj1, he⟩ := akq.1 hm
      have hjl : j1 < lc.length := by rw [hW.len]; exact (amH.1 (blk_ j1 hj1)).1
      rw [amF hjl, ak1] at he
      cases ℓ1 with
      | r v => simp only [iH] at he1; omega
      | c g2 =>
       have hb1 : (Loc.c g2).blk = some k := by simp only [iH] at he1; rw [<- he1]; rfl
       obtain ⟨hlt, h0⟩ := hin0 j1 _ k (by rw [amF hjl, he]) hb1
       exact hg ⟨j1, .c g2, inV j1 hj1 hlt, h0, hb1⟩
      | m g2 =>
       have hb1 : (Loc.m g2).blk = some k := by simp only [iH] at he1; rw [<- he1]; rfl
       obtain ⟨hlt, h0⟩ := hin0 j1 _ k (by rw [amF hjl, he]) hb1
       exact hg ⟨j1, .m g2, inV j1 hj1 hlt, h0, hb1⟩
   ·cases hK
  ·cases hK
 ·cases h

theorem rU {E : Env β} (hE : bo I P E) (hM : cl I P E) (hG : gy I P E) {o : Oper} {s : St} {K : TV -> St -> Option β} {r : β} (hc : cg o.op = true) (h : dM L E o s K = some r) :
  (∃ x bl, K x ⟨s.tmps, bl⟩ = some r /\ SC I P o s x bl /\ (tH E s o = false -> dg x = true -> bl = s.blks /\ SCQ I P o s x)) \/ (E.muts ≠ [] /\ ∃ x bl, K x ⟨s.tmps, bl⟩ = some r /\ SM I P o s x bl) \/ (ju E s o = true /\ ∃ x bl, K x ⟨s.tmps, bl⟩ = some r /\ SG I P o s x bl) := by
 have ⟨c, f, ho, hf⟩ : ∃ c f, o.op = .call c /\ c.callee = .value f := by
  unfold cg at hc
  split at hc
  ·rename_i f args ts ho
   exact ⟨_, f, ho, rfl⟩
  ·cases hc
 unfold dM at h
 simp only [ho] at h
 unfold nz at h
 simp only [hf] at h
 split at h
 ·rename_i g caps hv
  split at h
  ·rename_i GS hGS
   split at h
   ·rename_i xs b hxs
    obtain ⟨h1, h2, h3⟩ := BU (I := I) hxs
    exact .inr (.inr ⟨by simp [ju, ho, hf, hv, hGS], YC (hG g GS hGS) ho hf hv ⟨h1, h2, fun X a w lc hR => h3 X a w lc hR.tmps hR.world⟩ h⟩)
   ·cases h
  split at h
  ·rename_i MS hMS
   obtain ⟨hb, h⟩ := aH h
   have hcaps : caps = [] := akw (aj3 hb)
   subst hcaps
   exact .inr (.inl ⟨fun e => (by rw [e] at hMS; cases hMS), NL (hM g MS hMS) ho hf hv h⟩)
  ·left
   cases hkp : qq g E.hints.args with
   | true =>
    have hkeep : tH E s o = true := by simp [tH, ho, hf, hv, hkp]
    rw [hkp] at h
    simp only [ajZ] at h
    obtain ⟨hcaps, h4⟩ := aH h
    clear h
    simp only [aj0] at hcaps
    obtain ⟨hcaps, hl⟩ := hcaps
    have hl := aj3 hl
    obtain ⟨hall, h5⟩ := aH h4
    clear h4
    have hcaps : caps = [] := akw (aj3 hcaps)
    subst hcaps
    obtain ⟨x, bl, h1, h2, _⟩ := l9 hE ho hf (fun X a w lc hR => by
     obtain ⟨vs, h1, h2⟩ := aN (az (X := X) hR.tmps f) hv
     have hvs : vs = #[] := by cases vs; cases h2; rfl
     subst hvs
     obtain ⟨X0, k1, k2, k3⟩ := qe hR.world (tY (L := L) hR c.argTypes.toList c.args.toList hl)
     refine ⟨X0, #[], #[], k1, h1, k2, ?_⟩
     rw [akY, akh]
     exact tN k2 hall k3) h5
    exact ⟨x, bl, h1, h2, fun hk => by rw [hkeep] at hk; cases hk⟩
   | false =>
    rw [hkp] at h
    simp only [ajY] at h
    split at h
    ·rename_i cs xs hcs hxs
     obtain ⟨x, bl, h1, h2, h3⟩ := l9 hE ho hf (fun X a w lc hR => by
      obtain ⟨vs, h1, h2⟩ := aN (az (X := X) hR.tmps f) hv
      refine ⟨X, #[], vs, .refl X, h1, hR.world, ?_⟩
      rw [akY]
      exact (jf hR _ _ _ hxs).append (wU (p9 hR.world _ _ _ hcs h2))) h
     exact ⟨x, bl, h1, h2, fun _ => h3 rfl⟩
    ·cases h
 ·rename_i g l hv
  left
  split at h
  ·rename_i xs hxs
   obtain ⟨x, bl, h1, h2, h3⟩ := l9 hE ho hf (fun X a w lc hR => by
    obtain ⟨vs, h1, h2⟩ := aN (az (X := X) hR.tmps f) hv
    refine ⟨X, #[.agg vs], #[], .refl X, h1, hR.world, ?_⟩
    rw [akY]
    refine .cons ?_ ?_
    ·exact ⟨vs, rfl, aB.map_left (h2.mono fun _ _ h => Hi (nK h hR.world.below))⟩
    ·rw [akh]
     exact jf hR _ _ _ hxs) h
   exact ⟨x, bl, h1, h2, fun _ => h3 rfl⟩
  ·cases h
 ·rename_i g cs hv
  left
  split at h
  ·rename_i xs hxs
   obtain ⟨x, bl, h1, h2, h3⟩ := l9 hE ho hf (fun X a w lc hR => by
    obtain ⟨vs, h1, h2⟩ := aN (az (X := X) hR.tmps f) hv
    refine ⟨X, #[], vs, .refl X, h1, hR.world, ?_⟩
    rw [akY]
    exact (jf hR _ _ _ hxs).append (wU (h2.mono fun _ _ h => ny h hR.world.below))) h
   exact ⟨x, bl, h1, h2, fun _ => h3 rfl⟩
  ·cases h
 ·cases h
end
end Go.Rv
