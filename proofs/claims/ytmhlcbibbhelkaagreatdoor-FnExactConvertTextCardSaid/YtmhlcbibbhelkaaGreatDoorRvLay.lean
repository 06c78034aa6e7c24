/- A table of types that is checked against the program's own. -/
import Derived.Test.YtmhlcbibbhelkaaGreatDoorRvFn
namespace Go.Rv
set_option linter.unusedSimpArgs false
section
variable {P : Program}

def ma : Option Value → Value → Bool
 | some (.int k n), .int k' n' => bI k k' && decide (n = n')
 | some (.bool b), .bool b' => b == b'
 | some (.string b), .string b' => Nat.beq b.size 0 && Nat.beq b'.size 0
 | some (.slice none 0 0), .slice none 0 0 => true
 | some (.pointer none), .pointer none => true
 | some (.map none), .map none => true
 | some .nilFunc, .nilFunc => true
 | _, _ => false

theorem eC {z : Option Value} {v : Value} (h : ma z v = true) : z = some v := by
 unfold ma at h
 split at h
 ·simp only [agZ, decide_eq_true_eq] at h; rw [bu h.1, h.2]
 ·simp only [beq_iff_eq] at h; rw [h]
 ·simp only [agZ] at h
  have h1 := ag2 h.1
  have h2 := ag2 h.2
  have e : ∀ b : ByteArray, b.size = 0 → b = ByteArray.empty := fun b hb => by
   apply ByteArray.ext
   have : b.data.size = 0 := hb
   exact Array.eq_empty_of_size_eq_zero this
  rw [e _ h1, e _ h2]
 ·rfl
 ·rfl
 ·rfl
 ·rfl
 ·cases h

def pp (P : Program) (t : TypeId) (v : Value) (size bytes : Nat) : Bool :=
 match P.info? t with
 | some i => ma i.zero v && Nat.beq i.size size && Nat.beq i.bytes bytes
 | none => false
theorem fx {t : TypeId} {v : Value} {size bytes : Nat} (h : pp P t v size bytes = true) : dP P t v size bytes := by
 unfold pp at h
 split at h
 ·rename_i i hi
  simp only [agZ] at h
  exact ⟨i, hi, eC h.1.1, ag2 h.1.2, ag2 h.2⟩
 ·cases h

def fdB (P : Program) (fd : Fd) (f : Field) : Bool :=
 Nat.beq fd.off f.offset && (match P.info? f.type with | some i => Nat.beq i.size fd.size | none => false) && !(Nat.beq fd.size 0) &&
  (match P.underlying f.type with | some d => AW d == fd.agg | none => false)
theorem VF {fd : Fd} {f : Field} (h : fdB P fd f = true) : TK P fd f := by
 simp only [fdB, agZ, ahl] at h
 obtain ⟨⟨⟨h1, h2⟩, h3⟩, h4⟩ := h
 refine ⟨ag2 h1, ?_, fun e => ?_, ?_⟩
 ·split at h2
  ·rename_i i hi; exact ⟨i, hi, ag2 h2⟩
  ·cases h2
 ·rw [e] at h3; cases h3
 ·split at h4
  ·rename_i d hd; exact ⟨d, hd, by simpa using h4⟩
  ·cases h4

def vH {α γ : Type} (p : α → γ → Bool) : List α → List γ → Bool
 | [], [] => true
 | x :: l, y :: m => p x y && vH p l m
 | _, _ => false
theorem oR {α γ : Type} {p : α → γ → Bool} {R : α → γ → Prop} (hp : ∀ x y, p x y = true → R x y) : ∀ {l : List α} {m : List γ}, vH p l m = true → aB R l m
 | [], [], _ => .nil
 | [], _ :: _, h => by cases h
 | _ :: _, [], h => by cases h
 | x :: l, y :: m, h => by
  simp only [vH, agZ] at h
  exact .cons (hp _ _ h.1) (oR hp h.2)

def zcB (L : Lay) (c : TypeId) (z : Value) : Bool :=
 match L.at_ c with
 | .int k => ma (some z) (.int k 0)
 | .bool => ma (some z) (.bool false)
 | .string => ma (some z) (.string ByteArray.empty)
 | .slice _ => ma (some z) (.slice none 0 0)
 | .pointer _ => ma (some z) (.pointer none)
 | .map _ _ => ma (some z) (.map none)
 | .func => ma (some z) .nilFunc
 | _ => true
theorem Z8 {L : Lay} {c : TypeId} {z : Value} (h : zcB L c z = true) : cU L c z := by
 unfold zcB at h
 unfold cU
 split at h
 ·have := eC h; simp only [ag0] at this; simp [*]
 ·have := eC h; simp only [ag0] at this; simp [*]
 ·have := eC h; simp only [ag0] at this; simp [*]
 ·have := eC h; simp only [ag0] at this; simp [*]
 ·have := eC h; simp only [ag0] at this; simp [*]
 ·have := eC h; simp only [ag0] at this; simp [*]
 ·have := eC h; simp only [ag0] at this; simp [*]
 ·split <;> first | (exfalso; simp_all; done) | trivial

def NR : Option TypeDesc → Option TypeDesc → Bool
 | some (.int k), some (.int k') => bI k k'
 | some .bool, some .bool => true
 | some .string, some .string => true
 | _, _ => false
theorem NS {a b : Option TypeDesc} (h : NR a b = true) : a = b := by
 unfold NR at h
 split at h
 ·rw [bu h]
 ·rfl
 ·rfl
 ·cases h

def Q2 : Nat → List Field → Bool
 | _, [] => true
 | i, f :: l => Nat.beq f.offset i && Q2 (i + 1) l
theorem FM : ∀ {l : List Field} {i : Nat}, Q2 i l = true → ∀ (j : Nat) f, l[j]? = some f → f.offset = i + j
 | [], _, _, j, f, h => by simp at h
 | g :: l, i, h, j, f, hf => by
  simp only [Q2, agZ] at h
  cases j with
  | zero => simp at hf; subst hf; exact ag2 h.1
  | succ j => simp at hf; rw [FM h.2 j f hf]; omega

def VC (P : Program) (t : TypeId) (cts : List TypeId) (fields : List Field) : Bool :=
 !(P.eqGuardType P.depth t) && !(P.stoodInHeld t) && vH (fun c f => NR (P.underlying c) (P.underlying f.type) && !(f.name == "_")) cts fields && Q2 0 fields
theorem QC {t : TypeId} {cts : List TypeId} {fields : List Field} (h : VC P t cts fields = true) : Ta P t cts fields := by
 simp only [VC, agZ, ahl] at h
 obtain ⟨⟨⟨h1, h2⟩, h3⟩, h4⟩ := h
 exact ⟨h1, h2, oR (fun c f hc => by simp only [agZ, ahl] at hc; exact ⟨NS hc.1, by simpa using hc.2⟩) h3, fun i f hf => by rw [FM h4 i f hf]; omega⟩

def X3 (P : Program) (t : TypeId) : Bool :=
 match P.info? t with
 | some i => (match i.zero with
  | some (.agg cs) => (match cs.toList with | [.bool false, .bool false] => true | _ => false)
  | _ => false) && Nat.beq i.size 2 && Nat.beq i.bytes 2
 | none => false
theorem RJ {t : TypeId} (h : X3 P t = true) : dP P t (.agg #[.bool false, .bool false]) 2 2 := by
 unfold X3 at h
 split at h
 ·rename_i i hi
  simp only [agZ] at h
  refine ⟨i, hi, ?_, ag2 h.1.2, ag2 h.2⟩
  have h1 := h.1.1
  split at h1
  ·rename_i cs hz
   split at h1
   ·rename_i hcs
    rw [hz]
    congr 2
    exact Array.toList_inj.1 hcs
   ·cases h1
  ·cases h1
 ·cases h
def tiB (P : Program) (L : Lay) (t : TypeId) : TI → Bool
 | .int k => (match P.underlying t with | some (.int k') => bI k k' | _ => false) && pp P t (.int k 0) 1 (L9 k)
 | .bool => (match P.underlying t with | some .bool => true | _ => false) && pp P t (.bool false) 1 1
 | .string => (match P.underlying t with | some .string => true | _ => false) && pp P t (.string ByteArray.empty) 1 16
 | .slice e => (match P.underlying t with | some (.slice e') => Nat.beq e e' | _ => false) && pp P t (.slice none 0 0) 1 24
 | .struct fs cts b cmp => match P.underlying t, P.info? t with
  | some (.struct fields), some i => match i.zero with
   | some (.agg zc) => vH (fdB P) fs fields.toList && Nat.beq i.size cts.length && Nat.beq i.bytes b && vH (zcB L) cts zc.toList && (!cmp || VC P t cts fields.toList)
   | _ => false
  | _, _ => false
 | .array n e => (match P.underlying t with | some (.array n' e') => Nat.beq n n' && Nat.beq e e' | _ => false) && (Nat.beq n 2 && ((match L.at_ e with | .bool => true | _ => false) && X3 P t))
 | .pointer e => (match P.underlying t with | some (.pointer e') => Nat.beq e e' | _ => false) && pp P t (.pointer none) 1 8
 | .map k e => (match P.underlying t with | some (.map k' e') => Nat.beq k k' && Nat.beq e e' | _ => false) && pp P t (.map none) 1 8
 | .func => (match P.underlying t with | some (.func _ _ _) => true | _ => false) && pp P t .nilFunc 1 8
 | .other => true

theorem XY {L : Lay} {t : TypeId} : ∀ {i : TI}, tiB P L t i = true → XZ P L t i := by
 intro i h
 cases i with
 | int k =>
  simp only [tiB, agZ] at h
  refine ⟨?_, fx h.2⟩
  have := h.1
  split at this
  ·rename_i k' hk; rw [hk, bu this]
  ·cases this
 | bool =>
  simp only [tiB, agZ] at h
  refine ⟨?_, fx h.2⟩
  have := h.1
  split at this
  ·rename_i hk; exact hk
  ·cases this
 | string =>
  simp only [tiB, agZ] at h
  refine ⟨?_, fx h.2⟩
  have := h.1
  split at this
  ·rename_i hk; exact hk
  ·cases this
 | slice e =>
  simp only [tiB, agZ] at h
  refine ⟨?_, fx h.2⟩
  have := h.1
  split at this
  ·rename_i e' hk; rw [hk, ag2 this]
  ·cases this
 | pointer e =>
  simp only [tiB, agZ] at h
  refine ⟨?_, fx h.2⟩
  have := h.1
  split at this
  ·rename_i e' hk; rw [hk, ag2 this]
  ·cases this
 | map k e =>
  simp only [tiB, agZ] at h
  refine ⟨?_, fx h.2⟩
  have := h.1
  split at this
  ·rename_i k' e' hk
   simp only [agZ] at this
   rw [hk, ag2 this.1, ag2 this.2]
  ·cases this
 | array n e =>
  simp only [tiB, agZ] at h
  obtain ⟨h0, h1, h2, h3⟩ := h
  refine ⟨?_, ag2 h1, ?_, RJ h3⟩
  ·split at h0
   ·rename_i n' e' hk
    simp only [agZ] at h0
    rw [hk, ag2 h0.1, ag2 h0.2]
   ·cases h0
  ·split at h2
   ·assumption
   ·cases h2
 | struct fs cts b cmp =>
  simp only [tiB] at h
  split at h
  ·rename_i fields i hu hi
   split at h
   ·rename_i zc hz
    simp only [agZ] at h
    obtain ⟨⟨⟨⟨h1, h2⟩, h3⟩, h4⟩, h5⟩ := h
    refine ⟨fields, zc, hu, oR (fun _ _ => VF) h1, ⟨i, hi, hz, ag2 h2, ag2 h3⟩, oR (fun _ _ => Z8) h4, fun hc => ?_⟩
    rw [hc] at h5
    exact QC (by simpa using h5)
   ·cases h
  ·cases h
 | func =>
  simp only [tiB, agZ] at h
  refine ⟨?_, fx h.2⟩
  have := h.1
  split at this
  ·rename_i a b c hk; exact ⟨a, b, c, hk⟩
  ·cases this
 | other => trivial

def adg (P : Program) (L : Lay) : Bool := L.all fun p => tiB P L p.1 p.2

theorem Mg {L : Lay} (h : adg P L = true) : aO P L := by
 intro t
 have key : ∀ l : Lay, (∀ p ∈ l, tiB P L p.1 p.2 = true) → XZ P L t (Lay.at_ l t) := by
  intro l
  induction l with
  | nil => intro _; trivial
  | cons p l ih =>
   intro hl
   obtain ⟨u, i⟩ := p
   simp only [Lay.at_]
   cases hb : Nat.beq u t with
   | true =>
    have := ag2 hb
    subst this
    exact XY (hl (u, i) (by simp))
   | false => exact ih fun p hp => hl p (by simp [hp])
 exact key L (aht.1 h)
end
end Go.Rv
