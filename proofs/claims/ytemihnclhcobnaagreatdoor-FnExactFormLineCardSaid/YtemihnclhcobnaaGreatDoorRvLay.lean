/- A table of types that is checked against the program's own. -/
import Derived.Test.YtemihnclhcobnaaGreatDoorRvFn
namespace Go.Rv
set_option linter.unusedSimpArgs false
section
variable {P : Program}

def lZ : Option Value → Value → Bool
 | some (.int k n), .int k' n' => bD k k' && decide (n = n')
 | some (.bool b), .bool b' => b == b'
 | some (.string b), .string b' => Nat.beq b.size 0 && Nat.beq b'.size 0
 | some (.slice none 0 0), .slice none 0 0 => true
 | some (.pointer none), .pointer none => true
 | some (.map none), .map none => true
 | some .nilFunc, .nilFunc => true
 | _, _ => false

theorem d9 {z : Option Value} {v : Value} (h : lZ z v = true) : z = some v := by
 unfold lZ at h
 split at h
 ·simp only [Yz, decide_eq_true_eq] at h; rw [br h.1, h.2]
 ·simp only [beq_iff_eq] at h; rw [h]
 ·simp only [Yz] at h
  have h1 := YA h.1
  have h2 := YA h.2
  have e : ∀ b : ByteArray, b.size = 0 → b = ByteArray.empty := fun b hb => by
   apply ByteArray.ext
   have : b.data.size = 0 := hb
   exact Array.eq_empty_of_size_eq_zero this
  rw [e _ h1, e _ h2]
 ·rfl
 ·rfl
 ·rfl
 ·rfl
 ·cases h

def np (P : Program) (t : TypeId) (v : Value) (size bytes : Nat) : Bool :=
 match P.info? t with
 | some i => lZ i.zero v && Nat.beq i.size size && Nat.beq i.bytes bytes
 | none => false
theorem fk {t : TypeId} {v : Value} {size bytes : Nat} (h : np P t v size bytes = true) : dC P t v size bytes := by
 unfold np at h
 split at h
 ·rename_i i hi
  simp only [Yz] at h
  exact ⟨i, hi, d9 h.1.1, YA h.1.2, YA h.2⟩
 ·cases h

def fdB (P : Program) (fd : Fd) (f : Field) : Bool :=
 Nat.beq fd.off f.offset && (match P.info? f.type with | some i => Nat.beq i.size fd.size | none => false) && !(Nat.beq fd.size 0) &&
  (match P.underlying f.type with | some d => yt d == fd.agg | none => false)
theorem Sc {fd : Fd} {f : Field} (h : fdB P fd f = true) : Rp P fd f := by
 simp only [fdB, Yz, YT] at h
 obtain ⟨⟨⟨h1, h2⟩, h3⟩, h4⟩ := h
 refine ⟨YA h1, ?_, fun e => ?_, ?_⟩
 ·split at h2
  ·rename_i i hi; exact ⟨i, hi, YA h2⟩
  ·cases h2
 ·rw [e] at h3; cases h3
 ·split at h4
  ·rename_i d hd; exact ⟨d, hd, by simpa using h4⟩
  ·cases h4

def tX {α γ : Type} (p : α → γ → Bool) : List α → List γ → Bool
 | [], [] => true
 | x :: l, y :: m => p x y && tX p l m
 | _, _ => false
theorem m0 {α γ : Type} {p : α → γ → Bool} {R : α → γ → Prop} (hp : ∀ x y, p x y = true → R x y) : ∀ {l : List α} {m : List γ}, tX p l m = true → aw R l m
 | [], [], _ => .nil
 | [], _ :: _, h => by cases h
 | _ :: _, [], h => by cases h
 | x :: l, y :: m, h => by
  simp only [tX, Yz] at h
  exact .cons (hp _ _ h.1) (m0 hp h.2)

def zcB (L : Lay) (c : TypeId) (z : Value) : Bool :=
 match L.at_ c with
 | .int k => lZ (some z) (.int k 0)
 | .bool => lZ (some z) (.bool false)
 | .string => lZ (some z) (.string ByteArray.empty)
 | .slice _ => lZ (some z) (.slice none 0 0)
 | .pointer _ => lZ (some z) (.pointer none)
 | .map _ _ => lZ (some z) (.map none)
 | .func => lZ (some z) .nilFunc
 | _ => true
theorem Uu {L : Lay} {c : TypeId} {z : Value} (h : zcB L c z = true) : cI L c z := by
 unfold zcB at h
 unfold cI
 split at h
 ·have := d9 h; simp only [Yy] at this; simp [*]
 ·have := d9 h; simp only [Yy] at this; simp [*]
 ·have := d9 h; simp only [Yy] at this; simp [*]
 ·have := d9 h; simp only [Yy] at this; simp [*]
 ·have := d9 h; simp only [Yy] at this; simp [*]
 ·have := d9 h; simp only [Yy] at this; simp [*]
 ·have := d9 h; simp only [Yy] at this; simp [*]
 ·split <;> first | (exfalso; simp_all; done) | trivial

def Kj : Option TypeDesc → Option TypeDesc → Bool
 | some (.int k), some (.int k') => bD k k'
 | some .bool, some .bool => true
 | some .string, some .string => true
 | _, _ => false
theorem Kk {a b : Option TypeDesc} (h : Kj a b = true) : a = b := by
 unfold Kj at h
 split at h
 ·rw [br h]
 ·rfl
 ·rfl
 ·cases h

def NZ : Nat → List Field → Bool
 | _, [] => true
 | i, f :: l => Nat.beq f.offset i && NZ (i + 1) l
theorem DR : ∀ {l : List Field} {i : Nat}, NZ i l = true → ∀ (j : Nat) f, l[j]? = some f → f.offset = i + j
 | [], _, _, j, f, h => by simp at h
 | g :: l, i, h, j, f, hf => by
  simp only [NZ, Yz] at h
  cases j with
  | zero => simp at hf; subst hf; exact YA h.1
  | succ j => simp at hf; rw [DR h.2 j f hf]; omega

def R9 (P : Program) (t : TypeId) (cts : List TypeId) (fields : List Field) : Bool :=
 !(P.eqGuardType P.depth t) && !(P.stoodInHeld t) && tX (fun c f => Kj (P.underlying c) (P.underlying f.type) && !(f.name == "_")) cts fields && NZ 0 fields
theorem MZ {t : TypeId} {cts : List TypeId} {fields : List Field} (h : R9 P t cts fields = true) : Q3 P t cts fields := by
 simp only [R9, Yz, YT] at h
 obtain ⟨⟨⟨h1, h2⟩, h3⟩, h4⟩ := h
 exact ⟨h1, h2, m0 (fun c f hc => by simp only [Yz, YT] at hc; exact ⟨Kk hc.1, by simpa using hc.2⟩) h3, fun i f hf => by rw [DR h4 i f hf]; omega⟩

def Tt (P : Program) (t : TypeId) : Bool :=
 match P.info? t with
 | some i => (match i.zero with
  | some (.agg cs) => (match cs.toList with | [.bool false, .bool false] => true | _ => false)
  | _ => false) && Nat.beq i.size 2 && Nat.beq i.bytes 2
 | none => false
theorem O7 {t : TypeId} (h : Tt P t = true) : dC P t (.agg #[.bool false, .bool false]) 2 2 := by
 unfold Tt at h
 split at h
 ·rename_i i hi
  simp only [Yz] at h
  refine ⟨i, hi, ?_, YA h.1.2, YA h.2⟩
  have h1 := h.1.1
  split at h1
  ·rename_i cs hz
   split at h1
   ·rename_i hcs
    rw [hz]
    congr 2
    exact Array.toList_inj.1 hcs
   ·cases h1
  ·cases h1
 ·cases h
def tiB (P : Program) (L : Lay) (t : TypeId) : TI → Bool
 | .int k => (match P.underlying t with | some (.int k') => bD k k' | _ => false) && np P t (.int k 0) 1 (Ji k)
 | .bool => (match P.underlying t with | some .bool => true | _ => false) && np P t (.bool false) 1 1
 | .string => (match P.underlying t with | some .string => true | _ => false) && np P t (.string ByteArray.empty) 1 16
 | .slice e => (match P.underlying t with | some (.slice e') => Nat.beq e e' | _ => false) && np P t (.slice none 0 0) 1 24
 | .struct fs cts b cmp => match P.underlying t, P.info? t with
  | some (.struct fields), some i => match i.zero with
   | some (.agg zc) => tX (fdB P) fs fields.toList && Nat.beq i.size cts.length && Nat.beq i.bytes b && tX (zcB L) cts zc.toList && (!cmp || R9 P t cts fields.toList)
   | _ => false
  | _, _ => false
 | .array n e => (match P.underlying t with | some (.array n' e') => Nat.beq n n' && Nat.beq e e' | _ => false) && (Nat.beq n 2 && ((match L.at_ e with | .bool => true | _ => false) && Tt P t))
 | .pointer e => (match P.underlying t with | some (.pointer e') => Nat.beq e e' | _ => false) && np P t (.pointer none) 1 8
 | .map k e => (match P.underlying t with | some (.map k' e') => Nat.beq k k' && Nat.beq e e' | _ => false) && np P t (.map none) 1 8
 | .func => (match P.underlying t with | some (.func _ _ _) => true | _ => false) && np P t .nilFunc 1 8
 | .other => true

theorem To {L : Lay} {t : TypeId} : ∀ {i : TI}, tiB P L t i = true → Tp P L t i := by
 intro i h
 cases i with
 | int k =>
  simp only [tiB, Yz] at h
  refine ⟨?_, fk h.2⟩
  have := h.1
  split at this
  ·rename_i k' hk; rw [hk, br this]
  ·cases this
 | bool =>
  simp only [tiB, Yz] at h
  refine ⟨?_, fk h.2⟩
  have := h.1
  split at this
  ·rename_i hk; exact hk
  ·cases this
 | string =>
  simp only [tiB, Yz] at h
  refine ⟨?_, fk h.2⟩
  have := h.1
  split at this
  ·rename_i hk; exact hk
  ·cases this
 | slice e =>
  simp only [tiB, Yz] at h
  refine ⟨?_, fk h.2⟩
  have := h.1
  split at this
  ·rename_i e' hk; rw [hk, YA this]
  ·cases this
 | pointer e =>
  simp only [tiB, Yz] at h
  refine ⟨?_, fk h.2⟩
  have := h.1
  split at this
  ·rename_i e' hk; rw [hk, YA this]
  ·cases this
 | map k e =>
  simp only [tiB, Yz] at h
  refine ⟨?_, fk h.2⟩
  have := h.1
  split at this
  ·rename_i k' e' hk
   simp only [Yz] at this
   rw [hk, YA this.1, YA this.2]
  ·cases this
 | array n e =>
  simp only [tiB, Yz] at h
  obtain ⟨h0, h1, h2, h3⟩ := h
  refine ⟨?_, YA h1, ?_, O7 h3⟩
  ·split at h0
   ·rename_i n' e' hk
    simp only [Yz] at h0
    rw [hk, YA h0.1, YA h0.2]
   ·cases h0
  ·split at h2
   ·assumption
   ·cases h2
 | struct fs cts b cmp =>
  simp only [tiB] at h
  split at h
  ·rename_i fields i hu hi
   split at h
   ·rename_i zc hz
    simp only [Yz] at h
    obtain ⟨⟨⟨⟨h1, h2⟩, h3⟩, h4⟩, h5⟩ := h
    refine ⟨fields, zc, hu, m0 (fun _ _ => Sc) h1, ⟨i, hi, hz, YA h2, YA h3⟩, m0 (fun _ _ => Uu) h4, fun hc => ?_⟩
    rw [hc] at h5
    exact MZ (by simpa using h5)
   ·cases h
  ·cases h
 | func =>
  simp only [tiB, Yz] at h
  refine ⟨?_, fk h.2⟩
  have := h.1
  split at this
  ·rename_i a b c hk; exact ⟨a, b, c, hk⟩
  ·cases this
 | other => trivial

def XA (P : Program) (L : Lay) : Bool := L.all fun p => tiB P L p.1 p.2

theorem Jn {L : Lay} (h : XA P L = true) : aJ P L := by
 intro t
 have key : ∀ l : Lay, (∀ p ∈ l, tiB P L p.1 p.2 = true) → Tp P L t (Lay.at_ l t) := by
  intro l
  induction l with
  | nil => intro _; trivial
  | cons p l ih =>
   intro hl
   obtain ⟨u, i⟩ := p
   simp only [Lay.at_]
   cases hb : Nat.beq u t with
   | true =>
    have := YA hb
    subst this
    exact To (hl (u, i) (by simp))
   | false => exact ih fun p hp => hl p (by simp [hp])
 exact key L (Zc.1 h)
end
end Go.Rv
