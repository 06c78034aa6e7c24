/- A table of types that is checked against the program's own. -/
import Derived.Test.YtemihnclhcobnaaGreatDoorRvFn
namespace Go.Rv
set_option linter.unusedSimpArgs false
section
variable {P : Program}

def m0 : Option Value -> Value -> Bool
 | some (.int k n), .int k' n' => bI k k' && decide (n = n')
 | some (.bool b), .bool b' => b == b'
 | some (.string b), .string b' => Nat.beq b.size 0 && Nat.beq b'.size 0
 | some (.slice none 0 0), .slice none 0 0 => true
 | some (.pointer none), .pointer none => true
 | some (.map none), .map none => true
 | some .nilFunc, .nilFunc => true
 | _, _ => false

theorem eC {z : Option Value} {v : Value} (h : m0 z v = true) : z = some v := by
 unfold m0 at h
 split at h
 ·simp only [aj0, decide_eq_true_eq] at h; rw [bu h.1, h.2]
 ·simp only [beq_iff_eq] at h; rw [h]
 ·simp only [aj0] at h
  have h1 := aj3 h.1
  have h2 := aj3 h.2
  have e : ∀ b : ByteArray, b.size = 0 -> b = ByteArray.empty := fun b hb => by
   apply ByteArray.ext
   have : b.data.size = 0 := hb
   exact Array.eq_empty_of_size_eq_zero this
  rw [e _ h1, e _ h2]
 ·rfl
 ·rfl
 ·rfl
 ·rfl
 ·cases h

def pg (P : Program) (t : TypeId) (v : Value) (size bytes : Nat) : Bool :=
 match P.info? t with
 | some i => m0 i.zero v && Nat.beq i.size size && Nat.beq i.bytes bytes
 | none => false
theorem fF {t : TypeId} {v : Value} {size bytes : Nat} (h : pg P t v size bytes = true) : dP P t v size bytes := by
 unfold pg at h
 split at h
 ·rename_i i hi
  simp only [aj0] at h
  exact ⟨i, hi, eC h.1.1, aj3 h.1.2, aj3 h.2⟩
 ·cases h

def fdB (P : Program) (fd : Fd) (f : Field) : Bool :=
 Nat.beq fd.off f.offset && (match P.info? f.type with | some i => Nat.beq i.size fd.size | none => false) && !(Nat.beq fd.size 0) &&
  (match P.underlying f.type with | some d => BB d == fd.agg | none => false)
theorem Yx {fd : Fd} {f : Field} (h : fdB P fd f = true) : Xj P fd f := by
 simp only [fdB, aj0, akm] at h
 obtain ⟨⟨⟨h1, h2⟩, h3⟩, h4⟩ := h
 refine ⟨aj3 h1, ?_, fun e => ?_, ?_⟩
 ·split at h2
  ·rename_i i hi; exact ⟨i, hi, aj3 h2⟩
  ·cases h2
 ·rw [e] at h3; cases h3
 ·split at h4
  ·rename_i d hd; exact ⟨d, hd, by simpa using h4⟩
  ·cases h4

def wK {α γ : Type} (p : α -> γ -> Bool) : List α -> List γ -> Bool
 | [], [] => true
 | x :: l, y :: m => p x y && wK p l m
 | _, _ => false
theorem oO {α γ : Type} {p : α -> γ -> Bool} {R : α -> γ -> Prop} (hp : ∀ x y, p x y = true -> R x y) : ∀ {l : List α} {m : List γ}, wK p l m = true -> aB R l m
 | [], [], _ => .nil
 | [], _ :: _, h => by cases h
 | _ :: _, [], h => by cases h
 | x :: l, y :: m, h => by
  simp only [wK, aj0] at h
  exact .cons (hp _ _ h.1) (oO hp h.2)

def zcB (L : Lay) (c : TypeId) (z : Value) : Bool :=
 match L.at_ c with
 | .int k => m0 (some z) (.int k 0)
 | .bool => m0 (some z) (.bool false)
 | .string => m0 (some z) (.string ByteArray.empty)
 | .slice _ => m0 (some z) (.slice none 0 0)
 | .pointer _ => m0 (some z) (.pointer none)
 | .map _ _ => m0 (some z) (.map none)
 | .func => m0 (some z) .nilFunc
 | _ => true
theorem abb {L : Lay} {c : TypeId} {z : Value} (h : zcB L c z = true) : cU L c z := by
 unfold zcB at h
 unfold cU
 split at h
 ·have := eC h; simp only [aj1] at this; simp [*]
 ·have := eC h; simp only [aj1] at this; simp [*]
 ·have := eC h; simp only [aj1] at this; simp [*]
 ·have := eC h; simp only [aj1] at this; simp [*]
 ·have := eC h; simp only [aj1] at this; simp [*]
 ·have := eC h; simp only [aj1] at this; simp [*]
 ·have := eC h; simp only [aj1] at this; simp [*]
 ·split <;> first | (exfalso; simp_all; done) | trivial

def ON : Option TypeDesc -> Option TypeDesc -> Bool
 | some (.int k), some (.int k') => bI k k'
 | some .bool, some .bool => true
 | some .string, some .string => true
 | _, _ => false
theorem OO {a b : Option TypeDesc} (h : ON a b = true) : a = b := by
 unfold ON at h
 split at h
 ·rw [bu h]
 ·rfl
 ·rfl
 ·cases h

def S1 : Nat -> List Field -> Bool
 | _, [] => true
 | i, f :: l => Nat.beq f.offset i && S1 (i + 1) l
theorem G4 : ∀ {l : List Field} {i : Nat}, S1 i l = true -> ∀ (j : Nat) f, l[j]? = some f -> f.offset = i + j
 | [], _, _, j, f, h => by simp at h
 | g :: l, i, h, j, f, hf => by
  simp only [S1, aj0] at h
  cases j with
  | zero => simp at hf; subst hf; exact aj3 h.1
  | succ j => simp at hf; rw [G4 h.2 j f hf]; omega

def Yu (P : Program) (t : TypeId) (cts : List TypeId) (fields : List Field) : Bool :=
 !(P.eqGuardType P.depth t) && !(P.stoodInHeld t) && wK (fun c f => ON (P.underlying c) (P.underlying f.type) && !(f.name == "_")) cts fields && S1 0 fields
theorem RU {t : TypeId} {cts : List TypeId} {fields : List Field} (h : Yu P t cts fields = true) : WN P t cts fields := by
 simp only [Yu, aj0, akm] at h
 obtain ⟨⟨⟨h1, h2⟩, h3⟩, h4⟩ := h
 exact ⟨h1, h2, oO (fun c f hc => by simp only [aj0, akm] at hc; exact ⟨OO hc.1, by simpa using hc.2⟩) h3, fun i f hf => by rw [G4 h4 i f hf]; omega⟩

def Z8 (P : Program) (t : TypeId) : Bool :=
 match P.info? t with
 | some i => (match i.zero with
  | some (.agg cs) => (match cs.toList with | [.bool false, .bool false] => true | _ => false)
  | _ => false) && Nat.beq i.size 2 && Nat.beq i.bytes 2
 | none => false
theorem T8 {t : TypeId} (h : Z8 P t = true) : dP P t (.agg #[.bool false, .bool false]) 2 2 := by
 unfold Z8 at h
 split at h
 ·rename_i i hi
  simp only [aj0] at h
  refine ⟨i, hi, ?_, aj3 h.1.2, aj3 h.2⟩
  have h1 := h.1.1
  split at h1
  ·rename_i cs hz
   split at h1
   ·rename_i hcs
    rw [hz]
    congr 2
    exact Array.toList_inj.1 hcs
   ·cases h1
  ·cases h1
 ·cases h
def tiB (P : Program) (L : Lay) (t : TypeId) : TI -> Bool
 | .int k => (match P.underlying t with | some (.int k') => bI k k' | _ => false) && pg P t (.int k 0) 1 (Nx k)
 | .bool => (match P.underlying t with | some .bool => true | _ => false) && pg P t (.bool false) 1 1
 | .string => (match P.underlying t with | some .string => true | _ => false) && pg P t (.string ByteArray.empty) 1 16
 | .slice e => (match P.underlying t with | some (.slice e') => Nat.beq e e' | _ => false) && pg P t (.slice none 0 0) 1 24
 | .struct fs cts b cmp => match P.underlying t, P.info? t with
  | some (.struct fields), some i => match i.zero with
   | some (.agg zc) => wK (fdB P) fs fields.toList && Nat.beq i.size cts.length && Nat.beq i.bytes b && wK (zcB L) cts zc.toList && (!cmp || Yu P t cts fields.toList)
   | _ => false
  | _, _ => false
 | .array n e => (match P.underlying t with | some (.array n' e') => Nat.beq n n' && Nat.beq e e' | _ => false) && (Nat.beq n 2 && ((match L.at_ e with | .bool => true | _ => false) && Z8 P t))
 | .pointer e => (match P.underlying t with | some (.pointer e') => Nat.beq e e' | _ => false) && pg P t (.pointer none) 1 8
 | .map k e => (match P.underlying t with | some (.map k' e') => Nat.beq k k' && Nat.beq e e' | _ => false) && pg P t (.map none) 1 8
 | .func => (match P.underlying t with | some (.func _ _ _) => true | _ => false) && pg P t .nilFunc 1 8
 | .other => true

theorem Z6 {L : Lay} {t : TypeId} : ∀ {i : TI}, tiB P L t i = true -> Z7 P L t i := by
 intro i h
 cases i with
 | int k =>
  simp only [tiB, aj0] at h
  refine ⟨?_, fF h.2⟩
  have := h.1
  split at this
  ·rename_i k' hk; rw [hk, bu this]
  ·cases this
 | bool =>
  simp only [tiB, aj0] at h
  refine ⟨?_, fF h.2⟩
  have := h.1
  split at this
  ·rename_i hk; exact hk
  ·cases this
 | string =>
  simp only [tiB, aj0] at h
  refine ⟨?_, fF h.2⟩
  have := h.1
  split at this
  ·rename_i hk; exact hk
  ·cases this
 | slice e =>
  simp only [tiB, aj0] at h
  refine ⟨?_, fF h.2⟩
  have := h.1
  split at this
  ·rename_i e' hk; rw [hk, aj3 this]
  ·cases this
 | pointer e =>
  simp only [tiB, aj0] at h
  refine ⟨?_, fF h.2⟩
  have := h.1
  split at this
  ·rename_i e' hk; rw [hk, aj3 this]
  ·cases this
 | map k e =>
  simp only [tiB, aj0] at h
  refine ⟨?_, fF h.2⟩
  have := h.1
  split at this
  ·rename_i k' e' hk
   simp only [aj0] at this
   rw [hk, aj3 this.1, aj3 this.2]
  ·cases this
 | array n e =>
  simp only [tiB, aj0] at h
  obtain ⟨h0, h1, h2, h3⟩ := h
  refine ⟨?_, aj3 h1, ?_, T8 h3⟩
  ·split at h0
   ·rename_i n' e' hk
    simp only [aj0] at h0
    rw [hk, aj3 h0.1, aj3 h0.2]
   ·cases h0
  ·split at h2
   ·assumption
   ·cases h2
 | struct fs cts b cmp =>
  simp only [tiB] at h
  split at h
  ·rename_i fields i hu hi
   split at h
   ·rename_i zc hz
    simp only [aj0] at h
    obtain ⟨⟨⟨⟨h1, h2⟩, h3⟩, h4⟩, h5⟩ := h
    refine ⟨fields, zc, hu, oO (fun _ _ => Yx) h1, ⟨i, hi, hz, aj3 h2, aj3 h3⟩, oO (fun _ _ => abb) h4, fun hc => ?_⟩
    rw [hc] at h5
    exact RU (by simpa using h5)
   ·cases h
  ·cases h
 | func =>
  simp only [tiB, aj0] at h
  refine ⟨?_, fF h.2⟩
  have := h.1
  split at this
  ·rename_i a b c hk; exact ⟨a, b, c, hk⟩
  ·cases this
 | other => trivial

def afM (P : Program) (L : Lay) : Bool := L.all fun p => tiB P L p.1 p.2

theorem NE {L : Lay} (h : afM P L = true) : aO P L := by
 intro t
 have key : ∀ l : Lay, (∀ p ∈ l, tiB P L p.1 p.2 = true) -> Z7 P L t (Lay.at_ l t) := by
  intro l
  induction l with
  | nil => intro _; trivial
  | cons p l ih =>
   intro hl
   obtain ⟨u, i⟩ := p
   simp only [Lay.at_]
   cases hb : Nat.beq u t with
   | true =>
    have := aj3 hb
    subst this
    exact Z6 (hl (u, i) (by simp))
   | false => exact ih fun p hp => hl p (by simp [hp])
 exact key L (aku.1 h)
end
end Go.Rv
