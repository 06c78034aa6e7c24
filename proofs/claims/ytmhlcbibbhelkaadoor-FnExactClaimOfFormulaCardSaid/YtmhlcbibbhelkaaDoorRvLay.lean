/- A table of types that is checked against the program's own. -/
import Derived.Test.YtmhlcbibbhelkaaDoorRvFn
namespace Go.Rv
section
variable {P : Program}

def zeroB : Option Value → Value → Bool
  | some (.int k n), .int k' n' => sameKind k k' && decide (n = n')
  | some (.bool b), .bool b' => b == b'
  | some (.string b), .string b' => Nat.beq b.size 0 && Nat.beq b'.size 0
  | some (.slice none 0 0), .slice none 0 0 => true
  | some (.pointer none), .pointer none => true
  | some (.map none), .map none => true
  | some .nilFunc, .nilFunc => true
  | _, _ => false

theorem zeroB_eq {z : Option Value} {v : Value} (h : zeroB z v = true) : z = some v := by
  unfold zeroB at h
  split at h
  · simp only [Bool.and_eq_true, decide_eq_true_eq] at h; rw [sameKind_eq h.1, h.2]
  · simp only [beq_iff_eq] at h; rw [h]
  · simp only [Bool.and_eq_true] at h
    have h1 := Nat.eq_of_beq_eq_true h.1
    have h2 := Nat.eq_of_beq_eq_true h.2
    have e : ∀ b : ByteArray, b.size = 0 → b = ByteArray.empty := fun b hb => by
      apply ByteArray.ext
      have : b.data.size = 0 := hb
      exact Array.eq_empty_of_size_eq_zero this
    rw [e _ h1, e _ h2]
  · rfl
  · rfl
  · rfl
  · rfl
  · cases h

def infoB (P : Program) (t : TypeId) (v : Value) (size bytes : Nat) : Bool :=
  match P.info? t with
  | some i => zeroB i.zero v && Nat.beq i.size size && Nat.beq i.bytes bytes
  | none => false
theorem infoB_ok {t : TypeId} {v : Value} {size bytes : Nat} (h : infoB P t v size bytes = true) : infoOK P t v size bytes := by
  unfold infoB at h
  split at h
  · rename_i i hi
    simp only [Bool.and_eq_true] at h
    exact ⟨i, hi, zeroB_eq h.1.1, Nat.eq_of_beq_eq_true h.1.2, Nat.eq_of_beq_eq_true h.2⟩
  · cases h

def fdB (P : Program) (fd : Fd) (f : Field) : Bool :=
  Nat.beq fd.off f.offset && (match P.info? f.type with | some i => Nat.beq i.size fd.size | none => false) && !(Nat.beq fd.size 0) &&
    (match P.underlying f.type with | some d => aggD d == fd.agg | none => false)
theorem fdB_ok {fd : Fd} {f : Field} (h : fdB P fd f = true) : FdOK P fd f := by
  simp only [fdB, Bool.and_eq_true, Bool.not_eq_true'] at h
  obtain ⟨⟨⟨h1, h2⟩, h3⟩, h4⟩ := h
  refine ⟨Nat.eq_of_beq_eq_true h1, ?_, fun e => ?_, ?_⟩
  · split at h2
    · rename_i i hi; exact ⟨i, hi, Nat.eq_of_beq_eq_true h2⟩
    · cases h2
  · rw [e] at h3; cases h3
  · split at h4
    · rename_i d hd; exact ⟨d, hd, by simpa using h4⟩
    · cases h4

def all2B {α γ : Type} (p : α → γ → Bool) : List α → List γ → Bool
  | [], [] => true
  | x :: l, y :: m => p x y && all2B p l m
  | _, _ => false
theorem all2B_ok {α γ : Type} {p : α → γ → Bool} {R : α → γ → Prop} (hp : ∀ x y, p x y = true → R x y) : ∀ {l : List α} {m : List γ}, all2B p l m = true → All2 R l m
  | [], [], _ => .nil
  | [], _ :: _, h => by cases h
  | _ :: _, [], h => by cases h
  | x :: l, y :: m, h => by
    simp only [all2B, Bool.and_eq_true] at h
    exact .cons (hp _ _ h.1) (all2B_ok hp h.2)

def zcB (L : Lay) (c : TypeId) (z : Value) : Bool :=
  match L.at_ c with
  | .int k => zeroB (some z) (.int k 0)
  | .bool => zeroB (some z) (.bool false)
  | .string => zeroB (some z) (.string ByteArray.empty)
  | .slice _ => zeroB (some z) (.slice none 0 0)
  | .pointer _ => zeroB (some z) (.pointer none)
  | .map _ _ => zeroB (some z) (.map none)
  | .func => zeroB (some z) .nilFunc
  | _ => true
theorem zcB_ok {L : Lay} {c : TypeId} {z : Value} (h : zcB L c z = true) : zeroOK L c z := by
  unfold zcB at h
  unfold zeroOK
  split at h
  · have := zeroB_eq h; simp only [Option.some.injEq] at this; simp [*]
  · have := zeroB_eq h; simp only [Option.some.injEq] at this; simp [*]
  · have := zeroB_eq h; simp only [Option.some.injEq] at this; simp [*]
  · have := zeroB_eq h; simp only [Option.some.injEq] at this; simp [*]
  · have := zeroB_eq h; simp only [Option.some.injEq] at this; simp [*]
  · have := zeroB_eq h; simp only [Option.some.injEq] at this; simp [*]
  · have := zeroB_eq h; simp only [Option.some.injEq] at this; simp [*]
  · split <;> first | (exfalso; simp_all; done) | trivial

def sameD : Option TypeDesc → Option TypeDesc → Bool
  | some (.int k), some (.int k') => sameKind k k'
  | some .bool, some .bool => true
  | some .string, some .string => true
  | _, _ => false
theorem sameD_eq {a b : Option TypeDesc} (h : sameD a b = true) : a = b := by
  unfold sameD at h
  split at h
  · rw [sameKind_eq h]
  · rfl
  · rfl
  · cases h

def offB : Nat → List Field → Bool
  | _, [] => true
  | i, f :: l => Nat.beq f.offset i && offB (i + 1) l
theorem offB_ok : ∀ {l : List Field} {i : Nat}, offB i l = true → ∀ (j : Nat) f, l[j]? = some f → f.offset = i + j
  | [], _, _, j, f, h => by simp at h
  | g :: l, i, h, j, f, hf => by
    simp only [offB, Bool.and_eq_true] at h
    cases j with
    | zero => simp at hf; subst hf; exact Nat.eq_of_beq_eq_true h.1
    | succ j => simp at hf; rw [offB_ok h.2 j f hf]; omega

def cmpB (P : Program) (t : TypeId) (cts : List TypeId) (fields : List Field) : Bool :=
  !(P.eqGuardType P.depth t) && !(P.stoodInHeld t) && all2B (fun c f => sameD (P.underlying c) (P.underlying f.type) && !(f.name == "_")) cts fields && offB 0 fields
theorem cmpB_ok {t : TypeId} {cts : List TypeId} {fields : List Field} (h : cmpB P t cts fields = true) : cmpOK P t cts fields := by
  simp only [cmpB, Bool.and_eq_true, Bool.not_eq_true'] at h
  obtain ⟨⟨⟨h1, h2⟩, h3⟩, h4⟩ := h
  exact ⟨h1, h2, all2B_ok (fun c f hc => by simp only [Bool.and_eq_true, Bool.not_eq_true'] at hc; exact ⟨sameD_eq hc.1, by simpa using hc.2⟩) h3, fun i f hf => by rw [offB_ok h4 i f hf]; omega⟩

def twoB (P : Program) (t : TypeId) : Bool :=
  match P.info? t with
  | some i => (match i.zero with
    | some (.agg cs) => (match cs.toList with | [.bool false, .bool false] => true | _ => false)
    | _ => false) && Nat.beq i.size 2 && Nat.beq i.bytes 2
  | none => false
theorem twoB_ok {t : TypeId} (h : twoB P t = true) : infoOK P t (.agg #[.bool false, .bool false]) 2 2 := by
  unfold twoB at h
  split at h
  · rename_i i hi
    simp only [Bool.and_eq_true] at h
    refine ⟨i, hi, ?_, Nat.eq_of_beq_eq_true h.1.2, Nat.eq_of_beq_eq_true h.2⟩
    have h1 := h.1.1
    split at h1
    · rename_i cs hz
      split at h1
      · rename_i hcs
        rw [hz]
        congr 2
        exact Array.toList_inj.1 hcs
      · cases h1
    · cases h1
  · cases h
def tiB (P : Program) (L : Lay) (t : TypeId) : TI → Bool
  | .int k => (match P.underlying t with | some (.int k') => sameKind k k' | _ => false) && infoB P t (.int k 0) 1 (kBytes k)
  | .bool => (match P.underlying t with | some .bool => true | _ => false) && infoB P t (.bool false) 1 1
  | .string => (match P.underlying t with | some .string => true | _ => false) && infoB P t (.string ByteArray.empty) 1 16
  | .slice e => (match P.underlying t with | some (.slice e') => Nat.beq e e' | _ => false) && infoB P t (.slice none 0 0) 1 24
  | .struct fs cts b cmp => match P.underlying t, P.info? t with
    | some (.struct fields), some i => match i.zero with
      | some (.agg zc) => all2B (fdB P) fs fields.toList && Nat.beq i.size cts.length && Nat.beq i.bytes b && all2B (zcB L) cts zc.toList && (!cmp || cmpB P t cts fields.toList)
      | _ => false
    | _, _ => false
  | .array n e => (match P.underlying t with | some (.array n' e') => Nat.beq n n' && Nat.beq e e' | _ => false) && (Nat.beq n 2 && ((match L.at_ e with | .bool => true | _ => false) && twoB P t))
  | .pointer e => (match P.underlying t with | some (.pointer e') => Nat.beq e e' | _ => false) && infoB P t (.pointer none) 1 8
  | .map k e => (match P.underlying t with | some (.map k' e') => Nat.beq k k' && Nat.beq e e' | _ => false) && infoB P t (.map none) 1 8
  | .func => (match P.underlying t with | some (.func _ _ _) => true | _ => false) && infoB P t .nilFunc 1 8
  | .other => true

theorem tiB_ok {L : Lay} {t : TypeId} : ∀ {i : TI}, tiB P L t i = true → tiOK P L t i := by
  intro i h
  cases i with
  | int k =>
    simp only [tiB, Bool.and_eq_true] at h
    refine ⟨?_, infoB_ok h.2⟩
    have := h.1
    split at this
    · rename_i k' hk; rw [hk, sameKind_eq this]
    · cases this
  | bool =>
    simp only [tiB, Bool.and_eq_true] at h
    refine ⟨?_, infoB_ok h.2⟩
    have := h.1
    split at this
    · rename_i hk; exact hk
    · cases this
  | string =>
    simp only [tiB, Bool.and_eq_true] at h
    refine ⟨?_, infoB_ok h.2⟩
    have := h.1
    split at this
    · rename_i hk; exact hk
    · cases this
  | slice e =>
    simp only [tiB, Bool.and_eq_true] at h
    refine ⟨?_, infoB_ok h.2⟩
    have := h.1
    split at this
    · rename_i e' hk; rw [hk, Nat.eq_of_beq_eq_true this]
    · cases this
  | pointer e =>
    simp only [tiB, Bool.and_eq_true] at h
    refine ⟨?_, infoB_ok h.2⟩
    have := h.1
    split at this
    · rename_i e' hk; rw [hk, Nat.eq_of_beq_eq_true this]
    · cases this
  | map k e =>
    simp only [tiB, Bool.and_eq_true] at h
    refine ⟨?_, infoB_ok h.2⟩
    have := h.1
    split at this
    · rename_i k' e' hk
      simp only [Bool.and_eq_true] at this
      rw [hk, Nat.eq_of_beq_eq_true this.1, Nat.eq_of_beq_eq_true this.2]
    · cases this
  | array n e =>
    simp only [tiB, Bool.and_eq_true] at h
    obtain ⟨h0, h1, h2, h3⟩ := h
    refine ⟨?_, Nat.eq_of_beq_eq_true h1, ?_, twoB_ok h3⟩
    · split at h0
      · rename_i n' e' hk
        simp only [Bool.and_eq_true] at h0
        rw [hk, Nat.eq_of_beq_eq_true h0.1, Nat.eq_of_beq_eq_true h0.2]
      · cases h0
    · split at h2
      · assumption
      · cases h2
  | struct fs cts b cmp =>
    simp only [tiB] at h
    split at h
    · rename_i fields i hu hi
      split at h
      · rename_i zc hz
        simp only [Bool.and_eq_true] at h
        obtain ⟨⟨⟨⟨h1, h2⟩, h3⟩, h4⟩, h5⟩ := h
        refine ⟨fields, zc, hu, all2B_ok (fun _ _ => fdB_ok) h1, ⟨i, hi, hz, Nat.eq_of_beq_eq_true h2, Nat.eq_of_beq_eq_true h3⟩, all2B_ok (fun _ _ => zcB_ok) h4, fun hc => ?_⟩
        rw [hc] at h5
        exact cmpB_ok (by simpa using h5)
      · cases h
    · cases h
  | func =>
    simp only [tiB, Bool.and_eq_true] at h
    refine ⟨?_, infoB_ok h.2⟩
    have := h.1
    split at this
    · rename_i a b c hk; exact ⟨a, b, c, hk⟩
    · cases this
  | other => trivial

def layB (P : Program) (L : Lay) : Bool := L.all fun p => tiB P L p.1 p.2

theorem layOK_of {L : Lay} (h : layB P L = true) : LayOK P L := by
  intro t
  have key : ∀ l : Lay, (∀ p ∈ l, tiB P L p.1 p.2 = true) → tiOK P L t (Lay.at_ l t) := by
    intro l
    induction l with
    | nil => intro _; trivial
    | cons p l ih =>
      intro hl
      obtain ⟨u, i⟩ := p
      simp only [Lay.at_]
      cases hb : Nat.beq u t with
      | true =>
        have := Nat.eq_of_beq_eq_true hb
        subst this
        exact tiB_ok (hl (u, i) (by simp))
      | false => exact ih fun p hp => hl p (by simp [hp])
  exact key L (List.all_eq_true.1 h)
end
end Go.Rv
