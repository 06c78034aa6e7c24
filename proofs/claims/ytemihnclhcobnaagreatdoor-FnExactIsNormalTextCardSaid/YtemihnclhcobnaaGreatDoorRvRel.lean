/- How the evaluator's values stand to the machine's. -/
import Derived.Test.YtemihnclhcobnaaGreatDoorRvDefs
namespace Go.Rv
set_option linter.unusedSimpArgs false

inductive aB {α β : Type} (R : α -> β -> Prop) : List α -> List β -> Prop
 | nil : aB R [] []
 | cons {x : α} {y : β} {l : List α} {m : List β} : R x y -> aB R l m -> aB R (x :: l) (y :: m)

namespace aB
variable {α β γ : Type} {R : α -> β -> Prop} {l : List α} {m : List β}
theorem length (h : aB R l m) : l.length = m.length := by
 induction h with
 | nil => rfl
 | cons _ _ ih => simp [ih]
theorem mono {R' : α -> β -> Prop} (hr : ∀ x y, R x y -> R' x y) (h : aB R l m) : aB R' l m := by
 induction h with
 | nil => exact .nil
 | cons h1 _ ih => exact .cons (hr _ _ h1) ih
theorem get (h : aB R l m) : ∀ (i : Nat) (x : α), l[i]? = some x -> ∃ y, m[i]? = some y /\ R x y := by
 induction h with
 | nil => intro i x hx; simp at hx
 | cons h1 _ ih =>
  intro i x hx
  cases i with
  | zero => simp at hx; subst hx; exact ⟨_, rfl, h1⟩
  | succ i => simp at hx ⊢; exact ih i x hx
theorem of_get (hl : l.length = m.length) (h : ∀ (i : Nat) (x : α) (y : β), l[i]? = some x -> m[i]? = some y -> R x y) : aB R l m := by
 induction l generalizing m with
 | nil => cases m with
  | nil => exact .nil
  | cons _ _ => simp at hl
 | cons a l ih => cases m with
  | nil => simp at hl
  | cons b m =>
   refine .cons (h 0 a b rfl rfl) (ih (by simpa using hl) fun i x y hx hy => h (i + 1) x y (by simpa using hx) (by simpa using hy))
theorem append {l' : List α} {m' : List β} (h : aB R l m) (h' : aB R l' m') : aB R (l ++ l') (m ++ m') := by
 induction h with
 | nil => exact h'
 | cons h1 _ ih => exact .cons h1 ih
theorem take (h : aB R l m) : ∀ n, aB R (l.take n) (m.take n) := by
 induction h with
 | nil => intro n; simp; exact .nil
 | cons h1 _ ih => intro n; cases n with
  | zero => exact .nil
  | succ n => exact .cons h1 (ih n)
theorem drop (h : aB R l m) : ∀ n, aB R (l.drop n) (m.drop n) := by
 induction h with
 | nil => intro n; simp; exact .nil
 | cons h1 h2 ih => intro n; cases n with
  | zero => exact .cons h1 h2
  | succ n => exact ih n
theorem put (h : aB R l m) : ∀ (n : Nat) {x : α} {y : β}, R x y -> aB R (Rv.put l n x) (m.set n y) := by
 induction h with
 | nil => intro n x y _; cases n <;> exact .nil
 | cons h1 h2 ih => intro n x y hxy; cases n with
  | zero => exact .cons hxy h2
  | succ n => exact .cons h1 (ih n hxy)
theorem nth {d : α} {e : β} (hd : ∀ y, R d y) (h : aB R l m) : ∀ n, R (Rv.nth d l n) (m.getD n e) := by
 induction h with
 | nil => intro n; cases n <;> exact hd _
 | cons h1 _ ih => intro n; cases n with
  | zero => exact h1
  | succ n => simpa [Rv.nth] using ih n
theorem map_left {f : γ -> α} {l : List γ} (h : aB (fun x y => R (f x) y) l m) : aB R (l.map f) m := by
 induction h with
 | nil => exact .nil
 | cons h1 _ ih => exact .cons h1 ih
end aB

theorem jy {α : Type} {d : α} {l : List α} : ∀ {n : Nat}, n < l.length -> l[n]? = some (nth d l n) := by
 induction l with
 | nil => intro n h; simp at h
 | cons a l ih => intro n h; cases n with
  | zero => rfl
  | succ n => simpa [nth] using ih (by simpa using h)
theorem Ep {α : Type} {d x : α} {l : List α} : ∀ {n : Nat}, l[n]? = some x -> nth d l n = x := by
 induction l with
 | nil => intro n h; simp at h
 | cons a l ih => intro n h; cases n with
  | zero => simpa [nth] using h
  | succ n => simpa [nth] using ih (by simpa using h)
theorem cn {l : List Blk} : ∀ {n : Nat} {b : Blk}, nth .dead l n = b -> b ≠ .dead -> l[n]? = some b := by
 induction l with
 | nil => intro n b h hb; cases n <;> exact absurd h.symm hb
 | cons a l ih => intro n b h hb; cases n with
  | zero => simp [nth] at h; simp [h]
  | succ n => simp [nth] at h; simpa using ih h hb
theorem bS {α : Type} {l : List α} {x : α} : ∀ {n : Nat}, put l n x = l.set n x := by
 induction l with
 | nil => intro n; cases n <;> rfl
 | cons a l ih => intro n; cases n with
  | zero => rfl
  | succ n => simp [put, ih]

inductive Loc where
 | c (g : Nat)
 | r (v : Value)
 | m (h : Nat)
def Loc.blk : Loc -> Option Nat
 | .c g => some g
 | .r v => v.ownBlock
 | .m h => some h

variable {I : World -> Prop}
structure Cx (I : World -> Prop) where
 w0 : World
 pins : List Value
 gp : List Nat
 fz : Nat -> Prop
 ft : Nat -> Prop
 fw : World
 sub : ∀ k, fz k -> k < w0.heap.size /\ (∀ v ∈ pins, v.ownBlock ≠ some k) /\ k ∉ gp
 keep : ∀ w : World, (∀ k, k < w0.heap.size -> (∀ v ∈ pins, v.ownBlock ≠ some k) -> k ∉ gp -> w.heap[k]? = w0.heap[k]?) -> I w
def Cx.base (X : Cx I) : Nat := X.w0.heap.size
def Cx.old (X : Cx I) (k : Nat) : Prop := k < X.w0.heap.size /\ (∀ v ∈ X.pins, v.ownBlock ≠ some k) /\ k ∉ X.gp
def Cx.mine (X : Cx I) (k : Nat) : Prop := X.base <= k \/ (∃ v ∈ X.pins, v.ownBlock = some k) \/ k ∈ X.gp
theorem Cx.mine_old {X : Cx I} {k : Nat} (h : X.mine k) (ho : X.old k) : False := by
 rcases h with h | ⟨v, hv, h⟩ | h
 ·exact absurd ho.1 (Nat.not_lt.2 h)
 ·exact ho.2.1 v hv h
 ·exact ho.2.2 h
theorem Cx.old_or {X : Cx I} (k : Nat) : X.old k \/ X.mine k := by
 by_cases h1 : k < X.w0.heap.size
 ·by_cases h2 : ∃ v ∈ X.pins, v.ownBlock = some k
  ·exact .inr (.inr (.inl h2))
  ·by_cases h3 : k ∈ X.gp
   ·exact .inr (.inr (.inr h3))
   ·exact .inl ⟨h1, fun v hv e => h2 ⟨v, hv, e⟩, h3⟩
 ·exact .inr (.inl (Nat.not_lt.1 h1))
def Cx.grow (X : Cx I) (ft : Nat -> Prop) (fw : World) : Cx I := { X with ft := ft, fw := fw }
inductive Cx.Le (X : Cx I) : Cx I -> Prop
 | mk (ft : Nat -> Prop) (fw : World) (h1 : ∀ k, X.ft k -> ft k) (h2 : ∀ k, X.ft k -> fw.heap[k]? = X.fw.heap[k]?) (h3 : ∀ k, ft k -> X.ft k \/ X.mine k) : Le X (X.grow ft fw)
theorem Cx.Le.refl (X : Cx I) : X.Le X := .mk X.ft X.fw (fun _ h => h) (fun _ _ => rfl) (fun _ h => .inl h)
theorem Cx.Le.trans {X Y Z : Cx I} (h : X.Le Y) (k : Y.Le Z) : X.Le Z := by
 obtain ⟨ft, fw, a1, a2, a3⟩ := h
 obtain ⟨ft', fw', b1, b2, b3⟩ := k
 exact .mk ft' fw' (fun k h => b1 k (a1 k h)) (fun k h => (b2 k (a1 k h)).trans (a2 k h)) fun k h => by
  rcases b3 k h with h | h
  ·exact a3 k h
  ·exact .inr h
theorem Cx.Le.ft {X Y : Cx I} (h : X.Le Y) : ∀ k, X.ft k -> Y.ft k := by obtain ⟨ft, fw, a1, a2, a3⟩ := h; exact a1
theorem Cx.Le.fw {X Y : Cx I} (h : X.Le Y) : ∀ k, X.ft k -> Y.fw.heap[k]? = X.fw.heap[k]? := by obtain ⟨ft, fw, a1, a2, a3⟩ := h; exact a2

structure bx (X : Cx I) (w : World) : Prop where
 os : w.os = X.w0.os
 tape : w.tape = X.w0.tape
 output : w.output = X.w0.output
 size : X.w0.heap.size <= w.heap.size
 block : ∀ k, X.old k -> w.heap[k]? = X.w0.heap[k]?

theorem bx.cell {X : Cx I} {w : World} (h : bx X w) {p : Addr} (hp : X.old p.block) : w.cell? p = X.w0.cell? p := amS (h.block _ hp)
theorem bx.later {X : Cx I} {w w' : World} (h : bx X w) (hb : RowKit.Below w.heap.size w w') : bx X w' :=
 ⟨hb.os.trans h.os, hb.tape.trans h.tape, hb.output.trans h.output, akz h.size hb.size, fun k hk => (hb.block k (aka hk.1 h.size)).trans (h.block k hk)⟩
def Cx.call (X : Cx I) (w : World) (h : bx X w) : Cx I :=
 ⟨w, [], [], fun k => k < w.heap.size, X.ft, X.fw, fun k hk => ⟨hk, (fun v hv => by simp at hv), (by simp)⟩,
  fun w' hw' => X.keep w' fun k h1 h2 h3 => (hw' k (aka h1 h.size) (fun v hv => by simp at hv) (by simp)).trans (h.block k ⟨h1, h2, h3⟩)⟩
def Cx.triv (w : World) : Cx (fun _ => True) := ⟨w, [], [], fun _ => False, fun _ => False, w, fun _ h => h.elim, fun _ _ => trivial⟩
structure cD (X : Cx I) : Prop where
 pins : X.pins = []
 gp : X.gp = []
 fz : ∀ k, k < X.w0.heap.size -> X.fz k
 frz : ∀ k, X.ft k -> k < X.w0.heap.size /\ X.w0.heap[k]? = X.fw.heap[k]?
theorem cD.old {X : Cx I} (h : cD X) {k : Nat} (hk : k < X.w0.heap.size) : X.old k := ⟨hk, fun v hv => by rw [h.pins] at hv; simp at hv, by rw [h.gp]; simp⟩
theorem bx.plain {X : Cx I} {w : World} (h : bx X w) (hX : cD X) : RowKit.Below X.w0.heap.size X.w0 w := ⟨h.os, h.tape, h.output, h.size, fun k hk => h.block k (hX.old hk)⟩
theorem bx.inv {X : Cx I} {w : World} (h : bx X w) : I w := X.keep w fun k h1 h2 h3 => h.block k ⟨h1, h2, h3⟩
theorem bx.of {X : Cx I} {w : World} (h : RowKit.Below X.w0.heap.size X.w0 w) : bx X w := ⟨h.os, h.tape, h.output, h.size, fun k hk => h.block k hk.1⟩

def oN (S : Nat -> Prop) (wf : World) (t : TypeId) (sz n : Nat) (v : Value) : Prop := ∃ xs, wf.ownsRow 0 t sz v n xs /\ ∀ g, v.ownBlock = some g -> S g
def ej (S : Nat -> Prop) (wf : World) (e : TypeId) (l : List Int) (v : Value) : Prop :=
 oN S wf e 1 l.length v /\ ∃ A n c, v = .slice A n c /\ n = l.length /\ n <= c /\ ∀ m u, (l.map (Value.int .i64))[m]? = some u -> ∃ a, A = some a /\ S a.block /\ wf.cell? (a.add m) = some u
def _root_.Go.Rv.Row.cellsIn (S : Nat -> Prop) (wf : World) : Row -> List Value -> Prop
 | .lists e l, xs => aB (ej S wf e) l xs
 | r, xs => xs = r.cells
def bf (S : Nat -> Prop) (wf : World) (r : Row) (v : Value) : Prop :=
 ∃ A n c, v = .slice A n c /\ n = r.len /\ n <= c /\ ∃ xs, r.cellsIn S wf xs /\ ∀ m u, xs[m]? = some u -> ∃ a, A = some a /\ S a.block /\ wf.cell? (a.add m) = some u
abbrev dL (X : Cx I) (r : Row) (v : Value) : Prop := bf X.fz X.w0 r v
abbrev fT (X : Cx I) (r : Row) (v : Value) : Prop := bf X.ft X.fw r v
def cF (S : Nat -> Prop) (wf : World) (two : Bool) : Tr -> Value -> Prop
 | .nil, v => v = .pointer none
 | .node a b l r, v => ∃ g cs t z vl vr, v = .pointer (some ⟨g, 0, none⟩) /\ S g /\ wf.heap[g]? = some (.cells cs t z) /\ cs.toList = cond two [.int .u8 a, .int .i64 b, vl, vr] [.int .u8 a, vl, vr] /\
   cF S wf two l vl /\ cF S wf two r vr

section
variable {S S' : Nat -> Prop} {wf wf' : World}
theorem bL (a : Addr) (m : Nat) : (a.add m).block = a.block := by
 unfold Addr.add
 split <;> rfl
theorem eU (hS : ∀ k, S k -> S' k) (hw : ∀ k, S k -> wf'.heap[k]? = wf.heap[k]?) {a : Addr} {m : Nat} {u : Value} (h : S a.block /\ wf.cell? (a.add m) = some u) : S' a.block /\ wf'.cell? (a.add m) = some u :=
 ⟨hS _ h.1, by rw [amS (w := wf) (by rw [bL]; exact hw _ h.1)]; exact h.2⟩
theorem oN.mono (hS : ∀ k, S k -> S' k) (hw : ∀ k, S k -> wf'.heap[k]? = wf.heap[k]?) {t : TypeId} {sz n : Nat} {v : Value} (h : oN S wf t sz n v) : oN S' wf' t sz n v := by
 obtain ⟨xs, ⟨h1, h2⟩, h3⟩ := h
 refine ⟨xs, ⟨h1, ?_⟩, fun g hg => hS g (h3 g hg)⟩
 rcases h2 with h2 | ⟨g, cap, cur, h4, h5, h6, h7⟩
 ·exact .inl h2
 ·exact .inr ⟨g, cap, cur, h4, h5, by rw [hw g (h3 g (by rw [h4]; rfl))]; exact h6, h7⟩
theorem ej.mono (hS : ∀ k, S k -> S' k) (hw : ∀ k, S k -> wf'.heap[k]? = wf.heap[k]?) {e : TypeId} {l : List Int} {v : Value} (h : ej S wf e l v) : ej S' wf' e l v := by
 obtain ⟨h0, A, n, c, h1, h2, h3, h4⟩ := h
 exact ⟨h0.mono hS hw, A, n, c, h1, h2, h3, fun m u hm => by obtain ⟨a, ha, h5⟩ := h4 m u hm; exact ⟨a, ha, eU hS hw h5⟩⟩
theorem cellsIn.mono (hS : ∀ k, S k -> S' k) (hw : ∀ k, S k -> wf'.heap[k]? = wf.heap[k]?) {r : Row} {xs : List Value} (h : r.cellsIn S wf xs) : r.cellsIn S' wf' xs := by
 cases r <;> try exact h
 exact aB.mono (fun _ _ h => h.mono hS hw) h
theorem bf.mono (hS : ∀ k, S k -> S' k) (hw : ∀ k, S k -> wf'.heap[k]? = wf.heap[k]?) {r : Row} {v : Value} (h : bf S wf r v) : bf S' wf' r v := by
 obtain ⟨A, n, c, h1, h2, h3, xs, h5, h4⟩ := h
 exact ⟨A, n, c, h1, h2, h3, xs, cellsIn.mono hS hw h5, fun m u hm => by obtain ⟨a, ha, h5⟩ := h4 m u hm; exact ⟨a, ha, eU hS hw h5⟩⟩
theorem cF.mono (hS : ∀ k, S k -> S' k) (hw : ∀ k, S k -> wf'.heap[k]? = wf.heap[k]?) {two : Bool} : ∀ {T : Tr} {v : Value}, cF S wf two T v -> cF S' wf' two T v
 | .nil, _, h => h
 | .node _ _ _ _, _, ⟨g, cs, t, z, vl, vr, h1, h2, h3, h4, h5, h6⟩ => ⟨g, cs, t, z, vl, vr, h1, hS g h2, by rw [hw g h2]; exact h3, h4, cF.mono hS hw h5, cF.mono hS hw h6⟩
end

def km (S : Nat -> Prop) (wf : World) : SV -> Value -> Prop
 | .int k n, v => v = .int k n
 | .bool b, v => v = .bool b
 | .str s, v => v = .string s
 | .fsl e (.ints .i64 l), v => ej S wf e l v
 | _, _ => False

def nT : SV -> Value
 | .int k n => .int k n
 | .bool b => .bool b
 | .str s => .string s
 | _ => undef

def f5 (X : Cx I) : FSf -> Value -> Prop
 | .int k n, v => v = .int k n
 | .bool b, v => v = .bool b
 | .str s, v => v = .string s
 | .sl _ r, v => dL X r v
 | .fn f, v => v = .func (.func f) #[] #[]
 | .tr two T, v => cF X.ft X.fw two T v
 | .no, _ => True
def dZ (X : Cx I) (l : List FSf) (off : Nat) (v : Value) : Prop :=
 ∃ a : Addr, v = .pointer (some a) /\ X.fz a.block /\ ∀ m f, l[off + m]? = some f -> ∃ u, X.w0.cell? (a.add m) = some u /\ f5 X f u
def iJ (X : Cx I) : FS -> Value -> Prop
 | .int k n, v => v = .int k n
 | .bool b, v => v = .bool b
 | .str s, v => v = .string s
 | .sl _ r, v => dL X r v
 | .fn f, v => v = .func (.func f) #[] #[]
 | .tr two T, v => cF X.ft X.fw two T v
 | .no, _ => True
 | .ptr l off, v => dZ X l off v

def dw (X : Cx I) (l : List FS) (off : Nat) (v : Value) : Prop :=
 ∃ a : Addr, v = .pointer (some a) /\ X.fz a.block /\ ∀ m f, l[off + m]? = some f -> ∃ u, X.w0.cell? (a.add m) = some u /\ iJ X f u

def dC (lc : List Loc) (c : Nat × Nat) (v : Value) : Prop := ∃ g, lc[c.1]? = some (.c g) /\ v = .pointer (some ⟨g, c.2, none⟩)

def aD (X : Cx I) (lc : List Loc) : SV -> Value -> Prop
 | .int k n, v => v = .int k n
 | .bool b, v => v = .bool b
 | .str s, v => v = .string s
 | .ptr j off, v => ∃ g, lc[j]? = some (.c g) /\ v = .pointer (some ⟨g, off, none⟩)
 | .row j, v => lc[j]? = some (.r v) /\ ∃ A n c, v = .slice A n c
 | .sl _ r, v => dL X r v
 | .elt j z i off, v => ∃ g n c, lc[j]? = some (.r (.slice (some ⟨g, 0, none⟩) n c)) /\ 0 <= i /\ i < (n : Int) /\ v = .pointer (some ⟨g, i.toNat * z + off, none⟩)
 | .ref r i off, v => 0 <= i /\ i < (r.len : Int) /\ ∃ a : Addr, v = .pointer (some a) /\ X.fz a.block /\ ∀ m s, (r.at_ i)[off + m]? = some s -> ∃ u, X.w0.cell? (a.add m) = some u /\ km X.fz X.w0 s u
 | .fn f caps, v => ∃ vs, v = .func (.func f) #[] vs /\ aB (dC lc) caps vs.toList
 | .cref l off, v => dw X l off v
 | .dfn f caps, v => ∃ vs, v = .func (.func f) #[] vs /\ aB (fun c u => dw X c.1 c.2 u) caps vs.toList
 | .mp j, v => ∃ h, lc[j]? = some (.m h) /\ v = .map (some h)
 | .nilp, v => v = .pointer none
 | .nilm, v => v = .map none
 | .nilf, v => v = .nilFunc
 | .bfn f l, v => ∃ cs, v = .func (.func f) #[.agg cs] #[] /\ aB (iJ X) l cs.toList
 | .suf j i, v => ∃ g n c, lc[j]? = some (.r (.slice (some ⟨g, 0, none⟩) n c)) /\ 0 <= i /\ i < (n : Int) /\ ∃ c', v = .slice (some ⟨g, i.toNat, none⟩) (n - i.toNat) c'
 | .no, v => v = undef
 | .und, _ => True
 | .fpt r, v => fT X r v
 | .fsl t r, v => fT X r v /\ oN X.ft X.fw t r.sz r.len v
 | .fref r i off, v => 0 <= i /\ i < (r.len : Int) /\ ∃ a : Addr, v = .pointer (some a) /\ X.ft a.block /\ ∀ m s, (r.at_ i)[off + m]? = some s -> ∃ u, X.fw.cell? (a.add m) = some u /\ km X.ft X.fw s u
 | .tr two T, v => cF X.ft X.fw two T v
 | .tra two T off, v => ∃ g, v = .pointer (some ⟨g, off, none⟩) /\ cF X.ft X.fw two T (.pointer (some ⟨g, 0, none⟩))

def a7 (X : Cx I) (lc : List Loc) : AV -> Value -> Prop
 | .one s, v => aD X lc s v
 | .agg l, v => ∃ cs, v = .agg cs /\ aB (aD X lc) l cs.toList

def aC (X : Cx I) (lc : List Loc) : TV -> Value -> Prop
 | .v x, v => a7 X lc x v
 | .tup l, v => ∃ vs, v = .tuple vs /\ aB (a7 X lc) l vs.toList

theorem dA {lc : List Loc} {j : Nat} {ℓ : Loc} (m : List Loc) (h : lc[j]? = some ℓ) : (lc ++ m)[j]? = some ℓ := by
 have : j < lc.length := by
  rcases akg j lc.length with h' | h'
  ·exact h'
  ·simp [amG h'] at h
 rw [amB this]; exact h

theorem aD.more {X : Cx I} {lc : List Loc} {s : SV} {v : Value} (m : List Loc) (h : aD X lc s v) : aD X (lc ++ m) s v := by
 cases s <;> simp only [aD] at h ⊢ <;> try exact h
 ·obtain ⟨g, h1, h2⟩ := h; exact ⟨g, dA m h1, h2⟩
 ·exact ⟨dA m h.1, h.2⟩
 ·obtain ⟨g, n, c, h1, h2⟩ := h; exact ⟨g, n, c, dA m h1, h2⟩
 ·obtain ⟨vs, h1, h2⟩ := h; exact ⟨vs, h1, h2.mono fun _ _ h => by obtain ⟨g, h3, h4⟩ := h; exact ⟨g, dA m h3, h4⟩⟩
 ·obtain ⟨g, h1, h2⟩ := h; exact ⟨g, dA m h1, h2⟩
 ·obtain ⟨g, n, c, h1, h2⟩ := h; exact ⟨g, n, c, dA m h1, h2⟩
theorem a7.more {X : Cx I} {lc : List Loc} {s : AV} {v : Value} (m : List Loc) (h : a7 X lc s v) : a7 X (lc ++ m) s v := by
 cases s with
 | one s => exact aD.more m h
 | agg l => obtain ⟨cs, h1, h2⟩ := h; exact ⟨cs, h1, h2.mono fun _ _ h => aD.more m h⟩
theorem aC.more {X : Cx I} {lc : List Loc} {s : TV} {v : Value} (m : List Loc) (h : aC X lc s v) : aC X (lc ++ m) s v := by
 cases s with
 | v s => exact a7.more m h
 | tup l => obtain ⟨cs, h1, h2⟩ := h; exact ⟨cs, h1, h2.mono fun _ _ h => a7.more m h⟩
theorem CB {X : Cx I} {lc : List Loc} (v : Value) : aC X lc ac v := trivial

theorem jC {X : Cx I} {lc : List Loc} {s : SV} (hp : bO s = true) {v : Value} : aD X lc s v ↔ v = nT s := by
 cases s <;> simp [bO] at hp <;> simp [aD, nT]

def Blk.on : Blk -> Bool
 | .dead => false
 | _ => true

def c7 (kd : MK) (p : Int × Int) : Value := cond kd.two (.agg #[.int .i64 p.1, .int .i64 p.2]) (.int .i64 p.1)
def eL (kd : MK) (n : Int) : Value := cond kd.bool (.bool (n == 1)) (.int .i64 n)
def xt (w : World) (h : Nat) (kd : MK) (l : Mp) : Prop :=
 ∃ es clock, w.heap[h]? = some (.map es clock) /\ aB (fun p e => e.key = c7 kd p.1 /\ e.val = eL kd p.2) l es.toList

def _root_.Go.World.readRow (w : World) (base : Nat) (e : TypeId) (size : Nat) (v : Value) (n : Nat) (xs : List Value) : Prop :=
  xs.length = n * size /\
  ((v = .slice none 0 0 /\ n = 0) \/
   ∃ g cap cur fz, v = .slice (some ⟨g, 0, none⟩) n cap /\ base <= g /\ w.heap[g]? = some (.cells cur e fz) /\ cur.toList.take (n * size) = xs)
theorem ED {w : World} {base : Nat} {e : TypeId} {size : Nat} {v : Value} {n : Nat} {xs : List Value} (h : w.ownsRow base e size v n xs) : w.readRow base e size v n xs := by
 refine ⟨h.1, ?_⟩
 rcases h.2 with hn | ⟨g, cap, cur, h1, h2, h3, _, _, _, h4⟩
 ·exact .inl hn
 ·exact .inr ⟨g, cap, cur, (0, 0), h1, h2, h3, h4⟩
def dh (X : Cx I) (lc : List Loc) (w : World) : Blk -> Loc -> Prop
 | .cells t l, .c g => X.base <= g /\ ∃ cs, w.heap[g]? = some (.cells cs t (0, 0)) /\ aB (aD X lc) l cs.toList
 | .row t r, .r v => (∀ g, v.ownBlock = some g -> X.mine g) /\ ∃ xs, r.cellsIn X.ft X.fw xs /\ w.ownsRow 0 t r.sz v r.len xs
 | .prow k t r, .r v => X.pins[k]? = some v /\ ∃ xs, r.cellsIn X.ft X.fw xs /\ w.ownsRow 0 t r.sz v r.len xs
 | .mp kd l, .m h => X.base <= h /\ xt w h kd l
 | .pcells k t l, .c g => X.gp[k]? = some g /\ ∃ cs, w.heap[g]? = some (.cells cs t (0, 0)) /\ aB (aD X lc) l cs.toList
 | .pmp k kd l, .m h => X.gp[k]? = some h /\ xt w h kd l
 | .dead, _ => True
 | .srow t r, .r v => (∀ g, v.ownBlock = some g -> X.mine g) /\ ∃ xs, r.cellsIn X.ft X.fw xs /\ w.readRow 0 t r.sz v r.len xs
 | _, _ => False

theorem dh.more {X : Cx I} {lc : List Loc} {w : World} {b : Blk} {ℓ : Loc} (m : List Loc) (h : dh X lc w b ℓ) : dh X (lc ++ m) w b ℓ := by
 cases b <;> cases ℓ <;> simp only [dh] at h ⊢ <;> try exact h
 ·obtain ⟨h1, cs, h2, h3⟩ := h
  exact ⟨h1, cs, h2, h3.mono fun _ _ h => aD.more m h⟩
 ·obtain ⟨h1, cs, h2, h3⟩ := h
  exact ⟨h1, cs, h2, h3.mono fun _ _ h => aD.more m h⟩

structure aK (X : Cx I) (bl : List Blk) (w : World) (lc : List Loc) : Prop where
 len : lc.length = bl.length
 blks : ∀ (j : Nat) b ℓ, bl[j]? = some b -> lc[j]? = some ℓ -> dh X lc w b ℓ
 apart : ∀ (i j : Nat) bi bj li lj g, i ≠ j -> bl[i]? = some bi -> bl[j]? = some bj -> bi.on = true -> bj.on = true -> lc[i]? = some li -> lc[j]? = some lj -> li.blk = some g -> lj.blk ≠ some g
 below : bx X w
 frz : ∀ k, X.ft k -> k < w.heap.size /\ w.heap[k]? = X.fw.heap[k]?
 frn : ∀ (j : Nat) b ℓ g, bl[j]? = some b -> b.on = true -> lc[j]? = some ℓ -> ℓ.blk = some g -> ¬ X.ft g

structure Rel (X : Cx I) (s : St) (a : Act) (w : World) (lc : List Loc) : Prop where
 tmps : aB (aC X lc) s.tmps a.tmps.toList
 world : aK X s.blks w lc
 defers : a.defers = []

theorem aK.base_le {X : Cx I} {bl : List Blk} {w : World} {lc : List Loc} (h : aK X bl w lc) : X.base <= w.heap.size := h.below.size
theorem aK.empty {X : Cx I} (h : cD X) : aK X [] X.w0 [] :=
 ⟨rfl, fun j b ℓ hj => by simp at hj, fun i j bi bj li lj g _ hi => by simp at hi, ⟨rfl, rfl, rfl, aj8 _, fun _ _ => rfl⟩, h.frz, fun j b ℓ g hj => by simp at hj⟩

theorem f5.grow {X Y : Cx I} (h : X.Le Y) {f : FSf} {v : Value} (hr : f5 X f v) : f5 Y f v := by
 have h1 := h.ft; have h2 := h.fw
 obtain ⟨ft, fw, a1, a2, a3⟩ := h
 cases f <;> try exact hr
 exact cF.mono h1 h2 hr
theorem dZ.grow {X Y : Cx I} (h : X.Le Y) {l : List FSf} {off : Nat} {v : Value} (hr : dZ X l off v) : dZ Y l off v := by
 obtain ⟨a, h1, h2, h3⟩ := hr
 have hg := fun f u (h' : f5 X f u) => f5.grow h h'
 obtain ⟨ft, fw, a1, a2, a3⟩ := h
 exact ⟨a, h1, h2, fun m f hm => by obtain ⟨u, hu, hr⟩ := h3 m f hm; exact ⟨u, hu, hg _ _ hr⟩⟩
theorem iJ.grow {X Y : Cx I} (h : X.Le Y) {f : FS} {v : Value} (hr : iJ X f v) : iJ Y f v := by
 have h1 := h.ft; have h2 := h.fw
 cases f with
 | tr two T => exact cF.mono h1 h2 hr
 | ptr l off => exact dZ.grow h hr
 | _ =>
  obtain ⟨ft, fw, a1, a2, a3⟩ := h
  exact hr
theorem dw.grow {X Y : Cx I} (h : X.Le Y) {l : List FS} {off : Nat} {v : Value} (hr : dw X l off v) : dw Y l off v := by
 obtain ⟨a, h1, h2, h3⟩ := hr
 have hg := fun f u (h' : iJ X f u) => iJ.grow h h'
 obtain ⟨ft, fw, a1, a2, a3⟩ := h
 exact ⟨a, h1, h2, fun m f hm => by obtain ⟨u, hu, hr⟩ := h3 m f hm; exact ⟨u, hu, hg _ _ hr⟩⟩
theorem km.mono {S S' : Nat -> Prop} {wf wf' : World} (hS : ∀ k, S k -> S' k) (hw : ∀ k, S k -> wf'.heap[k]? = wf.heap[k]?) {s : SV} {v : Value} (h : km S wf s v) : km S' wf' s v := by
 unfold km at h ⊢
 split at h <;> try exact h
 exact ej.mono hS hw h
theorem aD.grow {X Y : Cx I} (h : X.Le Y) {lc : List Loc} {s : SV} {v : Value} (hr : aD X lc s v) : aD Y lc s v := by
 have h1 := h.ft; have h2 := h.fw
 have hg := fun l off u (h' : dw X l off u) => dw.grow h h'
 have hF := fun f u (h' : iJ X f u) => iJ.grow h h'
 obtain ⟨ft, fw, a1, a2, a3⟩ := h
 cases s with
 | bfn f l => obtain ⟨cs, k1, k2⟩ := hr; exact ⟨cs, k1, k2.mono hF⟩
 | cref l off => exact hg _ _ _ hr
 | dfn f caps => obtain ⟨vs, k1, k2⟩ := hr; exact ⟨vs, k1, k2.mono fun _ _ h => hg _ _ _ h⟩
 | fsl t r => exact ⟨bf.mono h1 h2 hr.1, hr.2.mono h1 h2⟩
 | fpt r => exact bf.mono h1 h2 hr
 | fref r i off =>
  obtain ⟨k1, k2, a, k3, k4, k5⟩ := hr
  refine ⟨k1, k2, a, k3, h1 _ k4, fun m s hm => ?_⟩
  obtain ⟨u, k6, k7⟩ := k5 m s hm
  exact ⟨u, (eU h1 h2 ⟨k4, k6⟩).2, k7.mono h1 h2⟩
 | tr two T => exact cF.mono h1 h2 hr
 | tra two T off => obtain ⟨g, k1, k2⟩ := hr; exact ⟨g, k1, cF.mono h1 h2 k2⟩
 | _ => exact hr
theorem a7.grow {X Y : Cx I} (h : X.Le Y) {lc : List Loc} {s : AV} {v : Value} (hr : a7 X lc s v) : a7 Y lc s v := by
 cases s with
 | one s => exact aD.grow h hr
 | agg l => obtain ⟨cs, h1, h2⟩ := hr; exact ⟨cs, h1, h2.mono fun _ _ h' => aD.grow h h'⟩
theorem aC.grow {X Y : Cx I} (h : X.Le Y) {lc : List Loc} {s : TV} {v : Value} (hr : aC X lc s v) : aC Y lc s v := by
 cases s with
 | v s => exact a7.grow h hr
 | tup l => obtain ⟨cs, h1, h2⟩ := hr; exact ⟨cs, h1, h2.mono fun _ _ h' => a7.grow h h'⟩
theorem dh.grow {X Y : Cx I} (h : X.Le Y) {lc : List Loc} {w : World} {b : Blk} {ℓ : Loc} (hr : dh X lc w b ℓ) : dh Y lc w b ℓ := by
 have h1 := h.ft; have h2 := h.fw
 have hg := fun s u (h' : aD X lc s u) => aD.grow h h'
 obtain ⟨ft, fw, a1, a2, a3⟩ := h
 cases b <;> cases ℓ <;> try exact hr
 ·obtain ⟨k1, cs, k2, k3⟩ := hr; exact ⟨k1, cs, k2, k3.mono hg⟩
 ·obtain ⟨k1, xs, k2, k3⟩ := hr; exact ⟨k1, xs, cellsIn.mono h1 h2 k2, k3⟩
 ·obtain ⟨k1, xs, k2, k3⟩ := hr; exact ⟨k1, xs, cellsIn.mono h1 h2 k2, k3⟩
 ·obtain ⟨k1, cs, k2, k3⟩ := hr; exact ⟨k1, cs, k2, k3.mono hg⟩
 ·obtain ⟨k1, xs, k2, k3⟩ := hr; exact ⟨k1, xs, cellsIn.mono h1 h2 k2, k3⟩
theorem bx.grow {X Y : Cx I} (h : X.Le Y) {w : World} (hr : bx X w) : bx Y w := by
 obtain ⟨ft, fw, a1, a2, a3⟩ := h
 exact ⟨hr.os, hr.tape, hr.output, hr.size, hr.block⟩
theorem bx.shrink {X Y : Cx I} (h : X.Le Y) {w : World} (hr : bx Y w) : bx X w := by
 obtain ⟨ft, fw, a1, a2, a3⟩ := h
 exact ⟨hr.os, hr.tape, hr.output, hr.size, hr.block⟩
theorem aK.grow {X Y : Cx I} (h : X.Le Y) {bl : List Blk} {w : World} {lc : List Loc} (hW : aK X bl w lc) (hz : ∀ k, Y.ft k -> k < w.heap.size /\ w.heap[k]? = Y.fw.heap[k]?)
  (hn : ∀ (j : Nat) b ℓ g, bl[j]? = some b -> b.on = true -> lc[j]? = some ℓ -> ℓ.blk = some g -> ¬ Y.ft g) : aK Y bl w lc :=
 ⟨hW.len, fun j b ℓ hj hl => (hW.blks j b ℓ hj hl).grow h, hW.apart, hW.below.grow h, hz, hn⟩

theorem Loc.lt {X : Cx I} {lc : List Loc} {w : World} {b : Blk} {ℓ : Loc} {g : Nat} (h : dh X lc w b ℓ) (hon : b.on = true) (hg : ℓ.blk = some g) : X.mine g /\ g < w.heap.size := by
 cases b <;> cases ℓ <;> simp only [dh, Blk.on, akN] at h hon
 ·obtain ⟨h1, cs, h2, _⟩ := h
  simp [Loc.blk] at hg; subst hg
  exact ⟨.inl h1, (amy.1 h2).1⟩
 ·obtain ⟨h1, xs, _, h2⟩ := h
  exact ⟨h1 g hg, (h2.lt g hg).2⟩
 ·obtain ⟨h1, xs, _, h2⟩ := h
  exact ⟨.inr (.inl ⟨_, amP h1, hg⟩), (h2.lt g hg).2⟩
 ·obtain ⟨h1, es, ck, h2, _⟩ := h
  simp [Loc.blk] at hg; subst hg
  exact ⟨.inl h1, (amy.1 h2).1⟩
 ·obtain ⟨h1, cs, h2, _⟩ := h
  simp [Loc.blk] at hg; subst hg
  exact ⟨.inr (.inr (amP h1)), (amy.1 h2).1⟩
 ·obtain ⟨h1, es, ck, h2, _⟩ := h
  simp [Loc.blk] at hg; subst hg
  exact ⟨.inr (.inr (amP h1)), (amy.1 h2).1⟩
 ·obtain ⟨h1, xs, _, h⟩ := h
  refine ⟨h1 g hg, ?_⟩
  rcases h.2 with ⟨rfl, _⟩ | ⟨g', cap, cur, fz, rfl, hb, hgg, _⟩
  ·cases hg
  ·simp [Loc.blk, Value.ownBlock] at hg; subst hg
   exact (amy.1 hgg).1

theorem pp {base : Nat} {e : TypeId} {size : Nat} {v : Value} {n : Nat} {xs : List Value} {w w' : World} (h : w.ownsRow base e size v n xs) (hk : ∀ g, v.ownBlock = some g -> w'.heap[g]? = w.heap[g]?) : w'.ownsRow base e size v n xs := by
 refine ⟨h.1, ?_⟩
 rcases h.2 with hn | ⟨g, cap, cur, rfl, hb, hgg, rest⟩
 ·exact .inl hn
 ·exact .inr ⟨g, cap, cur, rfl, hb, (hk g rfl).trans hgg, rest⟩
theorem dh.kept {X : Cx I} {lc : List Loc} {w w' : World} {b : Blk} {ℓ : Loc} (h : dh X lc w b ℓ) (hk : ∀ g, b.on = true -> ℓ.blk = some g -> w'.heap[g]? = w.heap[g]?) : dh X lc w' b ℓ := by
 cases b <;> cases ℓ <;> simp only [dh] at h ⊢ <;> try exact h
 ·obtain ⟨h1, cs, h2, h3⟩ := h
  exact ⟨h1, cs, (hk _ rfl rfl).trans h2, h3⟩
 ·obtain ⟨h1, xs, h2, h3⟩ := h
  exact ⟨h1, xs, h2, pp h3 fun g hg => hk g rfl hg⟩
 ·obtain ⟨h1, xs, h2, h3⟩ := h
  exact ⟨h1, xs, h2, pp h3 fun g hg => hk g rfl hg⟩
 ·obtain ⟨h1, es, ck, h2, h3⟩ := h
  exact ⟨h1, es, ck, (hk _ rfl rfl).trans h2, h3⟩
 ·obtain ⟨h1, cs, h2, h3⟩ := h
  exact ⟨h1, cs, (hk _ rfl rfl).trans h2, h3⟩
 ·obtain ⟨h1, es, ck, h2, h3⟩ := h
  exact ⟨h1, es, ck, (hk _ rfl rfl).trans h2, h3⟩
 ·obtain ⟨h0, xs, h1, h⟩ := h
  refine ⟨h0, xs, h1, h.1, ?_⟩
  rcases h.2 with hn | ⟨g, cap, cur, fz, rfl, hb, hgg, rest⟩
  ·exact .inl hn
  ·exact .inr ⟨g, cap, cur, fz, rfl, hb, (hk g rfl rfl).trans hgg, rest⟩

theorem aK.later {X : Cx I} {bl : List Blk} {w w' : World} {lc : List Loc} (h : aK X bl w lc) (hb : RowKit.Below w.heap.size w w') : aK X bl w' lc :=
 ⟨h.len, fun j b ℓ hj hl => (h.blks j b ℓ hj hl).kept fun g hon hg => hb.block g (Loc.lt (h.blks j b ℓ hj hl) hon hg).2, h.apart, h.below.later hb,
  fun k hk => ⟨aka (h.frz k hk).1 hb.size, (hb.block k (h.frz k hk).1).trans (h.frz k hk).2⟩, h.frn⟩

theorem aK.add {X : Cx I} {bl : List Blk} {w : World} {lc : List Loc} {b : Blk} {ℓ : Loc} (h : aK X bl w lc) (hr : dh X (lc ++ [ℓ]) w b ℓ)
  (hg : ∀ g, ℓ.blk = some g -> ∀ (i : Nat) bi li, bl[i]? = some bi -> bi.on = true -> lc[i]? = some li -> li.blk ≠ some g) (hn : ∀ g, b.on = true -> ℓ.blk = some g -> ¬ X.ft g) : aK X (bl ++ [b]) w (lc ++ [ℓ]) := by
 have len := h.len
 refine ⟨by simp [len], fun j b1 l1 hj hl => ?_, fun i j bi bj li lj g hij hi hj oni onj hli hlj hgi hgj => ?_, h.below, h.frz, fun j b1 l1 g hj on1 hl hg1 => ?_⟩
 ·rcases akg j bl.length with hlt | hge
  ·rw [amB hlt] at hj
   rw [amB (by rw [len]; exact hlt)] at hl
   exact (h.blks j b1 l1 hj hl).more _
  ·have : j = bl.length := by
    have := (amH.1 hj).1
    simp at this; omega
   subst this
   simp at hj
   rw [<- len] at hl; simp at hl
   subst hj; subst hl; exact hr
 ·have hi' := (amH.1 hi).1
  have hj' := (amH.1 hj).1
  simp at hi' hj'
  rcases akg i bl.length with hlt | hge <;> rcases akg j bl.length with hlt2 | hge2
  ·rw [amB hlt] at hi
   rw [amB hlt2] at hj
   rw [amB (by omega)] at hli hlj
   exact h.apart i j bi bj li lj g hij hi hj oni onj hli hlj hgi hgj
  ·have : j = lc.length := by omega
   subst this
   rw [amB hlt] at hi
   rw [amB (by omega)] at hli
   simp at hlj; subst hlj
   exact hg g hgj i bi li hi oni hli hgi
  ·have : i = lc.length := by omega
   subst this
   rw [amB hlt2] at hj
   rw [amB (by omega)] at hlj
   simp at hli; subst hli
   exact hg g hgi j bj lj hj onj hlj hgj
  ·omega
 ·rcases akg j bl.length with hlt | hge
  ·rw [amB hlt] at hj
   rw [amB (by rw [len]; exact hlt)] at hl
   exact h.frn j b1 l1 g hj on1 hl hg1
  ·have : j = bl.length := by
    have := (amH.1 hj).1
    simp at this; omega
   subst this
   simp at hj
   rw [<- len] at hl; simp at hl
   subst hj; subst hl
   exact hn g on1 hg1

theorem aK.push {X : Cx I} {bl : List Blk} {w w' : World} {lc : List Loc} {b : Blk} {ℓ : Loc} (h : aK X bl w lc) (hb : RowKit.Below w.heap.size w w') (hr : dh X (lc ++ [ℓ]) w' b ℓ)
  (hg : ∀ g, ℓ.blk = some g -> w.heap.size <= g) : aK X (bl ++ [b]) w' (lc ++ [ℓ]) := by
 refine (h.later hb).add hr (fun g hgg i bi li hi oni hli hgi => ?_) fun g _ hgg hf => ?_
 ·have h1 := (Loc.lt (h.blks i bi li hi hli) oni hgi).2
  have h2 := hg g hgg
  omega
 ·have h1 := (h.frz g hf).1
  have h2 := hg g hgg
  omega

theorem aK.turn {X : Cx I} {bl : List Blk} {w w' : World} {lc : List Loc} {b b' : Blk} {ℓ : Loc} {j : Nat} (h : aK X bl w lc) (hj : bl[j]? = some b) (hl : lc[j]? = some ℓ) (hon : b.on = true)
  (hg : w.grownBy w' ℓ.blk) (hr : dh X lc w' b' ℓ) : aK X (put bl j b') w' lc := by
 have hjl : j < bl.length := (amH.1 hj).1
 have hset : ∀ k, k ≠ j -> (put bl j b')[k]? = bl[k]? := fun k hk => by rw [bS, amK (Ne.symm hk)]
 have hself : (put bl j b')[j]? = some b' := by rw [bS, amL hjl]
 refine ⟨by rw [bS, akA]; exact h.len, fun k b1 l1 hk hl1 => ?_, fun i k bi bk li lk g hik hi hk oni onk hli hlk hgi hgk => ?_, ?_, fun k hk => ?_, fun k b1 l1 g hk on1 hl1 hg1 => ?_⟩
 ·by_cases hkj : k = j
  ·subst hkj
   rw [hself] at hk; rw [hl] at hl1
   cases hk; cases hl1; exact hr
  ·rw [hset k hkj] at hk
   refine (h.blks k b1 l1 hk hl1).kept fun g on1 hg1 => hg.block g (Loc.lt (h.blks k b1 l1 hk hl1) on1 hg1).2 ?_
   exact fun e => h.apart k j b1 b l1 ℓ g hkj hk hj on1 hon hl1 hl hg1 e.symm
 ·by_cases hij : i = j
  ·subst hij
   rw [hset k (Ne.symm hik)] at hk
   rw [hl] at hli; cases hli
   exact h.apart i k b bk ℓ lk g hik hj hk hon onk hl hlk hgi hgk
  ·rw [hset i hij] at hi
   by_cases hkj : k = j
   ·subst hkj
    rw [hl] at hlk; cases hlk
    exact h.apart i k bi b li ℓ g hik hi hj oni hon hli hl hgi hgk
   ·rw [hset k hkj] at hk
    exact h.apart i k bi bk li lk g hik hi hk oni onk hli hlk hgi hgk
 ·refine ⟨hg.os.trans h.below.os, hg.tape.trans h.below.tape, hg.output.trans h.below.output, akz h.below.size hg.size, fun k hk => ?_⟩
  refine (hg.block k (aka hk.1 h.below.size) fun e => ?_).trans (h.below.block k hk)
  exact Cx.mine_old (Loc.lt (h.blks j b ℓ hj hl) hon e.symm).1 hk
 ·obtain ⟨h1, h2⟩ := h.frz k hk
  refine ⟨aka h1 hg.size, (hg.block k h1 fun e => ?_).trans h2⟩
  exact h.frn j b ℓ k hj hon hl e.symm hk
 ·by_cases hkj : k = j
  ·subst hkj
   rw [hl] at hl1; cases hl1
   exact h.frn k b ℓ g hj hon hl hg1
  ·rw [hset k hkj] at hk
   exact h.frn k b1 l1 g hk on1 hl1 hg1

theorem aK.drop {X : Cx I} {bl : List Blk} {w : World} {lc : List Loc} (h : aK X bl w lc) (j : Nat) : aK X (put bl j .dead) w lc := by
 have was : ∀ (k : Nat) b1, (put bl j .dead)[k]? = some b1 -> b1.on = true -> bl[k]? = some b1 := fun k b1 hk on1 => by
  rw [bS, amJ] at hk
  split at hk
  ·split at hk
   ·cases hk; simp [Blk.on] at on1
   ·cases hk
  ·exact hk
 refine ⟨by rw [bS, akA]; exact h.len, fun k b1 l1 hk hl1 => ?_, fun i k bi bk li lk g hik hi hk oni onk hli hlk hgi => h.apart i k bi bk li lk g hik (was _ _ hi oni) (was _ _ hk onk) oni onk hli hlk hgi, h.below, h.frz, fun k b1 l1 g hk on1 hl1 hg1 => h.frn k b1 l1 g (was _ _ hk on1) on1 hl1 hg1⟩
 rw [bS, amJ] at hk
 split at hk
 ·split at hk
  ·cases hk; cases l1 <;> trivial
  ·cases hk
 ·exact h.blks k b1 l1 hk hl1

theorem aK.freeze {X : Cx I} {bl : List Blk} {w : World} {lc : List Loc} (h : aK X bl w lc) {j g : Nat} {b : Blk} {ℓ : Loc} (hj : bl[j]? = some b) (hon : b.on = true) (hl : lc[j]? = some ℓ) (hg : ℓ.blk = some g) :
  X.Le (X.grow (fun k => X.ft k \/ k = g) w) /\ aK (X.grow (fun k => X.ft k \/ k = g) w) (put bl j .dead) w lc := by
 obtain ⟨hm, hlt⟩ := Loc.lt (h.blks j b ℓ hj hl) hon hg
 have hle : X.Le (X.grow (fun k => X.ft k \/ k = g) w) := .mk _ _ (fun _ h => .inl h) (fun k hk => (h.frz k hk).2) fun k hk => by
  rcases hk with hk | rfl
  ·exact .inl hk
  ·exact .inr hm
 refine ⟨hle, (h.drop j).grow hle (fun k hk => ?_) fun k b1 l1 g1 hk on1 hl1 hg1 hf => ?_⟩
 ·rcases hk with hk | rfl
  ·exact ⟨(h.frz k hk).1, rfl⟩
  ·exact ⟨hlt, rfl⟩
 ·rcases hf with hf | rfl
  ·exact (h.drop j).frn k b1 l1 g1 hk on1 hl1 hg1 hf
  ·have hkj : k ≠ j := fun e => by
    subst e
    rw [bS, amL (amH.1 hj).1] at hk
    cases hk; simp [Blk.on] at on1
   rw [bS, amK (Ne.symm hkj)] at hk
   exact h.apart k j b1 b l1 ℓ g1 hkj hk hj on1 hon hl1 hl hg1 hg

structure vZ (X : Cx I) (bl : List Blk) (lc : List Loc) (R : List Nat) (G : Nat -> Prop) : Prop where
 no : ∀ {j g : Nat} {b : Blk} {ℓ : Loc}, j ∈ R -> bl[j]? = some b -> b.on = true -> lc[j]? = some ℓ -> ℓ.blk = some g -> ¬ G g
 old : ∀ {k : Nat}, X.old k -> ¬ G k
 ft : ∀ {k : Nat}, X.ft k -> ¬ G k
theorem vZ.nil (X : Cx I) (bl : List Blk) (lc : List Loc) (R : List Nat) : vZ X bl lc R (fun _ => False) := ⟨fun _ _ _ _ _ h => h, fun _ h => h, fun _ h => h⟩

end Go.Rv
