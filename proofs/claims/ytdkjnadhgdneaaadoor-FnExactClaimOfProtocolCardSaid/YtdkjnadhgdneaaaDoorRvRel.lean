/- How the evaluator's values stand to the machine's. -/
import Derived.Test.YtdkjnadhgdneaaaDoorRvDefs
namespace Go.Rv

inductive All2 {α β : Type} (R : α → β → Prop) : List α → List β → Prop
  | nil : All2 R [] []
  | cons {x : α} {y : β} {l : List α} {m : List β} : R x y → All2 R l m → All2 R (x :: l) (y :: m)

namespace All2
variable {α β γ : Type} {R : α → β → Prop} {l : List α} {m : List β}
theorem length (h : All2 R l m) : l.length = m.length := by
  induction h with
  | nil => rfl
  | cons _ _ ih => simp [ih]
theorem mono {R' : α → β → Prop} (hr : ∀ x y, R x y → R' x y) (h : All2 R l m) : All2 R' l m := by
  induction h with
  | nil => exact .nil
  | cons h1 _ ih => exact .cons (hr _ _ h1) ih
theorem get (h : All2 R l m) : ∀ (i : Nat) (x : α), l[i]? = some x → ∃ y, m[i]? = some y ∧ R x y := by
  induction h with
  | nil => intro i x hx; simp at hx
  | cons h1 _ ih =>
    intro i x hx
    cases i with
    | zero => simp at hx; subst hx; exact ⟨_, rfl, h1⟩
    | succ i => simp at hx ⊢; exact ih i x hx
theorem get' (h : All2 R l m) : ∀ (i : Nat) (y : β), m[i]? = some y → ∃ x, l[i]? = some x ∧ R x y := by
  induction h with
  | nil => intro i x hx; simp at hx
  | cons h1 _ ih =>
    intro i x hx
    cases i with
    | zero => simp at hx; subst hx; exact ⟨_, rfl, h1⟩
    | succ i => simp at hx ⊢; exact ih i x hx
theorem of_get (hl : l.length = m.length) (h : ∀ (i : Nat) (x : α) (y : β), l[i]? = some x → m[i]? = some y → R x y) : All2 R l m := by
  induction l generalizing m with
  | nil => cases m with
    | nil => exact .nil
    | cons _ _ => simp at hl
  | cons a l ih => cases m with
    | nil => simp at hl
    | cons b m =>
      refine .cons (h 0 a b rfl rfl) (ih (by simpa using hl) fun i x y hx hy => h (i + 1) x y (by simpa using hx) (by simpa using hy))
theorem append {l' : List α} {m' : List β} (h : All2 R l m) (h' : All2 R l' m') : All2 R (l ++ l') (m ++ m') := by
  induction h with
  | nil => exact h'
  | cons h1 _ ih => exact .cons h1 ih
theorem take (h : All2 R l m) : ∀ n, All2 R (l.take n) (m.take n) := by
  induction h with
  | nil => intro n; simp; exact .nil
  | cons h1 _ ih => intro n; cases n with
    | zero => exact .nil
    | succ n => exact .cons h1 (ih n)
theorem drop (h : All2 R l m) : ∀ n, All2 R (l.drop n) (m.drop n) := by
  induction h with
  | nil => intro n; simp; exact .nil
  | cons h1 h2 ih => intro n; cases n with
    | zero => exact .cons h1 h2
    | succ n => exact ih n
theorem put (h : All2 R l m) : ∀ (n : Nat) {x : α} {y : β}, R x y → All2 R (Rv.put l n x) (m.set n y) := by
  induction h with
  | nil => intro n x y _; cases n <;> exact .nil
  | cons h1 h2 ih => intro n x y hxy; cases n with
    | zero => exact .cons hxy h2
    | succ n => exact .cons h1 (ih n hxy)
theorem nth {d : α} {e : β} (hd : ∀ y, R d y) (h : All2 R l m) : ∀ n, R (Rv.nth d l n) (m.getD n e) := by
  induction h with
  | nil => intro n; cases n <;> exact hd _
  | cons h1 _ ih => intro n; cases n with
    | zero => exact h1
    | succ n => simpa [Rv.nth] using ih n
theorem map_left {f : γ → α} {l : List γ} (h : All2 (fun x y => R (f x) y) l m) : All2 R (l.map f) m := by
  induction h with
  | nil => exact .nil
  | cons h1 _ ih => exact .cons h1 ih
theorem of_map_left {f : γ → α} {l : List γ} (h : All2 R (l.map f) m) : All2 (fun x y => R (f x) y) l m := by
  induction l generalizing m with
  | nil => cases h; exact .nil
  | cons a l ih => cases h with
    | cons h1 h2 => exact .cons h1 (ih h2)
end All2

theorem nth_eq {α : Type} {d : α} {l : List α} : ∀ {n : Nat}, n < l.length → l[n]? = some (nth d l n) := by
  induction l with
  | nil => intro n h; simp at h
  | cons a l ih => intro n h; cases n with
    | zero => rfl
    | succ n => simpa [nth] using ih (by simpa using h)
theorem nth_of {α : Type} {d x : α} {l : List α} : ∀ {n : Nat}, l[n]? = some x → nth d l n = x := by
  induction l with
  | nil => intro n h; simp at h
  | cons a l ih => intro n h; cases n with
    | zero => simpa [nth] using h
    | succ n => simpa [nth] using ih (by simpa using h)
theorem nth_some {l : List Blk} : ∀ {n : Nat} {b : Blk}, nth .dead l n = b → b ≠ .dead → l[n]? = some b := by
  induction l with
  | nil => intro n b h hb; cases n <;> exact absurd h.symm hb
  | cons a l ih => intro n b h hb; cases n with
    | zero => simp [nth] at h; simp [h]
    | succ n => simp [nth] at h; simpa using ih h hb
theorem put_eq {α : Type} {l : List α} {x : α} : ∀ {n : Nat}, put l n x = l.set n x := by
  induction l with
  | nil => intro n; cases n <;> rfl
  | cons a l ih => intro n; cases n with
    | zero => rfl
    | succ n => simp [put, ih]

/-- Where a block lies. -/
inductive Loc where
  | c (g : Nat)
  | r (v : Value)
  | m (h : Nat)
def Loc.blk : Loc → Option Nat
  | .c g => some g
  | .r v => v.ownBlock
  | .m h => some h

/-- The world in which the call began; the rows, and the cells and maps, that were handed over to be turned; what is told as content. -/
structure Cx where
  w0 : World
  pins : List Value
  gp : List Nat
  fz : Nat → Prop
  sub : ∀ k, fz k → k < w0.heap.size ∧ (∀ v ∈ pins, v.ownBlock ≠ some k) ∧ k ∉ gp
/-- No cells handed over: all that is old is content. -/
def cx (w : World) (pins : List Value) : Cx := ⟨w, pins, [], fun k => k < w.heap.size ∧ ∀ v ∈ pins, v.ownBlock ≠ some k, fun _ h => ⟨h.1, h.2, by simp⟩⟩
def Cx.base (X : Cx) : Nat := X.w0.heap.size
/-- A block that stays as it was. -/
def Cx.old (X : Cx) (k : Nat) : Prop := k < X.w0.heap.size ∧ (∀ v ∈ X.pins, v.ownBlock ≠ some k) ∧ k ∉ X.gp
/-- A block that may be turned. -/
def Cx.mine (X : Cx) (k : Nat) : Prop := X.base ≤ k ∨ (∃ v ∈ X.pins, v.ownBlock = some k) ∨ k ∈ X.gp
theorem Cx.mine_old {X : Cx} {k : Nat} (h : X.mine k) (ho : X.old k) : False := by
  rcases h with h | ⟨v, hv, h⟩ | h
  · exact absurd ho.1 (Nat.not_lt.2 h)
  · exact ho.2.1 v hv h
  · exact ho.2.2 h

structure BelowP (X : Cx) (w : World) : Prop where
  os : w.os = X.w0.os
  tape : w.tape = X.w0.tape
  output : w.output = X.w0.output
  size : X.w0.heap.size ≤ w.heap.size
  block : ∀ k, X.old k → w.heap[k]? = X.w0.heap[k]?

theorem BelowP.cell {X : Cx} {w : World} (h : BelowP X w) {p : Addr} (hp : X.old p.block) : w.cell? p = X.w0.cell? p := World.cell?_of_block (h.block _ hp)
theorem BelowP.later {X : Cx} {w w' : World} (h : BelowP X w) (hb : RowKit.Below w.heap.size w w') : BelowP X w' :=
  ⟨hb.os.trans h.os, hb.tape.trans h.tape, hb.output.trans h.output, Nat.le_trans h.size hb.size, fun k hk => (hb.block k (Nat.lt_of_lt_of_le hk.1 h.size)).trans (h.block k hk)⟩
theorem Cx.old_none {w : World} {k : Nat} (h : k < w.heap.size) : Cx.old (cx w []) k := ⟨h, fun v hv => by simp [cx] at hv, by simp [cx]⟩
theorem Cx.fz_none {w : World} {k : Nat} (h : k < w.heap.size) : (cx w []).fz k := ⟨h, fun v hv => by simp at hv⟩
theorem BelowP.plain {w0 w : World} (h : BelowP (cx w0 []) w) : RowKit.Below w0.heap.size w0 w := ⟨h.os, h.tape, h.output, h.size, fun k hk => h.block k (Cx.old_none hk)⟩
theorem BelowP.of {X : Cx} {w : World} (h : RowKit.Below X.w0.heap.size X.w0 w) : BelowP X w := ⟨h.os, h.tape, h.output, h.size, fun k hk => h.block k hk.1⟩

def Frozen (X : Cx) (r : Row) (v : Value) : Prop :=
  ∃ A n c, v = .slice A n c ∧ n = r.len ∧ n ≤ c ∧ ∀ m u, r.cells[m]? = some u → ∃ a, A = some a ∧ X.fz a.block ∧ X.w0.cell? (a.add m) = some u

def valS : SV → Value
  | .int k n => .int k n
  | .bool b => .bool b
  | .str s => .string s
  | _ => undef

def relF (X : Cx) : FS → Value → Prop
  | .int k n, v => v = .int k n
  | .bool b, v => v = .bool b
  | .str s, v => v = .string s
  | .sl _ r, v => Frozen X r v
  | .fn f, v => v = .func (.func f) #[] #[]
  | .no, _ => True

/-- Cells that are only read. -/
def crefOK (X : Cx) (l : List FS) (off : Nat) (v : Value) : Prop :=
  ∃ a : Addr, v = .pointer (some a) ∧ X.fz a.block ∧ ∀ m f, l[off + m]? = some f → ∃ u, X.w0.cell? (a.add m) = some u ∧ relF X f u

def placeOK (lc : List Loc) (c : Nat × Nat) (v : Value) : Prop := ∃ g, lc[c.1]? = some (.c g) ∧ v = .pointer (some ⟨g, c.2, none⟩)

def relS (X : Cx) (lc : List Loc) : SV → Value → Prop
  | .int k n, v => v = .int k n
  | .bool b, v => v = .bool b
  | .str s, v => v = .string s
  | .ptr j off, v => ∃ g, lc[j]? = some (.c g) ∧ v = .pointer (some ⟨g, off, none⟩)
  | .row j, v => lc[j]? = some (.r v) ∧ ∃ A n c, v = .slice A n c
  | .sl _ r, v => Frozen X r v
  | .elt j z i off, v => ∃ g n c, lc[j]? = some (.r (.slice (some ⟨g, 0, none⟩) n c)) ∧ 0 ≤ i ∧ i < (n : Int) ∧ v = .pointer (some ⟨g, i.toNat * z + off, none⟩)
  | .ref r i off, v => 0 ≤ i ∧ i < (r.len : Int) ∧ ∃ a : Addr, v = .pointer (some a) ∧ X.fz a.block ∧ ∀ m s, (r.at_ i)[off + m]? = some s → X.w0.cell? (a.add m) = some (valS s)
  | .fn f caps, v => ∃ vs, v = .func (.func f) #[] vs ∧ All2 (placeOK lc) caps vs.toList
  | .cref l off, v => crefOK X l off v
  | .dfn f caps, v => ∃ vs, v = .func (.func f) #[] vs ∧ All2 (fun c u => crefOK X c.1 c.2 u) caps vs.toList
  | .mp j, v => ∃ h, lc[j]? = some (.m h) ∧ v = .map (some h)
  | .nilp, v => v = .pointer none
  | .nilm, v => v = .map none
  | .no, v => v = undef
  | .und, _ => True

def relA (X : Cx) (lc : List Loc) : AV → Value → Prop
  | .one s, v => relS X lc s v
  | .agg l, v => ∃ cs, v = .agg cs ∧ All2 (relS X lc) l cs.toList

def relT (X : Cx) (lc : List Loc) : TV → Value → Prop
  | .v x, v => relA X lc x v
  | .tup l, v => ∃ vs, v = .tuple vs ∧ All2 (relA X lc) l vs.toList

theorem loc_more {lc : List Loc} {j : Nat} {ℓ : Loc} (m : List Loc) (h : lc[j]? = some ℓ) : (lc ++ m)[j]? = some ℓ := by
  have : j < lc.length := by
    rcases Nat.lt_or_ge j lc.length with h' | h'
    · exact h'
    · simp [List.getElem?_eq_none h'] at h
  rw [List.getElem?_append_left this]; exact h

theorem relS.more {X : Cx} {lc : List Loc} {s : SV} {v : Value} (m : List Loc) (h : relS X lc s v) : relS X (lc ++ m) s v := by
  cases s <;> simp only [relS] at h ⊢ <;> try exact h
  · obtain ⟨g, h1, h2⟩ := h; exact ⟨g, loc_more m h1, h2⟩
  · exact ⟨loc_more m h.1, h.2⟩
  · obtain ⟨g, n, c, h1, h2⟩ := h; exact ⟨g, n, c, loc_more m h1, h2⟩
  · obtain ⟨vs, h1, h2⟩ := h; exact ⟨vs, h1, h2.mono fun _ _ h => by obtain ⟨g, h3, h4⟩ := h; exact ⟨g, loc_more m h3, h4⟩⟩
  · obtain ⟨g, h1, h2⟩ := h; exact ⟨g, loc_more m h1, h2⟩
theorem relA.more {X : Cx} {lc : List Loc} {s : AV} {v : Value} (m : List Loc) (h : relA X lc s v) : relA X (lc ++ m) s v := by
  cases s with
  | one s => exact relS.more m h
  | agg l => obtain ⟨cs, h1, h2⟩ := h; exact ⟨cs, h1, h2.mono fun _ _ h => relS.more m h⟩
theorem relT.more {X : Cx} {lc : List Loc} {s : TV} {v : Value} (m : List Loc) (h : relT X lc s v) : relT X (lc ++ m) s v := by
  cases s with
  | v s => exact relA.more m h
  | tup l => obtain ⟨cs, h1, h2⟩ := h; exact ⟨cs, h1, h2.mono fun _ _ h => relA.more m h⟩
theorem relT_und {X : Cx} {lc : List Loc} (v : Value) : relT X lc tund v := trivial

theorem relS_plain {X : Cx} {lc : List Loc} {s : SV} (hp : plainS s = true) {v : Value} : relS X lc s v ↔ v = valS s := by
  cases s <;> simp [plainS] at hp <;> simp [relS, valS]

def Blk.on : Blk → Bool
  | .dead => false
  | _ => true

/-- A key, a value of a map, as they lie there. -/
def keyV (kd : MK) (p : Int × Int) : Value := cond kd.two (.agg #[.int .i64 p.1, .int .i64 p.2]) (.int .i64 p.1)
def valV (kd : MK) (n : Int) : Value := cond kd.bool (.bool (n == 1)) (.int .i64 n)
/-- A map of these entries. -/
def mapAt (w : World) (h : Nat) (kd : MK) (l : Mp) : Prop :=
  ∃ es clock, w.heap[h]? = some (.map es clock) ∧ All2 (fun p e => e.key = keyV kd p.1 ∧ e.val = valV kd p.2) l es.toList

/-- A row that can be read, whatever of its block is frozen. -/
def _root_.Go.World.readRow (w : World) (base : Nat) (e : TypeId) (size : Nat) (v : Value) (n : Nat) (xs : List Value) : Prop :=
  xs.length = n * size ∧
  ((v = .slice none 0 0 ∧ n = 0) ∨
   ∃ g cap cur fz, v = .slice (some ⟨g, 0, none⟩) n cap ∧ base ≤ g ∧ w.heap[g]? = some (.cells cur e fz) ∧ cur.toList.take (n * size) = xs)
theorem readRow_of {w : World} {base : Nat} {e : TypeId} {size : Nat} {v : Value} {n : Nat} {xs : List Value} (h : w.ownsRow base e size v n xs) : w.readRow base e size v n xs := by
  refine ⟨h.1, ?_⟩
  rcases h.2 with hn | ⟨g, cap, cur, h1, h2, h3, _, _, _, h4⟩
  · exact .inl hn
  · exact .inr ⟨g, cap, cur, (0, 0), h1, h2, h3, h4⟩
def relB (X : Cx) (lc : List Loc) (w : World) : Blk → Loc → Prop
  | .cells t l, .c g => X.base ≤ g ∧ ∃ cs, w.heap[g]? = some (.cells cs t (0, 0)) ∧ All2 (relS X lc) l cs.toList
  | .row t r, .r v => w.ownsRow X.base t r.sz v r.len r.cells
  | .prow k t r, .r v => X.pins[k]? = some v ∧ w.ownsRow 0 t r.sz v r.len r.cells
  | .mp kd l, .m h => X.base ≤ h ∧ mapAt w h kd l
  | .pcells k t l, .c g => X.gp[k]? = some g ∧ ∃ cs, w.heap[g]? = some (.cells cs t (0, 0)) ∧ All2 (relS X lc) l cs.toList
  | .pmp k kd l, .m h => X.gp[k]? = some h ∧ mapAt w h kd l
  | .dead, _ => True
  | .srow t r, .r v => w.readRow X.base t r.sz v r.len r.cells
  | _, _ => False

theorem relB.more {X : Cx} {lc : List Loc} {w : World} {b : Blk} {ℓ : Loc} (m : List Loc) (h : relB X lc w b ℓ) : relB X (lc ++ m) w b ℓ := by
  cases b <;> cases ℓ <;> simp only [relB] at h ⊢ <;> try exact h
  · obtain ⟨h1, cs, h2, h3⟩ := h
    exact ⟨h1, cs, h2, h3.mono fun _ _ h => relS.more m h⟩
  · obtain ⟨h1, cs, h2, h3⟩ := h
    exact ⟨h1, cs, h2, h3.mono fun _ _ h => relS.more m h⟩

structure RelW (X : Cx) (bl : List Blk) (w : World) (lc : List Loc) : Prop where
  len : lc.length = bl.length
  blks : ∀ (j : Nat) b ℓ, bl[j]? = some b → lc[j]? = some ℓ → relB X lc w b ℓ
  apart : ∀ (i j : Nat) bi bj li lj g, i ≠ j → bl[i]? = some bi → bl[j]? = some bj → bi.on = true → bj.on = true → lc[i]? = some li → lc[j]? = some lj → li.blk = some g → lj.blk ≠ some g
  below : BelowP X w

structure Rel (X : Cx) (s : St) (a : Act) (w : World) (lc : List Loc) : Prop where
  tmps : All2 (relT X lc) s.tmps a.tmps.toList
  world : RelW X s.blks w lc
  defers : a.defers = []

theorem RelW.base_le {X : Cx} {bl : List Blk} {w : World} {lc : List Loc} (h : RelW X bl w lc) : X.base ≤ w.heap.size := h.below.size

theorem Loc.lt {X : Cx} {lc : List Loc} {w : World} {b : Blk} {ℓ : Loc} {g : Nat} (h : relB X lc w b ℓ) (hon : b.on = true) (hg : ℓ.blk = some g) : X.mine g ∧ g < w.heap.size := by
  cases b <;> cases ℓ <;> simp only [relB, Blk.on, Bool.false_eq_true] at h hon
  · obtain ⟨h1, cs, h2, _⟩ := h
    simp [Loc.blk] at hg; subst hg
    exact ⟨.inl h1, (Array.getElem?_eq_some_iff.1 h2).1⟩
  · exact ⟨.inl (h.lt g hg).1, (h.lt g hg).2⟩
  · exact ⟨.inr (.inl ⟨_, List.mem_of_getElem? h.1, hg⟩), (h.2.lt g hg).2⟩
  · obtain ⟨h1, es, ck, h2, _⟩ := h
    simp [Loc.blk] at hg; subst hg
    exact ⟨.inl h1, (Array.getElem?_eq_some_iff.1 h2).1⟩
  · obtain ⟨h1, cs, h2, _⟩ := h
    simp [Loc.blk] at hg; subst hg
    exact ⟨.inr (.inr (List.mem_of_getElem? h1)), (Array.getElem?_eq_some_iff.1 h2).1⟩
  · obtain ⟨h1, es, ck, h2, _⟩ := h
    simp [Loc.blk] at hg; subst hg
    exact ⟨.inr (.inr (List.mem_of_getElem? h1)), (Array.getElem?_eq_some_iff.1 h2).1⟩
  · rcases h.2 with ⟨rfl, _⟩ | ⟨g', cap, cur, fz, rfl, hb, hgg, _⟩
    · cases hg
    · simp [Loc.blk, Value.ownBlock] at hg; subst hg
      exact ⟨.inl hb, (Array.getElem?_eq_some_iff.1 hgg).1⟩

/-- A block that another world holds as it was. -/
theorem relB.kept {X : Cx} {lc : List Loc} {w w' : World} {b : Blk} {ℓ : Loc} (h : relB X lc w b ℓ) (hk : ∀ g, b.on = true → ℓ.blk = some g → w'.heap[g]? = w.heap[g]?) : relB X lc w' b ℓ := by
  cases b <;> cases ℓ <;> simp only [relB] at h ⊢ <;> try exact h
  · obtain ⟨h1, cs, h2, h3⟩ := h
    exact ⟨h1, cs, (hk _ rfl rfl).trans h2, h3⟩
  · refine ⟨h.1, ?_⟩
    rcases h.2 with hn | ⟨g, cap, cur, rfl, hb, hgg, rest⟩
    · exact .inl hn
    · exact .inr ⟨g, cap, cur, rfl, hb, (hk g rfl rfl).trans hgg, rest⟩
  · refine ⟨h.1, h.2.1, ?_⟩
    rcases h.2.2 with hn | ⟨g, cap, cur, rfl, hb, hgg, rest⟩
    · exact .inl hn
    · exact .inr ⟨g, cap, cur, rfl, hb, (hk g rfl rfl).trans hgg, rest⟩
  · obtain ⟨h1, es, ck, h2, h3⟩ := h
    exact ⟨h1, es, ck, (hk _ rfl rfl).trans h2, h3⟩
  · obtain ⟨h1, cs, h2, h3⟩ := h
    exact ⟨h1, cs, (hk _ rfl rfl).trans h2, h3⟩
  · obtain ⟨h1, es, ck, h2, h3⟩ := h
    exact ⟨h1, es, ck, (hk _ rfl rfl).trans h2, h3⟩
  · refine ⟨h.1, ?_⟩
    rcases h.2 with hn | ⟨g, cap, cur, fz, rfl, hb, hgg, rest⟩
    · exact .inl hn
    · exact .inr ⟨g, cap, cur, fz, rfl, hb, (hk g rfl rfl).trans hgg, rest⟩

/-- Nothing of ours has turned. -/
theorem RelW.later {X : Cx} {bl : List Blk} {w w' : World} {lc : List Loc} (h : RelW X bl w lc) (hb : RowKit.Below w.heap.size w w') : RelW X bl w' lc :=
  ⟨h.len, fun j b ℓ hj hl => (h.blks j b ℓ hj hl).kept fun g hon hg => hb.block g (Loc.lt (h.blks j b ℓ hj hl) hon hg).2, h.apart, h.below.later hb⟩

/-- A new block of ours. -/
theorem RelW.push {X : Cx} {bl : List Blk} {w w' : World} {lc : List Loc} {b : Blk} {ℓ : Loc} (h : RelW X bl w lc) (hb : RowKit.Below w.heap.size w w') (hr : relB X (lc ++ [ℓ]) w' b ℓ)
    (hg : ∀ g, ℓ.blk = some g → w.heap.size ≤ g) : RelW X (bl ++ [b]) w' (lc ++ [ℓ]) := by
  have h' := h.later hb
  refine ⟨by simp [h.len], fun j b1 l1 hj hl => ?_, fun i j bi bj li lj g hij hi hj oni onj hli hlj hgi hgj => ?_, h'.below⟩
  · rcases Nat.lt_or_ge j bl.length with hlt | hge
    · rw [List.getElem?_append_left hlt] at hj
      rw [List.getElem?_append_left (by rw [h.len]; exact hlt)] at hl
      exact (h'.blks j b1 l1 hj hl).more _
    · have : j = bl.length := by
        have := (List.getElem?_eq_some_iff.1 hj).1
        simp at this; omega
      subst this
      simp at hj
      rw [← h.len] at hl; simp at hl
      subst hj; subst hl; exact hr
  · have len := h.len
    have hi' := (List.getElem?_eq_some_iff.1 hi).1
    have hj' := (List.getElem?_eq_some_iff.1 hj).1
    simp at hi' hj'
    rcases Nat.lt_or_ge i bl.length with hlt | hge <;> rcases Nat.lt_or_ge j bl.length with hlt2 | hge2
    · rw [List.getElem?_append_left hlt] at hi
      rw [List.getElem?_append_left hlt2] at hj
      rw [List.getElem?_append_left (by omega)] at hli hlj
      exact h.apart i j bi bj li lj g hij hi hj oni onj hli hlj hgi hgj
    · have : j = lc.length := by omega
      subst this
      rw [List.getElem?_append_left hlt] at hi
      rw [List.getElem?_append_left (by omega)] at hli
      simp at hlj; subst hlj
      have h1 := (Loc.lt (h.blks i bi li hi hli) oni hgi).2
      have h2 := hg g hgj
      omega
    · have : i = lc.length := by omega
      subst this
      rw [List.getElem?_append_left hlt2] at hj
      rw [List.getElem?_append_left (by omega)] at hlj
      simp at hli; subst hli
      have h1 := (Loc.lt (h.blks j bj lj hj hlj) onj hgj).2
      have h2 := hg g hgi
      omega
    · omega

/-- A block of ours turned, the others as they were. -/
theorem RelW.turn {X : Cx} {bl : List Blk} {w w' : World} {lc : List Loc} {b b' : Blk} {ℓ : Loc} {j : Nat} (h : RelW X bl w lc) (hj : bl[j]? = some b) (hl : lc[j]? = some ℓ) (hon : b.on = true)
    (hg : w.grownBy w' ℓ.blk) (hr : relB X lc w' b' ℓ) : RelW X (put bl j b') w' lc := by
  have hjl : j < bl.length := (List.getElem?_eq_some_iff.1 hj).1
  have hset : ∀ k, k ≠ j → (put bl j b')[k]? = bl[k]? := fun k hk => by rw [put_eq, List.getElem?_set_ne (Ne.symm hk)]
  have hself : (put bl j b')[j]? = some b' := by rw [put_eq, List.getElem?_set_self hjl]
  refine ⟨by rw [put_eq, List.length_set]; exact h.len, fun k b1 l1 hk hl1 => ?_, fun i k bi bk li lk g hik hi hk oni onk hli hlk hgi hgk => ?_, ?_⟩
  · by_cases hkj : k = j
    · subst hkj
      rw [hself] at hk; rw [hl] at hl1
      cases hk; cases hl1; exact hr
    · rw [hset k hkj] at hk
      refine (h.blks k b1 l1 hk hl1).kept fun g on1 hg1 => hg.block g (Loc.lt (h.blks k b1 l1 hk hl1) on1 hg1).2 ?_
      exact fun e => h.apart k j b1 b l1 ℓ g hkj hk hj on1 hon hl1 hl hg1 e.symm
  · by_cases hij : i = j
    · subst hij
      rw [hset k (Ne.symm hik)] at hk
      rw [hl] at hli; cases hli
      exact h.apart i k b bk ℓ lk g hik hj hk hon onk hl hlk hgi hgk
    · rw [hset i hij] at hi
      by_cases hkj : k = j
      · subst hkj
        rw [hl] at hlk; cases hlk
        exact h.apart i k bi b li ℓ g hik hi hj oni hon hli hl hgi hgk
      · rw [hset k hkj] at hk
        exact h.apart i k bi bk li lk g hik hi hk oni onk hli hlk hgi hgk
  · refine ⟨hg.os.trans h.below.os, hg.tape.trans h.below.tape, hg.output.trans h.below.output, Nat.le_trans h.below.size hg.size, fun k hk => ?_⟩
    refine (hg.block k (Nat.lt_of_lt_of_le hk.1 h.below.size) fun e => ?_).trans (h.below.block k hk)
    exact Cx.mine_old (Loc.lt (h.blks j b ℓ hj hl) hon e.symm).1 hk

/-- A block of ours told no more. -/
theorem RelW.drop {X : Cx} {bl : List Blk} {w : World} {lc : List Loc} (h : RelW X bl w lc) (j : Nat) : RelW X (put bl j .dead) w lc := by
  refine ⟨by rw [put_eq, List.length_set]; exact h.len, fun k b1 l1 hk hl1 => ?_, fun i k bi bk li lk g hik hi hk oni onk hli hlk hgi => ?_, h.below⟩
  · rw [put_eq, List.getElem?_set] at hk
    split at hk
    · split at hk
      · cases hk; cases l1 <;> trivial
      · cases hk
    · exact h.blks k b1 l1 hk hl1
  · rw [put_eq, List.getElem?_set] at hi hk
    split at hi
    · split at hi
      · cases hi; simp [Blk.on] at oni
      · cases hi
    · split at hk
      · split at hk
        · cases hk; simp [Blk.on] at onk
        · cases hk
      · exact h.apart i k bi bk li lk g hik hi hk oni onk hli hlk hgi

/-- Places that may turn: none of the blocks of these numbers, none that is older than ours. -/
structure Calm (X : Cx) (bl : List Blk) (lc : List Loc) (R : List Nat) (G : Nat → Prop) : Prop where
  no : ∀ {j g : Nat} {b : Blk} {ℓ : Loc}, j ∈ R → bl[j]? = some b → b.on = true → lc[j]? = some ℓ → ℓ.blk = some g → ¬ G g
  old : ∀ {k : Nat}, X.old k → ¬ G k
theorem Calm.nil (X : Cx) (bl : List Blk) (lc : List Loc) (R : List Nat) : Calm X bl lc R (fun _ => False) := ⟨fun _ _ _ _ _ h => h, fun _ h => h⟩

end Go.Rv
