/- The evaluator's operations do what the machine's do: those that read. -/
import Derived.Test.YtemihnclhcobnaaGreatDoorRvRel
import Derived.Laws.StructEq
import Derived.Laws.Pointers
namespace Go.Rv
set_option linter.unusedSimpArgs false
open Go.RowKit (Below)

def Ji : IntKind → Nat
 | .i64 | .u64 => 8
 | .i32 | .u32 => 4
 | .i16 | .u16 => 2
 | .i8 | .u8 => 1

def cI (L : Lay) (c : TypeId) (z : Value) : Prop :=
 match L.at_ c with
 | .int k => z = .int k 0
 | .bool => z = .bool false
 | .string => z = .string ByteArray.empty
 | .slice _ => z = .slice none 0 0
 | .pointer _ => z = .pointer none
 | .map _ _ => z = .map none
 | .func => z = .nilFunc
 | _ => True

def yt : TypeDesc → Bool
 | .struct _ => true
 | .array _ _ => true
 | _ => false

structure Rp (P : Program) (fd : Fd) (f : Field) : Prop where
 off : fd.off = f.offset
 info : ∃ i, P.info? f.type = some i ∧ i.size = fd.size
 pos : fd.size ≠ 0
 agg : ∃ d, P.underlying f.type = some d ∧ yt d = fd.agg

def dC (P : Program) (t : TypeId) (z : Value) (size bytes : Nat) : Prop := ∃ i, P.info? t = some i ∧ i.zero = some z ∧ i.size = size ∧ i.bytes = bytes

def Q3 (P : Program) (t : TypeId) (cts : List TypeId) (fields : List Field) : Prop :=
 P.eqGuardType P.depth t = false ∧ P.stoodInHeld t = false ∧ aw (fun c f => P.underlying c = P.underlying f.type ∧ f.name ≠ "_") cts fields ∧ ∀ (i : Nat) f, fields[i]? = some f → f.offset = i

def Tp (P : Program) (L : Lay) (t : TypeId) : TI → Prop
 | .int k => P.underlying t = some (.int k) ∧ dC P t (.int k 0) 1 (Ji k)
 | .bool => P.underlying t = some .bool ∧ dC P t (.bool false) 1 1
 | .string => P.underlying t = some .string ∧ dC P t (.string ByteArray.empty) 1 16
 | .slice e => P.underlying t = some (.slice e) ∧ dC P t (.slice none 0 0) 1 24
 | .struct fs cts b cmp => ∃ fields zc, P.underlying t = some (.struct fields) ∧ aw (Rp P) fs fields.toList ∧ dC P t (.agg zc) cts.length b ∧ aw (cI L) cts zc.toList ∧
   (cmp = true → Q3 P t cts fields.toList)
 | .array n e => P.underlying t = some (.array n e) ∧ n = 2 ∧ L.at_ e = .bool ∧ dC P t (.agg #[.bool false, .bool false]) 2 2
 | .pointer e => P.underlying t = some (.pointer e) ∧ dC P t (.pointer none) 1 8
 | .map k e => P.underlying t = some (.map k e) ∧ dC P t (.map none) 1 8
 | .func => (∃ a b c, P.underlying t = some (.func a b c)) ∧ dC P t .nilFunc 1 8
 | .other => True

def aJ (P : Program) (L : Lay) : Prop := ∀ t, Tp P L t (L.at_ t)

section
variable {I : World → Prop} {P : Program} {L : Lay} {X : Cx I} {lc : List Loc} {β : Type}

theorem au {s : St} {a : Act} (hr : aw (aC X lc) s.tmps a.tmps.toList) (x : Operand) : aC X lc (aE s x) (a.eval x) := by
 cases x with
 | tmp t =>
  have h := hr.nth (d := ac) (e := undef) (fun _ => trivial) t
  simpa [aE, Act.eval, Array.getD_eq_getD_getElem?] using h
 | const v => cases v with
  | pointer p => cases p <;> simp [aE, Act.eval, JB, aC, a6, aD]
  | _ => simp [aE, Act.eval, JB, aC, a6, aD]
 | global g => trivial
 | func f => exact ⟨#[], rfl, .nil⟩

theorem br {k k' : IntKind} (h : bD k k' = true) : k = k' := by
 cases k <;> cases k' <;> first | rfl | simp [bD] at h

theorem av {b : Bool} {x : Option β} {r : β} (h : gd b x = some r) : b = true ∧ x = some r := by
 cases b <;> simp [gd] at h
 exact ⟨rfl, h⟩
theorem aF {b : Bool} {x : Option β} {r : β} (h : cond b x none = some r) : b = true ∧ x = some r := by
 cases b <;> simp at h
 exact ⟨rfl, h⟩

theorem pR {n : Nat} : ∀ {l : List Nat}, n ∈ l → jd n l = true
 | x :: l, h => by
  simp only [jd]
  by_cases e : x = n
  ·subst e; rw [aar]; rfl
  ·have : n ∈ l := by simpa [Ne.symm e] using h
   rw [pR this]; cases Nat.beq x n <;> rfl
theorem nz {n : Nat} : ∀ {l : List Nat}, jd n l = true → n ∈ l
 | [], h => by cases h
 | x :: l, h => by
  simp only [jd] at h
  cases hb : Nat.beq x n with
  | true => rw [YA hb]; simp
  | false => rw [hb] at h; exact YL _ (nz h)
theorem zm {acc : List Nat} {n m : Nat} (h : m ∈ acc ∨ m = n) : m ∈ AQ acc n := by
  unfold AQ
  cases hb : jd n acc with
  | true => rcases h with h | rfl
            · exact h
            · exact nz hb
  | false => rcases h with h | rfl
             · exact List.mem_append_left _ h
             · exact List.mem_append_right _ (by simp)
theorem dD : ∀ {l acc : List Nat} {m : Nat}, m ∈ acc ∨ m ∈ l → m ∈ ee acc l
 | [], _, _, h => by rcases h with h | h <;> first | exact h | cases h
 | n :: l, acc, m, h => dD (l := l) (by
   rcases h with h | h
   ·exact .inl (zm (.inl h))
   ·rcases YN.1 h with rfl | h
    ·exact .inl (zm (.inr rfl))
    ·exact .inr h)
theorem jx : ∀ {xs : List TV} {acc : List Nat} {m : Nat}, (m ∈ acc ∨ ∃ x ∈ xs, m ∈ dn x) → m ∈ iR acc xs
 | [], _, _, h => by rcases h with h | ⟨x, h, _⟩ <;> first | exact h | cases h
 | x :: xs, acc, m, h => jx (xs := xs) (by
   rcases h with h | ⟨y, hy, hm⟩
   ·exact .inl (dD (.inl h))
   ·rcases YN.1 hy with rfl | hy
    ·exact .inl (dD (.inr hm))
    ·exact .inr ⟨y, hy, hm⟩)
theorem ug {V : List Nat} : ∀ {l : List Nat}, m8 V l = true → ∀ j ∈ l, jd j V = false
 | x :: l, h, j, hj => by
  simp only [m8, Yz, YT] at h
  rcases YN.1 hj with rfl | hj
  ·exact h.1
  ·exact ug h.2 j hj
theorem fo {s : St} {o : Oper} {x : Operand} {j : Nat} (hx : x ∈ o.op.operands.toList) (hj : j ∈ dn (aE s x)) : j ∈ dN s o :=
 jx (.inr ⟨_, YY.2 ⟨x, hx, rfl⟩, hj⟩)
theorem iX {x : TV} {s : SV} (h : x.sv = s) (hs : s ≠ .und) : dn x = hY s := by
 cases x with
 | v z => cases z with
  | one t => simp only [TV.sv] at h; subst h; rfl
  | agg l => exact absurd h.symm hs
 | tup l => exact absurd h.symm hs

def JF : Next → Option Value
 | .value v => some v
 | .skip => some undef
 | _ => none

def eN (P : Program) (X : Cx I) (o : Oper) (a : Act) (_w : World) (lc : List Loc) (s : St) (K : TV → St → Option β) (r : β) : Prop :=
 ∃ x v, K x s = some r ∧ aC X lc x v ∧ ∀ w', (execOp a.eval o).run P w' = .ok (.value v) w'

def fC (P : Program) (X : Cx I) (o : Oper) (a : Act) (w : World) (lc : List Loc) (s : St) (K : TV → St → Option β) (r : β) : Prop :=
 ∃ x v, K x s = some r ∧ aC X lc x v ∧ ∀ G, th X s.blks lc (dN s o) G → ∀ w', Lat G w w' → (execOp a.eval o).run P w' = .ok (.value v) w'

def lH (P : Program) (X : Cx I) (o : Oper) (a : Act) (w : World) (lc : List Loc) (s : St) (K : TV → St → Option β) (r : β) : Prop :=
 ∃ x bl more n v w', K x ⟨s.tmps, bl⟩ = some r ∧ (execOp a.eval o).run P w = .ok n w' ∧ (eT o.op = true → Below w.heap.size w w') ∧ JF n = some v ∧ aC X (lc ++ more) x v ∧ aH X bl w' (lc ++ more)

def tS (P : Program) (X : Cx I) (o : Oper) (a : Act) (w : World) (lc : List Loc) (s : St) (K : TV → St → Option β) (r : β) : Prop :=
 ∃ x bl more v, K x ⟨s.tmps, bl⟩ = some r ∧ aC X (lc ++ more) x v ∧ aH X bl w (lc ++ more) ∧ ∀ w', (execOp a.eval o).run P w' = .ok (.value v) w'
theorem eN.b {o : Oper} {a : Act} {w : World} {s : St} {K : TV → St → Option β} {r : β} (hw : aH X s.blks w lc) (h : eN P X o a w lc s K r) : tS P X o a w lc s K r := by
 obtain ⟨x, v, h1, h2, h3⟩ := h
 exact ⟨x, s.blks, [], v, h1, by simpa using h2, by simpa using hw, h3⟩
def HD (P : Program) (X : Cx I) (o : Oper) (a : Act) (w : World) (lc : List Loc) (s : St) (K : TV → St → Option β) (r : β) : Prop :=
 ∃ x bl more n v w' X', K x ⟨s.tmps, bl⟩ = some r ∧ (execOp a.eval o).run P w = .ok n w' ∧ (eT o.op = true → Below w.heap.size w w') ∧ JF n = some v ∧ X.Le X' ∧ aC X' (lc ++ more) x v ∧ aH X' bl w' (lc ++ more)
theorem lH.f {o : Oper} {a : Act} {w : World} {s : St} {K : TV → St → Option β} {r : β} (h : lH P X o a w lc s K r) : HD P X o a w lc s K r := by
 obtain ⟨x, bl, more, n, v, w', h1, h2, h3, h4, h5, h6⟩ := h
 exact ⟨x, bl, more, n, v, w', X, h1, h2, h3, h4, .refl X, h5, h6⟩

theorem tS.step {o : Oper} {a : Act} {w : World} {s : St} {K : TV → St → Option β} {r : β} (h : tS P X o a w lc s K r) : lH P X o a w lc s K r := by
 obtain ⟨x, bl, more, v, h1, h2, h3, h4⟩ := h
 exact ⟨x, bl, more, .value v, v, w, h1, h4 w, fun _ => Zk _ _, rfl, h2, h3⟩
theorem fC.step {o : Oper} {a : Act} {w : World} {s : St} {K : TV → St → Option β} {r : β} (hw : aH X s.blks w lc) (h : fC P X o a w lc s K r) : lH P X o a w lc s K r := by
 obtain ⟨x, v, h1, h2, h3⟩ := h
 exact ⟨x, s.blks, [], .value v, v, w, h1, h3 _ (th.nil _ _ _ _) w (Lat.refl _), fun _ => Zk _ _, rfl, by simpa using h2, by simpa using hw⟩

theorem bA {o : Oper} {a : Act} {w : World} {s : St} {K : TV → St → Option β} {r : β} {x : TV} {v : Value} (h1 : K x s = some r) (h2 : aC X lc x v)
  (h3 : ∀ w', (execOp a.eval o).run P w' = .ok (.value v) w') : fC P X o a w lc s K r := ⟨x, v, h1, h2, fun _ _ w' _ => h3 w'⟩

theorem aG {o : Oper} {a : Act} {w : World} {s : St} {K : TV → St → Option β} {r : β} {x : TV} {v : Value} (h1 : K x s = some r) (h2 : aC X lc x v)
  (h3 : ∀ w', (execOp a.eval o).run P w' = .ok (.value v) w') : eN P X o a w lc s K r := ⟨x, v, h1, h2, h3⟩
theorem eN.q {o : Oper} {a : Act} {w : World} {s : St} {K : TV → St → Option β} {r : β} (h : eN P X o a w lc s K r) : fC P X o a w lc s K r := by
 obtain ⟨x, v, h1, h2, h3⟩ := h
 exact ⟨x, v, h1, h2, fun _ _ w' _ => h3 w'⟩

theorem zK {s : SV} (hp : bI s = true) : aC X lc (one s) (mF s) := (iT hp).2 rfl

theorem oc (op : BinOp) (t : TypeId) (x y : Operand) (k k' : IntKind) (a b : Int) (w : World) : (eqGuard op t x y (.int k a) (.int k' b)).run P w = .ok () w := by
 cases op <;> simp [eqGuard]
theorem FW (op : BinOp) (t : TypeId) (x y : Operand) (a b : ByteArray) (w : World) : (eqGuard op t x y (.string a) (.string b)).run P w = .ok () w := by
 cases op <;> simp [eqGuard]
theorem qR (op : BinOp) (t : TypeId) (x y : Operand) (a b : Bool) (w : World) : (eqGuard op t x y (.bool a) (.bool b)).run P w = .ok () w := by
 cases op <;> simp [eqGuard]

theorem uu (op : BinOp) (t : TypeId) (x y : Operand) (a b : Option Addr) (w : World) : (eqGuard op t x y (.pointer a) (.pointer b)).run P w = .ok () w := by
 cases op <;> simp [eqGuard]

theorem AY {op : BinOp} {t : TypeId} {k : IntKind} {a b : Int} {K : SV → Option β} {r : β} (h : vX op k a b K = some r) :
    ∃ s, bI s = true ∧ K s = some r ∧ ∀ w, (binOp op t (.int k a) (.int k b)).run P w = .ok (mF s) w := by
  cases op <;> simp only [vX] at h <;> try (exact ⟨_, rfl, h, fun w => by simp [binOp, Op.intArith, Op.intBits, Op.intCmp, mF, bits]⟩)
  · obtain ⟨hb, h⟩ := av h
    exact ⟨_, rfl, h, fun w => by have : b ≠ 0 := by simpa using hb
                                  simp [binOp, Op.intDiv, mF, this, JV]⟩
  · obtain ⟨hb, h⟩ := av h
    exact ⟨_, rfl, h, fun w => by have : b ≠ 0 := by simpa using hb
                                  simp [binOp, Op.intDiv, mF, this, tA]⟩
  · cases h
  · cases h

theorem AZ {op : BinOp} {t : TypeId} {a b : ByteArray} {K : SV → Option β} {r : β} (h : vY op a b K = some r) :
  ∃ s, bI s = true ∧ K s = some r ∧ ∀ w, (binOp op t (.string a) (.string b)).run P w = .ok (mF s) w := by
 cases op <;> simp only [vY] at h <;> try (cases h; done)
 ·obtain ⟨hb, h⟩ := av h
  refine ⟨_, rfl, h, fun w => ?_⟩
  have hb' : a.size + b.size ≤ 9223372036854775807 := of_decide_eq_true hb
  have : ¬ (((a.size + b.size : Nat) : Int) > IntKind.i64.max) := by
   have : IntKind.i64.max = 9223372036854775807 := by decide
   rw [this]; omega
  simp only [binOp, Op.stringOp, if_neg this, mF, YX]
 ·exact ⟨_, rfl, h, fun w => by simp [binOp, Op.stringOp, mF]⟩
 ·exact ⟨_, rfl, h, fun w => by simp [binOp, Op.stringOp, mF]⟩

theorem bN (t : TypeId) (d : TypeDesc) (hu : P.underlying t = some d) (hd : yt d = false) (cs : Array Value) (off : Nat) (v : Value) (hv : cs[off]? = some v) (w : World) :
  (part t cs off).run P w = .ok v w := by
 have : (isAgg t).run P w = .ok false w := by
  unfold isAgg
  rw [YO, run_underlying hu w]
  cases d <;> simp [yt] at hd <;> simp
 simp [part, this, hv]

theorem m9 (hL : aJ P L) (cs ds : Array Value) (d : Nat) : ∀ (cts : List TypeId) (l m : List SV) (fs : List Field) (i : Nat) (b : Bool),
  aw (fun c f => P.underlying c = P.underlying f.type ∧ f.name ≠ "_") cts fs → (∀ (j : Nat) f, fs[j]? = some f → f.offset = i + j) →
  (∀ (j : Nat) x, l[j]? = some x → ∃ v, cs[i + j]? = some v ∧ aD X lc x v) → (∀ (j : Nat) x, m[j]? = some x → ∃ v, ds[i + j]? = some v ∧ aD X lc x v) →
  eqL L cts l m = some b → ∀ w, (Op.eqFields (d + 1) cs ds fs).run P w = .ok b w := by
 have one : ∀ (c : TypeId) (x y : SV) (f : Field) (i : Nat) (b : Bool), (P.underlying c = P.underlying f.type ∧ f.name ≠ "_") → f.offset = i → (∃ v, cs[i]? = some v ∧ aD X lc x v) → (∃ v, ds[i]? = some v ∧ aD X lc y v) →
   eqS L c x y = some b → ∃ u v, (∀ w, (part f.type cs f.offset).run P w = .ok u w) ∧ (∀ w, (part f.type ds f.offset).run P w = .ok v w) ∧ ∀ w, (Op.equalIn (d + 1) f.type u v).run P w = .ok b w := by
  rintro c x y f i b ⟨hu, _⟩ rfl ⟨u, hu1, hu2⟩ ⟨v, hv1, hv2⟩ hb
  have hc := hL c
  unfold eqS at hb
  split at hb
  ·rename_i k h1
   obtain ⟨hk, hb⟩ := aF hb
   cases hb
   simp only [aD] at hu2 hv2
   rw [h1] at hc
   have hc1 := hc.1
   rw [hu] at hc1
   subst hu2; subst hv2
   refine ⟨_, _, fun w => bN _ _ hc1 rfl _ _ _ hu1 w, fun w => bN _ _ hc1 rfl _ _ _ hv1 w, fun w => ?_⟩
   rw [br hk]
   exact run_equalIn_int w d _ _ _ _ _ hc1
  ·rename_i h1
   cases hb
   simp only [aD] at hu2 hv2
   rw [h1] at hc
   have hc1 := hc.1
   rw [hu] at hc1
   subst hu2; subst hv2
   exact ⟨_, _, fun w => bN _ _ hc1 rfl _ _ _ hu1 w, fun w => bN _ _ hc1 rfl _ _ _ hv1 w, fun w => aaM w d _ _ _ hc1⟩
  ·rename_i h1
   cases hb
   simp only [aD] at hu2 hv2
   rw [h1] at hc
   have hc1 := hc.1
   rw [hu] at hc1
   subst hu2; subst hv2
   exact ⟨_, _, fun w => bN _ _ hc1 rfl _ _ _ hu1 w, fun w => bN _ _ hc1 rfl _ _ _ hv1 w, fun w => run_equalIn_string w d _ _ _ hc1⟩
  ·cases hb
 intro cts
 induction cts with
 | nil =>
  intro l m fs i b hf ho hl hm hb w
  cases hf
  cases l <;> cases m <;> simp [eqL] at hb
  subst hb
  simp [Op.eqFields]
 | cons c cts ih =>
  intro l m fs i b hf ho hl hm hb w
  cases hf with
  | @cons _ f _ fs h1 hf =>
  cases l with
  | nil => cases cts <;> simp [eqL] at hb
  | cons x l =>
  cases m with
  | nil => cases cts <;> cases l <;> simp [eqL] at hb
  | cons y m =>
  have hx := hl 0 x rfl
  have hy := hm 0 y rfl
  have hof := ho 0 f rfl
  simp only [ZE] at hx hy hof
  have hl' : ∀ (j : Nat) x, l[j]? = some x → ∃ v, cs[i + 1 + j]? = some v ∧ aD X lc x v := fun j x hj => by
   have := hl (j + 1) x (by simpa using hj)
   rwa [show i + (j + 1) = i + 1 + j by omega] at this
  have hm' : ∀ (j : Nat) x, m[j]? = some x → ∃ v, ds[i + 1 + j]? = some v ∧ aD X lc x v := fun j x hj => by
   have := hm (j + 1) x (by simpa using hj)
   rwa [show i + (j + 1) = i + 1 + j by omega] at this
  have ho' : ∀ (j : Nat) f, fs[j]? = some f → f.offset = i + 1 + j := fun j f hj => by
   have := ho (j + 1) f (by simpa using hj)
   omega
  have go : ∀ b1 b2, eqS L c x y = some b1 → eqL L cts l m = some b2 → (Op.eqFields (d + 1) cs ds (f :: fs)).run P w = .ok (b1 && b2) w := by
   intro b1 b2 h1' h2'
   obtain ⟨u, v, hu, hv, he⟩ := one c x y f i b1 h1 hof hx hy h1'
   have ih' := ih l m fs (i + 1) b2 hf ho' hl' hm' h2' w
   simp only [Op.eqFields, if_pos h1.2, YO, hu, hv, he, YH]
   cases b1 <;> simp [ih']
  cases cts with
  | nil =>
   cases l <;> cases m <;> simp [eqL] at hb
   have := go b true hb rfl
   simpa using this
  | cons c2 cts =>
   simp only [eqL] at hb
   split at hb
   ·rename_i b1 b2 h1' h2'
    cases hb
    exact go b1 b2 h1' h2'
   ·cases hb

theorem E8 (hL : aJ P L) {op : BinOp} {t : TypeId} {x y : TV} {vx vy : Value} {K : TV → Option β} {r : β} (h : uh L op t x y K = some r) (hx : aC X lc x vx) (hy : aC X lc y vy) :
  ∃ z u, K z = some r ∧ aC X lc z u ∧ ∀ w ox oy, ((do eqGuard op t ox oy vx vy; binOp op t vx vy) : Sem Value).run P w = .ok u w := by
 unfold uh at h
 split at h
 ·rename_i p
  have ht := hL t
  simp only [aC, a6] at hx hy
  have hy : vy = .pointer none := hy
  subst hy
  have isP : ∀ b, SI p = some b → ∃ q, vx = .pointer q ∧ q.isNone = b := by
   intro b hb
   unfold SI at hb
   split at hb
   ·rename_i two T
    cases hb
    cases T with
    | nil => exact ⟨none, hx, rfl⟩
    | node a b l r => obtain ⟨g, _, _, _, _, _, h1, _⟩ := hx; exact ⟨_, h1, rfl⟩
   ·cases hb
    obtain ⟨g, _, h1⟩ := hx
    exact ⟨_, h1, rfl⟩
   ·cases hb; exact ⟨none, hx, rfl⟩
   ·cases hb
  split at h
  ·rename_i hti hb
   rw [hti] at ht
   obtain ⟨q, rfl, hq⟩ := isP _ hb
   refine ⟨_, _, h, rfl, fun w ox oy => ?_⟩
   have hu : P.underlying t = some (.pointer (P.pointee t)) := by simp [Program.pointee, ht.1]
   simp only [YO, uu, YH, binOp, Op.equal, Op.maxDepth, run_equalIn_pointer_nil w 9999 t q hu, hq, YX]
  ·rename_i hti hb
   rw [hti] at ht
   obtain ⟨q, rfl, hq⟩ := isP _ hb
   refine ⟨_, _, h, rfl, fun w ox oy => ?_⟩
   have hu : P.underlying t = some (.pointer (P.pointee t)) := by simp [Program.pointee, ht.1]
   simp only [YO, uu, YH, binOp, Op.equal, Op.maxDepth, run_equalIn_pointer_nil w 9999 t q hu, hq, YX]
  ·cases h
 ·rename_i k a k' b
  simp only [aC, a6, aD] at hx hy
  subst hx; subst hy
  split at h
  ·obtain ⟨hb, h⟩ := av h
   have hb := of_decide_eq_true hb
   refine ⟨_, .int k (bb k a b), h, by simp [one, aC, a6, aD], fun w ox oy => ?_⟩
   simp only [YO, oc, YH, binOp, shift_shl_any _ _ _ _ hb, YX, bb]
  ·obtain ⟨hb, h⟩ := av h
   have hb := of_decide_eq_true hb
   refine ⟨_, .int k (dr k a b), h, by simp [one, aC, a6, aD], fun w ox oy => ?_⟩
   simp only [YO, oc, YH, binOp, shift_shr_any _ _ _ _ hb, YX, dr]
  ·obtain ⟨hk, h2⟩ := aF h
   have := br hk
   subst this
   obtain ⟨s, hp, hs, hr⟩ := AY (P := P) (t := t) h2
   exact ⟨_, _, hs, zK hp, fun w ox oy => by simp only [YO, oc, YH, hr]⟩
 ·simp only [aC, a6, aD] at hx hy
  subst hx; subst hy
  obtain ⟨s, hp, hs, hr⟩ := AZ (P := P) (t := t) h
  exact ⟨_, _, hs, zK hp, fun w ox oy => by simp only [YO, FW, YH, hr]⟩
 ·rename_i a b
  simp only [aC, a6, aD] at hx hy
  subst hx; subst hy
  have ht := hL t
  split at h
  ·rename_i hti
   rw [hti] at ht
   exact ⟨_, .bool (a == b), h, by simp [one, aC, a6, aD], fun w ox oy => by
    simp only [YO, qR, YH, binOp, Op.equal, Op.maxDepth, aaM w 9999 t a b ht.1, YX]⟩
  ·rename_i hti
   rw [hti] at ht
   exact ⟨_, .bool (!(a == b)), h, by simp [one, aC, a6, aD], fun w ox oy => by
    simp only [YO, qR, YH, binOp, Op.equal, Op.maxDepth, aaM w 9999 t a b ht.1, YX]⟩
  ·cases h
 ·rename_i l m
  obtain ⟨cs, rfl, hcs⟩ := hx
  obtain ⟨ds, rfl, hds⟩ := hy
  split at h
  ·rename_i fs cts by_ hti
   have ht := hL t
   rw [hti] at ht
   obtain ⟨fields, zc, hu, hfs, hinfo, hz, hcmp⟩ := ht
   obtain ⟨h1, h2, h3, h4⟩ := hcmp rfl
   have hfo : P.fieldsOf t = fields := by simp [Program.fieldsOf, hu]
   have main : ∀ b, eqL L cts l m = some b → ∀ w, (Op.equalIn 10000 t (.agg cs) (.agg ds)).run P w = .ok b w := by
    intro b hb w
    rw [run_equalIn_struct w 9999 t cs ds (by rw [hfo]; exact hu) h2, hfo]
    refine m9 (X := X) (lc := lc) hL cs ds 9998 cts l m fields.toList 0 b h3 (fun j f hj => by rw [h4 j f hj]; omega) (fun j x hj => ?_) (fun j x hj => ?_) hb w
    ·obtain ⟨v, hv, hr⟩ := hcs.get j x hj
     exact ⟨v, by simpa using hv, hr⟩
    ·obtain ⟨v, hv, hr⟩ := hds.get j x hj
     exact ⟨v, by simpa using hv, hr⟩
   split at h
   ·rename_i b hb
    exact ⟨_, .bool b, h, by simp [one, aC, a6, aD], fun w ox oy => by
     simp only [YO, run_eqGuard_agg w _ t ox oy cs ds h1, YH, run_eql_struct, main b hb]⟩
   ·rename_i b hb
    exact ⟨_, .bool (!b), h, by simp [one, aC, a6, aD], fun w ox oy => by
     simp only [YO, run_eqGuard_agg w _ t ox oy cs ds h1, YH, run_neq_struct, main b hb]⟩
   ·cases h
  ·cases h
 ·cases h

theorem E5 (hL : aJ P L) {t : TypeId} {fs : List Fd} {cts : List TypeId} {by_ : Nat} (hti : L.at_ t = .struct fs cts by_ true) {l m : List SV} {cs ds : Array Value} (hcs : aw (aD X lc) l cs.toList) (hds : aw (aD X lc) m ds.toList) {b : Bool} (hb : eqL L cts l m = some b) (w : World) :
  (Op.equalIn 10000 t (.agg cs) (.agg ds)).run P w = .ok b w := by
 have ht := hL t
 rw [hti] at ht
 obtain ⟨fields, zc, hu, hfs, hinfo, hz, hcmp⟩ := ht
 obtain ⟨h1, h2, h3, h4⟩ := hcmp rfl
 have hfo : P.fieldsOf t = fields := by simp [Program.fieldsOf, hu]
 rw [run_equalIn_struct w 9999 t cs ds (by rw [hfo]; exact hu) h2, hfo]
 refine m9 (X := X) (lc := lc) hL cs ds 9998 cts l m fields.toList 0 b h3 (fun j f hj => by rw [h4 j f hj]; omega) (fun j x hj => ?_) (fun j x hj => ?_) hb w
 ·obtain ⟨v, hv, hr⟩ := hcs.get j x hj
  exact ⟨v, by simpa using hv, hr⟩
 ·obtain ⟨v, hv, hr⟩ := hds.get j x hj
  exact ⟨v, by simpa using hv, hr⟩

end
end Go.Rv
