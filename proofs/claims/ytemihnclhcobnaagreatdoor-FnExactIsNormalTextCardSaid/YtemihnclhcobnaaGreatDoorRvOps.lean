/- The evaluator's operations do what the machine's do: those that read. -/
import Derived.Test.YtemihnclhcobnaaGreatDoorRvRel
import Derived.Laws.StructEq
import Derived.Laws.Pointers
namespace Go.Rv
set_option linter.unusedSimpArgs false
open Go.RowKit (Below)

def Nx : IntKind -> Nat
 | .i64 | .u64 => 8
 | .i32 | .u32 => 4
 | .i16 | .u16 => 2
 | .i8 | .u8 => 1

def cU (L : Lay) (c : TypeId) (z : Value) : Prop :=
 match L.at_ c with
 | .int k => z = .int k 0
 | .bool => z = .bool false
 | .string => z = .string ByteArray.empty
 | .slice _ => z = .slice none 0 0
 | .pointer _ => z = .pointer none
 | .map _ _ => z = .map none
 | .func => z = .nilFunc
 | _ => True

def BB : TypeDesc -> Bool
 | .struct _ => true
 | .array _ _ => true
 | _ => false

structure Xj (P : Program) (fd : Fd) (f : Field) : Prop where
 off : fd.off = f.offset
 info : ∃ i, P.info? f.type = some i /\ i.size = fd.size
 pos : fd.size ≠ 0
 agg : ∃ d, P.underlying f.type = some d /\ BB d = fd.agg

def dP (P : Program) (t : TypeId) (z : Value) (size bytes : Nat) : Prop := ∃ i, P.info? t = some i /\ i.zero = some z /\ i.size = size /\ i.bytes = bytes

def WN (P : Program) (t : TypeId) (cts : List TypeId) (fields : List Field) : Prop :=
 P.eqGuardType P.depth t = false /\ P.stoodInHeld t = false /\ aB (fun c f => P.underlying c = P.underlying f.type /\ f.name ≠ "_") cts fields /\ ∀ (i : Nat) f, fields[i]? = some f -> f.offset = i

def Z7 (P : Program) (L : Lay) (t : TypeId) : TI -> Prop
 | .int k => P.underlying t = some (.int k) /\ dP P t (.int k 0) 1 (Nx k)
 | .bool => P.underlying t = some .bool /\ dP P t (.bool false) 1 1
 | .string => P.underlying t = some .string /\ dP P t (.string ByteArray.empty) 1 16
 | .slice e => P.underlying t = some (.slice e) /\ dP P t (.slice none 0 0) 1 24
 | .struct fs cts b cmp => ∃ fields zc, P.underlying t = some (.struct fields) /\ aB (Xj P) fs fields.toList /\ dP P t (.agg zc) cts.length b /\ aB (cU L) cts zc.toList /\
   (cmp = true -> WN P t cts fields.toList)
 | .array n e => P.underlying t = some (.array n e) /\ n = 2 /\ L.at_ e = .bool /\ dP P t (.agg #[.bool false, .bool false]) 2 2
 | .pointer e => P.underlying t = some (.pointer e) /\ dP P t (.pointer none) 1 8
 | .map k e => P.underlying t = some (.map k e) /\ dP P t (.map none) 1 8
 | .func => (∃ a b c, P.underlying t = some (.func a b c)) /\ dP P t .nilFunc 1 8
 | .other => True

def aO (P : Program) (L : Lay) : Prop := ∀ t, Z7 P L t (L.at_ t)

section
variable {I : World -> Prop} {P : Program} {L : Lay} {X : Cx I} {lc : List Loc} {β : Type}

theorem az {s : St} {a : Act} (hr : aB (aC X lc) s.tmps a.tmps.toList) (x : Operand) : aC X lc (aF s x) (a.eval x) := by
 cases x with
 | tmp t =>
  have h := hr.nth (d := ac) (e := undef) (fun _ => trivial) t
  simpa [aF, Act.eval, Array.getD_eq_getD_getElem?] using h
 | const v => cases v with
  | pointer p => cases p <;> simp [aF, Act.eval, NU, aC, a7, aD]
  | _ => simp [aF, Act.eval, NU, aC, a7, aD]
 | global g => trivial
 | func f => exact ⟨#[], rfl, .nil⟩

theorem bu {k k' : IntKind} (h : bI k k' = true) : k = k' := by
 cases k <;> cases k' <;> first | rfl | simp [bI] at h

theorem aA {b : Bool} {x : Option β} {r : β} (h : gd b x = some r) : b = true /\ x = some r := by
 cases b <;> simp [gd] at h
 exact ⟨rfl, h⟩
theorem aH {b : Bool} {x : Option β} {r : β} (h : cond b x none = some r) : b = true /\ x = some r := by
 cases b <;> simp at h
 exact ⟨rfl, h⟩

theorem rQ {n : Nat} : ∀ {l : List Nat}, n ∈ l -> jT n l = true
 | x :: l, h => by
  simp only [jT]
  by_cases e : x = n
  ·subst e; rw [alV]; rfl
  ·have : n ∈ l := by simpa [Ne.symm e] using h
   rw [rQ this]; cases Nat.beq x n <;> rfl
theorem pn {n : Nat} : ∀ {l : List Nat}, jT n l = true -> n ∈ l
 | [], h => by cases h
 | x :: l, h => by
  simp only [jT] at h
  cases hb : Nat.beq x n with
  | true => rw [aj3 hb]; simp
  | false => rw [hb] at h; exact ake _ (pn h)
theorem Cc {acc : List Nat} {n m : Nat} (h : m ∈ acc \/ m = n) : m ∈ DQ acc n := by
  unfold DQ
  cases hb : jT n acc with
  | true => rcases h with h | rfl
            · exact h
            · exact pn hb
  | false => rcases h with h | rfl
             · exact List.mem_append_left _ h
             · exact List.mem_append_right _ (by simp)
theorem dR : ∀ {l acc : List Nat} {m : Nat}, m ∈ acc \/ m ∈ l -> m ∈ eJ acc l
 | [], _, _, h => by rcases h with h | h <;> first | exact h | cases h
 | n :: l, acc, m, h => dR (l := l) (by
   rcases h with h | h
   ·exact .inl (Cc (.inl h))
   ·rcases akf.1 h with rfl | h
    ·exact .inl (Cc (.inr rfl))
    ·exact .inr h)
theorem ke : ∀ {xs : List TV} {acc : List Nat} {m : Nat}, (m ∈ acc \/ ∃ x ∈ xs, m ∈ dE x) -> m ∈ jA acc xs
 | [], _, _, h => by rcases h with h | ⟨x, h, _⟩ <;> first | exact h | cases h
 | x :: xs, acc, m, h => ke (xs := xs) (by
   rcases h with h | ⟨y, hy, hm⟩
   ·exact .inl (dR (.inl h))
   ·rcases akf.1 hy with rfl | hy
    ·exact .inl (dR (.inr hm))
    ·exact .inr ⟨y, hy, hm⟩)
theorem wW {V : List Nat} : ∀ {l : List Nat}, oW V l = true -> ∀ j ∈ l, jT j V = false
 | x :: l, h, j, hj => by
  simp only [oW, aj0, akm] at h
  rcases akf.1 hj with rfl | hj
  ·exact h.1
  ·exact wW h.2 j hj
theorem fI {s : St} {o : Oper} {x : Operand} {j : Nat} (hx : x ∈ o.op.operands.toList) (hj : j ∈ dE (aF s x)) : j ∈ d6 s o :=
 ke (.inr ⟨_, akq.2 ⟨x, hx, rfl⟩, hj⟩)
theorem jG {x : TV} {s : SV} (h : x.sv = s) (hs : s ≠ .und) : dE x = iI s := by
 cases x with
 | v z => cases z with
  | one t => simp only [TV.sv] at h; subst h; rfl
  | agg l => exact absurd h.symm hs
 | tup l => exact absurd h.symm hs

def NY : Next -> Option Value
 | .value v => some v
 | .skip => some undef
 | _ => none

def fe (P : Program) (X : Cx I) (o : Oper) (a : Act) (_w : World) (lc : List Loc) (s : St) (K : TV -> St -> Option β) (r : β) : Prop :=
 ∃ x v, K x s = some r /\ aC X lc x v /\ ∀ w', (execOp a.eval o).run P w' = .ok (.value v) w'

def fU (P : Program) (X : Cx I) (o : Oper) (a : Act) (w : World) (lc : List Loc) (s : St) (K : TV -> St -> Option β) (r : β) : Prop :=
 ∃ x v, K x s = some r /\ aC X lc x v /\ ∀ G, vZ X s.blks lc (d6 s o) G -> ∀ w', Lat G w w' -> (execOp a.eval o).run P w' = .ok (.value v) w'

def mH (P : Program) (X : Cx I) (o : Oper) (a : Act) (w : World) (lc : List Loc) (s : St) (K : TV -> St -> Option β) (r : β) : Prop :=
 ∃ x bl more n v w', K x ⟨s.tmps, bl⟩ = some r /\ (execOp a.eval o).run P w = .ok n w' /\ (fo o.op = true -> Below w.heap.size w w') /\ NY n = some v /\ aC X (lc ++ more) x v /\ aK X bl w' (lc ++ more)

def wF (P : Program) (X : Cx I) (o : Oper) (a : Act) (w : World) (lc : List Loc) (s : St) (K : TV -> St -> Option β) (r : β) : Prop :=
 ∃ x bl more v, K x ⟨s.tmps, bl⟩ = some r /\ aC X (lc ++ more) x v /\ aK X bl w (lc ++ more) /\ ∀ w', (execOp a.eval o).run P w' = .ok (.value v) w'
theorem fe.b {o : Oper} {a : Act} {w : World} {s : St} {K : TV -> St -> Option β} {r : β} (hw : aK X s.blks w lc) (h : fe P X o a w lc s K r) : wF P X o a w lc s K r := by
 obtain ⟨x, v, h1, h2, h3⟩ := h
 exact ⟨x, s.blks, [], v, h1, by simpa using h2, by simpa using hw, h3⟩
def Lz (P : Program) (X : Cx I) (o : Oper) (a : Act) (w : World) (lc : List Loc) (s : St) (K : TV -> St -> Option β) (r : β) : Prop :=
 ∃ x bl more n v w' X', K x ⟨s.tmps, bl⟩ = some r /\ (execOp a.eval o).run P w = .ok n w' /\ (fo o.op = true -> Below w.heap.size w w') /\ NY n = some v /\ X.Le X' /\ aC X' (lc ++ more) x v /\ aK X' bl w' (lc ++ more)
theorem mH.f {o : Oper} {a : Act} {w : World} {s : St} {K : TV -> St -> Option β} {r : β} (h : mH P X o a w lc s K r) : Lz P X o a w lc s K r := by
 obtain ⟨x, bl, more, n, v, w', h1, h2, h3, h4, h5, h6⟩ := h
 exact ⟨x, bl, more, n, v, w', X, h1, h2, h3, h4, .refl X, h5, h6⟩

theorem wF.step {o : Oper} {a : Act} {w : World} {s : St} {K : TV -> St -> Option β} {r : β} (h : wF P X o a w lc s K r) : mH P X o a w lc s K r := by
 obtain ⟨x, bl, more, v, h1, h2, h3, h4⟩ := h
 exact ⟨x, bl, more, .value v, v, w, h1, h4 w, fun _ => akG _ _, rfl, h2, h3⟩
theorem fU.step {o : Oper} {a : Act} {w : World} {s : St} {K : TV -> St -> Option β} {r : β} (hw : aK X s.blks w lc) (h : fU P X o a w lc s K r) : mH P X o a w lc s K r := by
 obtain ⟨x, v, h1, h2, h3⟩ := h
 exact ⟨x, s.blks, [], .value v, v, w, h1, h3 _ (vZ.nil _ _ _ _) w (Lat.refl _), fun _ => akG _ _, rfl, by simpa using h2, by simpa using hw⟩

theorem bD {o : Oper} {a : Act} {w : World} {s : St} {K : TV -> St -> Option β} {r : β} {x : TV} {v : Value} (h1 : K x s = some r) (h2 : aC X lc x v)
  (h3 : ∀ w', (execOp a.eval o).run P w' = .ok (.value v) w') : fU P X o a w lc s K r := ⟨x, v, h1, h2, fun _ _ w' _ => h3 w'⟩

theorem aI {o : Oper} {a : Act} {w : World} {s : St} {K : TV -> St -> Option β} {r : β} {x : TV} {v : Value} (h1 : K x s = some r) (h2 : aC X lc x v)
  (h3 : ∀ w', (execOp a.eval o).run P w' = .ok (.value v) w') : fe P X o a w lc s K r := ⟨x, v, h1, h2, h3⟩
theorem fe.q {o : Oper} {a : Act} {w : World} {s : St} {K : TV -> St -> Option β} {r : β} (h : fe P X o a w lc s K r) : fU P X o a w lc s K r := by
 obtain ⟨x, v, h1, h2, h3⟩ := h
 exact ⟨x, v, h1, h2, fun _ _ w' _ => h3 w'⟩

theorem CC {s : SV} (hp : bO s = true) : aC X lc (one s) (nT s) := (jC hp).2 rfl

theorem qh (op : BinOp) (t : TypeId) (x y : Operand) (k k' : IntKind) (a b : Int) (w : World) : (eqGuard op t x y (.int k a) (.int k' b)).run P w = .ok () w := by
 cases op <;> simp [eqGuard]
theorem Ju (op : BinOp) (t : TypeId) (x y : Operand) (a b : ByteArray) (w : World) : (eqGuard op t x y (.string a) (.string b)).run P w = .ok () w := by
 cases op <;> simp [eqGuard]
theorem tA (op : BinOp) (t : TypeId) (x y : Operand) (a b : Bool) (w : World) : (eqGuard op t x y (.bool a) (.bool b)).run P w = .ok () w := by
 cases op <;> simp [eqGuard]

theorem xh (op : BinOp) (t : TypeId) (x y : Operand) (a b : Option Addr) (w : World) : (eqGuard op t x y (.pointer a) (.pointer b)).run P w = .ok () w := by
 cases op <;> simp [eqGuard]

theorem DW {op : BinOp} {t : TypeId} {k : IntKind} {a b : Int} {K : SV -> Option β} {r : β} (h : yP op k a b K = some r) :
    ∃ s, bO s = true /\ K s = some r /\ ∀ w, (binOp op t (.int k a) (.int k b)).run P w = .ok (nT s) w := by
  cases op <;> simp only [yP] at h <;> try (exact ⟨_, rfl, h, fun w => by simp [binOp, Op.intArith, Op.intBits, Op.intCmp, nT, bits]⟩)
  · obtain ⟨hb, h⟩ := aA h
    exact ⟨_, rfl, h, fun w => by have : b ≠ 0 := by simpa using hb
                                  simp [binOp, Op.intDiv, nT, this, aea]⟩
  · obtain ⟨hb, h⟩ := aA h
    exact ⟨_, rfl, h, fun w => by have : b ≠ 0 := by simpa using hb
                                  simp [binOp, Op.intDiv, nT, this, Te]⟩
  · cases h
  · cases h

theorem DX {op : BinOp} {t : TypeId} {a b : ByteArray} {K : SV -> Option β} {r : β} (h : yQ op a b K = some r) :
  ∃ s, bO s = true /\ K s = some r /\ ∀ w, (binOp op t (.string a) (.string b)).run P w = .ok (nT s) w := by
 cases op <;> simp only [yQ] at h <;> try (cases h; done)
 ·obtain ⟨hb, h⟩ := aA h
  refine ⟨_, rfl, h, fun w => ?_⟩
  have hb' : a.size + b.size <= 9223372036854775807 := of_decide_eq_true hb
  have : ¬ (((a.size + b.size : Nat) : Int) > IntKind.i64.max) := by
   have : IntKind.i64.max = 9223372036854775807 := by decide
   rw [this]; omega
  simp only [binOp, Op.stringOp, if_neg this, nT, akr]
 ·exact ⟨_, rfl, h, fun w => by simp [binOp, Op.stringOp, nT]⟩
 ·exact ⟨_, rfl, h, fun w => by simp [binOp, Op.stringOp, nT]⟩

theorem bT (t : TypeId) (d : TypeDesc) (hu : P.underlying t = some d) (hd : BB d = false) (cs : Array Value) (off : Nat) (v : Value) (hv : cs[off]? = some v) (w : World) :
  (part t cs off).run P w = .ok v w := by
 have : (isAgg t).run P w = .ok false w := by
  unfold isAgg
  rw [akk, run_underlying hu w]
  cases d <;> simp [BB] at hd <;> simp
 simp [part, this, hv]

theorem oX (hL : aO P L) (cs ds : Array Value) (d : Nat) : ∀ (cts : List TypeId) (l m : List SV) (fs : List Field) (i : Nat) (b : Bool),
  aB (fun c f => P.underlying c = P.underlying f.type /\ f.name ≠ "_") cts fs -> (∀ (j : Nat) f, fs[j]? = some f -> f.offset = i + j) ->
  (∀ (j : Nat) x, l[j]? = some x -> ∃ v, cs[i + j]? = some v /\ aD X lc x v) -> (∀ (j : Nat) x, m[j]? = some x -> ∃ v, ds[i + j]? = some v /\ aD X lc x v) ->
  eqL L cts l m = some b -> ∀ w, (Op.eqFields (d + 1) cs ds fs).run P w = .ok b w := by
 have one : ∀ (c : TypeId) (x y : SV) (f : Field) (i : Nat) (b : Bool), (P.underlying c = P.underlying f.type /\ f.name ≠ "_") -> f.offset = i -> (∃ v, cs[i]? = some v /\ aD X lc x v) -> (∃ v, ds[i]? = some v /\ aD X lc y v) ->
   eqS L c x y = some b -> ∃ u v, (∀ w, (part f.type cs f.offset).run P w = .ok u w) /\ (∀ w, (part f.type ds f.offset).run P w = .ok v w) /\ ∀ w, (Op.equalIn (d + 1) f.type u v).run P w = .ok b w := by
  rintro c x y f i b ⟨hu, _⟩ rfl ⟨u, hu1, hu2⟩ ⟨v, hv1, hv2⟩ hb
  have hc := hL c
  unfold eqS at hb
  split at hb
  ·rename_i k h1
   obtain ⟨hk, hb⟩ := aH hb
   cases hb
   simp only [aD] at hu2 hv2
   rw [h1] at hc
   have hc1 := hc.1
   rw [hu] at hc1
   subst hu2; subst hv2
   refine ⟨_, _, fun w => bT _ _ hc1 rfl _ _ _ hu1 w, fun w => bT _ _ hc1 rfl _ _ _ hv1 w, fun w => ?_⟩
   rw [bu hk]
   exact run_equalIn_int w d _ _ _ _ _ hc1
  ·rename_i h1
   cases hb
   simp only [aD] at hu2 hv2
   rw [h1] at hc
   have hc1 := hc.1
   rw [hu] at hc1
   subst hu2; subst hv2
   exact ⟨_, _, fun w => bT _ _ hc1 rfl _ _ _ hu1 w, fun w => bT _ _ hc1 rfl _ _ _ hv1 w, fun w => amg w d _ _ _ hc1⟩
  ·rename_i h1
   cases hb
   simp only [aD] at hu2 hv2
   rw [h1] at hc
   have hc1 := hc.1
   rw [hu] at hc1
   subst hu2; subst hv2
   exact ⟨_, _, fun w => bT _ _ hc1 rfl _ _ _ hu1 w, fun w => bT _ _ hc1 rfl _ _ _ hv1 w, fun w => run_equalIn_string w d _ _ _ hc1⟩
  ·cases hb
 intro cts
 induction cts with
 | nil =>
  intro l m fs i b hf ho hl hm hb w
  cases hf
  cases l <;> cases m <;> simp [eqL] at hb
  subst hb
  simp [Op.eqFields]
 | cons c cts ih =>
  intro l m fs i b hf ho hl hm hb w
  cases hf with
  | @cons _ f _ fs h1 hf =>
  cases l with
  | nil => cases cts <;> simp [eqL] at hb
  | cons x l =>
  cases m with
  | nil => cases cts <;> cases l <;> simp [eqL] at hb
  | cons y m =>
  have hx := hl 0 x rfl
  have hy := hm 0 y rfl
  have hof := ho 0 f rfl
  simp only [ak0] at hx hy hof
  have hl' : ∀ (j : Nat) x, l[j]? = some x -> ∃ v, cs[i + 1 + j]? = some v /\ aD X lc x v := fun j x hj => by
   have := hl (j + 1) x (by simpa using hj)
   rwa [show i + (j + 1) = i + 1 + j by omega] at this
  have hm' : ∀ (j : Nat) x, m[j]? = some x -> ∃ v, ds[i + 1 + j]? = some v /\ aD X lc x v := fun j x hj => by
   have := hm (j + 1) x (by simpa using hj)
   rwa [show i + (j + 1) = i + 1 + j by omega] at this
  have ho' : ∀ (j : Nat) f, fs[j]? = some f -> f.offset = i + 1 + j := fun j f hj => by
   have := ho (j + 1) f (by simpa using hj)
   omega
  have go : ∀ b1 b2, eqS L c x y = some b1 -> eqL L cts l m = some b2 -> (Op.eqFields (d + 1) cs ds (f :: fs)).run P w = .ok (b1 && b2) w := by
   intro b1 b2 h1' h2'
   obtain ⟨u, v, hu, hv, he⟩ := one c x y f i b1 h1 hof hx hy h1'
   have ih' := ih l m fs (i + 1) b2 hf ho' hl' hm' h2' w
   simp only [Op.eqFields, if_pos h1.2, akk, hu, hv, he, akb]
   cases b1 <;> simp [ih']
  cases cts with
  | nil =>
   cases l <;> cases m <;> simp [eqL] at hb
   have := go b true hb rfl
   simpa using this
  | cons c2 cts =>
   simp only [eqL] at hb
   split at hb
   ·rename_i b1 b2 h1' h2'
    cases hb
    exact go b1 b2 h1' h2'
   ·cases hb

theorem IG (hL : aO P L) {op : BinOp} {t : TypeId} {x y : TV} {vx vy : Value} {K : TV -> Option β} {r : β} (h : wY L op t x y K = some r) (hx : aC X lc x vx) (hy : aC X lc y vy) :
  ∃ z u, K z = some r /\ aC X lc z u /\ ∀ w ox oy, ((do eqGuard op t ox oy vx vy; binOp op t vx vy) : Sem Value).run P w = .ok u w := by
 unfold wY at h
 split at h
 ·rename_i p
  have ht := hL t
  simp only [aC, a7] at hx hy
  have hy : vy = .pointer none := hy
  subst hy
  have isP : ∀ b, Zk p = some b -> ∃ q, vx = .pointer q /\ q.isNone = b := by
   intro b hb
   unfold Zk at hb
   split at hb
   ·rename_i two T
    cases hb
    cases T with
    | nil => exact ⟨none, hx, rfl⟩
    | node a b l r => obtain ⟨g, _, _, _, _, _, h1, _⟩ := hx; exact ⟨_, h1, rfl⟩
   ·cases hb
    obtain ⟨g, _, h1⟩ := hx
    exact ⟨_, h1, rfl⟩
   ·cases hb; exact ⟨none, hx, rfl⟩
   ·cases hb
  split at h
  ·rename_i hti hb
   rw [hti] at ht
   obtain ⟨q, rfl, hq⟩ := isP _ hb
   refine ⟨_, _, h, rfl, fun w ox oy => ?_⟩
   have hu : P.underlying t = some (.pointer (P.pointee t)) := by simp [Program.pointee, ht.1]
   simp only [akk, xh, akb, binOp, Op.equal, Op.maxDepth, run_equalIn_pointer_nil w 9999 t q hu, hq, akr]
  ·rename_i hti hb
   rw [hti] at ht
   obtain ⟨q, rfl, hq⟩ := isP _ hb
   refine ⟨_, _, h, rfl, fun w ox oy => ?_⟩
   have hu : P.underlying t = some (.pointer (P.pointee t)) := by simp [Program.pointee, ht.1]
   simp only [akk, xh, akb, binOp, Op.equal, Op.maxDepth, run_equalIn_pointer_nil w 9999 t q hu, hq, akr]
  ·cases h
 ·rename_i k a k' b
  simp only [aC, a7, aD] at hx hy
  subst hx; subst hy
  split at h
  ·obtain ⟨hb, h⟩ := aA h
   have hb := of_decide_eq_true hb
   refine ⟨_, .int k (aW k a b), h, by simp [one, aC, a7, aD], fun w ox oy => ?_⟩
   simp only [akk, qh, akb, binOp, shift_shl_any _ _ _ _ hb, akr, aW]
  ·obtain ⟨hb, h⟩ := aA h
   have hb := of_decide_eq_true hb
   refine ⟨_, .int k (cW k a b), h, by simp [one, aC, a7, aD], fun w ox oy => ?_⟩
   simp only [akk, qh, akb, binOp, shift_shr_any _ _ _ _ hb, akr, cW]
  ·obtain ⟨hk, h2⟩ := aH h
   have := bu hk
   subst this
   obtain ⟨s, hp, hs, hr⟩ := DW (P := P) (t := t) h2
   exact ⟨_, _, hs, CC hp, fun w ox oy => by simp only [akk, qh, akb, hr]⟩
 ·simp only [aC, a7, aD] at hx hy
  subst hx; subst hy
  obtain ⟨s, hp, hs, hr⟩ := DX (P := P) (t := t) h
  exact ⟨_, _, hs, CC hp, fun w ox oy => by simp only [akk, Ju, akb, hr]⟩
 ·rename_i a b
  simp only [aC, a7, aD] at hx hy
  subst hx; subst hy
  have ht := hL t
  split at h
  ·rename_i hti
   rw [hti] at ht
   exact ⟨_, .bool (a == b), h, by simp [one, aC, a7, aD], fun w ox oy => by
    simp only [akk, tA, akb, binOp, Op.equal, Op.maxDepth, amg w 9999 t a b ht.1, akr]⟩
  ·rename_i hti
   rw [hti] at ht
   exact ⟨_, .bool (!(a == b)), h, by simp [one, aC, a7, aD], fun w ox oy => by
    simp only [akk, tA, akb, binOp, Op.equal, Op.maxDepth, amg w 9999 t a b ht.1, akr]⟩
  ·cases h
 ·rename_i l m
  obtain ⟨cs, rfl, hcs⟩ := hx
  obtain ⟨ds, rfl, hds⟩ := hy
  split at h
  ·rename_i fs cts by_ hti
   have ht := hL t
   rw [hti] at ht
   obtain ⟨fields, zc, hu, hfs, hinfo, hz, hcmp⟩ := ht
   obtain ⟨h1, h2, h3, h4⟩ := hcmp rfl
   have hfo : P.fieldsOf t = fields := by simp [Program.fieldsOf, hu]
   have main : ∀ b, eqL L cts l m = some b -> ∀ w, (Op.equalIn 10000 t (.agg cs) (.agg ds)).run P w = .ok b w := by
    intro b hb w
    rw [run_equalIn_struct w 9999 t cs ds (by rw [hfo]; exact hu) h2, hfo]
    refine oX (X := X) (lc := lc) hL cs ds 9998 cts l m fields.toList 0 b h3 (fun j f hj => by rw [h4 j f hj]; omega) (fun j x hj => ?_) (fun j x hj => ?_) hb w
    ·obtain ⟨v, hv, hr⟩ := hcs.get j x hj
     exact ⟨v, by simpa using hv, hr⟩
    ·obtain ⟨v, hv, hr⟩ := hds.get j x hj
     exact ⟨v, by simpa using hv, hr⟩
   split at h
   ·rename_i b hb
    exact ⟨_, .bool b, h, by simp [one, aC, a7, aD], fun w ox oy => by
     simp only [akk, run_eqGuard_agg w _ t ox oy cs ds h1, akb, run_eql_struct, main b hb]⟩
   ·rename_i b hb
    exact ⟨_, .bool (!b), h, by simp [one, aC, a7, aD], fun w ox oy => by
     simp only [akk, run_eqGuard_agg w _ t ox oy cs ds h1, akb, run_neq_struct, main b hb]⟩
   ·cases h
  ·cases h
 ·cases h

theorem IE (hL : aO P L) {t : TypeId} {fs : List Fd} {cts : List TypeId} {by_ : Nat} (hti : L.at_ t = .struct fs cts by_ true) {l m : List SV} {cs ds : Array Value} (hcs : aB (aD X lc) l cs.toList) (hds : aB (aD X lc) m ds.toList) {b : Bool} (hb : eqL L cts l m = some b) (w : World) :
  (Op.equalIn 10000 t (.agg cs) (.agg ds)).run P w = .ok b w := by
 have ht := hL t
 rw [hti] at ht
 obtain ⟨fields, zc, hu, hfs, hinfo, hz, hcmp⟩ := ht
 obtain ⟨h1, h2, h3, h4⟩ := hcmp rfl
 have hfo : P.fieldsOf t = fields := by simp [Program.fieldsOf, hu]
 rw [run_equalIn_struct w 9999 t cs ds (by rw [hfo]; exact hu) h2, hfo]
 refine oX (X := X) (lc := lc) hL cs ds 9998 cts l m fields.toList 0 b h3 (fun j f hj => by rw [h4 j f hj]; omega) (fun j x hj => ?_) (fun j x hj => ?_) hb w
 ·obtain ⟨v, hv, hr⟩ := hcs.get j x hj
  exact ⟨v, by simpa using hv, hr⟩
 ·obtain ⟨v, hv, hr⟩ := hds.get j x hj
  exact ⟨v, by simpa using hv, hr⟩

end
end Go.Rv
