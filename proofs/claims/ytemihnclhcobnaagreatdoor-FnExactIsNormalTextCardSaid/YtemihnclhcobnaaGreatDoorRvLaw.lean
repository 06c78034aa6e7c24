/- From a row's arguments, as they are read, to the evaluator's values; and what a law answers is handed on to the row. -/
import Derived.Test.YtemihnclhcobnaaGreatDoorRvUse
import Derived.ChangeSlices
import Derived.SliceStrings
import Derived.Deep.Slices
import Derived.Deep.Grids
import Derived.Carry
import Derived.SizedLaws
import Derived.RowKit
namespace Go.Rv
set_option linter.unusedSimpArgs false
open Go.RowKit (Below)
open Go.ChangeShapes Go.WideShapes

section
variable {I : World -> Prop} {H : Type} {enc : TypeId × Value -> H} {P : Program} {w : World} {L : Lay}

abbrev FL (I : World -> Prop) (w : World) : Prop := ∀ w' : World, (∀ k, k < w.heap.size -> w'.heap[k]? = w.heap[k]?) -> I w'
def cx0 (hk : FL I w) : Cx I := ⟨w, [], [], fun k => k < w.heap.size, fun _ => False, w, fun _ h => ⟨h, (fun v hv => by simp at hv), (by simp)⟩, fun w' h => hk w' fun k h1 => h k h1 (fun v hv => by simp at hv) (by simp)⟩
theorem MH (hk : FL I w) : cD (cx0 hk) := ⟨rfl, rfl, fun _ h => h, fun _ h => h.elim⟩
variable {hk : FL I w}

def Db (L : Lay) (e : TypeId) (q : Row) : Prop :=
 match L.at_ e with
 | .int k => ∃ l, q = .ints k l /\ l.length <= maxLen /\ ∀ n ∈ l, (Lit.int k n).wf = true
 | .string => ∃ l, q = .strs l /\ l.length <= maxLen /\ ∀ s ∈ l, s.size <= maxLen
 | .bool => ∃ l, q = .bools l /\ l.length <= maxLen
 | _ => False

def fO (L : Lay) (t : TypeId) (s : SV) : Prop :=
 match L.at_ t with
 | .int k => ∃ n, s = .int k n /\ (Lit.int k n).wf = true
 | .bool => ∃ b, s = .bool b
 | .string => ∃ b, s = .str b /\ b.size <= maxLen
 | .slice e => ∃ q, s = .sl e q /\ Db L e q
 | _ => False

def okS (L : Lay) (t : TypeId) : Bool :=
 match L.at_ t with
 | .int _ | .bool | .string => true
 | .slice e => match L.at_ e with
  | .int _ | .bool | .string => true
  | _ => false
 | _ => false

theorem D1 {t : TypeId} {z : Value} {n b : Nat} (h : dP P t z n b) : P.cellsOf t = n := by
 obtain ⟨i, hi, _, hs, _⟩ := h
 simp [Program.cellsOf, hi, hs]

theorem oS {S : Nat -> Prop} {wf : World} {q : Row} (h : q.deep = false) : q.cellsIn S wf q.cells := by
 cases q <;> first | rfl | cases h
theorem JF {q : Row} (h : q.len = 0) : q.cells = [] := by
 cases q <;> simp only [Row.len, Row.cells, List.length_eq_zero_iff] at h ⊢ <;> subst h <;> rfl
theorem nD {q : Row} (hd : q.deep = false) (h : q.len = 0) : dL (cx0 hk) q (.slice none 0 0) :=
 ⟨none, 0, 0, rfl, h.symm, aj8 _, q.cells, oS hd, fun m u hm => by rw [JF h] at hm; simp at hm⟩

theorem qb {q : Row} {a : Addr} {c : Nat} (hd : q.deep = false) (hc : q.len <= c) (h : ∀ m u, q.cells[m]? = some u -> w.cell? (a.add m) = some u) : dL (cx0 hk) q (.slice (some a) q.len c) := by
 refine ⟨some a, _, _, rfl, rfl, hc, q.cells, oS hd, fun m u hm => ⟨a, rfl, ?_, h m u hm⟩⟩
 have := amQ w _ (h m u hm)
 rw [ChangeShapes.block_add] at this
 exact this

theorem wS (hL : aO P L) {c : TypeId} (hc : okS L c = true) {fuel : Nat} {cs : List Value} {x : DataW H × List MemPlace} (h : DataW.trod enc P w 0 (fun _ => true) true fuel c cs = some x) :
  ∃ s v, cs = [v] /\ fO L c s /\ aD (cx0 hk) [] s v := by
 have ht := hL c
 unfold okS at hc
 unfold fO
 cases hti : L.at_ c with
 | int k =>
  rw [hti] at ht
  obtain ⟨n, h1, _, h3⟩ := DataW.trod_int ht.1 h
  exact ⟨.int k n, _, h1, ⟨n, rfl, h3⟩, rfl⟩
 | bool =>
  rw [hti] at ht
  obtain ⟨b, h1, _⟩ := DataW.trod_bool ht.1 h
  exact ⟨.bool b, _, h1, ⟨b, rfl⟩, rfl⟩
 | string =>
  rw [hti] at ht
  obtain ⟨b, h1, _, h3⟩ := DataW.trod_string ht.1 h
  exact ⟨.str b, _, h1, ⟨b, rfl, h3⟩, rfl⟩
 | slice e =>
  rw [hti] at ht hc
  have he := hL e
  simp only [Db]
  cases hte : L.at_ e with
  | int k =>
   rw [hte] at he
   rcases open_ints ht.1 he.1 (D1 he.2) h with ⟨h1, _⟩ | ⟨a, len, cap, zs, h1, _, h3, h4, h5, _, h7, h8⟩
   ·exact ⟨.sl e (.ints k []), _, h1, ⟨_, rfl, [], rfl, by simp, by simp⟩, nD rfl rfl⟩
   ·simp only [if_true] at h5
    have hl : (zs.take len).length = len := by simp; omega
    refine ⟨.sl e (.ints k (zs.take len)), _, h1, ⟨_, rfl, _, rfl, by omega, fun n hn => h8 n (ak5 hn)⟩, ?_⟩
    have := qb (hk := hk) (q := .ints k (zs.take len)) (a := a) (c := cap) rfl (by show (zs.take len).length <= cap; omega) (fun m u hm => by
     simp only [Row.cells, amI, amM] at hm
     split at hm
     ·rename_i hlt
      have hz : m < zs.length := by omega
      rw [amF hz] at hm
      simp only [akB, aj1] at hm
      rw [<- hm, h7 m hz]
      simp [List.getD, amF hz]
     ·cases hm)
    simp only [Row.len, hl] at this
    exact this
  | string =>
   rw [hte] at he
   rcases open_strings ht.1 he.1 (D1 he.2) h with ⟨h1, _⟩ | ⟨a, len, cap, zs, h1, _, h3, h4, h5, _, h7, h8⟩
   ·exact ⟨.sl e (.strs []), _, h1, ⟨_, rfl, [], rfl, by simp, by simp⟩, nD rfl rfl⟩
   ·simp only [if_true] at h5
    have hl : (zs.take len).length = len := by simp; omega
    refine ⟨.sl e (.strs (zs.take len)), _, h1, ⟨_, rfl, _, rfl, by omega, fun n hn => h8 n (ak5 hn)⟩, ?_⟩
    have := qb (hk := hk) (q := .strs (zs.take len)) (a := a) (c := cap) rfl (by show (zs.take len).length <= cap; omega) (fun m u hm => by
     simp only [Row.cells, amI, amM] at hm
     split at hm
     ·rename_i hlt
      have hz : m < zs.length := by omega
      rw [amF hz] at hm
      simp only [akB, aj1] at hm
      rw [<- hm, h7 m hz]
      simp [List.getD, amF hz]
     ·cases hm)
    simp only [Row.len, hl] at this
    exact this
  | bool =>
   rw [hte] at he
   rcases Go.Deep.open_bools ht.1 he.1 (D1 he.2) h with ⟨h1, _⟩ | ⟨a, len, cap, B, h1, _, h3, h4, _, h7⟩
   ·exact ⟨.sl e (.bools []), _, h1, ⟨_, rfl, [], rfl, by simp⟩, nD rfl rfl⟩
   ·refine ⟨.sl e (.bools ((List.range len).map B)), _, h1, ⟨_, rfl, _, rfl, by simp; omega⟩, ?_⟩
    have := qb (hk := hk) (q := .bools ((List.range len).map B)) (a := a) (c := cap) rfl (by simp [Row.len]; omega) (fun m u hm => by
     simp only [Row.cells, alU, amI] at hm
     by_cases hlt : m < len
     ·rw [List.getElem?_range hlt] at hm
      simp only [akB, aj1] at hm
      rw [<- hm, h7 m (by omega)]; rfl
     ·rw [amG (by simp; omega)] at hm
      cases hm)
    simp only [Row.len, akx, amb] at this
    exact this
  | _ => simp only [hte] at hc; cases hc
 | _ => rw [hti] at hc; cases hc


def te (P : Program) (g : TypeId -> Option (List TypeId)) : List Field -> Nat -> Option (List TypeId)
 | [], _ => some []
 | f :: fs, off => match g f.type with
  | some l => cond (Nat.beq f.offset off && Nat.beq (P.cellsOf f.type) l.length) (match te P g fs (off + l.length) with | some r => some (l ++ r) | none => none) none
  | none => none
def nC (P : Program) : Nat -> TypeId -> Option (List TypeId)
 | 0, _ => none
 | d + 1, t => match P.underlying t with
  | some (.struct fs) => te P (nC P d) fs.toList 0
  | some _ => cond (Nat.beq (P.cellsOf t) 1) (some [t]) none
  | none => none

def FK (enc : TypeId × Value -> H) (P : Program) (w : World) (c : TypeId) (v : Value) : Prop := ∃ n y, DataW.trod enc P w 0 (fun _ => true) true n c [v] = some y

theorem Jr : ∀ (d : Nat) (t : TypeId) (cts : List TypeId) (fuel : Nat) (cs : List Value) (x : DataW H × List MemPlace), nC P d t = some cts -> cs.length = cts.length -> DataW.trod enc P w 0 (fun _ => true) true fuel t cs = some x -> aB (FK enc P w) cts cs := by
 intro d
 induction d with
 | zero => intro t cts fuel cs x h; cases h
 | succ d ih =>
  intro t cts fuel cs x h hlen hx
  simp only [nC] at h
  split at h
  ·rename_i fs hu
   obtain ⟨xs, n, _, _, _, hxl, hf⟩ := DataW.trod_struct hu hx
   have key : ∀ (l : List Field) (i off : Nat) (r : List TypeId), (∀ (j : Nat) f, l[j]? = some f -> fs[i + j]? = some f) -> te P (nC P d) l off = some r -> off + r.length <= cs.length -> aB (FK enc P w) r ((cs.drop off).take r.length) := by
    intro l
    induction l with
    | nil => intro i off r _ hr _; simp only [te, aj1] at hr; subst hr; simp; exact .nil
    | cons f l ihl =>
     intro i off r hget hr hle
     simp only [te] at hr
     split at hr
     ·rename_i a ha
      obtain ⟨hb, hr⟩ := aH hr
      simp only [aj0] at hb
      have h1 := aj3 hb.1
      have h2 := aj3 hb.2
      split at hr
      ·rename_i b hb'
       simp only [aj1] at hr
       subst hr
       rw [aj6] at hle ⊢
       have hfi : fs[i]? = some f := by simpa using hget 0 f rfl
       have hil : i < xs.length := by rw [hxl]; exact (amy.1 hfi).1
       have hfx := hf i f hfi
       rw [h1, h2, amF hil] at hfx
       have e1 := ih f.type a n _ _ ha (by simp; omega) hfx
       have e2 := ihl (i + 1) (off + a.length) b (fun j g hj => by have := hget (j + 1) g (by simpa using hj); rwa [show i + (j + 1) = i + 1 + j by omega] at this) hb' (by omega)
       have e3 : (cs.drop off).take (a.length + b.length) = (cs.drop off).take a.length ++ (cs.drop (off + a.length)).take b.length := by
        rw [List.take_add, ams]
       rw [e3]
       exact e1.append e2
      ·cases hr
     ·cases hr
   have := key fs.toList 0 0 cts (fun j f hj => by simpa using hj) h (by omega)
   simp only [ali] at this
   rwa [akZ (by omega)] at this
  ·rename_i u _ hu
   obtain ⟨_, h⟩ := aH h
   simp only [aj1] at h
   subst h
   have : ∃ v, cs = [v] := by
    cases cs with
    | nil => simp at hlen
    | cons v cs => cases cs with
     | nil => exact ⟨v, rfl⟩
     | cons _ _ => simp at hlen
   obtain ⟨v, rfl⟩ := this
   exact .cons ⟨fuel, x, hx⟩ .nil
  ·cases h

theorem D2 (hL : aO P L) {cts : List TypeId} {vs : List Value} (hok : cts.all (okS L) = true) (h : aB (FK enc P w) cts vs) : ∃ l, aB (fO L) cts l /\ aB (aD (cx0 hk) []) l vs := by
 induction h with
 | nil => exact ⟨[], .nil, .nil⟩
 | @cons c u _ _ h1 _ ih =>
  simp only [akd, aj0] at hok
  obtain ⟨l, h2, h3⟩ := ih hok.2
  obtain ⟨n, y, hy⟩ := h1
  obtain ⟨s, u', h4, h5, h6⟩ := wS hL hok.1 hy
  simp only [List.cons.injEq, and_true] at h4
  subst h4
  exact ⟨s :: l, .cons h5 h2, .cons h6 h3⟩

def vA (P : Program) (L : Lay) (t : TypeId) (x : TV) : Prop :=
 match L.at_ t with
 | .struct _ _ _ _ => ∃ cts l, nC P 4 t = some cts /\ x = .v (.agg l) /\ aB (fO L) cts l
 | _ => ∃ s, x = .v (.one s) /\ fO L t s

def okT (P : Program) (L : Lay) (t : TypeId) : Bool :=
 match L.at_ t with
 | .struct _ _ _ _ => match nC P 4 t with
  | some cts => cts.all (okS L) && Nat.beq (P.cellsOf t) cts.length
  | none => false
 | _ => okS L t

theorem Mw (hL : aO P L) {t : TypeId} (ht : okT P L t = true) {v : Value} {d : DataW H} {ps : List MemPlace} {base : Nat} (hv : Value.okWide P w .any base t v) (h : DataW.Trod enc P w 0 (fun _ => true) true t v d ps) :
  ∃ x, vA P L t x /\ aC (cx0 hk) [] x v := by
 obtain ⟨fuel, hf⟩ := h
 have hlt := hL t
 have single : okS L t = true -> v.cells = #[v] -> ∃ x : TV, (∃ s, x = .v (.one s) /\ fO L t s) /\ aC (cx0 hk) [] x v := fun hok hc => by
  rw [hc] at hf
  obtain ⟨s, u, h1, h2, h3⟩ := wS hL hok hf
  simp only [List.cons.injEq, and_true] at h1
  subst h1
  exact ⟨.v (.one s), ⟨s, rfl, h2⟩, h3⟩
 unfold okT at ht
 unfold vA
 cases hti : L.at_ t with
 | struct fs cts0 b cmp =>
  rw [hti] at hlt ht
  obtain ⟨fields, _, hu, _⟩ := hlt
  obtain ⟨cs, rfl, hcs⟩ := okWide_struct hu hv
  cases hfl : nC P 4 t with
  | none => rw [hfl] at ht; cases ht
  | some cts =>
   rw [hfl] at ht
   simp only [aj0] at ht
   have hall := Jr 4 t cts fuel _ _ hfl (by show cs.toList.length = _; rw [Array.length_toList, hcs, aj3 ht.2]) hf
   obtain ⟨l, h1, h2⟩ := D2 hL ht.1 (show aB (FK enc P w) cts cs.toList from hall)
   exact ⟨.v (.agg l), ⟨cts, l, rfl, rfl, h1⟩, cs, rfl, h2⟩
 | int k => rw [hti] at hlt ht; obtain ⟨n, rfl⟩ := okWide_int hlt.1 hv; exact single ht rfl
 | bool => rw [hti] at hlt ht; obtain ⟨n, rfl⟩ := okWide_bool hlt.1 hv; exact single ht rfl
 | string => rw [hti] at hlt ht; obtain ⟨n, rfl⟩ := okWide_string hlt.1 hv; exact single ht rfl
 | slice e => rw [hti] at hlt ht; obtain ⟨a, l, c, rfl⟩ := okWide_slice hlt.1 hv; exact single ht rfl
 | pointer e => rw [hti] at ht; unfold okS at ht; rw [hti] at ht; cases ht
 | map k e => rw [hti] at ht; unfold okS at ht; rw [hti] at ht; cases ht
 | array n e => rw [hti] at ht; unfold okS at ht; rw [hti] at ht; cases ht
 | func => rw [hti] at ht; unfold okS at ht; rw [hti] at ht; cases ht
 | other => rw [hti] at ht; unfold okS at ht; rw [hti] at ht; cases ht

theorem wO (hL : aO P L) : ∀ {ts : List TypeId} {vs : List Value} {ds : List (DataW H)} {ps : List MemPlace} {base : Nat}, ts.all (okT P L) = true -> (∀ (j : Nat) t v, ts[j]? = some t -> vs[j]? = some v -> Value.okWide P w .any base t v) ->
  DataW.TrodAll enc P w 0 (fun _ => true) true ts vs ds ps -> ∃ xs, aB (vA P L) ts xs /\ aB (aC (cx0 hk) []) xs vs /\ ds.length = ts.length
 | [], [], [], _, _, _, _, _ => ⟨[], .nil, .nil, rfl⟩
 | t :: ts, v :: vs, d :: ds, ps, base, hok, hv, h => by
  obtain ⟨p, q, h1, h2, _⟩ := h
  simp only [akd, aj0] at hok
  obtain ⟨x, h3, h4⟩ := Mw hL hok.1 (hv 0 t v rfl rfl) h1
  obtain ⟨xs, h5, h6, h7⟩ := wO hL (base := base) hok.2 (fun j t v ht hj => hv (j + 1) t v (by simpa using ht) (by simpa using hj)) h2
  exact ⟨x :: xs, .cons h3 h5, .cons h4 h6, by simp [h7]⟩
 | [], [], _ :: _, _, _, _, _, h => h.elim
 | [], _ :: _, _, _, _, _, _, h => by cases ‹List (DataW H)› <;> exact h.elim
 | _ :: _, [], _, _, _, _, _, h => by cases ‹List (DataW H)› <;> exact h.elim
 | _ :: _, _ :: _, [], _, _, _, _, h => h.elim

theorem wP {w' : World} (hl : laidOutB P = true) (hb : Below w.heap.size w w') : ∀ {ts : List TypeId} {vs : List Value} {ds : List (DataW H)} {ps : List MemPlace}, (ts.all fun t => P.readableRec t && decide (t < P.types.size)) = true ->
  DataW.TrodAll enc P w 0 (fun _ => true) true ts vs ds ps -> DataW.TrodAll enc P w' 0 (fun b => decide (b < w.heap.size)) true ts vs ds ps
 | [], [], [], _, _, h => h
 | t :: ts, v :: vs, d :: ds, ps, hok, h => by
  have hlt := h.lt
  obtain ⟨p, q, h1, h2, e⟩ := h
  simp only [akd, aj0, decide_eq_true_eq] at hok
  exact ⟨p, q, RowKit.Below.trod hl hok.1.1 hok.1.2 h1 hb (fun x hx => hlt x (by rw [e]; simp [hx])), wP hl hb (by simpa using hok.2) h2, e⟩
 | [], [], _ :: _, _, _, h => h.elim
 | [], _ :: _, _, _, _, h => by cases ‹List (DataW H)› <;> exact h.elim
 | _ :: _, [], _, _, _, h => by cases ‹List (DataW H)› <;> exact h.elim
 | _ :: _, _ :: _, [], _, _, h => h.elim

def qm : TV -> Option Unit
 | .v (.one (.bool true)) => some ()
 | _ => none

theorem JE {f : FuncId} {S : Spec Unit} (h : ao I P f S) {xs : List TV} (hS : S xs qm = some ()) {args : Array Value} (hrel : aB (aC (cx0 hk) []) xs args.toList) :
  Calls P f args w (fun e w' => e = .returned (.bool true) /\ Below w.heap.size w w') := by
 have hX := MH hk
 obtain ⟨y, hy, hc⟩ := h.2 xs qm () hS
 have e : y = .v (.one (.bool true)) := by
  unfold qm at hy
  split at hy
  ·rfl
  ·cases hy
 subst e
 have := hc (cx0 hk) args.toList hX hrel
 rw [Array.toArray_toList] at this
 refine this.mono fun e w' ⟨v, he, X', lc, hle, h1, h2, _⟩ => ⟨?_, (h1.below.shrink hle).plain hX⟩
 have : v = .bool true := h2
 rw [he, this]

theorem tO {I : World -> Prop} {X : World -> Array Value -> Prop} (hI : ∀ (w : World) (args : Array Value), X w args -> FL I w) (hX : ∀ (w w' : World) (args : Array Value), w.heap = w'.heap -> X w args -> X w' args) {C : Checked} {f : FuncId} {fn : Func} {s : ChangeSpec} {conds : List PathCond} {os : Os} {b : TypeId}
  (own : ownKnob C.prog.godebug = none) (started : os.Started) (noInit : C.prog.inits.idxOf? f = none) (hfn : C.prog.funcs[f]? = some fn)
  (witness : ∃ (w : World) (tape : Tape) (i : Input), w.os = os /\ (w.forCall tape i).Shaped C.prog /\ i.vars = [] /\ Input.okWide C.prog (w.forCall tape i) .any w.heap.size f i /\
   ((s.pre enc C.prog fn conds false (w.forCall tape i).memory i.args /\ X (w.forCall tape i).memory i.args) /\ sizedMet enc C.prog fn (OpenSpec.ofChange s) false (w.forCall tape i).memory i.args) /\ Assume.holds {} C.prog (lone (Frame.enter C.prog f i.args .normal) [] (w.forCall tape i)))
  (hl : laidOutB C.prog = true) (hL : aO C.prog L) (hok : (fn.params.toList.all fun t => okT C.prog L t && (C.prog.readableRec t && decide (t < C.prog.types.size))) = true)
  (hres : fn.resultTypes = #[b]) (hb : C.prog.underlying b = some .bool) (hvars : s.vars = [])
  (hs : ∀ ds : List (DataW H), ds.length = fn.params.toList.length -> (s.fn H ds).results = [.lit (.bool true)] /\ (s.fn H ds).args = ds /\ (s.fn H ds).vars = [])
  {S : Spec Unit} (hS : ao I C.prog f S) (law : ∀ xs, aB (vA C.prog L) fn.params.toList xs -> S xs qm = some ()) :
  ReturnsInHanded {} C os f .any (fun w args => (s.pre enc C.prog fn conds false w args /\ X w args) /\ sizedMet enc C.prog fn (OpenSpec.ofChange s) false w args) (s.post enc C.prog fn false true false false) := by
 refine returnsInHanded_of_change_and hX own started noInit hfn witness ?_
 intro W base args ds gs before hval hW _ _ hx _
 have hW' := hW
 obtain ⟨p, q, hA, hV, rfl, _, _⟩ := hW
 rw [hvars] at hV
 obtain ⟨rfl, rfl⟩ := trodVars_none hV
 have hok1 : fn.params.toList.all (okT C.prog L) = true := by
  rw [aku] at hok ⊢
  intro t ht
  have := hok t ht
  simp only [aj0] at this
  exact this.1
 have hok2 : (fn.params.toList.all fun t => C.prog.readableRec t && decide (t < C.prog.types.size)) = true := by
  rw [aku] at hok ⊢
  intro t ht
  have := hok t ht
  rw [aj0] at this
  exact this.2
 obtain ⟨xs, h1, h2, h3⟩ := wO (hk := hI _ _ hx) hL (base := base) hok1 (fun j t v ht hj => hval j t v (by simpa using ht) (by simpa using hj)) hA
 refine (JE hS (law xs h1) h2).mono fun e W' ⟨he, hbel⟩ => ?_
 subst he
 obtain ⟨r1, r2, r3⟩ := hs (ds ++ []) (by simpa using h3)
 refine ⟨_, rfl, ds, [], _, [], p, [], hW', ?_, ?_, ?_, hbel.frame _, fun h => by cases h⟩
 ·rw [r1, hres]
  exact trodAll_mk1 (RowKit.shut_bool hb true)
 ·rw [r2, akh]
  exact wP hl hbel hok2 hA
 ·rw [r3, hvars]
  rfl
end
end Go.Rv
