/- Maps: what is looked up and put. -/
import Derived.Test.YtmhlcbibbhelkaaDoorRvQuiet
import Derived.MapKept
import Derived.WideKeyRuns
namespace Go.Rv
open Go.RowKit (Below)
set_option linter.unusedVariables false
section
variable {I : World → Prop} {P : Program} {L : Lay} {X : Cx I} {lc : List Loc} {β : Type}

def idxM (kd : MK) : Mp → Int → Int → Option Nat
  | [], _, _ => none
  | p :: l, a, b => cond (eqK kd p.1 a b) (some 0) ((idxM kd l a b).map (· + 1))

theorem idxM_has (kd : MK) : ∀ (l : Mp) (a b : Int), (idxM kd l a b).isSome = hasM kd l a b
  | [], _, _ => rfl
  | p :: l, a, b => by
    simp only [idxM, hasM]
    cases eqK kd p.1 a b with
    | true => rfl
    | false => simp [← idxM_has kd l a b]
theorem getM_not (kd : MK) : ∀ (l : Mp) (a b : Int), hasM kd l a b = false → getM kd l a b = 0
  | [], _, _, _ => rfl
  | p :: l, a, b, h => by
    simp only [hasM, Bool.or_eq_false_iff] at h
    simp only [getM, h.1, cond_false]
    exact getM_not kd l a b h.2

def kindOK (P : Program) (L : Lay) (k e : TypeId) (kd : MK) : Prop :=
  (kd.two = false → P.underlying k = some (.int .i64)) ∧
  (kd.two = true → ∃ fs c1 c2, L.at_ k = .struct fs [c1, c2] 16 true ∧ L.at_ c1 = .int .i64 ∧ L.at_ c2 = .int .i64) ∧
  (kd.bool = false → L.at_ e = .int .i64) ∧ (kd.bool = true → L.at_ e = .bool)

theorem kindM_ok (hL : LayOK P L) {k e : TypeId} {kd : MK} (h : kindM L k e = some kd) : kindOK P L k e kd := by
  unfold kindM at h
  split at h
  · rename_i two bool h1 h2
    simp only [Option.some.injEq] at h
    subst h
    have hk := hL k
    refine ⟨fun ht => ?_, fun ht => ?_, fun hb => ?_, fun hb => ?_⟩
    · simp only at ht
      subst ht
      split at h1
      · rename_i hti; rw [hti] at hk; exact hk.1
      · split at h1 <;> cases h1
      · cases h1
    · simp only at ht
      subst ht
      split at h1
      · cases h1
      · rename_i fs c1 c2 hti
        split at h1
        · rename_i e1 e2; exact ⟨fs, c1, c2, hti, e1, e2⟩
        · cases h1
      · cases h1
    · simp only at hb
      subst hb
      split at h2
      · rename_i hti; exact hti
      · cases h2
      · cases h2
    · simp only at hb
      subst hb
      split at h2
      · cases h2
      · rename_i hti; exact hti
      · cases h2
  · cases h

theorem sameMK_eq {a b : MK} (h : sameMK a b = true) : a = b := by
  cases a; cases b
  simp only [sameMK, Bool.and_eq_true, beq_iff_eq] at h
  rw [h.1, h.2]
theorem mapT_ok (hL : LayOK P L) {t : TypeId} {kd : MK} (h : mapT L t kd = true) : ∃ k e, P.underlying t = some (.map k e) ∧ kindOK P L k e kd := by
  unfold mapT at h
  split at h
  · rename_i k e hti
    have ht := hL t
    rw [hti] at ht
    split at h
    · rename_i kd' hk
      rw [sameMK_eq h]
      exact ⟨k, e, ht.1, kindM_ok hL hk⟩
    · cases h
  · cases h

theorem keyOf_val {kd : MK} {x : TV} {a b : Int} (h : keyOf kd x = some (a, b)) {v : Value} (hv : relT X lc x v) : v = keyV kd (a, b) := by
  unfold keyOf at h
  split at h
  · simp only [relT, relA, relS] at hv
    unfold keyV
    cases ht : kd.two with
    | true => rw [ht] at h; cases h
    | false =>
      rw [ht] at h
      simp only [cond_false, Option.some.injEq, Prod.mk.injEq] at h
      rw [hv, h.1]; rfl
  · obtain ⟨cs, h1, h2⟩ := hv
    unfold keyV
    cases ht : kd.two with
    | false => rw [ht] at h; cases h
    | true =>
      rw [ht] at h
      simp only [cond_true, Option.some.injEq, Prod.mk.injEq] at h
      obtain ⟨rfl, rfl⟩ := h
      rw [h1]
      cases cs with
      | mk l =>
        cases h2 with
        | cons e1 h2 => cases h2 with
          | cons e2 h2 => cases h2 with
            | nil =>
              simp only [relS] at e1 e2
              rw [e1, e2]; rfl
  · cases h

theorem equal_two (hL : LayOK P L) {k : TypeId} {fs : List Fd} {c1 c2 : TypeId} (hti : L.at_ k = .struct fs [c1, c2] 16 true) (h1 : L.at_ c1 = .int .i64) (h2 : L.at_ c2 = .int .i64) (a b c d : Int) (w : World) :
    (Op.equal k (.agg #[.int .i64 a, .int .i64 b]) (.agg #[.int .i64 c, .int .i64 d])).run P w = .ok (a == c && b == d) w := by
  refine equal_agg (X := Cx.triv w) (lc := []) hL hti (l := [.int .i64 a, .int .i64 b]) (m := [.int .i64 c, .int .i64 d]) (.cons rfl (.cons rfl .nil)) (.cons rfl (.cons rfl .nil)) ?_ w
  simp [eqL, eqS, h1, h2, sameKind]

theorem keys_equal (hL : LayOK P L) {k e : TypeId} {kd : MK} (hk : kindOK P L k e kd) (ht : kd.two = true) (a b : Int) (p : Int × Int) (w : World) : (Op.equal k (keyV kd (a, b)) (keyV kd p)).run P w = .ok (eqK kd p a b) w := by
  obtain ⟨fs, c1, c2, hti, h1, h2⟩ := hk.2.1 ht
  unfold keyV eqK
  rw [ht]
  simp only [cond_true, Bool.not_true, Bool.false_or]
  rw [equal_two hL hti h1 h2]
  congr 1
  rw [Bool.beq_comm, Bool.beq_comm (a := b)]

theorem findAsking_run (hL : LayOK P L) {k e : TypeId} {kd : MK} (hk : kindOK P L k e kd) (ht : kd.two = true) (a b : Int) (w : World) : ∀ (l : Mp) (es : List MapEntry) (i : Nat), All2 (fun p e => e.key = keyV kd p.1 ∧ e.val = valV kd p.2) l es →
    (Instr.findAsking k (keyV kd (a, b)) es i).run P w = .ok ((idxM kd l a b).map fun n => (i + n, valV kd (getM kd l a b))) w := by
  intro l
  induction l with
  | nil => intro es i h; cases h; simp [Instr.findAsking, idxM]
  | cons p l ih =>
    intro es i h
    cases h with
    | @cons _ en _ es h1 h2 =>
      simp only [Instr.findAsking, Sem.run_bind, h1.1, keys_equal hL hk ht a b p.1 w, Result.andThen_ok, idxM, getM]
      cases heq : eqK kd p.1 a b with
      | true => simp [h1.2]
      | false =>
        simp only [Bool.false_eq_true, if_false, cond_false, Option.map_map]
        rw [ih es (i + 1) h2]
        congr 1
        cases idxM kd l a b with
        | none => rfl
        | some n => simp; omega
theorem findNow_run {kd : MK} (ht : kd.two = false) (a b : Int) : ∀ (l : Mp) (es : List MapEntry) (i : Nat), All2 (fun p e => e.key = keyV kd p.1 ∧ e.val = valV kd p.2) l es →
    Instr.findNow (.int .i64) (keyV kd (a, b)) es i = some ((idxM kd l a b).map fun n => (i + n, valV kd (getM kd l a b))) := by
  intro l
  induction l with
  | nil => intro es i h; cases h; simp [Instr.findNow, idxM]
  | cons p l ih =>
    intro es i h
    cases h with
    | @cons _ en _ es h1 h2 =>
      have hs : Instr.sameNow (.int .i64) (keyV kd (a, b)) en.key = some (eqK kd p.1 a b) := by
        rw [h1.1]
        unfold keyV eqK
        rw [ht]
        simp [Instr.sameNow, Bool.beq_comm]
      simp only [Instr.findNow, hs, idxM, getM]
      cases heq : eqK kd p.1 a b with
      | true => simp [h1.2]
      | false =>
        simp only [cond_false, Option.map_map]
        rw [ih es (i + 1) h2]
        congr 1
        cases idxM kd l a b with
        | none => rfl
        | some n => simp; omega

theorem findKey_run (hL : LayOK P L) {k e : TypeId} {kd : MK} (hk : kindOK P L k e kd) (a b : Int) (w : World) {l : Mp} {es : List MapEntry} (h : All2 (fun p e => e.key = keyV kd p.1 ∧ e.val = valV kd p.2) l es) :
    (Instr.findKey k (keyV kd (a, b)) es).run P w = .ok ((idxM kd l a b).map fun n => (n, valV kd (getM kd l a b))) w := by
  cases ht : kd.two with
  | false =>
    have := findNow_run ht a b l es 0 h
    simp only [Nat.zero_add] at this
    exact MapKept.run_findKey (hk.1 ht) this
  | true =>
    have := findAsking_run hL hk ht a b w l es 0 h
    simp only [Nat.zero_add] at this
    obtain ⟨fs, c1, c2, hti, _, _⟩ := hk.2.1 ht
    have hkk := hL k
    rw [hti] at hkk
    obtain ⟨fields, zc, hu, _⟩ := hkk
    rw [run_findKey_eq w (by rw [hu])]
    exact this

theorem checkKey_int {t : TypeId} (hu : P.underlying t = some (.int .i64)) (em : Bool) (n : Nat) (a : Int) (w : World) : (Instr.checkKey em (n + 1) t (.int .i64 a)).run P w = .ok () w := by
  unfold Instr.checkKey
  simp [run_underlying hu]
theorem checkKey_any (hL : LayOK P L) {k e : TypeId} {kd : MK} (hk : kindOK P L k e kd) (em : Bool) (n : Nat) (p : Int × Int) (w : World) : (Instr.checkKey em (n + 2) k (keyV kd p)).run P w = .ok () w := by
  cases ht : kd.two with
  | false =>
    unfold keyV
    rw [ht]
    exact checkKey_int (hk.1 ht) em (n + 1) p.1 w
  | true =>
    obtain ⟨fs, c1, c2, hti, h1, h2⟩ := hk.2.1 ht
    have hkk := hL k
    rw [hti] at hkk
    obtain ⟨fields, zc, hu, hfs, hinfo, hz, hcmp⟩ := hkk
    obtain ⟨_, _, h3, h4⟩ := hcmp rfl
    unfold keyV
    rw [ht]
    obtain ⟨fl⟩ := fields
    simp only at h3 h4
    cases h3 with
    | @cons _ f1 _ fl1 e1 h3 => cases h3 with
      | @cons _ f2 _ fl2 e2 h3 => cases h3 with
        | nil =>
          have o1 := h4 0 f1 rfl
          have o2 := h4 1 f2 rfl
          have u1 : P.underlying f1.type = some (.int .i64) := by rw [← e1.1]; have := hL c1; rw [h1] at this; exact this.1
          have u2 : P.underlying f2.type = some (.int .i64) := by rw [← e2.1]; have := hL c2; rw [h2] at this; exact this.1
          have p1 := run_part_one (P := P) f1.type _ u1 rfl #[.int .i64 p.1, .int .i64 p.2] f1.offset (.int .i64 p.1) (by rw [o1]; rfl) w
          have p2 := run_part_one (P := P) f2.type _ u2 rfl #[.int .i64 p.1, .int .i64 p.2] f2.offset (.int .i64 p.2) (by rw [o2]; rfl) w
          have q1 := checkKey_int u1 em n p.1 w
          have q2 := checkKey_int u2 em n p.2 w
          unfold Instr.checkKey
          simp [run_underlying hu, e1.2, e2.2, p1, p2, q1, q2]
theorem checkKey_run (hL : LayOK P L) {k e : TypeId} {kd : MK} (hk : kindOK P L k e kd) (em : Bool) (p : Int × Int) (w : World) : (Instr.checkKey em 10000 k (keyV kd p)).run P w = .ok () w :=
  checkKey_any hL hk em 9998 p w

theorem valM_rel {kd : MK} (n : Int) : relS X lc (valM kd n) (valV kd n) := by
  unfold valM valV
  cases kd.bool <;> rfl

theorem zero_run (hL : LayOK P L) {k e : TypeId} {kd : MK} (hk : kindOK P L k e kd) (w : World) : (zeroValue e).run P w = .ok (valV kd 0) w := by
  have he := hL e
  unfold valV
  cases hb : kd.bool with
  | false =>
    rw [hk.2.2.1 hb] at he
    obtain ⟨_, i, hi, hz, _, _⟩ := he
    simp [zeroValue, typeInfo, hi, hz]
  | true =>
    rw [hk.2.2.2 hb] at he
    obtain ⟨_, i, hi, hz, _, _⟩ := he
    simp [zeroValue, typeInfo, hi, hz]

theorem lookup_run (hL : LayOK P L) {t : TypeId} {kd : MK} (ht : mapT L t kd = true) {g : Nat} {l : Mp} {w : World} (hm : mapAt w g kd l) (a b : Int) (ok : Bool) :
    (Instr.lookup t (.map (some g)) (keyV kd (a, b)) ok).run P w = .ok (if ok then .tuple #[valV kd (getM kd l a b), .bool (hasM kd l a b)] else valV kd (getM kd l a b)) w := by
  obtain ⟨k, e, hu, hk⟩ := mapT_ok hL ht
  obtain ⟨es, clock, hh, hes⟩ := hm
  have hf := findKey_run hL hk a b w hes
  have hg := MapKept.run_getObj_map (P := P) hh
  have hc := checkKey_run hL hk es.isEmpty (a, b) w
  have hhas := idxM_has kd l a b
  have hnot := getM_not kd l a b
  simp only [Instr.lookup, Sem.run_bind, run_underlying hu, Result.andThen_ok, hg, Sem.run_pure, hc, hf]
  cases hi : idxM kd l a b with
  | none =>
    rw [hi] at hhas
    have hh2 : hasM kd l a b = false := by rw [← hhas]; rfl
    rw [hh2, hnot hh2]
    simp [zero_run hL hk w]
  | some n =>
    rw [hi] at hhas
    have hh2 : hasM kd l a b = true := by rw [← hhas]; rfl
    rw [hh2]
    simp

theorem q_lookup (hL : LayOK P L) {o : Oper} {s : St} {a : Act} {w : World} {K : TV → St → Option β} {r : β} {t : TypeId} {x i : Operand} {ok : Bool} (ho : o.op = .lookup t x i ok) (hR : Rel X s a w lc)
    (h : evLookup L t (getO s x).sv (getO s i) ok s K = some r) : StepQ P X o a w lc s K r := by
  have hx := eval_rel (X := X) hR.tmps x
  have hi := eval_rel (X := X) hR.tmps i
  unfold evLookup at h
  split at h
  · rename_i j hj
    have hjr : j ∈ refsT (getO s x) := by rw [sv_refs hj (by simp)]; simp [refsS]
    split at h
    · rename_i kd l hb
      split at h
      · rename_i p q hk
        obtain ⟨ht, h⟩ := cond_none h
        obtain ⟨g, hl, he⟩ := sv_is hx hj
        have hm := mpOf_rel (hR.world.blks j _ _ (mpOf_some hb).1 hl) hb
        have hkey := keyOf_val hk hi
        have hrel : relT X lc (cond ok (.tup [.one (valM kd (getM kd l p q)), .one (.bool (hasM kd l p q))]) (one (valM kd (getM kd l p q)))) (if ok then .tuple #[valV kd (getM kd l p q), .bool (hasM kd l p q)] else valV kd (getM kd l p q)) := by
          cases ok with
          | true => exact ⟨_, rfl, .cons (valM_rel _) (.cons rfl .nil)⟩
          | false => exact valM_rel _
        refine ⟨_, _, h, hrel, fun G hV w' hb' => ?_⟩
        have hng : ¬ G g := hV.no (opRefs_mem (x := x) (by simp [ho, Op.operands]) hjr) (mpOf_some hb).1 (mpOf_some hb).2 hl rfl
        obtain ⟨es, clock, hh, hes⟩ := hm
        have := lookup_run hL ht (w := w') ⟨es, clock, lat_cell hb' hng hh, hes⟩ p q ok
        unfold execOp
        simp only [ho]
        rw [he, hkey]
        simp only [Sem.run_bind, this, Result.andThen_ok, Sem.run_pure]
      · cases h
    · cases h
  · cases h

theorem All2.snoc {α γ : Type} {R : α → γ → Prop} {l : List α} {m : List γ} {x : α} {y : γ} (h : All2 R l m) (hxy : R x y) : All2 R (l ++ [x]) (m ++ [y]) := h.append (.cons hxy .nil)

theorem sameBits_key (kd : MK) (p : Int × Int) (q : Int × Int) (h : eqK kd q p.1 p.2 = true) : Instr.sameBits 10000 (keyV kd q) (keyV kd p) = true := by
  unfold keyV
  unfold eqK at h
  cases ht : kd.two with
  | false =>
    rw [ht] at h
    simp at h
    simp [Instr.sameBits, h]
  | true =>
    rw [ht] at h
    simp at h
    simp only [cond_true]
    rw [show (10000 : Nat) = 9999 + 1 from rfl]
    simp [Instr.sameBits, h.1, h.2]

theorem putM_idx (kd : MK) (a b v : Int) : ∀ (l : Mp) (es : List MapEntry), All2 (fun p e => e.key = keyV kd p.1 ∧ e.val = valV kd p.2) l es →
    match idxM kd l a b with
    | some n => (∃ e, es[n]? = some e ∧ ∃ q, e.key = keyV kd q ∧ eqK kd q a b = true) ∧ All2 (fun p e => e.key = keyV kd p.1 ∧ e.val = valV kd p.2) (putM kd l a b v) (es.modify n fun e => { e with key := keyV kd (a, b), val := valV kd v })
    | none => putM kd l a b v = l ++ [((a, b), v)]
  | [], _, h => by cases h; rfl
  | p :: l, es, h => by
    cases h with
    | @cons _ e _ es h1 h2 =>
      simp only [idxM, putM]
      cases heq : eqK kd p.1 a b with
      | true =>
        simp only [cond_true]
        exact ⟨⟨e, rfl, p.1, h1.1, heq⟩, by simp only [List.modify_zero_cons]; exact .cons ⟨rfl, rfl⟩ h2⟩
      | false =>
        have ih := putM_idx kd a b v l es h2
        simp only [cond_false]
        cases hi : idxM kd l a b with
        | none => rw [hi] at ih; simp only [Option.map_none]; rw [ih]; rfl
        | some n =>
          rw [hi] at ih
          obtain ⟨⟨e2, h3, h4⟩, h5⟩ := ih
          simp only [Option.map_some]
          exact ⟨⟨e2, by simpa using h3, h4⟩, by simp only [List.modify_succ_cons]; exact .cons h1 h5⟩

theorem update_run (hL : LayOK P L) {t : TypeId} {kd : MK} (ht : mapT L t kd = true) {g : Nat} {l : Mp} {w : World} (hm : mapAt w g kd l) (a b v : Int) :
    ∃ es clock, (Instr.mapUpdate t (.map (some g)) (keyV kd (a, b)) (valV kd v)).run P w = .ok () { w with heap := w.heap.setIfInBounds g (.map es clock) } ∧ All2 (fun p e => e.key = keyV kd p.1 ∧ e.val = valV kd p.2) (putM kd l a b v) es.toList := by
  obtain ⟨k, e, hu, hk⟩ := mapT_ok hL ht
  obtain ⟨es, clock, hh, hes⟩ := hm
  have hf := findKey_run hL hk a b w hes
  have hg := MapKept.run_getObj_map (P := P) hh
  have hc := checkKey_run hL hk false (a, b) w
  have hp := putM_idx kd a b v l es.toList hes
  cases hi : idxM kd l a b with
  | none =>
    rw [hi] at hp hf
    simp only at hp
    refine ⟨es.push { key := keyV kd (a, b), val := valV kd v, born := clock }, clock + 1, ?_, ?_⟩
    · simp [Instr.mapUpdate, run_underlying hu, hg, hc, hf, MapKept.run_setObj_map _ hh]
    · rw [hp]
      simp only [Array.toList_push]
      exact hes.snoc ⟨rfl, rfl⟩
  | some n =>
    rw [hi] at hp hf
    obtain ⟨⟨en, hen, q, hq, heq⟩, h5⟩ := hp
    refine ⟨es.modify n fun e => { e with key := keyV kd (a, b), val := valV kd v }, clock, ?_, by simpa using h5⟩
    have hst := sameBits_key kd (a, b) q heq
    have hkey : ((es[n]?).map (·.key)).getD (keyV kd (a, b)) = keyV kd q := by
      have : es[n]? = some en := by simpa using hen
      rw [this, ← hq]; rfl
    simp [Instr.mapUpdate, run_underlying hu, hg, hc, hf, hkey, Instr.keyThatStays, hst, MapKept.run_setObj_map _ hh]

theorem set_grown {w : World} {g : Nat} (o' : Obj) : w.grownBy { w with heap := w.heap.setIfInBounds g o' } (some g) :=
  ⟨rfl, rfl, rfl, by simp, fun k hk hne => by
    have : g ≠ k := fun e => hne (by rw [e])
    simp [this]⟩

theorem s_mapUpdate (hL : LayOK P L) {o : Oper} {s : St} {a : Act} {w : World} {K : TV → St → Option β} {r : β} {t : TypeId} {m k v : Operand} (ho : o.op = .mapUpdate t m k v) (hR : Rel X s a w lc)
    (h : evMapUpdate L t (getO s m).sv (getO s k) (getO s v) s K = some r) : Step P X o a w lc s K r := by
  have hx := eval_rel (X := X) hR.tmps m
  have hi := eval_rel (X := X) hR.tmps k
  have hv := eval_rel (X := X) hR.tmps v
  unfold evMapUpdate at h
  split at h
  · rename_i j hj
    split at h
    · rename_i kd l hb
      split at h
      · rename_i p q n hk hn
        obtain ⟨ht, h⟩ := cond_none h
        obtain ⟨g, hl, he⟩ := sv_is hx hj
        have hblk := mpOf_some hb
        have hm := mpOf_rel (hR.world.blks j _ _ hblk.1 hl) hb
        have hkey := keyOf_val hk hi
        have hval : a.eval v = valV kd n := by
          have := sv_rel hv
          unfold numM at hn
          split at hn
          · rename_i z hz
            rw [hz] at this
            simp only [relS] at this
            unfold valV
            cases hb2 : kd.bool with
            | true => rw [hb2] at hn; cases hn
            | false => rw [hb2] at hn; simp only [cond_false, Option.some.injEq] at hn; rw [this, hn]; rfl
          · rename_i z hz
            rw [hz] at this
            simp only [relS] at this
            unfold valV
            cases hb2 : kd.bool with
            | false => rw [hb2] at hn; cases hn
            | true => rw [hb2] at hn; simp only [cond_true, Option.some.injEq] at hn; rw [this, ← hn]; cases z <;> rfl
          · cases hn
        obtain ⟨es, clock, hrun, hes⟩ := update_run hL ht hm p q n
        obtain ⟨es0, c0, hh0, _⟩ := hm
        refine ⟨_, _, [], .skip, undef, { w with heap := w.heap.setIfInBounds g (.map es clock) }, h, ?_, fun hf => ?_, rfl, trivial, ?_⟩
        · unfold execOp
          simp only [ho]
          rw [he, hkey, hval]
          simp only [Sem.run_bind, hrun, Result.andThen_ok, Sem.run_pure]
        · rw [ho] at hf; cases hf
        · rw [List.append_nil]
          have hgr := set_grown (w := w) (g := g) (.map es clock)
          have hlt : g < w.heap.size := (Array.getElem?_eq_some_iff.1 hh0).1
          have hmap : mapAt { w with heap := w.heap.setIfInBounds g (.map es clock) } g kd (putM kd l p q n) := ⟨es, clock, by simp [hlt], hes⟩
          refine hR.world.turn hblk.1 hl hblk.2 hgr ?_
          have hold := hR.world.blks j _ _ hblk.1 hl
          cases hbb : nth Blk.dead s.blks j <;> rw [hbb] at hb hold <;> simp only [Blk.mpOf, Option.some.injEq, Prod.mk.injEq, reduceCtorEq] at hb
          · obtain ⟨rfl, rfl⟩ := hb
            exact ⟨hold.1, hmap⟩
          · obtain ⟨rfl, rfl⟩ := hb
            exact ⟨hold.1, hmap⟩
      · cases h
    · cases h
  · cases h

theorem s_makeMap {o : Oper} {s : St} {a : Act} {w : World} {K : TV → St → Option β} {r : β} {t : TypeId} (ho : o.op = .makeMap t none) (hR : Rel X s a w lc)
    (h : (match L.at_ t with
      | .map k e => match kindM L k e with
        | some kd => K (one (.mp s.blks.length)) (s.add (.mp kd []))
        | none => none
      | _ => none) = some r) : Step P X o a w lc s K r := by
  split at h
  · split at h
    · rename_i kd hk
      have hb : Below w.heap.size w (w.alloc (.map #[] 0)) := (Below.refl _ _).alloc (Nat.le_refl _) _
      refine ⟨_, _, [.m w.heap.size], .value (.map (some w.heap.size)), .map (some w.heap.size), w.alloc (.map #[] 0), h, ?_, fun _ => hb, rfl, ⟨w.heap.size, ?_, rfl⟩, ?_⟩
      · unfold execOp
        simp only [ho]
        simp [Instr.makeMap, newObj]
        rfl
      · rw [← hR.world.len]; simp
      · refine hR.world.push hb ⟨hR.world.base_le, #[], 0, ?_, .nil⟩ fun g hg => ?_
        · have := (MapKept.heap_alloc w (.map #[] 0)).1
          exact this
        · simp [Loc.blk] at hg; omega
    · cases h
  · cases h
end
end Go.Rv
