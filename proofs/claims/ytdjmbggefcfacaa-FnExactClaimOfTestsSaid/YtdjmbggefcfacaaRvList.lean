/- Lists of operations: one after the other, and those that come in any order. -/
import Derived.Test.YtdjmbggefcfacaaRvCall
namespace Go.Rv
open Go.RowKit (Below)
section
variable {P : Program} {L : Lay} {β : Type}

theorem Rel.put {X : Cx} {s : St} {a : Act} {w w' : World} {lc more : List Loc} {bl : List Blk} (h : Rel X s a w lc) {x : TV} {v : Value} (d : Option Tmp) (hx : relT X (lc ++ more) x v) (hw : RelW X bl w' (lc ++ more)) :
    Rel X (St.put ⟨s.tmps, bl⟩ d x) (a.put d v) w' (lc ++ more) := by
  have ht : All2 (relT X (lc ++ more)) s.tmps a.tmps.toList := h.tmps.mono fun _ _ h => h.more _
  cases d with
  | none => exact ⟨ht, hw, h.defers⟩
  | some d =>
    refine ⟨?_, hw, h.defers⟩
    show All2 _ (Rv.put s.tmps d x) (a.tmps.setIfInBounds d v).toList
    rw [Array.toList_setIfInBounds]
    exact ht.put d hx

theorem Rel.put_same {X : Cx} {s : St} {a : Act} {w : World} {lc : List Loc} (hR : Rel X s a w lc) {x : TV} {v : Value} (d : Option Tmp) (hx : relT X lc x v) : Rel X (s.put d x) (a.put d v) w lc := by
  have := hR.put (more := []) d (x := x) (v := v) (by simpa using hx) (by simpa using hR.world)
  simpa using this

theorem Rel.later {X : Cx} {s : St} {a : Act} {w w' : World} {lc : List Loc} (h : Rel X s a w lc) (hb : Below w.heap.size w w') : Rel X s a w' lc := ⟨h.tmps, h.world.later hb, h.defers⟩

/-- An operation, with whatever stands behind it; fr: if it leaves older memory alone. -/
def SO (P : Program) (fr : Bool) (o : Oper) (s : St) (x : TV) (bl : List Blk) : Prop := ∀ X a w lc, Rel X s a w lc →
  retAt P o a w fun v w' => (fr = true → freshB o.op = true → Below w.heap.size w w') ∧ ∃ more, relT X (lc ++ more) x v ∧ RelW X bl w' (lc ++ more)

theorem so_of_r {fr : Bool} {o : Oper} {s : St} {x : TV} {bl : List Blk} (h : SR P o s x bl) : SO P fr o s x bl := fun X a w lc hR => by
  obtain ⟨more, n, v, w', h1, hb, h2, h3, h4⟩ := h X a w lc hR
  unfold retAt
  rw [h1]
  cases n <;> simp only [outV, Option.some.injEq] at h2 <;> first | (subst h2; exact ⟨fun _ => hb, more, h3, h4⟩) | cases h2

theorem so_of_c {fr : Bool} {o : Oper} {s : St} {x : TV} {bl : List Blk} (h : SC P o s x bl) : SO P fr o s x bl := fun X a w lc hR => by
  obtain ⟨g, vs, h1, h2⟩ := h X a w lc hR
  unfold retAt
  rw [h1]
  exact h2.mono fun e w' ⟨v, more, he, hb, h3, h4⟩ => ⟨v, he, fun _ _ => hb, more, h3, h4⟩

theorem so_of_m {o : Oper} {s : St} {x : TV} {bl : List Blk} (h : SM P o s x bl) : SO P false o s x bl := fun X a w lc hR => by
  obtain ⟨g, vs, h1, h2⟩ := h X a w lc hR
  unfold retAt
  rw [h1]
  exact h2.mono fun e w' ⟨v, he, h3, h4⟩ => ⟨v, he, (fun h => by cases h), [], by simpa using h3, by simpa using h4⟩

theorem op_any (hL : LayOK P L) {E : Env β} (hE : SpecsOK P E) (hM : MutsOK P E) {fr : Bool} (hfr : fr = true → E.muts = []) {o : Oper} {s : St} {K : TV → St → Option β} {r : β} (h : evOp L E o s K = some r) :
    ∃ x bl, K x ⟨s.tmps, bl⟩ = some r ∧ SO P fr o s x bl := by
  cases hc : callB o.op with
  | false =>
    obtain ⟨x, bl, h1, h2, _⟩ := op_run hL hc h
    exact ⟨x, bl, h1, so_of_r h2⟩
  | true =>
    rcases op_call hE hM hc h with ⟨x, bl, h1, h2, _⟩ | ⟨hne, x, bl, h1, h2⟩
    · exact ⟨x, bl, h1, so_of_c h2⟩
    · cases fr with
      | true => exact absurd (hfr rfl) hne
      | false => exact ⟨x, bl, h1, so_of_m h2⟩

theorem evQ_false {E : Env β} {o : Oper} {s : St} {K : TV → St → Option β} : evQ L E false o s K = evOp L E o s K := by
  unfold evQ
  split
  · contradiction
  · rfl

theorem nth_lt {l : List TV} {d : Nat} (h : nth tund l d ≠ tund) : d < l.length := by
  rcases Nat.lt_or_ge d l.length with h' | h'
  · exact h'
  · exfalso
    apply h
    have key : ∀ (l : List TV) (n : Nat), l.length ≤ n → nth tund l n = tund := by
      intro l
      induction l with
      | nil => intro n _; cases n <;> rfl
      | cons x l ih => intro n hn; cases n with
        | zero => simp at hn
        | succ n => exact ih n (by simpa using hn)
    exact key _ _ h'

theorem slot_bool {X : Cx} {s : St} {a : Act} {w : World} {lc : List Loc} (hR : Rel X s a w lc) {d : Nat} {b : Bool} (h : (nth tund s.tmps d).sv = .bool b) : a.tmps[d]? = some (.bool b) := by
  have hd : d < s.tmps.length := nth_lt fun e => by rw [e] at h; cases h
  obtain ⟨v, hv, hr⟩ := hR.tmps.get d _ (nth_eq (d := tund) hd)
  have := sv_is hr h
  simp only [relS] at this
  rw [this] at hv
  simpa using hv

theorem slot_no {X : Cx} {s : St} {a : Act} {w : World} {lc : List Loc} (hR : Rel X s a w lc) {d : Nat} (h : (nth tund s.tmps d).sv = .no) : a.tmps[d]? = some undef := by
  have hd : d < s.tmps.length := nth_lt fun e => by rw [e] at h; cases h
  obtain ⟨v, hv, hr⟩ := hR.tmps.get d _ (nth_eq (d := tund) hd)
  have := sv_is hr h
  simp only [relS] at this
  rw [this] at hv
  simpa using hv

theorem Rel.told {X : Cx} {s : St} {a : Act} {w : World} {lc : List Loc} (hR : Rel X s a w lc) {d : Nat} {x : TV} {v : Value} (hv : a.tmps[d]? = some v) (hx : relT X lc x v) : Rel X (s.put (some d) x) a w lc := by
  refine ⟨?_, hR.world, hR.defers⟩
  have := hR.tmps.put d hx
  have e : a.tmps.toList.set d v = a.tmps.toList := by
    apply List.ext_getElem?
    intro i
    rw [List.getElem?_set]
    split
    · rename_i hi
      subst hi
      have : a.tmps.toList[d]? = some v := by simpa using hv
      rw [this]
      split
      · rfl
      · rename_i h
        exact absurd (List.getElem?_eq_some_iff.1 this).1 h
    · rfl
  rw [e] at this
  exact this

theorem yielded_of {ops : Array Oper} {j d : Nat} (hd : guardD ops.toList j = some d) (tmps : Array Value) : yielded ops tmps j = match tmps[d]? with | some (.bool b) => some b | _ => none := by
  unfold guardD at hd
  have : (ops[j]?).bind (·.dst) = some d := by
    cases ho : ops[j]? with
    | none => simp [ho] at hd
    | some o => simp [ho] at hd; simpa using hd
  unfold yielded
  rw [this]
  rfl

theorem put_no {X : Cx} {s : St} {a : Act} {w : World} {lc : List Loc} (hR : Rel X s a w lc) (d : Option Tmp) : Rel X (s.put d (one .no)) (a.put d undef) w lc :=
  hR.put_same d (by simp [one, relT, relA, relS])

/-- An operation that only reads, or a call whose answer leads to no memory. -/
def SQQ (P : Program) (o : Oper) (s : St) (x : TV) : Prop := ∀ X a w lc, Rel X s a w lc → ∃ v, relT X lc x v ∧ ∀ w', Below w.heap.size w w' → stillAt P o a w' v

theorem sqq_q {o : Oper} {s : St} {x : TV} (h : SQ P o s x) : SQQ P o s x := fun X a w lc hR => by
  obtain ⟨v, h1, h2⟩ := h X a w lc hR
  refine ⟨v, h1, fun w' hb => ?_⟩
  unfold stillAt retAt
  rw [h2 w' hb]
  exact ⟨rfl, Below.refl _ _⟩

theorem sqq_c {o : Oper} {s : St} {x : TV} (h : SCQ P o s x) : SQQ P o s x := fun X a w lc hR => by
  obtain ⟨v, h1, h2⟩ := h X a w lc hR
  refine ⟨v, h1, fun w' hb => ?_⟩
  obtain ⟨g, vs, h3, h4⟩ := h2 w' hb
  unfold stillAt retAt
  rw [h3]
  exact h4.mono fun e w'' ⟨he, hw⟩ => ⟨v, he, rfl, hw⟩

theorem op_quiet (hL : LayOK P L) {E : Env β} (hE : SpecsOK P E) (hM : MutsOK P E) (hnil : E.muts = []) {o : Oper} (hq : quietB o.op = true) {s : St} {K : TV → St → Option β} {r : β} (h : evQ L E true o s K = some r) :
    ∃ x, K x s = some r ∧ SQQ P o s x := by
  cases hc : callB o.op with
  | false =>
    have h' : evOp L E o s K = some r := by
      unfold evQ at h
      split at h
      · rename_i ho
        rw [ho] at hc
        cases hc
      · exact h
    obtain ⟨x, bl, h1, _, h2⟩ := op_run hL hc h'
    obtain ⟨rfl, h3⟩ := h2 hq
    exact ⟨x, h1, sqq_q h3⟩
  | true =>
    have h' : evOp L E o s (fun v s' => cond (plainT v) (K v s') none) = some r := by
      unfold evQ at h
      split at h
      · exact h
      · rename_i hn
        exfalso
        unfold callB at hc
        split at hc
        · rename_i f args ts ho
          exact hn f args ts rfl ho
        · cases hc
    obtain ⟨x, bl, h1, _, h2⟩ := (op_call hE hM hc h').resolve_right fun h => h.1 hnil
    obtain ⟨hp, h1⟩ := cond_none h1
    obtain ⟨rfl, h3⟩ := h2 hp
    exact ⟨x, h1, sqq_c h3⟩

/-- An operation with its guard, one way only: or such as may come at any time. -/
def OneS (P : Program) (ops : Array Oper) (fr q : Bool) (o : Oper) (s s1 : St) : Prop := ∀ X a w lc, Rel X s a w lc →
  cond q (∃ v, Yb P ops o v a w ∧ Rel X s1 (a.put o.dst v) w lc)
    (∀ KK : Act → World → Prop, (∀ a' w' lc', Rel X s1 a' w' lc' → KK a' w') →
      if Region.wanted o (yielded ops a.tmps) then retAt P o a w (fun v w' => (fr = true → freshB o.op = true → Below w.heap.size w w') ∧ KK (a.put o.dst v) w') else KK (a.put o.dst undef) w)

theorem one_step (hL : LayOK P L) {E : Env β} (hE : SpecsOK P E) (hM : MutsOK P E) {fr : Bool} (hfr : fr = true → E.muts = []) {ops : Array Oper} {q : Bool} {o : Oper} (hq : q = true → quietB o.op = true ∧ E.muts = []) {rest : List Oper} {s : St} {K : St → Option β} {r : β}
    (h : evOps L E q ops.toList (o :: rest) s K = some r) : ∃ s1, evOps L E q ops.toList rest s1 K = some r ∧ OneS P ops fr q o s s1 := by
  have did : ∀ s : St, evQ L E q o s (fun v s' => evOps L E q ops.toList rest (s'.put o.dst v) K) = some r →
      ∃ s1, evOps L E q ops.toList rest s1 K = some r ∧ ∀ X a w lc, Rel X s a w lc → Region.wanted o (yielded ops a.tmps) = true →
        cond q (∃ v, Yb P ops o v a w ∧ Rel X s1 (a.put o.dst v) w lc)
          (∀ KK : Act → World → Prop, (∀ a' w' lc', Rel X s1 a' w' lc' → KK a' w') →
            if Region.wanted o (yielded ops a.tmps) then retAt P o a w (fun v w' => (fr = true → freshB o.op = true → Below w.heap.size w w') ∧ KK (a.put o.dst v) w') else KK (a.put o.dst undef) w) := by
    intro s h
    cases q with
    | false =>
      rw [evQ_false] at h
      obtain ⟨x, bl, h1, h2⟩ := op_any hL hE hM hfr h
      refine ⟨_, h1, fun X a w lc hR hw => fun KK hKK => ?_⟩
      rw [if_pos hw]
      exact retAt_mono (fun v w' ⟨hb, more, hv, hW⟩ => ⟨hb, hKK _ _ _ (hR.put o.dst hv hW)⟩) (h2 X a w lc hR)
    | true =>
      obtain ⟨x, h1, h2⟩ := op_quiet hL hE hM (hq rfl).2 (hq rfl).1 h
      refine ⟨_, h1, fun X a w lc hR hw => ?_⟩
      obtain ⟨v, hv, hs⟩ := h2 X a w lc hR
      exact ⟨v, .inl ⟨hw, hs⟩, hR.put_same o.dst hv⟩
  have skipped : ∀ (s0 s1 : St), evOps L E q ops.toList rest (s1.put o.dst (one .no)) K = some r → (∀ X a w lc, Rel X s0 a w lc → Region.wanted o (yielded ops a.tmps) = false ∧ Rel X s1 a w lc) →
      ∃ s1, evOps L E q ops.toList rest s1 K = some r ∧ OneS P ops fr q o s0 s1 := by
    intro s0 s1 h hs
    refine ⟨_, h, fun X a w lc hR => ?_⟩
    obtain ⟨hw, hR1⟩ := hs X a w lc hR
    cases q with
    | false =>
      intro KK hKK
      rw [if_neg (by rw [hw]; simp)]
      exact hKK _ _ _ (put_no hR1 o.dst)
    | true => exact ⟨undef, .inr ⟨hw, rfl⟩, put_no hR1 o.dst⟩
  simp only [evOps] at h
  split at h
  · rename_i hg
    obtain ⟨s1, h1, h2⟩ := did s h
    exact ⟨s1, h1, fun X a w lc hR => h2 X a w lc hR (by simp [Region.wanted, hg])⟩
  · rename_i j want hg
    split at h
    · cases h
    · rename_i d hd
      have wanted_iff : ∀ (a : Act) (b : Bool), a.tmps[d]? = some (.bool b) → Region.wanted o (yielded ops a.tmps) = (b == want) := by
        intro a b hb
        simp only [Region.wanted, hg, yielded_of hd, hb]
        cases b <;> cases want <;> rfl
      have wanted_no : ∀ (a : Act), a.tmps[d]? = some undef → Region.wanted o (yielded ops a.tmps) = false := by
        intro a hb
        simp only [Region.wanted, hg, yielded_of hd, hb]
        rfl
      have go : ∀ (b : Bool), (nth tund s.tmps d).sv = .bool b → b = want → evQ L E q o (s.put (some d) (one (.bool b))) (fun v s' => evOps L E q ops.toList rest (s'.put o.dst v) K) = some r →
          ∃ s1, evOps L E q ops.toList rest s1 K = some r ∧ OneS P ops fr q o s s1 := by
        intro b hb hw h
        obtain ⟨s1, h1, h2⟩ := did _ h
        refine ⟨s1, h1, fun X a w lc hR => ?_⟩
        have hs := slot_bool hR hb
        exact h2 X a w lc (hR.told hs (by simp [one, relT, relA, relS])) (by rw [wanted_iff a b hs, hw]; simp)
      have skip : ∀ (b : Bool), (nth tund s.tmps d).sv = .bool b → b ≠ want → evOps L E q ops.toList rest ((s.put (some d) (one (.bool b))).put o.dst (one .no)) K = some r →
          ∃ s1, evOps L E q ops.toList rest s1 K = some r ∧ OneS P ops fr q o s s1 := by
        intro b hb hw h
        refine skipped s _ h fun X a w lc hR => ?_
        have hs := slot_bool hR hb
        exact ⟨by rw [wanted_iff a b hs, beq_false_of_ne hw], hR.told hs (by simp [one, relT, relA, relS])⟩
      split at h
      · rename_i b hb
        cases want with
        | true =>
          cases b with
          | true => exact go true hb rfl h
          | false => exact skip false hb (by simp) h
        | false =>
          cases b with
          | true => exact skip true hb (by simp) h
          | false => exact go false hb rfl h
      · rename_i hb
        exact skipped s s h fun X a w lc hR => ⟨wanted_no a (slot_no hR hb), hR⟩
      · cases h

theorem ops_seq (hL : LayOK P L) {E : Env β} (hE : SpecsOK P E) (hM : MutsOK P E) {ops : Array Oper} : ∀ (rest : List Oper) (s : St) (K : St → Option β) (r : β), evOps L E false ops.toList rest s K = some r →
    ∃ s', K s' = some r ∧ ∀ X a w lc, Rel X s a w lc → ∀ Q : Exit → Act → World → Prop, (∀ a' w' lc', Rel X s' a' w' lc' → Q .normal a' w') → wpList P ops Q rest a w := by
  intro rest
  induction rest with
  | nil => intro s K r h; exact ⟨s, h, fun X a w lc hR Q hQ => hQ a w lc hR⟩
  | cons o rest ih =>
    intro s K r h
    obtain ⟨s1, h1, h2⟩ := one_step (fr := false) hL hE hM (fun h => by cases h) (fun h => by cases h) h
    obtain ⟨s', h3, h4⟩ := ih _ _ _ h1
    refine ⟨s', h3, fun X a w lc hR Q hQ => wpList_step fun KK hKK => ?_⟩
    have := h2 X a w lc hR KK fun a' w' lc' hR' => hKK _ _ (h4 X a' w' lc' hR' Q hQ)
    split
    · rename_i hw
      rw [if_pos hw] at this
      exact wp_of_ret (retAt_mono (fun v w' h => h.2) this)
    · rename_i hw
      rw [if_neg hw] at this
      exact this

/-- A region walked in the order of a plan. -/
theorem plan_run (hL : LayOK P L) {E : Env β} (hE : SpecsOK P E) (hM : MutsOK P E) (hnil : E.muts = []) {ops : Array Oper} : ∀ (l : List (Nat × Bool)) (s : St) (K : St → Option β) (r : β), (∀ p ∈ l, p.2 = false → ∀ o, ops[p.1]? = some o → quietB o.op = true) →
    evPlan L E ops.toList l s K = some r →
    ∃ s', K s' = some r ∧ ∀ X a w lc, Rel X s a w lc → ∀ Q : Exit → Act → World → Prop, (∀ a' w' lc', Rel X s' a' w' lc' → Q .normal a' w') → WPlan P ops Q l a w := by
  intro l
  induction l with
  | nil => intro s K r _ h; exact ⟨s, h, fun X a w lc hR Q hQ w' hb => hQ a w' lc (hR.later hb)⟩
  | cons p l ih =>
    intro s K r hq h
    obtain ⟨i, m⟩ := p
    simp only [evPlan] at h
    split at h
    · rename_i o ho
      have ho' : ops[i]? = some o := by simpa using ho
      obtain ⟨s1, h1, h2⟩ := one_step (fr := true) hL hE hM (fun _ => hnil) (q := !m) (fun hm => ⟨hq (i, m) (by simp) (by simpa using hm) o ho', hnil⟩) h
      have h1 : evPlan L E ops.toList l s1 K = some r := h1
      obtain ⟨s', h3, h4⟩ := ih _ _ _ (fun p hp => hq p (by simp [hp])) h1
      refine ⟨s', h3, fun X a w lc hR Q hQ => ?_⟩
      cases m with
      | true =>
        intro w' hb
        have := h2 X a w' lc (hR.later hb) (WPlan P ops Q l) fun a' w'' lc' hR' => h4 X a' w'' lc' hR' Q hQ
        unfold opF
        simp only [ho']
        split
        · rename_i hw
          rw [if_pos hw] at this
          exact retAt_mono (fun v w3 h => ⟨h.1 rfl, h.2⟩) this
        · rename_i hw
          rw [if_neg hw] at this
          exact this
      | false =>
        obtain ⟨v, hy, hR1⟩ := h2 X a w lc hR
        exact ⟨o, v, ho', hy, h4 X _ w lc hR1 Q hQ⟩
    · cases h

theorem planOf_quiet {ops : Array Oper} : ∀ (f : Nat) (listed : Array Bool), ∀ p ∈ planOf .any ops f listed, p.2 = false → ∀ o, ops[p.1]? = some o → quietB o.op = true := by
  intro f
  induction f with
  | zero => intro listed p hp; simp [planOf] at hp
  | succ f ih =>
    intro listed p hp h2 o ho
    simp only [planOf] at hp
    have callq : ∀ o : Oper, callB o.op = true → quietB o.op = true := fun o h => by
      unfold callB at h
      split at h
      · rename_i ho; rw [ho]; rfl
      · cases h
    split at hp
    · simp at hp
    · rcases List.mem_cons.1 hp with rfl | hp
      · cases h2
      · exact ih _ p hp h2 o ho
    · split at hp
      · rename_i i hi
        rcases List.mem_cons.1 hp with rfl | hp
        · have := List.find?_some hi
          simp only [ho, Bool.and_eq_true] at this
          exact this.1
        · exact ih _ p hp h2 o ho
      · split at hp
        · rename_i i hi
          rcases List.mem_cons.1 hp with rfl | hp
          · have := List.find?_some hi
            simp only [ho] at this
            exact callq o this
          · exact ih _ p hp h2 o ho
        · simp at hp

/-- A region. -/
theorem region_run (hL : LayOK P L) (hm : P.follows .mixedOrders = true) {E : Env β} (hE : SpecsOK P E) (hM : MutsOK P E) {id : Nat} {ops : Array Oper} {d : Bool} {s : St} {K : St → Option β} {r : β}
    (h : (cond d (match planFor ops with | some pl => evPlan L ⟨E.fns, [], E.loops⟩ ops.toList pl s K | none => none) (evOps L E false ops.toList ops.toList s K)) = some r) :
    ∃ s', K s' = some r ∧ ∀ X a w lc, Rel X s a w lc → ∀ Q : Exit → Act → World → Prop, (∀ a' w' lc', Rel X s' a' w' lc' → Q .normal a' w') → (Code.region id ops d).wp P Q a w := by
  cases d with
  | false =>
    obtain ⟨s', h1, h2⟩ := ops_seq hL hE hM _ _ _ _ h
    exact ⟨s', h1, fun X a w lc hR Q hQ => wp_region_list (h2 X a w lc hR Q hQ)⟩
  | true =>
    simp only [cond_true] at h
    split at h
    · rename_i pl hp
      have hq : ∀ p ∈ pl, p.2 = false → ∀ o, ops[p.1]? = some o → quietB o.op = true := by
        unfold planFor planChk at hp
        obtain ⟨_, hp⟩ := cond_none hp
        simp only [Option.some.injEq] at hp
        rw [← hp]
        exact planOf_quiet _ _
      obtain ⟨s', h1, h2⟩ := plan_run (E := ⟨E.fns, [], E.loops⟩) hL hE (fun g MS h => by cases h) rfl _ _ _ _ hq h
      exact ⟨s', h1, fun X a w lc hR Q hQ => region_plan hm hp (h2 X a w lc hR Q hQ)⟩
    · cases h
end
end Go.Rv
