/- Maps: what is looked up and put. -/
import Derived.Test.YtemihnclhcobnaaGreatDoorRvQuiet
import Derived.MapKept
import Derived.WideKeyRuns
namespace Go.Rv
set_option linter.unusedSimpArgs false
open Go.RowKit (Below)
set_option linter.unusedVariables false
section
variable {I : World -> Prop} {P : Program} {L : Lay} {X : Cx I} {lc : List Loc} {β : Type}

def j7 (kd : MK) : Mp -> Int -> Int -> Option Nat
 | [], _, _ => none
 | p :: l, a, b => cond (eqK kd p.1 a b) (some 0) ((j7 kd l a b).map (· + 1))

theorem BY (kd : MK) : ∀ (l : Mp) (a b : Int), (j7 kd l a b).isSome = jq kd l a b
 | [], _, _ => rfl
 | p :: l, a, b => by
  simp only [j7, jq]
  cases eqK kd p.1 a b with
  | true => rfl
  | false => simp [<- BY kd l a b]
theorem BV (kd : MK) : ∀ (l : Mp) (a b : Int), jq kd l a b = false -> fp kd l a b = 0
 | [], _, _, _ => rfl
 | p :: l, a, b, h => by
  simp only [jq, ak3] at h
  simp only [fp, h.1, ajY]
  exact BV kd l a b h.2

def ka (P : Program) (L : Lay) (k e : TypeId) (kd : MK) : Prop :=
 (kd.two = false -> P.underlying k = some (.int .i64)) /\
 (kd.two = true -> ∃ fs c1 c2, L.at_ k = .struct fs [c1, c2] 16 true /\ L.at_ c1 = .int .i64 /\ L.at_ c2 = .int .i64) /\
 (kd.bool = false -> L.at_ e = .int .i64) /\ (kd.bool = true -> L.at_ e = .bool)

theorem NA (hL : aO P L) {k e : TypeId} {kd : MK} (h : B6 L k e = some kd) : ka P L k e kd := by
 unfold B6 at h
 split at h
 ·rename_i two bool h1 h2
  simp only [aj1] at h
  subst h
  have hk := hL k
  refine ⟨fun ht => ?_, fun ht => ?_, fun hb => ?_, fun hb => ?_⟩
  ·simp only at ht
   subst ht
   split at h1
   ·rename_i hti; rw [hti] at hk; exact hk.1
   ·split at h1 <;> cases h1
   ·cases h1
  ·simp only at ht
   subst ht
   split at h1
   ·cases h1
   ·rename_i fs c1 c2 hti
    split at h1
    ·rename_i e1 e2; exact ⟨fs, c1, c2, hti, e1, e2⟩
    ·cases h1
   ·cases h1
  ·simp only at hb
   subst hb
   split at h2
   ·rename_i hti; exact hti
   ·cases h2
   ·cases h2
  ·simp only at hb
   subst hb
   split at h2
   ·cases h2
   ·rename_i hti; exact hti
   ·cases h2
 ·cases h

theorem iL {a b : MK} (h : nN a b = true) : a = b := by
 cases a; cases b
 simp only [nN, aj0, beq_iff_eq] at h
 rw [h.1, h.2]
theorem GZ (hL : aO P L) {t : TypeId} {kd : MK} (h : JH L t kd = true) : ∃ k e, P.underlying t = some (.map k e) /\ ka P L k e kd := by
 unfold JH at h
 split at h
 ·rename_i k e hti
  have ht := hL t
  rw [hti] at ht
  split at h
  ·rename_i kd' hk
   rw [iL h]
   exact ⟨k, e, ht.1, NA hL hk⟩
  ·cases h
 ·cases h

theorem xp {kd : MK} {x : TV} {a b : Int} (h : GV kd x = some (a, b)) {v : Value} (hv : aC X lc x v) : v = c7 kd (a, b) := by
 unfold GV at h
 split at h
 ·simp only [aC, a7, aD] at hv
  unfold c7
  cases ht : kd.two with
  | true => rw [ht] at h; cases h
  | false =>
   rw [ht] at h
   simp only [ajY, aj1, akp] at h
   rw [hv, h.1]; rfl
 ·obtain ⟨cs, h1, h2⟩ := hv
  unfold c7
  cases ht : kd.two with
  | false => rw [ht] at h; cases h
  | true =>
   rw [ht] at h
   simp only [ajZ, aj1, akp] at h
   obtain ⟨rfl, rfl⟩ := h
   rw [h1]
   cases cs with
   | mk l =>
    cases h2 with
    | cons e1 h2 => cases h2 with
     | cons e2 h2 => cases h2 with
      | nil =>
       simp only [aD] at e1 e2
       rw [e1, e2]; rfl
 ·cases h

theorem IF (hL : aO P L) {k : TypeId} {fs : List Fd} {c1 c2 : TypeId} (hti : L.at_ k = .struct fs [c1, c2] 16 true) (h1 : L.at_ c1 = .int .i64) (h2 : L.at_ c2 = .int .i64) (a b c d : Int) (w : World) :
  (Op.equal k (.agg #[.int .i64 a, .int .i64 b]) (.agg #[.int .i64 c, .int .i64 d])).run P w = .ok (a == c && b == d) w := by
 refine IE (X := Cx.triv w) (lc := []) hL hti (l := [.int .i64 a, .int .i64 b]) (m := [.int .i64 c, .int .i64 d]) (.cons rfl (.cons rfl .nil)) (.cons rfl (.cons rfl .nil)) ?_ w
 simp [eqL, eqS, h1, h2, bI]

theorem Ed (hL : aO P L) {k e : TypeId} {kd : MK} (hk : ka P L k e kd) (ht : kd.two = true) (a b : Int) (p : Int × Int) (w : World) : (Op.equal k (c7 kd (a, b)) (c7 kd p)).run P w = .ok (eqK kd p a b) w := by
 obtain ⟨fs, c1, c2, hti, h1, h2⟩ := hk.2.1 ht
 unfold c7 eqK
 rw [ht]
 simp only [ajZ, aj5, ak7]
 rw [IF hL hti h1 h2]
 congr 1
 rw [amv, amv (a := b)]

theorem tc (hL : aO P L) {k e : TypeId} {kd : MK} (hk : ka P L k e kd) (ht : kd.two = true) (a b : Int) (w : World) : ∀ (l : Mp) (es : List MapEntry) (i : Nat), aB (fun p e => e.key = c7 kd p.1 /\ e.val = eL kd p.2) l es ->
  (Instr.findAsking k (c7 kd (a, b)) es i).run P w = .ok ((j7 kd l a b).map fun n => (i + n, eL kd (fp kd l a b))) w := by
 intro l
 induction l with
 | nil => intro es i h; cases h; simp [Instr.findAsking, j7]
 | cons p l ih =>
  intro es i h
  cases h with
  | @cons _ en _ es h1 h2 =>
   simp only [Instr.findAsking, akk, h1.1, Ed hL hk ht a b p.1 w, akb, j7, fp]
   cases heq : eqK kd p.1 a b with
   | true => simp [h1.2]
   | false =>
    simp only [akN, if_false, ajY, Option.map_map]
    rw [ih es (i + 1) h2]
    congr 1
    cases j7 kd l a b with
    | none => rfl
    | some n => simp; omega
theorem BN {kd : MK} (ht : kd.two = false) (a b : Int) : ∀ (l : Mp) (es : List MapEntry) (i : Nat), aB (fun p e => e.key = c7 kd p.1 /\ e.val = eL kd p.2) l es ->
  Instr.findNow (.int .i64) (c7 kd (a, b)) es i = some ((j7 kd l a b).map fun n => (i + n, eL kd (fp kd l a b))) := by
 intro l
 induction l with
 | nil => intro es i h; cases h; simp [Instr.findNow, j7]
 | cons p l ih =>
  intro es i h
  cases h with
  | @cons _ en _ es h1 h2 =>
   have hs : Instr.sameNow (.int .i64) (c7 kd (a, b)) en.key = some (eqK kd p.1 a b) := by
    rw [h1.1]
    unfold c7 eqK
    rw [ht]
    simp [Instr.sameNow, amv]
   simp only [Instr.findNow, hs, j7, fp]
   cases heq : eqK kd p.1 a b with
   | true => simp [h1.2]
   | false =>
    simp only [ajY, Option.map_map]
    rw [ih es (i + 1) h2]
    congr 1
    cases j7 kd l a b with
    | none => rfl
    | some n => simp; omega

theorem qU (hL : aO P L) {k e : TypeId} {kd : MK} (hk : ka P L k e kd) (a b : Int) (w : World) {l : Mp} {es : List MapEntry} (h : aB (fun p e => e.key = c7 kd p.1 /\ e.val = eL kd p.2) l es) :
  (Instr.findKey k (c7 kd (a, b)) es).run P w = .ok ((j7 kd l a b).map fun n => (n, eL kd (fp kd l a b))) w := by
 cases ht : kd.two with
 | false =>
  have := BN ht a b l es 0 h
  simp only [akE] at this
  exact MapKept.run_findKey (hk.1 ht) this
 | true =>
  have := tc hL hk ht a b w l es 0 h
  simp only [akE] at this
  obtain ⟨fs, c1, c2, hti, _, _⟩ := hk.2.1 ht
  have hkk := hL k
  rw [hti] at hkk
  obtain ⟨fields, zc, hu, _⟩ := hkk
  rw [run_findKey_eq w (by rw [hu])]
  exact this

theorem jg {t : TypeId} (hu : P.underlying t = some (.int .i64)) (em : Bool) (n : Nat) (a : Int) (w : World) : (Instr.checkKey em (n + 1) t (.int .i64 a)).run P w = .ok () w := by
 unfold Instr.checkKey
 simp [run_underlying hu]
theorem yZ (hL : aO P L) {k e : TypeId} {kd : MK} (hk : ka P L k e kd) (em : Bool) (n : Nat) (p : Int × Int) (w : World) : (Instr.checkKey em (n + 2) k (c7 kd p)).run P w = .ok () w := by
 cases ht : kd.two with
 | false =>
  unfold c7
  rw [ht]
  exact jg (hk.1 ht) em (n + 1) p.1 w
 | true =>
  obtain ⟨fs, c1, c2, hti, h1, h2⟩ := hk.2.1 ht
  have hkk := hL k
  rw [hti] at hkk
  obtain ⟨fields, zc, hu, hfs, hinfo, hz, hcmp⟩ := hkk
  obtain ⟨_, _, h3, h4⟩ := hcmp rfl
  unfold c7
  rw [ht]
  obtain ⟨fl⟩ := fields
  simp only at h3 h4
  cases h3 with
  | @cons _ f1 _ fl1 e1 h3 => cases h3 with
   | @cons _ f2 _ fl2 e2 h3 => cases h3 with
    | nil =>
     have o1 := h4 0 f1 rfl
     have o2 := h4 1 f2 rfl
     have u1 : P.underlying f1.type = some (.int .i64) := by rw [<- e1.1]; have := hL c1; rw [h1] at this; exact this.1
     have u2 : P.underlying f2.type = some (.int .i64) := by rw [<- e2.1]; have := hL c2; rw [h2] at this; exact this.1
     have p1 := bT (P := P) f1.type _ u1 rfl #[.int .i64 p.1, .int .i64 p.2] f1.offset (.int .i64 p.1) (by rw [o1]; rfl) w
     have p2 := bT (P := P) f2.type _ u2 rfl #[.int .i64 p.1, .int .i64 p.2] f2.offset (.int .i64 p.2) (by rw [o2]; rfl) w
     have q1 := jg u1 em n p.1 w
     have q2 := jg u2 em n p.2 w
     unfold Instr.checkKey
     simp [run_underlying hu, e1.2, e2.2, p1, p2, q1, q2]
theorem oT (hL : aO P L) {k e : TypeId} {kd : MK} (hk : ka P L k e kd) (em : Bool) (p : Int × Int) (w : World) : (Instr.checkKey em 10000 k (c7 kd p)).run P w = .ok () w :=
 yZ hL hk em 9998 p w

theorem Dd {kd : MK} (n : Int) : aD X lc (KN kd n) (eL kd n) := by
 unfold KN eL
 cases kd.bool <;> rfl

theorem P8 (hL : aO P L) {k e : TypeId} {kd : MK} (hk : ka P L k e kd) (w : World) : (zeroValue e).run P w = .ok (eL kd 0) w := by
 have he := hL e
 unfold eL
 cases hb : kd.bool with
 | false =>
  rw [hk.2.2.1 hb] at he
  obtain ⟨_, i, hi, hz, _, _⟩ := he
  simp [zeroValue, typeInfo, hi, hz]
 | true =>
  rw [hk.2.2.2 hb] at he
  obtain ⟨_, i, hi, hz, _, _⟩ := he
  simp [zeroValue, typeInfo, hi, hz]

theorem Ef (hL : aO P L) {t : TypeId} {kd : MK} (ht : JH L t kd = true) {g : Nat} {l : Mp} {w : World} (hm : xt w g kd l) (a b : Int) (ok : Bool) :
  (Instr.lookup t (.map (some g)) (c7 kd (a, b)) ok).run P w = .ok (if ok then .tuple #[eL kd (fp kd l a b), .bool (jq kd l a b)] else eL kd (fp kd l a b)) w := by
 obtain ⟨k, e, hu, hk⟩ := GZ hL ht
 obtain ⟨es, clock, hh, hes⟩ := hm
 have hf := qU hL hk a b w hes
 have hg := MapKept.run_getObj_map (P := P) hh
 have hc := oT hL hk es.isEmpty (a, b) w
 have hhas := BY kd l a b
 have hnot := BV kd l a b
 simp only [Instr.lookup, akk, run_underlying hu, akb, hg, akr, hc, hf]
 cases hi : j7 kd l a b with
 | none =>
  rw [hi] at hhas
  have hh2 : jq kd l a b = false := by rw [<- hhas]; rfl
  rw [hh2, hnot hh2]
  simp [P8 hL hk w]
 | some n =>
  rw [hi] at hhas
  have hh2 : jq kd l a b = true := by rw [<- hhas]; rfl
  rw [hh2]
  simp

theorem Oa (hL : aO P L) {o : Oper} {s : St} {a : Act} {w : World} {K : TV -> St -> Option β} {r : β} {t : TypeId} {x i : Operand} {ok : Bool} (ho : o.op = .lookup t x i ok) (hR : Rel X s a w lc)
  (h : j4 L t (aF s x).sv (aF s i) ok s K = some r) : fU P X o a w lc s K r := by
 have hx := az (X := X) hR.tmps x
 have hi := az (X := X) hR.tmps i
 unfold j4 at h
 split at h
 ·rename_i j hj
  have hjr : j ∈ dE (aF s x) := by rw [jG hj (by simp)]; simp [iI]
  split at h
  ·rename_i kd l hb
   split at h
   ·rename_i p q hk
    obtain ⟨ht, h⟩ := aH h
    obtain ⟨g, hl, he⟩ := aN hx hj
    have hm := tW (hR.world.blks j _ _ (dS hb).1 hl) hb
    have hkey := xp hk hi
    have hrel : aC X lc (cond ok (.tup [.one (KN kd (fp kd l p q)), .one (.bool (jq kd l p q))]) (one (KN kd (fp kd l p q)))) (if ok then .tuple #[eL kd (fp kd l p q), .bool (jq kd l p q)] else eL kd (fp kd l p q)) := by
     cases ok with
     | true => exact ⟨_, rfl, .cons (Dd _) (.cons rfl .nil)⟩
     | false => exact Dd _
    refine ⟨_, _, h, hrel, fun G hV w' hb' => ?_⟩
    have hng : ¬ G g := hV.no (fI (x := x) (by simp [ho, Op.operands]) hjr) (dS hb).1 (dS hb).2 hl rfl
    obtain ⟨es, clock, hh, hes⟩ := hm
    have := Ef hL ht (w := w') ⟨es, clock, kb hb' hng hh, hes⟩ p q ok
    unfold execOp
    simp only [ho]
    rw [he, hkey]
    simp only [akk, this, akb, akr]
   ·cases h
  ·cases h
 ·cases h

theorem aB.snoc {α γ : Type} {R : α -> γ -> Prop} {l : List α} {m : List γ} {x : α} {y : γ} (h : aB R l m) (hxy : R x y) : aB R (l ++ [x]) (m ++ [y]) := h.append (.cons hxy .nil)

theorem Ah (kd : MK) (p : Int × Int) (q : Int × Int) (h : eqK kd q p.1 p.2 = true) : Instr.sameBits 10000 (c7 kd q) (c7 kd p) = true := by
 unfold c7
 unfold eqK at h
 cases ht : kd.two with
 | false =>
  rw [ht] at h
  simp at h
  simp [Instr.sameBits, h]
 | true =>
  rw [ht] at h
  simp at h
  simp only [ajZ]
  rw [show (10000 : Nat) = 9999 + 1 from rfl]
  simp [Instr.sameBits, h.1, h.2]

theorem Cq (kd : MK) (a b v : Int) : ∀ (l : Mp) (es : List MapEntry), aB (fun p e => e.key = c7 kd p.1 /\ e.val = eL kd p.2) l es ->
  match j7 kd l a b with
  | some n => (∃ e, es[n]? = some e /\ ∃ q, e.key = c7 kd q /\ eqK kd q a b = true) /\ aB (fun p e => e.key = c7 kd p.1 /\ e.val = eL kd p.2) (kj kd l a b v) (es.modify n fun e => { e with key := c7 kd (a, b), val := eL kd v })
  | none => kj kd l a b v = l ++ [((a, b), v)]
 | [], _, h => by cases h; rfl
 | p :: l, es, h => by
  cases h with
  | @cons _ e _ es h1 h2 =>
   simp only [j7, kj]
   cases heq : eqK kd p.1 a b with
   | true =>
    simp only [ajZ]
    exact ⟨⟨e, rfl, p.1, h1.1, heq⟩, by simp only [List.modify_zero_cons]; exact .cons ⟨rfl, rfl⟩ h2⟩
   | false =>
    have ih := Cq kd a b v l es h2
    simp only [ajY]
    cases hi : j7 kd l a b with
    | none => rw [hi] at ih; simp only [al1]; rw [ih]; rfl
    | some n =>
     rw [hi] at ih
     obtain ⟨⟨e2, h3, h4⟩, h5⟩ := ih
     simp only [akB]
     exact ⟨⟨e2, by simpa using h3, h4⟩, by simp only [List.modify_succ_cons]; exact .cons h1 h5⟩

theorem EU (hL : aO P L) {t : TypeId} {kd : MK} (ht : JH L t kd = true) {g : Nat} {l : Mp} {w : World} (hm : xt w g kd l) (a b v : Int) :
  ∃ es clock, (Instr.mapUpdate t (.map (some g)) (c7 kd (a, b)) (eL kd v)).run P w = .ok () { w with heap := w.heap.setIfInBounds g (.map es clock) } /\ aB (fun p e => e.key = c7 kd p.1 /\ e.val = eL kd p.2) (kj kd l a b v) es.toList := by
 obtain ⟨k, e, hu, hk⟩ := GZ hL ht
 obtain ⟨es, clock, hh, hes⟩ := hm
 have hf := qU hL hk a b w hes
 have hg := MapKept.run_getObj_map (P := P) hh
 have hc := oT hL hk false (a, b) w
 have hp := Cq kd a b v l es.toList hes
 cases hi : j7 kd l a b with
 | none =>
  rw [hi] at hp hf
  simp only at hp
  refine ⟨es.push { key := c7 kd (a, b), val := eL kd v, born := clock }, clock + 1, ?_, ?_⟩
  ·simp [Instr.mapUpdate, run_underlying hu, hg, hc, hf, MapKept.run_setObj_map _ hh]
  ·rw [hp]
   simp only [Array.toList_push]
   exact hes.snoc ⟨rfl, rfl⟩
 | some n =>
  rw [hi] at hp hf
  obtain ⟨⟨en, hen, q, hq, heq⟩, h5⟩ := hp
  refine ⟨es.modify n fun e => { e with key := c7 kd (a, b), val := eL kd v }, clock, ?_, by simpa using h5⟩
  have hst := Ah kd (a, b) q heq
  have hkey : ((es[n]?).map (·.key)).getD (c7 kd (a, b)) = c7 kd q := by
   have : es[n]? = some en := by simpa using hen
   rw [this, <- hq]; rfl
  simp [Instr.mapUpdate, run_underlying hu, hg, hc, hf, hkey, Instr.keyThatStays, hst, MapKept.run_setObj_map _ hh]

theorem Kz {w : World} {g : Nat} (o' : Obj) : w.grownBy { w with heap := w.heap.setIfInBounds g o' } (some g) :=
 ⟨rfl, rfl, rfl, by simp, fun k hk hne => by
  have : g ≠ k := fun e => hne (by rw [e])
  simp [this]⟩

theorem CK (hL : aO P L) {o : Oper} {s : St} {a : Act} {w : World} {K : TV -> St -> Option β} {r : β} {t : TypeId} {m k v : Operand} (ho : o.op = .mapUpdate t m k v) (hR : Rel X s a w lc)
  (h : ef L t (aF s m).sv (aF s k) (aF s v) s K = some r) : mH P X o a w lc s K r := by
 have hx := az (X := X) hR.tmps m
 have hi := az (X := X) hR.tmps k
 have hv := az (X := X) hR.tmps v
 unfold ef at h
 split at h
 ·rename_i j hj
  split at h
  ·rename_i kd l hb
   split at h
   ·rename_i p q n hk hn
    obtain ⟨ht, h⟩ := aH h
    obtain ⟨g, hl, he⟩ := aN hx hj
    have hblk := dS hb
    have hm := tW (hR.world.blks j _ _ hblk.1 hl) hb
    have hkey := xp hk hi
    have hval : a.eval v = eL kd n := by
     have := OZ hv
     unfold adt at hn
     split at hn
     ·rename_i z hz
      rw [hz] at this
      simp only [aD] at this
      unfold eL
      cases hb2 : kd.bool with
      | true => rw [hb2] at hn; cases hn
      | false => rw [hb2] at hn; simp only [ajY, aj1] at hn; rw [this, hn]; rfl
     ·rename_i z hz
      rw [hz] at this
      simp only [aD] at this
      unfold eL
      cases hb2 : kd.bool with
      | false => rw [hb2] at hn; cases hn
      | true => rw [hb2] at hn; simp only [ajZ, aj1] at hn; rw [this, <- hn]; cases z <;> rfl
     ·cases hn
    obtain ⟨es, clock, hrun, hes⟩ := EU hL ht hm p q n
    obtain ⟨es0, c0, hh0, _⟩ := hm
    refine ⟨_, _, [], .skip, undef, { w with heap := w.heap.setIfInBounds g (.map es clock) }, h, ?_, fun hf => ?_, rfl, trivial, ?_⟩
    ·unfold execOp
     simp only [ho]
     rw [he, hkey, hval]
     simp only [akk, hrun, akb, akr]
    ·rw [ho] at hf; cases hf
    ·rw [akh]
     have hgr := Kz (w := w) (g := g) (.map es clock)
     have hlt : g < w.heap.size := (amy.1 hh0).1
     have hmap : xt { w with heap := w.heap.setIfInBounds g (.map es clock) } g kd (kj kd l p q n) := ⟨es, clock, by simp [hlt], hes⟩
     refine hR.world.turn hblk.1 hl hblk.2 hgr ?_
     have hold := hR.world.blks j _ _ hblk.1 hl
     cases hbb : nth Blk.dead s.blks j <;> rw [hbb] at hb hold <;> simp only [Blk.mpOf, aj1, akp, reduceCtorEq] at hb
     ·obtain ⟨rfl, rfl⟩ := hb
      exact ⟨hold.1, hmap⟩
     ·obtain ⟨rfl, rfl⟩ := hb
      exact ⟨hold.1, hmap⟩
   ·cases h
  ·cases h
 ·cases h

theorem Kx {o : Oper} {s : St} {a : Act} {w : World} {K : TV -> St -> Option β} {r : β} {t : TypeId} (ho : o.op = .makeMap t none) (hR : Rel X s a w lc)
  (h : (match L.at_ t with
   | .map k e => match B6 L k e with
    | some kd => K (one (.mp s.blks.length)) (s.add (.mp kd []))
    | none => none
   | _ => none) = some r) : mH P X o a w lc s K r := by
 split at h
 ·split at h
  ·rename_i kd hk
   have hb : Below w.heap.size w (w.alloc (.map #[] 0)) := (akG _ _).alloc (aj8 _) _
   refine ⟨_, _, [.m w.heap.size], .value (.map (some w.heap.size)), .map (some w.heap.size), w.alloc (.map #[] 0), h, ?_, fun _ => hb, rfl, ⟨w.heap.size, ?_, rfl⟩, ?_⟩
   ·unfold execOp
    simp only [ho]
    simp [Instr.makeMap, newObj]
    rfl
   ·rw [<- hR.world.len]; simp
   ·refine hR.world.push hb ⟨hR.world.base_le, #[], 0, ?_, .nil⟩ fun g hg => ?_
    ·have := (MapKept.heap_alloc w (.map #[] 0)).1
     exact this
    ·simp [Loc.blk] at hg; omega
  ·cases h
 ·cases h
end
end Go.Rv
