/- Lists of operations: one after the other, and those that come in any order. -/
import Derived.Test.YtemihnclhcobnaaGreatDoorRvG
namespace Go.Rv
set_option linter.unusedSimpArgs false
open Go.RowKit (Below)
section
variable {I : World -> Prop} {P : Program} {L : Lay} {β : Type}

theorem Rel.put {X X' : Cx I} {s : St} {a : Act} {w w' : World} {lc more : List Loc} {bl : List Blk} (h : Rel X s a w lc) (hle : X.Le X') {x : TV} {v : Value} (d : Option Tmp) (hx : aC X' (lc ++ more) x v) (hw : aK X' bl w' (lc ++ more)) :
  Rel X' (St.put ⟨s.tmps, bl⟩ d x) (a.put d v) w' (lc ++ more) := by
 have ht : aB (aC X' (lc ++ more)) s.tmps a.tmps.toList := h.tmps.mono fun _ _ h => (h.grow hle).more _
 cases d with
 | none => exact ⟨ht, hw, h.defers⟩
 | some d =>
  refine ⟨?_, hw, h.defers⟩
  show aB _ (Rv.put s.tmps d x) (a.tmps.setIfInBounds d v).toList
  rw [Array.toList_setIfInBounds]
  exact ht.put d hx

theorem Rel.put_same {X : Cx I} {s : St} {a : Act} {w : World} {lc : List Loc} (hR : Rel X s a w lc) {x : TV} {v : Value} (d : Option Tmp) (hx : aC X lc x v) : Rel X (s.put d x) (a.put d v) w lc := by
 have := hR.put (more := []) (.refl X) d (x := x) (v := v) (by simpa using hx) (by simpa using hR.world)
 simpa using this

theorem Rel.later {X : Cx I} {s : St} {a : Act} {w w' : World} {lc : List Loc} (h : Rel X s a w lc) (hb : Below w.heap.size w w') : Rel X s a w' lc := ⟨h.tmps, h.world.later hb, h.defers⟩

def SO (I : World -> Prop) (P : Program) (V : Option (Option (List Nat))) (o : Oper) (s : St) (x : TV) (bl : List Blk) : Prop := ∀ (X : Cx I) a w lc, Rel X s a w lc ->
 dF P o a w fun v w' => (∀ V', V = some V' -> fH V' o.op = true -> Lat (dB X lc V') w w') /\ ∃ more X', X.Le X' /\ aC X' (lc ++ more) x v /\ aK X' bl w' (lc ++ more)

theorem Hy {V : Option (Option (List Nat))} {o : Oper} {s : St} {x : TV} {bl : List Blk} (hf : ∀ V', V = some V' -> fH V' o.op = true -> fo o.op = true) (h : SR I P o s x bl) : SO I P V o s x bl := fun X a w lc hR => by
 obtain ⟨more, n, v, w', X', h1, hb, h2, hle, h3, h4⟩ := h X a w lc hR
 unfold dF
 rw [h1]
 cases n <;> simp only [NY, aj1] at h2 <;> first | (subst h2; exact ⟨fun V' hv hm => Lat.of (hb (hf V' hv hm)), more, X', hle, h3, h4⟩) | cases h2

theorem T4 {N : List Nat} {o : Oper} {s : St} {x : TV} {bl : List Blk} (hk : oW N (fW s o) = true) (hN : onN s.blks N = true) (hr : onN s.blks (fW s o) = true)
  (ht : ∀ (X : Cx I) a w lc, Rel X s a w lc -> ∃ v w', (execOp a.eval o).run P w = .ok (.value v) w' /\ ∃ j ℓ, j ∈ fW s o /\ lc[j]? = some ℓ /\ w.grownBy w' ℓ.blk) (h : SR I P o s x bl) : SO I P (some (some N)) o s x bl := fun X a w lc hR => by
 obtain ⟨more, n, v, w', X', h1, hb, h2, hle, h3, h4⟩ := h X a w lc hR
 obtain ⟨v2, w2, h5, j, ℓ, hj, hl, hg⟩ := ht X a w lc hR
 rw [h1] at h5
 cases h5
 simp only [NY, aj1] at h2
 subst h2
 unfold dF
 rw [h1]
 refine ⟨fun V' hv _ => ?_, more, X', hle, h3, h4⟩
 cases hv
 have hk := xo hR.world hk hN hr
 exact ⟨hg.os, hg.tape, hg.output, hg.size, fun k hlt hn => hg.block k hlt fun e => hn (hk k ⟨j, ℓ, rQ hj, hl, e.symm⟩)⟩

theorem Al {V : Option (Option (List Nat))} {o : Oper} {s : St} {x : TV} {bl : List Blk} (h : SC I P o s x bl) : SO I P V o s x bl := fun X a w lc hR => by
 obtain ⟨g, vs, h1, h2⟩ := h X a w lc hR
 unfold dF
 rw [h1]
 exact h2.mono fun e w' ⟨v, more, X', he, hb, hle, h3, h4⟩ => ⟨v, he, fun _ _ _ => Lat.of hb, more, X', hle, h3, h4⟩

theorem T5 {o : Oper} {s : St} {x : TV} {bl : List Blk} (h : SM I P o s x bl) : SO I P none o s x bl := fun X a w lc hR => by
 obtain ⟨g, vs, h1, h2⟩ := h X a w lc hR
 unfold dF
 rw [h1]
 exact h2.mono fun e w' ⟨v, he, h3, h4⟩ => ⟨v, he, (fun _ h => by cases h), [], X, .refl X, by simpa using h3, by simpa using h4⟩

theorem Hx {V : Option (Option (List Nat))} {o : Oper} {s : St} {x : TV} {bl : List Blk} (hV : ∀ V', V = some V' -> ∃ N, V' = some N /\ oW N (t7 s o) = true /\ onN s.blks N = true /\ onN s.blks (t7 s o) = true) (h : SG I P o s x bl) : SO I P V o s x bl := fun X a w lc hR => by
 obtain ⟨g, vs, h1, h2⟩ := h X a w lc hR
 unfold dF
 rw [h1]
 exact h2.mono fun e w' ⟨v, more, X', he, hle, h3, h4, h5⟩ => ⟨v, he, fun V' hv _ => by obtain ⟨N, rfl, k1, k2, k3⟩ := hV V' hv; exact (h5 _ (KH _)).weak (xo hR.world k1 k2 k3), more, X', hle, h3, h4⟩

theorem Zx (hL : aO P L) {E : Env β} (hE : bo I P E) (hM : cl I P E) (hG : gy I P E) {V : Option (Option (List Nat))} {o : Oper} {s : St} {K : TV -> St -> Option β} {r : β} (h : evQ L E V false o s K = some r) :
  ∃ x bl, K x ⟨s.tmps, bl⟩ = some r /\ SO I P V o s x bl := by
 have noM : cl I P (⟨E.fns, [], E.loops, [], E.hints⟩ : Env β) := fun g MS h => by cases h
 have noG : gy I P (⟨E.fns, [], E.loops, [], E.hints⟩ : Env β) := fun g GS h => by cases h
 have noM' : cl I P (⟨E.fns, [], E.loops, E.gfns, E.hints⟩ : Env β) := fun g MS h => by cases h
 unfold evQ at h
 cases V with
 | none =>
  simp only at h
  cases hc : cg o.op with
  | false =>
   obtain ⟨x, bl, h1, h2, _⟩ := zG hL hc h
   exact ⟨x, bl, h1, Hy (fun _ e => by cases e) h2⟩
  | true =>
   rcases rU hE hM hG hc h with ⟨x, bl, h1, h2, _⟩ | ⟨hne, x, bl, h1, h2⟩ | ⟨_, x, bl, h1, h2⟩
   ·exact ⟨x, bl, h1, Al h2⟩
   ·exact ⟨x, bl, h1, T5 h2⟩
   ·exact ⟨x, bl, h1, Hx (fun _ h => by cases h) h2⟩
 | some V =>
  have plain : (fH V o.op = true -> fo o.op = true) -> dM L ⟨E.fns, [], E.loops, [], E.hints⟩ o s K = some r -> ∃ x bl, K x ⟨s.tmps, bl⟩ = some r /\ SO I P (some V) o s x bl := fun hf h => by
   cases hc : cg o.op with
   | false =>
    obtain ⟨x, bl, h1, h2, _⟩ := zG hL hc h
    exact ⟨x, bl, h1, Hy (fun _ e => by cases e; exact hf) h2⟩
   | true =>
    rcases rU (E := ⟨E.fns, [], E.loops, [], E.hints⟩) hE noM noG hc h with ⟨x, bl, h1, h2, _⟩ | ⟨hne, _⟩ | ⟨hgg, _⟩
    ·exact ⟨x, bl, h1, Al h2⟩
    ·exact absurd rfl hne
    ·exfalso
     revert hgg
     unfold ju
     split
     ·split
      ·split
       ·simp [gOf]
       ·simp
      ·simp
     ·simp
  cases V with
  | none => simp only [akv, ajY] at h; exact plain id h
  | some N =>
  simp only [ajY] at h
  cases hg : ju E s o with
  | true =>
   rw [hg] at h
   simp only [ajZ] at h
   obtain ⟨hb, h⟩ := aH h
   simp only [aj0] at hb
   cases hc : cg o.op with
   | false =>
    exfalso
    revert hg hc
    unfold ju cg
    split
    ·rename_i c ho
     rw [ho]
     obtain ⟨callee, args, ts⟩ := c
     cases callee <;> simp
    ·simp
   | true =>
    rcases rU (E := ⟨E.fns, [], E.loops, E.gfns, E.hints⟩) hE noM' hG hc h with ⟨x, bl, h1, h2, _⟩ | ⟨hne, _⟩ | ⟨_, x, bl, h1, h2⟩
    ·exact ⟨x, bl, h1, Al h2⟩
    ·exact absurd rfl hne
    ·exact ⟨x, bl, h1, Hx (fun _ e => by cases e; exact ⟨N, rfl, hb.1, hb.2.1, hb.2.2⟩) h2⟩
  | false =>
   rw [hg] at h
   simp only [ajY] at h
   cases ha : fX o.op with
   | false =>
    rw [ha] at h
    simp only [akv, ajY] at h
    exact plain (fun hf => by simpa [fH, ze, ha] using hf) h
   | true =>
    rw [ha] at h
    simp only [aj9] at h
    cases hk : (oW N (fW s o) && (onN s.blks N && onN s.blks (fW s o))) with
    | false => rw [hk] at h; cases h
    | true =>
     rw [hk] at h
     simp only [aj5, ajY] at h
     simp only [aj0] at hk
     have hc : cg o.op = false := by
      unfold fX at ha
      split at ha
      ·rename_i ho; rw [ho]; rfl
      ·cases ha
     obtain ⟨x, bl, h1, h2, _⟩ := zG hL hc h
     refine ⟨x, bl, h1, T4 hk.1 hk.2.1 hk.2.2 (fun X a w lc hR => ?_) h2⟩
     unfold fX at ha
     split at ha
     ·rename_i args ts ho
      simp only [dM, ho, nz] at h
      split at h
      ·rename_i y z hyz
       obtain ⟨v, w', k1, j, ℓ, k2, k3, _, k4⟩ := BF hL ho rfl hyz hR h
       exact ⟨v, w', k1, j, ℓ, by simpa [fW, ho, hyz] using k2, k3, k4⟩
      ·cases h
     ·cases ha

theorem NS {l : List TV} {d : Nat} (h : nth ac l d ≠ ac) : d < l.length := by
 rcases akg d l.length with h' | h'
 ·exact h'
 ·exfalso
  apply h
  have key : ∀ (l : List TV) (n : Nat), l.length <= n -> nth ac l n = ac := by
   intro l
   induction l with
   | nil => intro n _; cases n <;> rfl
   | cons x l ih => intro n hn; cases n with
    | zero => simp at hn
    | succ n => exact ih n (by simpa using hn)
  exact key _ _ h'

theorem xZ {X : Cx I} {s : St} {a : Act} {w : World} {lc : List Loc} (hR : Rel X s a w lc) {d : Nat} {b : Bool} (h : (nth ac s.tmps d).sv = .bool b) : a.tmps[d]? = some (.bool b) := by
 have hd : d < s.tmps.length := NS fun e => by rw [e] at h; cases h
 obtain ⟨v, hv, hr⟩ := hR.tmps.get d _ (jy (d := ac) hd)
 have := aN hr h
 simp only [aD] at this
 rw [this] at hv
 simpa using hv

theorem T3 {X : Cx I} {s : St} {a : Act} {w : World} {lc : List Loc} (hR : Rel X s a w lc) {d : Nat} (h : (nth ac s.tmps d).sv = .no) : a.tmps[d]? = some undef := by
 have hd : d < s.tmps.length := NS fun e => by rw [e] at h; cases h
 obtain ⟨v, hv, hr⟩ := hR.tmps.get d _ (jy (d := ac) hd)
 have := aN hr h
 simp only [aD] at this
 rw [this] at hv
 simpa using hv

theorem Rel.told {X : Cx I} {s : St} {a : Act} {w : World} {lc : List Loc} (hR : Rel X s a w lc) {d : Nat} {x : TV} {v : Value} (hv : a.tmps[d]? = some v) (hx : aC X lc x v) : Rel X (s.put (some d) x) a w lc := by
 refine ⟨?_, hR.world, hR.defers⟩
 have := hR.tmps.put d hx
 have e : a.tmps.toList.set d v = a.tmps.toList := by
  apply amz
  intro i
  rw [amJ]
  split
  ·rename_i hi
   subst hi
   have : a.tmps.toList[d]? = some v := by simpa using hv
   rw [this]
   split
   ·rfl
   ·rename_i h
    exact absurd (amH.1 this).1 h
  ·rfl
 rw [e] at this
 exact this

theorem vE {ops : Array Oper} {j d : Nat} (hd : Ea ops.toList j = some d) (tmps : Array Value) : yielded ops tmps j = match tmps[d]? with | some (.bool b) => some b | _ => none := by
 unfold Ea at hd
 have : (ops[j]?).bind (·.dst) = some d := by
  cases ho : ops[j]? with
  | none => simp [ho] at hd
  | some o => simp [ho] at hd; simpa using hd
 unfold yielded
 rw [this]
 rfl

theorem N9 {X : Cx I} {s : St} {a : Act} {w : World} {lc : List Loc} (hR : Rel X s a w lc) (d : Option Tmp) : Rel X (s.put d (one .no)) (a.put d undef) w lc :=
 hR.put_same d (by simp [one, aC, a7, aD])

def SQQ (I : World -> Prop) (P : Program) (V : Option (List Nat)) (o : Oper) (s : St) (x : TV) (bl : List Blk) : Prop := ∀ (X : Cx I) a w lc, Rel X s a w lc ->
 ∃ v more, aC X (lc ++ more) x v /\ aK X bl w (lc ++ more) /\ (∀ w', Lat (dB X lc V) w w' -> dI P o a w' v) /\ (fR o.op = true -> ∀ w', dI P o a w' v)

theorem aei {V : Option (List Nat)} {o : Oper} {s : St} {x : TV} {bl : List Blk} (h : SB I P o s x bl) : SQQ I P V o s x bl := fun X a w lc hR => by
 obtain ⟨v, more, h1, h2, h3⟩ := h X a w lc hR
 have all : ∀ w', dI P o a w' v := fun w' => by
  unfold dI dF
  rw [h3 w']
  exact ⟨rfl, akG _ _⟩
 exact ⟨v, more, h1, h2, fun w' _ => all w', fun _ => all⟩
theorem aej {V : Option (List Nat)} {o : Oper} {s : St} {x : TV} (hp : fR o.op = false) (hd : ∀ N, V = some N -> vg N (d6 s o) = true) (h : SQ I P o s x) : SQQ I P V o s x s.blks := fun X a w lc hR => by
 obtain ⟨v, h1, h2⟩ := h X a w lc hR
 refine ⟨v, [], by simpa using h1, by simpa using hR.world, fun w' hb => ?_, fun h => by rw [hp] at h; cases h⟩
 have hC : vZ X s.blks lc (d6 s o) (dB X lc V) := by
  cases V with
  | none => exact vZ.nil _ _ _ _
  | some N => exact JC (hd N rfl)
 unfold dI dF
 rw [h2 _ hC w' hb]
 exact ⟨rfl, akG _ _⟩

theorem aeh {o : Oper} {s : St} {x : TV} (hp : fR o.op = false) (h : SCQ I P o s x) : SQQ I P none o s x s.blks := fun X a w lc hR => by
 obtain ⟨v, h1, h2⟩ := h X a w lc hR
 refine ⟨v, [], by simpa using h1, by simpa using hR.world, fun w' hb => ?_, fun h => by rw [hp] at h; cases h⟩
 obtain ⟨g, vs, h3, h4⟩ := h2 w' hb.below
 unfold dI dF
 rw [h3]
 exact h4.mono fun e w'' ⟨he, hw⟩ => ⟨v, he, rfl, hw⟩

theorem DZ {o : Op} (h : cg o = true) : fR o = false := by
 unfold cg at h
 split at h
 ·rfl
 ·cases h

theorem NX (hL : aO P L) {E : Env β} (hE : bo I P E) {V : Option (List Nat)} {o : Oper} (hq : fi o.op = true) {s : St} {K : TV -> St -> Option β} {r : β} (h : evQ L E (some V) true o s K = some r) :
  ∃ x bl, K x ⟨s.tmps, bl⟩ = some r /\ SQQ I P V o s x bl := by
 have noM : cl I P (⟨E.fns, [], E.loops, [], E.hints⟩ : Env β) := fun g MS h => by cases h
 have noG : gy I P (⟨E.fns, [], E.loops, [], E.hints⟩ : Env β) := fun g GS h => by cases h
 have reads : cg o.op = false -> (∀ N, V = some N -> (fR o.op || vg N (d6 s o)) = true) -> dM L ⟨E.fns, [], E.loops, [], E.hints⟩ o s K = some r -> ∃ x bl, K x ⟨s.tmps, bl⟩ = some r /\ SQQ I P V o s x bl := fun hc hb h => by
  obtain ⟨x, bl, h1, _, h2, h4⟩ := zG hL hc h
  cases hp : fR o.op with
  | true => exact ⟨x, bl, h1, aei (h4 hp)⟩
  | false =>
   have hqq : bB o.op = true := by
    have hbb : nw o.op = false := by
     cases hbb : nw o.op with
     | false => rfl
     | true => simp [fR, hbb] at hp
    simpa [fi, hbb] using hq
   obtain ⟨rfl, h3⟩ := h2 hqq
   exact ⟨x, _, h1, aej hp (fun N hN => by simpa [hp] using hb N hN) h3⟩
 unfold evQ at h
 cases V with
 | some N =>
  simp only [ajZ] at h
  obtain ⟨hb, h⟩ := aH h
  simp only [aj0, akm] at hb
  exact reads hb.1 (fun _ e => by cases e; exact hb.2) h
 | none =>
  simp only [aj9] at h
  cases hc : cg o.op with
  | false => rw [hc] at h; exact reads hc (fun _ e => by cases e) h
  | true =>
   rw [hc] at h
   simp only [ajZ] at h
   cases hkp : tH E s o with
   | true => rw [hkp] at h; cases h
   | false =>
   rw [hkp] at h
   simp only [ajY] at h
   rcases rU (E := ⟨E.fns, [], E.loops, [], E.hints⟩) hE noM noG hc h with ⟨x, bl, h1, _, h2⟩ | ⟨hne, _⟩ | ⟨hgg, _⟩
   ·obtain ⟨hp, h1⟩ := aH h1
    obtain ⟨rfl, h3⟩ := h2 hkp hp
    exact ⟨x, _, h1, aeh (DZ hc) h3⟩
   ·exact absurd rfl hne
   ·exfalso
    revert hgg
    unfold ju
    split
    ·split
     ·split
      ·simp [gOf]
      ·simp
     ·simp
    ·simp

def Ry (I : World -> Prop) (P : Program) (ops : Array Oper) (V : Option (Option (List Nat))) (q : Bool) (o : Oper) (s s1 : St) : Prop := ∀ (X : Cx I) a w lc, Rel X s a w lc ->
 cond q (∃ v more, Yb P (dB X lc (V.getD none)) ops o v a w /\ Rel X s1 (a.put o.dst v) w (lc ++ more))
  (∀ KK : Act -> World -> Prop, (∀ X' a' w' more, X.Le X' -> Rel X' s1 a' w' (lc ++ more) -> KK a' w') ->
   if Region.wanted o (yielded ops a.tmps) then dF P o a w (fun v w' => (∀ V', V = some V' -> fH V' o.op = true -> Lat (dB X lc V') w w') /\ KK (a.put o.dst v) w') else KK (a.put o.dst undef) w)

theorem po (hL : aO P L) {E : Env β} (hE : bo I P E) (hM : cl I P E) (hG : gy I P E) {ops : Array Oper} {V : Option (Option (List Nat))} {q : Bool} {o : Oper} (hq : q = true -> fi o.op = true /\ V.isSome = true) {rest : List Oper} {s : St} {K : St -> Option β} {r : β}
  (h : b5 L E V q ops.toList (o :: rest) s K = some r) : ∃ s1, b5 L E V q ops.toList rest s1 K = some r /\ Ry I P ops V q o s s1 := by
 have did : ∀ s : St, evQ L E V q o s (fun v s' => b5 L E V q ops.toList rest (s'.put o.dst v) K) = some r ->
   ∃ s1, b5 L E V q ops.toList rest s1 K = some r /\ ∀ (X : Cx I) a w lc, Rel X s a w lc -> Region.wanted o (yielded ops a.tmps) = true ->
    cond q (∃ v more, Yb P (dB X lc (V.getD none)) ops o v a w /\ Rel X s1 (a.put o.dst v) w (lc ++ more))
     (∀ KK : Act -> World -> Prop, (∀ X' a' w' more, X.Le X' -> Rel X' s1 a' w' (lc ++ more) -> KK a' w') ->
      if Region.wanted o (yielded ops a.tmps) then dF P o a w (fun v w' => (∀ V', V = some V' -> fH V' o.op = true -> Lat (dB X lc V') w w') /\ KK (a.put o.dst v) w') else KK (a.put o.dst undef) w) := by
  intro s h
  cases q with
  | false =>
   obtain ⟨x, bl, h1, h2⟩ := Zx hL hE hM hG h
   refine ⟨_, h1, fun X a w lc hR hw => fun KK hKK => ?_⟩
   rw [if_pos hw]
   exact cR (fun v w' ⟨hb, more, X', hle, hv, hW⟩ => ⟨hb, hKK _ _ _ _ hle (hR.put hle o.dst hv hW)⟩) (h2 X a w lc hR)
  | true =>
   obtain ⟨V', rfl⟩ := alM.1 (hq rfl).2
   obtain ⟨x, bl, h1, h2⟩ := NX hL hE (hq rfl).1 h
   refine ⟨_, h1, fun X a w lc hR hw => ?_⟩
   obtain ⟨v, more, hv, hW, hs⟩ := h2 X a w lc hR
   exact ⟨v, more, .inl ⟨hw, hs⟩, hR.put (.refl X) o.dst hv hW⟩
 have skipped : ∀ (s0 s1 : St), b5 L E V q ops.toList rest (s1.put o.dst (one .no)) K = some r -> (∀ (X : Cx I) a w lc, Rel X s0 a w lc -> Region.wanted o (yielded ops a.tmps) = false /\ Rel X s1 a w lc) ->
   ∃ s1, b5 L E V q ops.toList rest s1 K = some r /\ Ry I P ops V q o s0 s1 := by
  intro s0 s1 h hs
  refine ⟨_, h, fun X a w lc hR => ?_⟩
  obtain ⟨hw, hR1⟩ := hs X a w lc hR
  cases q with
  | false =>
   intro KK hKK
   rw [if_neg (by rw [hw]; simp)]
   exact hKK _ _ _ [] (.refl X) (by rw [akh]; exact N9 hR1 o.dst)
  | true => exact ⟨undef, [], .inr ⟨hw, rfl⟩, by rw [akh]; exact N9 hR1 o.dst⟩
 simp only [b5, qy] at h
 split at h
 ·rename_i hg
  obtain ⟨s1, h1, h2⟩ := did s h
  exact ⟨s1, h1, fun X a w lc hR => h2 X a w lc hR (by simp [Region.wanted, hg])⟩
 ·rename_i j want hg
  split at h
  ·cases h
  ·rename_i d hd
   have wanted_iff : ∀ (a : Act) (b : Bool), a.tmps[d]? = some (.bool b) -> Region.wanted o (yielded ops a.tmps) = (b == want) := by
    intro a b hb
    simp only [Region.wanted, hg, vE hd, hb]
    cases b <;> cases want <;> rfl
   have wanted_no : ∀ (a : Act), a.tmps[d]? = some undef -> Region.wanted o (yielded ops a.tmps) = false := by
    intro a hb
    simp only [Region.wanted, hg, vE hd, hb]
    rfl
   have go : ∀ (b : Bool), (nth ac s.tmps d).sv = .bool b -> b = want -> evQ L E V q o (s.put (some d) (one (.bool b))) (fun v s' => b5 L E V q ops.toList rest (s'.put o.dst v) K) = some r ->
     ∃ s1, b5 L E V q ops.toList rest s1 K = some r /\ Ry I P ops V q o s s1 := by
    intro b hb hw h
    obtain ⟨s1, h1, h2⟩ := did _ h
    refine ⟨s1, h1, fun X a w lc hR => ?_⟩
    have hs := xZ hR hb
    exact h2 X a w lc (hR.told hs (by simp [one, aC, a7, aD])) (by rw [wanted_iff a b hs, hw]; simp)
   have skip : ∀ (b : Bool), (nth ac s.tmps d).sv = .bool b -> b ≠ want -> b5 L E V q ops.toList rest ((s.put (some d) (one (.bool b))).put o.dst (one .no)) K = some r ->
     ∃ s1, b5 L E V q ops.toList rest s1 K = some r /\ Ry I P ops V q o s s1 := by
    intro b hb hw h
    refine skipped s _ h fun X a w lc hR => ?_
    have hs := xZ hR hb
    exact ⟨by rw [wanted_iff a b hs, beq_false_of_ne hw], hR.told hs (by simp [one, aC, a7, aD])⟩
   split at h
   ·rename_i b hb
    cases want with
    | true =>
     cases b with
     | true => exact go true hb rfl h
     | false => exact skip false hb (by simp) h
    | false =>
     cases b with
     | true => exact skip true hb (by simp) h
     | false => exact go false hb rfl h
   ·rename_i hb
    exact skipped s s h fun X a w lc hR => ⟨wanted_no a (T3 hR hb), hR⟩
   ·cases h

theorem S3 (hL : aO P L) {E : Env β} (hE : bo I P E) (hM : cl I P E) (hG : gy I P E) {ops : Array Oper} : ∀ (rest : List Oper) (s : St) (K : St -> Option β) (r : β), b5 L E none false ops.toList rest s K = some r ->
  ∃ s', K s' = some r /\ ∀ (X : Cx I) a w lc, Rel X s a w lc -> ∀ Q : Exit -> Act -> World -> Prop, (∀ X' a' w' lc', X.Le X' -> Rel X' s' a' w' lc' -> Q .normal a' w') -> wpList P ops Q rest a w := by
 intro rest
 induction rest with
 | nil => intro s K r h; exact ⟨s, h, fun X a w lc hR Q hQ => hQ X a w lc (.refl X) hR⟩
 | cons o rest ih =>
  intro s K r h
  obtain ⟨s1, h1, h2⟩ := po hL hE hM hG (q := false) (fun h => by cases h) h
  obtain ⟨s', h3, h4⟩ := ih _ _ _ h1
  refine ⟨s', h3, fun X a w lc hR Q hQ => wpList_step fun KK hKK => ?_⟩
  have := h2 X a w lc hR KK fun X' a' w' lc' hle hR' => hKK _ _ (h4 X' a' w' (lc ++ lc') hR' Q fun X2 a2 w2 lc2 hle2 hR2 => hQ X2 a2 w2 lc2 (hle.trans hle2) hR2)
  split
  ·rename_i hw
   rw [if_pos hw] at this
   exact yh (cR (fun v w' h => h.2) this)
  ·rename_i hw
   rw [if_neg hw] at this
   exact this

theorem N7 (hL : aO P L) {E : Env β} (hE : bo I P E) (hM : cl I P E) (hG : gy I P E) {ops : Array Oper} : ∀ (l : List (Nat × Bool)) (s : St) (K : St -> Option β) (r : β), (∀ p ∈ l, p.2 = false -> ∀ o, ops[p.1]? = some o -> fi o.op = true) ->
  qa L E none ops.toList l s K = some r ->
  ∃ s', K s' = some r /\ ∀ (X : Cx I) a w lc, Rel X s a w lc -> ∀ Q : Exit -> Act -> World -> Prop, (∀ X' a' w' lc', X.Le X' -> Rel X' s' a' w' lc' -> Q .normal a' w') -> wJ P (fun _ => False) (fH none) ops Q l a w := by
 intro l
 induction l with
 | nil => intro s K r _ h; exact ⟨s, h, fun X a w lc hR Q hQ w' hb => hQ X a w' lc (.refl X) (hR.later hb)⟩
 | cons p l ih =>
  intro s K r hq h
  obtain ⟨i, m⟩ := p
  simp only [qa] at h
  split at h
  ·rename_i o ho
   have ho' : ops[i]? = some o := by simpa using ho
   obtain ⟨s1, h1, h2⟩ := po hL hE hM hG (V := some none) (q := !m) (fun hm => ⟨hq (i, m) (by simp) (by simpa using hm) o ho', rfl⟩) h
   have h1 : qa L E none ops.toList l s1 K = some r := h1
   obtain ⟨s', h3, h4⟩ := ih _ _ _ (fun p hp => hq p (by simp [hp])) h1
   refine ⟨s', h3, fun X a w lc hR Q hQ => ?_⟩
   cases m with
   | true =>
    intro w' hb
    have := h2 X a w' lc (hR.later hb) (wJ P (fun _ => False) (fH none) ops Q l) fun X' a' w'' more hle hR' => h4 X' a' w'' (lc ++ more) hR' Q fun X2 a2 w2 lc2 hle2 hR2 => hQ X2 a2 w2 lc2 (hle.trans hle2) hR2
    unfold opF
    simp only [ho']
    split
    ·rename_i hw
     rw [if_pos hw] at this
     exact cR (fun v w3 h => ⟨h.1 none rfl, h.2⟩) this
    ·rename_i hw
     rw [if_neg hw] at this
     exact this
   | false =>
    obtain ⟨v, more, hy, hR1⟩ := h2 X a w lc hR
    exact ⟨o, v, ho', hy, h4 X _ w (lc ++ more) hR1 Q hQ⟩
  ·cases h

theorem zZ {ops : Array Oper} : ∀ (f : Nat) (listed : Array Bool), ∀ p ∈ kh .any ops f listed, p.2 = false -> ∀ o, ops[p.1]? = some o -> fi o.op = true := by
 intro f
 induction f with
 | zero => intro listed p hp; simp [kh] at hp
 | succ f ih =>
  intro listed p hp h2 o ho
  simp only [kh] at hp
  have callq : ∀ o : Oper, cg o.op = true -> fi o.op = true := fun o h => by
   unfold cg at h
   split at h
   ·rename_i ho; rw [ho]; rfl
   ·cases h
  split at hp
  ·simp at hp
  ·rcases akf.1 hp with rfl | hp
   ·cases h2
   ·exact ih _ p hp h2 o ho
  ·split at hp
   ·rename_i i hi
    rcases akf.1 hp with rfl | hp
    ·have := List.find?_some hi
     simp only [ho, aj0] at this
     exact this.1
    ·exact ih _ p hp h2 o ho
   ·split at hp
    ·rename_i i hi
     rcases akf.1 hp with rfl | hp
     ·have := List.find?_some hi
      simp only [ho] at this
      exact callq o this
     ·exact ih _ p hp h2 o ho
    ·simp at hp

end
end Go.Rv
