/- The evaluator's operations do what the machine's do: the others that leave memory alone. -/
import Derived.Test.YtemihnclhcobnaaGreatDoorRvRead
namespace Go.Rv
set_option linter.unusedSimpArgs false
open Go.RowKit (Below)
section
variable {I : World -> Prop} {P : Program} {L : Lay} {X : Cx I} {lc : List Loc} {β : Type} {o : Oper} {s : St} {a : Act} {w : World} {K : TV -> St -> Option β} {r : β}

theorem qE {x : Operand} (ho : o.op = .move x \/ o.op = .assign x) (hR : Rel X s a w lc) (h : K (aF s x) s = some r) : fe P X o a w lc s K r :=
 aI h (az hR.tmps x) fun w' => by unfold execOp; rcases ho with ho | ho <;> simp [ho]

theorem Ob {c x y : Operand} (ho : o.op = .pick c x y) (hR : Rel X s a w lc)
  (h : (match (aF s c).sv with | .bool t => cond t (K (aF s x) s) (K (aF s y) s) | _ => none) = some r) : fe P X o a w lc s K r := by
 split at h
 ·rename_i t hc
  have hc' := aN (az hR.tmps c) hc
  simp only [aD] at hc'
  cases t with
  | true => exact aI h (az hR.tmps x) fun w' => by unfold execOp; simp [ho, hc', asBool]
  | false => exact aI h (az hR.tmps y) fun w' => by unfold execOp; simp [ho, hc', asBool]
 ·cases h

theorem WU (hL : aO P L) {op : BinOp} {t ty : TypeId} {x y : Operand} (ho : o.op = .binOp op t x y ty) (hR : Rel X s a w lc)
  (h : wY L op t (aF s x) (aF s y) (fun v => K v s) = some r) : fe P X o a w lc s K r := by
 obtain ⟨z, u, h1, h2, h3⟩ := IG hL h (az hR.tmps x) (az hR.tmps y)
 refine aI h1 h2 fun w' => ?_
 have := h3 w' x y
 unfold execOp
 simp only [ho]
 rw [akk, this]
 rfl

theorem ad9 {op : UnOp} {t : TypeId} {x : Operand} (ho : o.op = .unOp op t x) (hR : Rel X s a w lc) (h : MN op (aF s x) (fun v => K v s) = some r) : fe P X o a w lc s K r := by
 have hx := az (X := X) hR.tmps x
 unfold MN at h
 split at h
 ·rename_i k n hv
  rw [hv] at hx; simp only [aC, a7, aD] at hx
  exact aI (v := .int k (k.wrap (0 - n))) h (by simp [one, aC, a7, aD]) fun w' => by unfold execOp; simp [ho, hx, Op.unary, Op.intArith]
 ·rename_i b hv
  rw [hv] at hx; simp only [aC, a7, aD] at hx
  exact aI (v := .bool (!b)) h (by simp [one, aC, a7, aD]) fun w' => by unfold execOp; simp [ho, hx, Op.unary]
 ·rename_i n hv
  rw [hv] at hx; simp only [aC, a7, aD] at hx
  exact aI (v := .int .i64 (bits .xor .i64 (-1) n)) h (by simp [one, aC, a7, aD]) fun w' => by
   unfold execOp
   simp [ho, hx, Op.unary, Op.intBits, bits, IntKind.signed]
 ·cases h

theorem rc (hL : aO P L) {t : TypeId} {x : Operand} {f : Nat} (ho : o.op = .fieldAddr t x f) (hR : Rel X s a w lc)
  (h : (match fm L t f, (aF s x).sv with
   | some d, .ptr j off => K (one (.ptr j (off + d.off))) s
   | some d, .elt j z i off => K (one (.elt j z i (off + d.off))) s
   | some d, .ref r i off => K (one (.ref r i (off + d.off))) s
   | some d, .cref l off => K (one (.cref l (off + d.off))) s
   | some d, .fref r i off => K (one (.fref r i (off + d.off))) s
   | some d, .tr two T => gd (!T.isNil) (K (one (.tra two T d.off)) s)
   | _, _ => none) = some r) : fe P X o a w lc s K r := by
 have hx := az (X := X) hR.tmps x
 have key : ∀ d, fm L t f = some d -> ∀ (A : Addr), a.eval x = .pointer (some A) -> ∀ w', (execOp a.eval o).run P w' = .ok (.value (.pointer (some (A.add d.off)))) w' := by
  intro d hd A hA w'
  unfold fm at hd
  have ht := hL t
  split at hd
  ·rename_i fs cts b cmp hti
   rw [hti] at ht
   obtain ⟨fields, zc, hu, hfs, _⟩ := ht
   obtain ⟨fl, hfl, hok⟩ := hfs.get f d hd
   have hfl' : fields[f]? = some fl := by simpa using hfl
   obtain ⟨i, hi, hsz⟩ := hok.info
   have hne : i.size ≠ 0 := by rw [hsz]; exact hok.pos
   unfold execOp
   simp [ho, Instr.fieldAt, run_underlying hu, hfl', hA, Instr.sureAddr, fieldPlace, bW hi, hne, hok.off]
  ·cases hd
 split at h
 ·rename_i d j off hd hv
  obtain ⟨g, hg, he⟩ := aN hx hv
  exact aI (v := .pointer (some ⟨g, off + d.off, none⟩)) h ⟨g, hg, rfl⟩ fun w' => by rw [key d hd _ he w', akM]
 ·rename_i d j z i off hd hv
  obtain ⟨g, n, c, hg, h0, hn, he⟩ := aN hx hv
  exact aI (v := .pointer (some ⟨g, i.toNat * z + (off + d.off), none⟩)) h ⟨g, n, c, hg, h0, hn, rfl⟩ fun w' => by rw [key d hd _ he w', akM, ak2]
 ·rename_i d q i off hd hv
  obtain ⟨h0, hn, A, he, hA, hc⟩ := aN hx hv
  refine aI (v := .pointer (some (A.add d.off))) h ⟨h0, hn, A.add d.off, rfl, by rw [bL]; exact hA, fun m s hm => ?_⟩ fun w' => key d hd _ he w'
  rw [alR]
  exact hc _ _ (by rw [<- hm, ak2])
 ·rename_i d l off hd hv
  obtain ⟨A, he, hA, hc⟩ := aN hx hv
  refine aI (v := .pointer (some (A.add d.off))) h ⟨A.add d.off, rfl, by rw [bL]; exact hA, fun m f hm => ?_⟩ fun w' => key d hd _ he w'
  rw [alR]
  exact hc _ _ (by rw [<- hm, ak2])
 ·rename_i d q i off hd hv
  obtain ⟨h0, hn, A, he, hA, hc⟩ := aN hx hv
  refine aI (v := .pointer (some (A.add d.off))) h ⟨h0, hn, A.add d.off, rfl, by rw [bL]; exact hA, fun m s hm => ?_⟩ fun w' => key d hd _ he w'
  rw [alR]
  exact hc _ _ (by rw [<- hm, ak2])
 ·rename_i d two T hd hv
  obtain ⟨_, h⟩ := aA h
  have hT := aN hx hv
  cases T with
  | nil => rename_i hn _; cases hn
  | node ta tb tl tr =>
   obtain ⟨g, cs, t', z, vl, vr, e0, rest⟩ := id hT
   refine aI (v := .pointer (some ⟨g, d.off, none⟩)) h ⟨g, rfl, by rw [<- e0]; exact hT⟩ fun w' => by rw [key d hd _ e0 w', akM, akE]
 ·cases h

theorem uQ {x : Operand} (ho : o.op = .nilCheck x) (hR : Rel X s a w lc)
  (h : (match (aF s x).sv with
   | .ptr j off => K (one (.ptr j off)) s
   | .elt j z i off => K (one (.elt j z i off)) s
   | .ref q i off => K (one (.ref q i off)) s
   | .cref l off => K (one (.cref l off)) s
   | .fref q i off => K (one (.fref q i off)) s
   | .tr two T => gd (!T.isNil) (K (one (.tr two T)) s)
   | _ => none) = some r) : fe P X o a w lc s K r := by
 have hx := az (X := X) hR.tmps x
 split at h
 ·rename_i j off hv
  have hs := aN hx hv
  obtain ⟨g, hg, he⟩ := id hs
  exact aI h hs fun w' => by unfold execOp; simp [ho, he]
 ·rename_i j z i off hv
  have hs := aN hx hv
  obtain ⟨g, n, c, hg, h0, hn, he⟩ := id hs
  exact aI h hs fun w' => by unfold execOp; simp [ho, he]
 ·rename_i q i off hv
  have hs := aN hx hv
  obtain ⟨h0, hn, A, he, hA, hc⟩ := id hs
  exact aI h hs fun w' => by unfold execOp; simp [ho, he]
 ·rename_i l off hv
  have hs := aN hx hv
  obtain ⟨A, he, hA, hc⟩ := id hs
  exact aI h hs fun w' => by unfold execOp; simp [ho, he]
 ·rename_i q i off hv
  have hs := aN hx hv
  obtain ⟨h0, hn, A, he, hA, hc⟩ := id hs
  exact aI h hs fun w' => by unfold execOp; simp [ho, he]
 ·rename_i two T hv
  obtain ⟨hn, h⟩ := aA h
  have hs := aN hx hv
  cases T with
  | nil => cases hn
  | node ta tb tl tr =>
   obtain ⟨g, cs, t', z, vl, vr, e0, rest⟩ := id hs
   exact aI h hs fun w' => by unfold execOp; simp [ho, e0]
 ·cases h

theorem G9 (hL : aO P L) {t : TypeId} {x : Operand} {f : Nat} (ho : o.op = .field t x f) (hR : Rel X s a w lc)
  (h : (match fm L t f, aF s x with
   | some d, .v (.agg l) => cond (Nat.ble (d.off + d.size) l.length) (K (cond d.agg (.v (.agg (take l d.off d.size))) (.v (.one (nth .und l d.off)))) s) none
   | _, _ => none) = some r) : fe P X o a w lc s K r := by
 have hx := az (X := X) hR.tmps x
 split at h
 ·rename_i d l hd hv
  rw [hv] at hx
  obtain ⟨cs, he, hcs⟩ := hx
  obtain ⟨hb, h2⟩ := aH h
  clear h
  have hle : d.off + d.size <= l.length := by simpa [Nat.ble_eq] using hb
  unfold fm at hd
  have ht := hL t
  split at hd
  ·rename_i fs cts b cmp hti
   rw [hti] at ht
   obtain ⟨fields, zc, hu, hfs, _⟩ := ht
   obtain ⟨fl, hfl, hok⟩ := hfs.get f d hd
   have hfl' : fields[f]? = some fl := by simpa using hfl
   obtain ⟨i, hi, hsz⟩ := hok.info
   obtain ⟨dd, hdd, hagg⟩ := hok.agg
   have hpos := hok.pos
   cases hg : d.agg with
   | false =>
    rw [hg] at h2 hagg
    obtain ⟨v, hv', hr⟩ := hcs.get d.off _ (jy (d := .und) (by omega))
    have hv'' : cs[d.off]? = some v := by simpa using hv'
    refine aI (v := v) h2 hr fun w' => ?_
    have hp := bT fl.type dd hdd hagg cs d.off v hv'' w'
    rw [hok.off] at hp
    unfold execOp
    simp [ho, Instr.field, run_underlying hu, hfl', he, asAgg, hp]
   | true =>
    rw [hg] at h2 hagg
    refine aI (v := .agg (cs.extract d.off (d.off + d.size))) h2 ⟨_, rfl, ?_⟩ fun w' => ?_
    ·have : (cs.extract d.off (d.off + d.size)).toList = (cs.toList.drop d.off).take d.size := by
      rw [Array.toList_extract, List.extract_eq_take_drop]; simp
     rw [this]
     exact (hcs.drop _).take _
    ·unfold execOp
     simp [ho, Instr.field, run_underlying hu, hfl', he, asAgg, part, qG hdd, hagg, bW hi, hsz, hok.off]
  ·cases hd
 ·cases h

theorem uP : ∀ (xs : List Operand) (l : List (Nat × Nat)), aB (aC X lc) s.tmps a.tmps.toList -> qD s xs = some l -> aB (dC lc) l (xs.map a.eval)
 | [], l, hR, h => by simp only [qD, aj1] at h; subst h; exact .nil
 | x :: xs, l, hR, h => by
  simp only [qD] at h
  split at h
  ·rename_i j o l' hj hl
   simp only [aj1] at h
   subst h
   exact .cons (aN (az hR x) hj) (uP xs l' hR hl)
  ·cases h

theorem wQ : ∀ {l : List SV} {vs : List Value}, l.all bO = true -> aB (aD X lc) l vs -> aB (iJ X) (l.map (C8 [])) vs
 | [], _, _, .nil => .nil
 | s :: l, _, hp, .cons k1 k2 => by
  simp only [akd, aj0] at hp
  refine .cons ?_ (wQ hp.2 k2)
  have hp1 := hp.1
  cases s <;> first | exact k1 | cases hp1
theorem EB {g : FuncId} {first caps : Array Operand} (ho : o.op = .makeFunc (.func g) first caps) (hR : Rel X s a w lc)
  (h : (match first.toList, qD s caps.toList with
   | [], some l => K (one (.fn g l)) s
   | [x], some [] => match aF s x with
    | .v (.agg l) => cond (l.all bO) (K (one (.bfn g (l.map (C8 [])))) s) none
    | _ => none
   | _, _ => none) = some r) : fU P X o a w lc s K r := by
 split at h
 ·rename_i l hf hl
  have hf' : first = #[] := by cases first; simp_all
  subst hf'
  refine bD (v := .func (.func g) #[] (caps.map a.eval)) h ⟨caps.map a.eval, rfl, ?_⟩ fun w' => by
   unfold execOp
   simp [ho, Instr.makeFunc]
  rw [akY]
  exact uP _ _ hR.tmps hl
 ·rename_i x hf hl
  split at h
  ·rename_i l hx
   obtain ⟨hp, h⟩ := aH h
   have hr := az (X := X) hR.tmps x
   rw [hx] at hr
   obtain ⟨cs, h1, h2⟩ := hr
   have hc : caps = #[] := by
    have := uP _ _ hR.tmps hl
    cases hcs : caps.toList with
    | nil => cases caps; simp_all
    | cons y ys => rw [hcs] at this; cases this
   subst hc
   have hf' : first = #[x] := by cases first; simp_all
   subst hf'
   refine bD (v := .func (.func g) #[.agg cs] #[]) h ⟨cs, rfl, ?_⟩ fun w' => by
    unfold execOp
    simp [ho, Instr.makeFunc, h1]
   exact wQ hp h2
  ·cases h
 ·cases h

theorem xH {x : Operand} {i : Nat} (ho : o.op = .extract x i) (hR : Rel X s a w lc)
  (h : (match aF s x with
   | .tup l => match l[i]? with | some y => K (.v y) s | none => none
   | _ => none) = some r) : fe P X o a w lc s K r := by
 have hx := az (X := X) hR.tmps x
 split at h
 ·rename_i l hv
  rw [hv] at hx
  obtain ⟨vs, he, hvs⟩ := hx
  split at h
  ·rename_i y hy
   obtain ⟨v, hv', hr⟩ := hvs.get _ _ hy
   have hv'' : vs[i]? = some v := by simpa using hv'
   exact aI (v := v) h hr fun w' => by unfold execOp; simp [ho, Instr.extract, he, hv'']
  ·cases h
 ·cases h

theorem Td (hL : aO P L) {t : TypeId} {x y : Operand} (ho : o.op = .index t x y) (hR : Rel X s a w lc)
  (h : (match L.at_ t, (aF s x).sv, (aF s y).sv with
   | .string, .str b, .int _ n => gd (decide (0 <= n)) (gd (decide (n < (b.size : Int))) (K (one (.int .u8 (bt b n))) s))
   | _, _, _ => none) = some r) : fU P X o a w lc s K r := by
 have hx := az (X := X) hR.tmps x
 have hy := az (X := X) hR.tmps y
 have ht := hL t
 split at h
 ·rename_i b k n hti hv hn
  rw [hti] at ht
  obtain ⟨h0, h⟩ := aA h
  obtain ⟨h1, h⟩ := aA h
  have h0 := of_decide_eq_true h0
  have h1 := of_decide_eq_true h1
  have ex := aN hx hv
  have ey := aN hy hn
  simp only [aD] at ex ey
  have hlt : n.toNat < b.size := by omega
  refine bD (v := .int .u8 (bt b n)) h (by simp [one, aC, a7, aD]) fun w' => ?_
  have e1 : b[n.toNat]? = some b[n.toNat] := by simp [hlt]
  unfold execOp
  simp only [ho, Instr.index, asIntOf, akk, ex, ey, akr, akb, run_underlying ht.1, if_pos h0, e1]
  have hl : n.toNat < b.data.toList.length := by simpa using hlt
  simp only [bt, List.getD, amF hl, ak1]
  rfl
 ·cases h

theorem ad8 (hL : aO P L) {c : Call} {x : Operand} (ho : o.op = .call c) (hc : c.callee = .builtin .len) (ha : c.args.toList = [x]) (hR : Rel X s a w lc)
  (h : (match c.argTypes.toList with
   | [t] => BM L t (aF s x).sv s K
   | _ => none) = some r) : fU P X o a w lc s K r := by
 have hx := az (X := X) hR.tmps x
 obtain ⟨callee, args, argTypes⟩ := c
 simp only at hc ha h
 subst hc
 have ha' : args = #[x] := by cases args; simp_all
 subst ha'
 split at h
 ·rename_i t hts
  have hts' : argTypes = #[t] := by cases argTypes; simp_all
  subst hts'
  have ht := hL t
  have go : ∀ (n : Nat), (∀ w', (Builtin.len_ #[t] o.type #[a.eval x]).run P w' = .ok (.int .i64 (n : Int)) w') -> K (one (.int .i64 (n : Int))) s = some r -> fU P X o a w lc s K r := by
   intro n hn h
   refine bD (v := .int .i64 (n : Int)) h (by simp [one, aC, a7, aD]) fun w' => ?_
   unfold execOp
   simp [ho, resolve, invoke, builtin, hn]
  unfold BM at h
  split at h
  ·rename_i e j hti hv
   rw [hti] at ht
   split at h
   ·rename_i u q hb
    have hl := (aN hx hv).1
    obtain ⟨v', hv', xs, _, hown⟩ := qF (hR.world.blks j _ _ (fL hb).1 hl) hb
    simp only [Loc.r.injEq] at hv'
    subst hv'
    refine go q.len (fun w' => ?_) h
    rcases hown.2 with ⟨h', h0⟩ | ⟨g', cap', cur, fz, h', _⟩
    ·rw [h', h0]; simp [Builtin.len_, run_underlying ht.1, goInt]
    ·rw [h']; simp [Builtin.len_, run_underlying ht.1, goInt]
   ·cases h
  ·rename_i e u q hti hv
   rw [hti] at ht
   obtain ⟨A, n, cp, he, hn, _⟩ := aN hx hv
   refine go q.len (fun w' => ?_) h
   rw [he, hn]; simp [Builtin.len_, run_underlying ht.1, goInt]
  ·rename_i e u q hti hv
   rw [hti] at ht
   obtain ⟨A, n, cp, he, hn, _⟩ := (aN hx hv).1
   refine go q.len (fun w' => ?_) h
   rw [he, hn]; simp [Builtin.len_, run_underlying ht.1, goInt]
  ·rename_i b hti hv
   rw [hti] at ht
   have he := aN hx hv
   simp only [aD] at he
   refine go b.size (fun w' => ?_) h
   rw [he]; simp [Builtin.len_, run_underlying ht.1, goInt]
  ·rename_i k e j hti hv
   rw [hti] at ht
   have hjr : j ∈ dE (aF s x) := by rw [jG hv (by simp)]; simp [iI]
   split at h
   ·rename_i kd l hb
    obtain ⟨g, hl, he⟩ := aN hx hv
    obtain ⟨es, clock, hh, hes⟩ := tW (hR.world.blks j _ _ (dS hb).1 hl) hb
    have hlen := hes.length
    refine ⟨_, .int .i64 (l.length : Int), h, by simp [one, aC, a7, aD], fun G hV w' hb' => ?_⟩
    have hng : ¬ G g := hV.no (fI (x := x) (by simp [ho, Op.operands, Call.operands]) hjr) (dS hb).1 (dS hb).2 hl rfl
    have hh' := kb hb' hng hh
    have : (Builtin.len_ #[t] o.type #[a.eval x]).run P w' = .ok (.int .i64 (l.length : Int)) w' := by
     rw [he, hlen]; simp [Builtin.len_, run_underlying ht.1, goInt, getObj, Sem.run, hh']
    unfold execOp
    simp [ho, resolve, invoke, builtin, this]
   ·cases h
  ·cases h
 ·cases h

theorem Cs {c : Call} {x y : Operand} (ho : o.op = .call c) (mx : Bool) (hc : c.callee = .builtin (if mx then .max else .min)) (ha : c.args.toList = [x, y]) (hR : Rel X s a w lc)
  (h : (match (aF s x).sv, (aF s y).sv with
   | .int k a, .int k' b => cond (bI k k') (K (one (.int k (if mx then mxI a b else mnI a b))) s) none
   | _, _ => none) = some r) : fU P X o a w lc s K r := by
 have hx := az (X := X) hR.tmps x
 have hy := az (X := X) hR.tmps y
 obtain ⟨callee, args, argTypes⟩ := c
 simp only at hc ha
 subst hc
 have ha' : args = #[x, y] := by cases args; simp_all
 subst ha'
 split at h
 ·rename_i k p k' q hv hn
  have ex := aN hx hv
  have ey := aN hy hn
  simp only [aD] at ex ey
  obtain ⟨hk, h2⟩ := aH h
  have := bu hk
  subst this
  cases mx with
  | true =>
   exact bD (v := .int k (mxI p q)) h2 (by simp [one, aC, a7, aD]) fun w' => by
    unfold execOp
    simp [ho, resolve, invoke, builtin, ex, ey, Builtin.max_, Builtin.max2, mxI]
  | false =>
   exact bD (v := .int k (mnI p q)) h2 (by simp [one, aC, a7, aD]) fun w' => by
    unfold execOp
    simp [ho, resolve, invoke, builtin, ex, ey, Builtin.min_, Builtin.min2, mnI]
 ·cases h

theorem fY (hL : aO P L) (e : TypeId) {n : Nat} (hn : jM L e = n) (h0 : 0 < n) : ∃ i, P.info? e = some i /\ i.size = n := by
 have ht := hL e
 unfold jM at hn
 split at hn
 ·rename_i k hti; rw [hti] at ht; obtain ⟨_, i, hi, _, hs, _⟩ := ht; exact ⟨i, hi, hs.trans hn⟩
 ·rename_i hti; rw [hti] at ht; obtain ⟨_, i, hi, _, hs, _⟩ := ht; exact ⟨i, hi, hs.trans hn⟩
 ·rename_i hti; rw [hti] at ht; obtain ⟨_, i, hi, _, hs, _⟩ := ht; exact ⟨i, hi, hs.trans hn⟩
 ·rename_i hti; rw [hti] at ht; obtain ⟨_, i, hi, _, hs, _⟩ := ht; exact ⟨i, hi, hs.trans hn⟩
 ·rename_i hti; rw [hti] at ht; obtain ⟨_, i, hi, _, hs, _⟩ := ht; exact ⟨i, hi, hs.trans hn⟩
 ·rename_i hti; rw [hti] at ht; obtain ⟨_, i, hi, _, hs, _⟩ := ht; exact ⟨i, hi, hs.trans hn⟩
 ·rename_i hti; rw [hti] at ht; obtain ⟨_, i, hi, _, hs, _⟩ := ht; exact ⟨i, hi, hs.trans hn⟩
 ·rename_i hti; rw [hti] at ht; obtain ⟨_, _, _, _, ⟨i, hi, _, hs, _⟩, _⟩ := ht; exact ⟨i, hi, hs.trans hn⟩
 ·rename_i hti; rw [hti] at ht; obtain ⟨_, _, _, i, hi, _, hs, _⟩ := ht; exact ⟨i, hi, hs.trans hn⟩
 ·omega

theorem Cr (hL : aO P L) {t : TypeId} {x y : Operand} (ho : o.op = .indexAddr t x y) (hR : Rel X s a w lc)
  (h : ee L t (aF s x).sv (aF s y).sv s K = some r) : fU P X o a w lc s K r := by
 have hx := az (X := X) hR.tmps x
 have hy := az (X := X) hR.tmps y
 have ht := hL t
 unfold ee at h
 split at h
 ·rename_i e j k n hti hv hn
  rw [hti] at ht
  split at h
  ·rename_i u q hb
   obtain ⟨hz, h⟩ := aA h
   obtain ⟨h0, h⟩ := aA h
   obtain ⟨h1, h⟩ := aA h
   have h0 := of_decide_eq_true h0
   have h1 := of_decide_eq_true h1
   have hz := aj3 hz
   have hl := (aN hx hv).1
   have ey := aN hy hn
   simp only [aD] at ey
   obtain ⟨v', hv', xs, _, hown⟩ := qF (hR.world.blks j _ _ (fL hb).1 hl) hb
   simp only [Loc.r.injEq] at hv'
   subst hv'
   rcases hown.2 with ⟨h', hz0⟩ | ⟨g, cap, cur, fz, he, _⟩
   ·omega
   ·obtain ⟨i, hi, hsz⟩ := fY hL e hz q.sz_pos
    refine bD (v := .pointer (some ⟨g, n.toNat * q.sz + 0, none⟩)) h ⟨g, q.len, cap, by rw [<- he]; exact hl, h0, h1, rfl⟩ fun w' => ?_
    unfold execOp
    simp only [ho, Instr.indexAt, asIntOf, akk, ey, akr, akb, run_underlying ht.1, he]
    rw [if_pos ⟨h0, h1⟩]
    simp [bW hi, hsz, akM]
  ·cases h
 ·rename_i e u q k n hti hv hn
  rw [hti] at ht
  obtain ⟨hz, h⟩ := aA h
  obtain ⟨h0, h⟩ := aA h
  obtain ⟨h1, h⟩ := aA h
  have h0 := of_decide_eq_true h0
  have h1 := of_decide_eq_true h1
  have hz := aj3 hz
  obtain ⟨A, m, c, he, hm, hmc, xs, hin, hcells⟩ := aN hx hv
  have ey := aN hy hn
  simp only [aD] at ey
  subst hm
  obtain ⟨i, hi, hsz⟩ := fY hL e hz q.sz_pos
  have hsome : ∃ s0, (q.at_ n)[0]? = some s0 := by
   have := q.at_len n; have := q.sz_pos
   exact ⟨(q.at_ n)[0]'(by omega), amF (by omega)⟩
  obtain ⟨s0, hs0⟩ := hsome
  obtain ⟨u0, hu0, _⟩ := q.at_in h0 h1 hin hs0
  obtain ⟨A', hA', hlt, _⟩ := hcells _ _ hu0
  subst hA'
  refine bD (v := .pointer (some (A'.add (n.toNat * q.sz)))) h ⟨h0, h1, _, rfl, by rw [bL]; exact hlt, fun m s hm => ?_⟩ fun w' => ?_
  ·obtain ⟨u1, hu1, hr1⟩ := q.at_in h0 h1 hin (m := m) (by simpa using hm)
   obtain ⟨A2, e2, _, h3⟩ := hcells _ _ hu1
   cases e2
   rw [alR]; exact ⟨u1, h3, hr1⟩
  ·unfold execOp
   simp only [ho, Instr.indexAt, asIntOf, akk, ey, akr, akb, run_underlying ht.1, he]
   rw [if_pos ⟨h0, h1⟩]
   simp [bW hi, hsz]
 ·rename_i e u q k n hti hv hn
  rw [hti] at ht
  obtain ⟨hz, h⟩ := aA h
  obtain ⟨h0, h⟩ := aA h
  obtain ⟨h1, h⟩ := aA h
  have h0 := of_decide_eq_true h0
  have h1 := of_decide_eq_true h1
  have hz := aj3 hz
  obtain ⟨A, m, c, he, hm, hmc, xs, hin, hcells⟩ := (aN hx hv).1
  have ey := aN hy hn
  simp only [aD] at ey
  subst hm
  obtain ⟨i, hi, hsz⟩ := fY hL e hz q.sz_pos
  have hsome : ∃ s0, (q.at_ n)[0]? = some s0 := by
   have := q.at_len n; have := q.sz_pos
   exact ⟨(q.at_ n)[0]'(by omega), amF (by omega)⟩
  obtain ⟨s0, hs0⟩ := hsome
  obtain ⟨u0, hu0, _⟩ := q.at_in h0 h1 hin hs0
  obtain ⟨A', hA', hlt, _⟩ := hcells _ _ hu0
  subst hA'
  refine bD (v := .pointer (some (A'.add (n.toNat * q.sz)))) h ⟨h0, h1, _, rfl, by rw [bL]; exact hlt, fun m s hm => ?_⟩ fun w' => ?_
  ·obtain ⟨u1, hu1, hr1⟩ := q.at_in h0 h1 hin (m := m) (by simpa using hm)
   obtain ⟨A2, e2, _, h3⟩ := hcells _ _ hu1
   cases e2
   rw [alR]; exact ⟨u1, h3, hr1⟩
  ·unfold execOp
   simp only [ho, Instr.indexAt, asIntOf, akk, ey, akr, akb, run_underlying ht.1, he]
   rw [if_pos ⟨h0, h1⟩]
   simp [bW hi, hsz]
 ·rename_i n' e j off k n hti hv hn
  rw [hti] at ht
  obtain ⟨hu, hn2, he, i, hi, hzz, _, _⟩ := ht
  subst hn2
  obtain ⟨h0, h⟩ := aA h
  obtain ⟨h1, h⟩ := aA h
  have h0 := of_decide_eq_true h0
  have h1 := of_decide_eq_true h1
  obtain ⟨g, hl, ex⟩ := aN hx hv
  have ey := aN hy hn
  simp only [aD] at ey
  have hte := hL e
  rw [he] at hte
  obtain ⟨_, ie, hie, _, hsz, _⟩ := hte
  have hrun : ∀ w' : World, (execOp a.eval o).run P w' = .ok (.value (.pointer (some ⟨g, off + n.toNat, none⟩))) w' := fun w' => by
   unfold execOp
   simp only [ho, Instr.indexAt, Instr.sureAddr, asIntOf, akk, ey, akr, akb, run_underlying hu, ex]
   rw [if_pos ⟨h0, h1⟩]
   simp [bW hie, hsz, akM]
  cases hc : (n == 0) with
  | true =>
   rw [hc] at h
   have : n = 0 := by simpa using hc
   subst this
   exact bD h ⟨g, hl, rfl⟩ hrun
  | false =>
   rw [hc] at h
   have : n = 1 := by have := (beq_eq_false_iff_ne ..).1 hc; omega
   subst this
   exact bD h ⟨g, hl, rfl⟩ hrun
 ·cases h

theorem eg {α β : Type} {f : α -> List β} {n : Nat} (hn : ∀ x, (f x).length = n) : ∀ (l : List α) (k : Nat), (l.take k).flatMap f = (l.flatMap f).take (k * n) /\ (l.drop k).flatMap f = (l.flatMap f).drop (k * n)
 | [], k => by simp
 | x :: l, 0 => by simp
 | x :: l, k + 1 => by
  obtain ⟨h1, h2⟩ := eg hn l k
  have e : (k + 1) * n = n + k * n := by rw [als]; omega
  have h3 := List.take_length_add_append (l₁ := f x) (l₂ := l.flatMap f) (k * n)
  have h4 := List.drop_length_add_append (l₁ := f x) (l₂ := l.flatMap f) (k * n)
  rw [hn] at h3 h4
  simp only [List.take_succ_cons, List.drop_succ_cons, akR, e]
  exact ⟨by rw [h3, h1], by rw [h4, h2]⟩
theorem Ar (q : Row) (lo hi : Nat) : (q.sub lo hi).len = min hi q.len - lo := by cases q <;> simp [Row.sub, Row.len]
theorem OY (q : Row) (lo hi : Nat) : (q.sub lo hi).sz = q.sz := by cases q <;> rfl
theorem OW {S : Nat -> Prop} {wf : World} {q : Row} {xs : List Value} (h : q.cellsIn S wf xs) (lo hi : Nat) : (q.sub lo hi).cellsIn S wf ((xs.take (hi * q.sz)).drop (lo * q.sz)) := by
 cases q with
 | ints k l => obtain rfl : xs = _ := h; show _ = _; simp [Row.cells, Row.sub, Row.sz]
 | strs l => obtain rfl : xs = _ := h; show _ = _; simp [Row.cells, Row.sub, Row.sz]
 | bools l => obtain rfl : xs = _ := h; show _ = _; simp [Row.cells, Row.sub, Row.sz]
 | pairs l => obtain rfl : xs = _ := h; show _ = _; simp only [Row.cells, Row.sub, Row.sz]; rw [(eg (n := 2) (fun _ => rfl) _ lo).2, (eg (n := 2) (fun _ => rfl) _ hi).1]
 | trips l => obtain rfl : xs = _ := h; show _ = _; simp only [Row.cells, Row.sub, Row.sz]; rw [(eg (n := 3) (fun _ => rfl) _ lo).2, (eg (n := 3) (fun _ => rfl) _ hi).1]
 | lists e l =>
  have h : aB (ej S wf e) l xs := h
  show aB (ej S wf e) _ _
  simp only [Row.sz, akV]
  exact (h.take hi).drop lo
theorem jj {S : Nat -> Prop} {wf : World} {q : Row} {A : Option Addr} {n c : Nat} (h : bf S wf q (.slice A n c)) {lo hi : Nat} (h1 : lo <= hi) (h2 : hi <= q.len) :
  n = q.len /\ bf S wf (q.sub lo hi) (.slice (if c = lo then A else A.map (·.add (lo * q.sz))) (hi - lo) (c - lo)) := by
 obtain ⟨A', n', c', e, rfl, hnc, xs, hin, hc⟩ := h
 cases e
 refine ⟨rfl, _, _, _, rfl, by rw [Ar]; omega, by omega, _, OW hin lo hi, fun m u hm => ?_⟩
 rw [List.getElem?_drop, amM] at hm
 split at hm
 ·rename_i hlt
  have hlo : c ≠ lo := fun e => by
   have : hi = lo := by omega
   subst this; omega
  rw [if_neg hlo]
  obtain ⟨a, rfl, h3, h4⟩ := hc _ _ hm
  exact ⟨_, rfl, by rw [bL]; exact h3, by rw [alR]; exact h4⟩
 ·cases hm

theorem EC (hL : aO P L) {t : TypeId} {x : Operand} {lo hi : Option Operand} (ho : o.op = .slice t x lo hi none) (hR : Rel X s a w lc)
  (h : (match L.at_ t, (aF s x).sv with
   | .string, .str b => bA b (lo.map (aF s)) (hi.map (aF s)) fun v => K v s
   | _, _ => none) = some r) : fe P X o a w lc s K r := by
 have hx := az (X := X) hR.tmps x
 have ht := hL t
 split at h
 ·rename_i b hti hv
  rw [hti] at ht
  have ex := aN hx hv
  simp only [aD] at ex
  have int : ∀ (y : Operand) (k : IntKind) (n : Int), aF s y = .v (.one (.int k n)) -> a.eval y = .int k n := fun y k n hy => by
   have := az (X := X) hR.tmps y
   rw [hy] at this; exact this
  have shape : ∀ (z : TV), (∃ k n, z = .v (.one (.int k n))) \/ (∀ k n, z ≠ .v (.one (.int k n))) := fun z => by
   cases z with
   | tup _ => exact .inr fun _ _ h => by cases h
   | v z => cases z with
    | agg _ => exact .inr fun _ _ h => by cases h
    | one z => cases z <;> first | exact .inl ⟨_, _, rfl⟩ | exact .inr fun _ _ h => by cases h
  cases lo with
  | none => cases hi with
   | none =>
    simp only [al1, bA] at h
    exact aI (v := .string (b.extract 0 b.size)) h (by simp [one, aC, a7, aD]) fun w' => by
     unfold execOp
     simp [ho, Instr.sliceAt, Instr.slice, run_underlying ht.1, ex, Instr.sliceBounds]
   | some y =>
    simp only [al1, akB] at h
    rcases shape (aF s y) with ⟨k, n, hy⟩ | hno
    ·simp only [hy, bA] at h
     obtain ⟨h0, h⟩ := aA h
     obtain ⟨h1, h⟩ := aA h
     have h0 := of_decide_eq_true h0
     have h1 := of_decide_eq_true h1
     exact aI (v := .string (b.extract 0 n.toNat)) h (by simp [one, aC, a7, aD]) fun w' => by
      unfold execOp
      simp [ho, Instr.sliceAt, Instr.slice, run_underlying ht.1, ex, Instr.sliceBounds, Instr.sliceBound, int y _ _ hy, asIntOf, h0, h1]
    ·unfold bA at h
     split at h
     ·rename_i e; simp at e
     ·rename_i e; simp at e
     ·rename_i e; simp at e; exact absurd e (hno _ _)
     ·rename_i e _; simp at e
     ·cases h
  | some z => cases hi with
   | none =>
    simp only [al1, akB] at h
    rcases shape (aF s z) with ⟨k, n, hy⟩ | hno
    ·simp only [hy, bA] at h
     obtain ⟨h0, h⟩ := aA h
     obtain ⟨h1, h⟩ := aA h
     have h0 := of_decide_eq_true h0
     have h1 := of_decide_eq_true h1
     exact aI (v := .string (b.extract n.toNat b.size)) h (by simp [one, aC, a7, aD]) fun w' => by
      unfold execOp
      simp [ho, Instr.sliceAt, Instr.slice, run_underlying ht.1, ex, Instr.sliceBounds, Instr.sliceBound, int z _ _ hy, asIntOf, h0, h1]
    ·unfold bA at h
     split at h
     ·rename_i e _; simp at e
     ·rename_i e _; simp only [aj1] at e; exact absurd e (hno _ _)
     ·rename_i e _; simp at e
     ·rename_i e; simp at e
     ·cases h
   | some y =>
    simp only [akB] at h
    rcases shape (aF s z) with ⟨k, n, hz⟩ | hno
    ·rcases shape (aF s y) with ⟨k', n', hy⟩ | hno
     ·simp only [hy, hz, bA] at h
      obtain ⟨h0, h⟩ := aA h
      obtain ⟨h1, h⟩ := aA h
      obtain ⟨h2, h⟩ := aA h
      obtain ⟨h3, h⟩ := aA h
      have h0 := of_decide_eq_true h0
      have h1 := of_decide_eq_true h1
      have h2 := of_decide_eq_true h2
      have h3 := of_decide_eq_true h3
      have h4 : n <= max n' 0 := by omega
      exact aI (v := .string (b.extract n.toNat n'.toNat)) h (by simp [one, aC, a7, aD]) fun w' => by
       unfold execOp
       simp [ho, Instr.sliceAt, Instr.slice, run_underlying ht.1, ex, Instr.sliceBounds, Instr.sliceBound, int z _ _ hz, int y _ _ hy, asIntOf, h0, h1, h2, h4]
     ·unfold bA at h
      split at h
      ·rename_i e; simp at e
      ·rename_i e; simp at e
      ·rename_i e _; simp at e
      ·rename_i e; simp at e; exact absurd e (hno _ _)
      ·cases h
    ·unfold bA at h
     split at h
     ·rename_i e _; simp at e
     ·rename_i e; simp at e
     ·rename_i e _; simp at e
     ·rename_i e _; simp at e; exact absurd e (hno _ _)
     ·cases h
 ·cases h
theorem GB (hL : aO P L) {t : TypeId} {x : Operand} {lo hi : Option Operand} (ho : o.op = .slice t x lo hi none) (hR : Rel X s a w lc)
  (h : (match L.at_ t, (aF s x).sv with
   | .string, .str b => bA b (lo.map (aF s)) (hi.map (aF s)) fun v => K v s
   | _, _ => dN L t (aF s x).sv (lo.map (aF s)) (hi.map (aF s)) s K) = some r) : wF P X o a w lc s K r := by
 have rows : dN L t (aF s x).sv (lo.map (aF s)) (hi.map (aF s)) s K = some r -> wF P X o a w lc s K r := by
  intro h
  have hx := az (X := X) hR.tmps x
  have ht := hL t
  have int : ∀ (y : Operand) (k : IntKind) (n : Int), aF s y = .v (.one (.int k n)) -> a.eval y = .int k n := fun y k n hy => by
   have := az (X := X) hR.tmps y
   rw [hy] at this; exact this
  have bounds : ∀ (A : Option Addr) (n c : Nat) (e : TypeId) (sz : Nat) (i : TypeInfo), P.underlying t = some (.slice e) -> P.info? e = some i -> i.size = sz -> a.eval x = .slice A n c ->
    (∀ l, lo = none -> hi = some l -> ∀ k m, aF s l = .v (.one (.int k m)) -> 0 <= m -> m <= (c : Int) -> ∀ w', (execOp a.eval o).run P w' = .ok (.value (.slice (if c = 0 then A else A.map (·.add (0 * sz))) m.toNat c)) w') /\
    (∀ l, lo = some l -> hi = none -> ∀ k m, aF s l = .v (.one (.int k m)) -> 0 <= m -> m <= (n : Int) -> n <= c -> ∀ w', (execOp a.eval o).run P w' = .ok (.value (.slice (if c = m.toNat then A else A.map (·.add (m.toNat * sz))) (n - m.toNat) (c - m.toNat))) w') /\
    (lo = none -> hi = none -> n <= c -> ∀ w', (execOp a.eval o).run P w' = .ok (.value (.slice (if c = 0 then A else A.map (·.add (0 * sz))) n c)) w') := by
   intro A n c e sz i hu hi' hs he
   refine ⟨fun l h1 h2 k m hl h0 hm w' => ?_, fun l h1 h2 k m hl h0 hm hnc w' => ?_, fun h1 h2 hnc w' => ?_⟩
   ·subst h1; subst h2
    unfold execOp
    simp [ho, Instr.sliceAt, Instr.slice, run_underlying hu, he, Instr.sliceBounds, Instr.sliceBound, int l _ _ hl, asIntOf, h0, hm, bW hi', hs]
   ·subst h1; subst h2
    unfold execOp
    simp [ho, Instr.sliceAt, Instr.slice, run_underlying hu, he, Instr.sliceBounds, Instr.sliceBound, int l _ _ hl, asIntOf, h0, hm, bW hi', hs]
   ·subst h1; subst h2
    unfold execOp
    simp [ho, Instr.sliceAt, Instr.slice, run_underlying hu, he, Instr.sliceBounds, bW hi', hs]
  have optNone : ∀ {y : Option Operand}, y.map (aF s) = none -> y = none := fun {y} h => by cases y <;> simp_all
  have optSome : ∀ {y : Option Operand} {z : TV}, y.map (aF s) = some z -> ∃ l, y = some l /\ aF s l = z := fun {y z} h => by cases y <;> simp_all
  have whole : ∀ {S : Nat -> Prop} {wf : World} {q : Row} {A : Option Addr} {n c : Nat}, bf S wf q (.slice A n c) -> bf S wf q (.slice (if c = 0 then A else A.map (·.add (0 * q.sz))) n c) := by
   intro S wf q A n c hF
   have : (if c = 0 then A else A.map (·.add (0 * q.sz))) = A := by
    split
    ·rfl
    ·cases A <;> simp [Addr.add]
   rw [this]; exact hF
  unfold dN at h
  split at h
  ·rename_i e u q hti hv
   rw [hti] at ht
   obtain ⟨hz, h⟩ := aA h
   have hz := aj3 hz
   obtain ⟨i, hi', hs⟩ := fY hL e hz q.sz_pos
   obtain ⟨A, n, c, he, hn, hnc, rest⟩ := id (aN hx hv)
   have hF := aN hx hv
   rw [he] at hF
   have hF : dL X q (.slice A n c) := hF
   have toT : ∀ {p : Row} {v : Value}, dL X p v -> aC X lc (one (.sl u p)) v := fun h => h
   obtain ⟨b1, b2, b3⟩ := bounds A n c e q.sz i ht.1 hi' hs he
   split at h
   ·rename_i hl hh
    exact (aI (v := .slice (if c = 0 then A else A.map (·.add (0 * q.sz))) n c) h (toT (whole hF)) (b3 (optNone hl) (optNone hh) hnc)).b hR.world
   ·rename_i k m hl hh
    obtain ⟨h0, h⟩ := aA h
    obtain ⟨h1, h⟩ := aA h
    have h0 := of_decide_eq_true h0
    have h1 := of_decide_eq_true h1
    obtain ⟨y, hy, hg⟩ := optSome hl
    refine (aI (v := .slice (if c = m.toNat then A else A.map (·.add (m.toNat * q.sz))) (n - m.toNat) (c - m.toNat)) h ?_ (b2 y hy (optNone hh) _ _ hg h0 (by omega) hnc)).b hR.world
    obtain ⟨e1, e2⟩ := jj hF (lo := m.toNat) (hi := q.len) (by omega) (aj8 _)
    have e3 : n - m.toNat = q.len - m.toNat := by rw [hn]
    rw [e3]
    exact toT e2
   ·rename_i k m hl hh
    obtain ⟨h0, h⟩ := aA h
    obtain ⟨h1, h⟩ := aA h
    have h0 := of_decide_eq_true h0
    have h1 := of_decide_eq_true h1
    obtain ⟨y, hy, hg⟩ := optSome hh
    refine (aI (v := .slice (if c = 0 then A else A.map (·.add (0 * q.sz))) m.toNat c) h ?_ (b1 y (optNone hl) hy _ _ hg h0 (by omega))).b hR.world
    have e2 := (jj hF (lo := 0) (hi := m.toNat) (by omega) (by omega)).2
    simp only [amn] at e2
    exact toT e2
   ·cases h
  ·rename_i e u q hti hv
   rw [hti] at ht
   obtain ⟨hz, h⟩ := aA h
   have hz := aj3 hz
   obtain ⟨i, hi', hs⟩ := fY hL e hz q.sz_pos
   obtain ⟨A, n, c, he, hn, hnc, rest⟩ := (aN hx hv).1
   have hF := aN hx hv
   rw [he] at hF
   obtain ⟨hF, xs, hown, hblkS⟩ := hF
   have hF : fT X q (.slice A n c) := hF
   obtain ⟨b1, b2, b3⟩ := bounds A n c e q.sz i ht.1 hi' hs he
   have hA : (if c = 0 then A else A.map (·.add (0 * q.sz))) = A := by
    split
    ·rfl
    ·cases A <;> simp [Addr.add]
   split at h
   ·rename_i hl hh
    have b3 := b3 (optNone hl) (optNone hh) hnc
    rw [hA] at b3
    exact (aI (v := .slice A n c) h ⟨hF, xs, hown, hblkS⟩ b3).b hR.world
   ·rename_i k m hl hh
    obtain ⟨h0, h⟩ := aA h
    obtain ⟨h1, h⟩ := aA h
    have h0 := of_decide_eq_true h0
    have h1 := of_decide_eq_true h1
    obtain ⟨y, hy, hg⟩ := optSome hl
    have toT : ∀ {p : Row} {v : Value}, fT X p v -> aC X lc (one (.fpt p)) v := fun h => h
    refine (aI (v := .slice (if c = m.toNat then A else A.map (·.add (m.toNat * q.sz))) (n - m.toNat) (c - m.toNat)) h ?_ (b2 y hy (optNone hh) _ _ hg h0 (by omega) hnc)).b hR.world
    obtain ⟨e1, e2⟩ := jj hF (lo := m.toNat) (hi := q.len) (by omega) (aj8 _)
    have e3 : n - m.toNat = q.len - m.toNat := by rw [hn]
    rw [e3]
    exact toT e2
   ·rename_i k m hl hh
    obtain ⟨h0, h⟩ := aA h
    obtain ⟨h1, h⟩ := aA h
    have h0 := of_decide_eq_true h0
    have h1 := of_decide_eq_true h1
    obtain ⟨y, hy, hg⟩ := optSome hh
    have b1 := b1 y (optNone hl) hy _ _ hg h0 (by omega)
    rw [hA] at b1
    refine (aI (v := .slice A m.toNat c) h ?_ b1).b hR.world
    have e2 := (jj hF (lo := 0) (hi := m.toNat) (by omega) (by omega)).2
    rw [hA] at e2
    simp only [amn] at e2
    have e1 : (q.sub 0 m.toNat).len = m.toNat := by rw [Ar]; omega
    refine ⟨e2, xs.take (m.toNat * q.sz), ?_, fun g hg' => hblkS g (by rw [<- hg']; cases A <;> rfl)⟩
    rw [OY, e1]
    have hmul := ak6 q.sz (show m.toNat <= q.len by omega)
    refine ⟨by rw [alp, hown.1]; omega, ?_⟩
    rcases hown.2 with ⟨h', hz0⟩ | ⟨g, cap, cur, h', h2, h3, h4, h5, h6, h7⟩
    ·cases h'
     exact .inl ⟨by rw [show m.toNat = 0 by omega], by omega⟩
    ·cases h'
     refine .inr ⟨g, c, cur, rfl, h2, h3, by omega, h5, h6, ?_⟩
     rw [<- h7, amu]
     congr 1
     omega
   ·cases h
  ·rename_i e j hti hv
   rw [hti] at ht
   split at h
   ·rename_i u q k m hb hl hh
    obtain ⟨hz, h⟩ := aA h
    obtain ⟨h0, h⟩ := aA h
    obtain ⟨h1, h⟩ := aA h
    have hz := aj3 hz
    have h0 := of_decide_eq_true h0
    have h1 := of_decide_eq_true h1
    obtain ⟨i, hi', hs⟩ := fY hL e hz q.sz_pos
    obtain ⟨hlj, A, n, c, he⟩ := aN hx hv
    obtain ⟨y, hy, hg⟩ := optSome hh
    obtain ⟨hblk, hon⟩ := aR hb
    have hB := hR.world.blks j _ _ hblk hlj
    obtain ⟨v', hv', xs, hin, hown⟩ := cq hB hb
    simp only [Loc.r.injEq] at hv'
    subst hv'
    rw [he] at hown hlj
    have hA : (if c = 0 then A else A.map (·.add (0 * q.sz))) = A := by
     split
     ·rfl
     ·cases A <;> simp [Addr.add]
    have hcap : q.len <= c := by
     rcases hown.2 with ⟨h', hz0⟩ | ⟨g, cap, cur, h', _, _, hc, _⟩
     ·omega
     ·cases h'; exact hc
    have hb1 := (bounds A n c e q.sz i ht.1 hi' hs he).1 y (optNone hl) hy _ _ hg h0 (by omega)
    rw [hA] at hb1
    refine ⟨_, _, [.r (.slice A m.toNat c)], .slice A m.toNat c, h, ⟨by rw [<- hR.world.len]; simp, A, _, c, rfl⟩, ?_, hb1⟩
    have own' : w.ownsRow 0 u (q.sub 0 m.toNat).sz (.slice A m.toNat c) (q.sub 0 m.toNat).len (xs.take (m.toNat * q.sz)) := by
     have hlen := q.in_len hin
     have e1 : (q.sub 0 m.toNat).len = m.toNat := by rw [Ar]; omega
     rw [OY, e1]
     refine ⟨by rw [alp, hlen]; have := ak6 q.sz (show m.toNat <= q.len by omega); omega, ?_⟩
     rcases hown.2 with ⟨h', hz0⟩ | ⟨g, cap, cur, h', h2, h3, h4, h5, h6, h7⟩
     ·cases h'
      exact .inl ⟨by rw [show m.toNat = 0 by omega], by omega⟩
     ·cases h'
      refine .inr ⟨g, c, cur, rfl, h2, h3, by omega, h5, h6, ?_⟩
      rw [<- h7, amu]
      congr 1
      have := ak6 q.sz (show m.toNat <= q.len by omega)
      omega
    refine (hR.world.drop j).add ⟨fun g hg' => (Loc.lt hB hon (by rw [he, <- hg']; cases A <;> rfl)).1, _, by simpa using OW hin 0 m.toNat, own'⟩ (fun g hg' k2 bi li hi2 oni hli hlg => ?_) fun g _ hg' => ?_
    ·have hkj : k2 ≠ j := fun e => by
      subst e
      rw [bS, amL (amH.1 hblk).1] at hi2
      cases hi2; simp [Blk.on] at oni
     rw [bS, amK (Ne.symm hkj)] at hi2
     exact hR.world.apart k2 j bi _ li _ g hkj hi2 hblk oni hon hli hlj hlg (by rw [<- hg']; cases A <;> rfl)
    ·exact hR.world.frn j _ _ g hblk hon hlj (by rw [<- hg']; cases A <;> rfl)
   ·rename_i u q k m hb hl hh
    obtain ⟨hz, h⟩ := aA h
    obtain ⟨h0, h⟩ := aA h
    obtain ⟨h1, h⟩ := aA h
    rw [aj0] at hz
    have hz1 := aj3 hz.2
    have hz := aj3 hz.1
    have h0 := of_decide_eq_true h0
    have h1 := of_decide_eq_true h1
    obtain ⟨i, hi', hs⟩ := fY hL e hz q.sz_pos
    obtain ⟨hlj, A, n, c, he⟩ := aN hx hv
    obtain ⟨y, hy, hg⟩ := optSome hl
    obtain ⟨hblk, hon⟩ := aR hb
    obtain ⟨v', hv', xs, hin, hown⟩ := cq (hR.world.blks j _ _ hblk hlj) hb
    simp only [Loc.r.injEq] at hv'
    subst hv'
    rw [he] at hown hlj
    rcases hown.2 with ⟨h', hz0⟩ | ⟨g, cap, cur, h', _, _, hc, _⟩
    ·omega
    ·cases h'
     have hb2 := (bounds (some ⟨g, 0, none⟩) q.len c e q.sz i ht.1 hi' hs he).2.1 y hy (optNone hh) _ _ hg h0 (by omega) hc
     have hA : (if c = m.toNat then some (⟨g, 0, none⟩ : Addr) else (some (⟨g, 0, none⟩ : Addr)).map (·.add (m.toNat * q.sz))) = some ⟨g, m.toNat, none⟩ := by
      rw [if_neg (by omega), hz1]
      simp [Addr.add]
      omega
     rw [hA] at hb2
     exact (aI (v := .slice (some ⟨g, m.toNat, none⟩) (q.len - m.toNat) (c - m.toNat)) h ⟨g, _, c, hlj, h0, h1, _, rfl⟩ hb2).b hR.world
   ·cases h
  ·cases h
 split at h
 ·rename_i b hti hv
  exact (EC hL ho hR (by rw [hti, hv]; exact h)).b hR.world
 ·exact rows h
end
end Go.Rv
