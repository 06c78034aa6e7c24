/- The evaluator's operations do what the machine's do: the others that leave memory alone. -/
import Derived.Test.YtdkjnadhgdneaaaDoorRvRead
namespace Go.Rv
open Go.RowKit (Below)
section
variable {P : Program} {L : Lay} {X : Cx} {lc : List Loc} {β : Type} {o : Oper} {s : St} {a : Act} {w : World} {K : TV → St → Option β} {r : β}

theorem q_move {x : Operand} (ho : o.op = .move x ∨ o.op = .assign x) (hR : Rel X s a w lc) (h : K (getO s x) s = some r) : StepP P X o a w lc s K r :=
  stepP_pure h (eval_rel hR.tmps x) fun w' => by unfold execOp; rcases ho with ho | ho <;> simp [ho]

theorem q_pick {c x y : Operand} (ho : o.op = .pick c x y) (hR : Rel X s a w lc)
    (h : (match (getO s c).sv with | .bool t => cond t (K (getO s x) s) (K (getO s y) s) | _ => none) = some r) : StepP P X o a w lc s K r := by
  split at h
  · rename_i t hc
    have hc' := sv_is (eval_rel hR.tmps c) hc
    simp only [relS] at hc'
    cases t with
    | true => exact stepP_pure h (eval_rel hR.tmps x) fun w' => by unfold execOp; simp [ho, hc', asBool]
    | false => exact stepP_pure h (eval_rel hR.tmps y) fun w' => by unfold execOp; simp [ho, hc', asBool]
  · cases h

theorem q_bin (hL : LayOK P L) {op : BinOp} {t ty : TypeId} {x y : Operand} (ho : o.op = .binOp op t x y ty) (hR : Rel X s a w lc)
    (h : evBin L op t (getO s x) (getO s y) (fun v => K v s) = some r) : StepP P X o a w lc s K r := by
  obtain ⟨z, u, h1, h2, h3⟩ := evBin_run hL h (eval_rel hR.tmps x) (eval_rel hR.tmps y)
  refine stepP_pure h1 h2 fun w' => ?_
  have := h3 w' x y
  unfold execOp
  simp only [ho]
  rw [Sem.run_bind, this]
  rfl

theorem q_un {op : UnOp} {t : TypeId} {x : Operand} (ho : o.op = .unOp op t x) (hR : Rel X s a w lc) (h : evUn op (getO s x) (fun v => K v s) = some r) : StepP P X o a w lc s K r := by
  have hx := eval_rel (X := X) hR.tmps x
  unfold evUn at h
  split at h
  · rename_i k n hv
    rw [hv] at hx; simp only [relT, relA, relS] at hx
    exact stepP_pure (v := .int k (k.wrap (0 - n))) h (by simp [one, relT, relA, relS]) fun w' => by unfold execOp; simp [ho, hx, Op.unary, Op.intArith]
  · rename_i b hv
    rw [hv] at hx; simp only [relT, relA, relS] at hx
    exact stepP_pure (v := .bool (!b)) h (by simp [one, relT, relA, relS]) fun w' => by unfold execOp; simp [ho, hx, Op.unary]
  · rename_i n hv
    rw [hv] at hx; simp only [relT, relA, relS] at hx
    exact stepP_pure (v := .int .i64 (bits .xor .i64 (-1) n)) h (by simp [one, relT, relA, relS]) fun w' => by
      unfold execOp
      simp [ho, hx, Op.unary, Op.intBits, bits, IntKind.signed]
  · cases h

theorem q_fieldAddr (hL : LayOK P L) {t : TypeId} {x : Operand} {f : Nat} (ho : o.op = .fieldAddr t x f) (hR : Rel X s a w lc)
    (h : (match fieldOff L t f, (getO s x).sv with
      | some d, .ptr j off => K (one (.ptr j (off + d.off))) s
      | some d, .elt j z i off => K (one (.elt j z i (off + d.off))) s
      | some d, .ref r i off => K (one (.ref r i (off + d.off))) s
      | some d, .cref l off => K (one (.cref l (off + d.off))) s
      | _, _ => none) = some r) : StepP P X o a w lc s K r := by
  have hx := eval_rel (X := X) hR.tmps x
  have key : ∀ d, fieldOff L t f = some d → ∀ (A : Addr), a.eval x = .pointer (some A) → ∀ w', (execOp a.eval o).run P w' = .ok (.value (.pointer (some (A.add d.off)))) w' := by
    intro d hd A hA w'
    unfold fieldOff at hd
    have ht := hL t
    split at hd
    · rename_i fs cts b cmp hti
      rw [hti] at ht
      obtain ⟨fields, zc, hu, hfs, _⟩ := ht
      obtain ⟨fl, hfl, hok⟩ := hfs.get f d hd
      have hfl' : fields[f]? = some fl := by simpa using hfl
      obtain ⟨i, hi, hsz⟩ := hok.info
      have hne : i.size ≠ 0 := by rw [hsz]; exact hok.pos
      unfold execOp
      simp [ho, Instr.fieldAt, run_underlying hu, hfl', hA, Instr.sureAddr, fieldPlace, run_sizeOf hi, hne, hok.off]
    · cases hd
  split at h
  · rename_i d j off hd hv
    obtain ⟨g, hg, he⟩ := sv_is hx hv
    exact stepP_pure (v := .pointer (some ⟨g, off + d.off, none⟩)) h ⟨g, hg, rfl⟩ fun w' => by rw [key d hd _ he w', Addr.add_lit]
  · rename_i d j z i off hd hv
    obtain ⟨g, n, c, hg, h0, hn, he⟩ := sv_is hx hv
    exact stepP_pure (v := .pointer (some ⟨g, i.toNat * z + (off + d.off), none⟩)) h ⟨g, n, c, hg, h0, hn, rfl⟩ fun w' => by rw [key d hd _ he w', Addr.add_lit, Nat.add_assoc]
  · rename_i d q i off hd hv
    obtain ⟨h0, hn, A, he, hA, hc⟩ := sv_is hx hv
    refine stepP_pure (v := .pointer (some (A.add d.off))) h ⟨h0, hn, A.add d.off, rfl, by rw [ChangeShapes.block_add]; exact hA, fun m s hm => ?_⟩ fun w' => key d hd _ he w'
    rw [Addr.add_add]
    exact hc _ _ (by rw [← hm, Nat.add_assoc])
  · rename_i d l off hd hv
    obtain ⟨A, he, hA, hc⟩ := sv_is hx hv
    refine stepP_pure (v := .pointer (some (A.add d.off))) h ⟨A.add d.off, rfl, by rw [ChangeShapes.block_add]; exact hA, fun m f hm => ?_⟩ fun w' => key d hd _ he w'
    rw [Addr.add_add]
    exact hc _ _ (by rw [← hm, Nat.add_assoc])
  · cases h

theorem q_nilCheck {x : Operand} (ho : o.op = .nilCheck x) (hR : Rel X s a w lc)
    (h : (match (getO s x).sv with
      | .ptr j off => K (one (.ptr j off)) s
      | .elt j z i off => K (one (.elt j z i off)) s
      | .ref q i off => K (one (.ref q i off)) s
      | .cref l off => K (one (.cref l off)) s
      | _ => none) = some r) : StepP P X o a w lc s K r := by
  have hx := eval_rel (X := X) hR.tmps x
  split at h
  · rename_i j off hv
    have hs := sv_is hx hv
    obtain ⟨g, hg, he⟩ := id hs
    exact stepP_pure h hs fun w' => by unfold execOp; simp [ho, he]
  · rename_i j z i off hv
    have hs := sv_is hx hv
    obtain ⟨g, n, c, hg, h0, hn, he⟩ := id hs
    exact stepP_pure h hs fun w' => by unfold execOp; simp [ho, he]
  · rename_i q i off hv
    have hs := sv_is hx hv
    obtain ⟨h0, hn, A, he, hA, hc⟩ := id hs
    exact stepP_pure h hs fun w' => by unfold execOp; simp [ho, he]
  · rename_i l off hv
    have hs := sv_is hx hv
    obtain ⟨A, he, hA, hc⟩ := id hs
    exact stepP_pure h hs fun w' => by unfold execOp; simp [ho, he]
  · cases h

theorem q_field (hL : LayOK P L) {t : TypeId} {x : Operand} {f : Nat} (ho : o.op = .field t x f) (hR : Rel X s a w lc)
    (h : (match fieldOff L t f, getO s x with
      | some d, .v (.agg l) => cond (Nat.ble (d.off + d.size) l.length) (K (cond d.agg (.v (.agg (take l d.off d.size))) (.v (.one (nth .und l d.off)))) s) none
      | _, _ => none) = some r) : StepP P X o a w lc s K r := by
  have hx := eval_rel (X := X) hR.tmps x
  split at h
  · rename_i d l hd hv
    rw [hv] at hx
    obtain ⟨cs, he, hcs⟩ := hx
    obtain ⟨hb, h2⟩ := cond_none h
    clear h
    have hle : d.off + d.size ≤ l.length := by simpa [Nat.ble_eq] using hb
    unfold fieldOff at hd
    have ht := hL t
    split at hd
    · rename_i fs cts b cmp hti
      rw [hti] at ht
      obtain ⟨fields, zc, hu, hfs, _⟩ := ht
      obtain ⟨fl, hfl, hok⟩ := hfs.get f d hd
      have hfl' : fields[f]? = some fl := by simpa using hfl
      obtain ⟨i, hi, hsz⟩ := hok.info
      obtain ⟨dd, hdd, hagg⟩ := hok.agg
      have hpos := hok.pos
      cases hg : d.agg with
      | false =>
        rw [hg] at h2 hagg
        obtain ⟨v, hv', hr⟩ := hcs.get d.off _ (nth_eq (d := .und) (by omega))
        have hv'' : cs[d.off]? = some v := by simpa using hv'
        refine stepP_pure (v := v) h2 hr fun w' => ?_
        have hp := run_part_one fl.type dd hdd hagg cs d.off v hv'' w'
        rw [hok.off] at hp
        unfold execOp
        simp [ho, Instr.field, run_underlying hu, hfl', he, asAgg, hp]
      | true =>
        rw [hg] at h2 hagg
        refine stepP_pure (v := .agg (cs.extract d.off (d.off + d.size))) h2 ⟨_, rfl, ?_⟩ fun w' => ?_
        · have : (cs.extract d.off (d.off + d.size)).toList = (cs.toList.drop d.off).take d.size := by
            rw [Array.toList_extract, List.extract_eq_take_drop]; simp
          rw [this]
          exact (hcs.drop _).take _
        · unfold execOp
          simp [ho, Instr.field, run_underlying hu, hfl', he, asAgg, part, run_isAgg hdd, hagg, run_sizeOf hi, hsz, hok.off]
    · cases hd
  · cases h

theorem ptrs_rel : ∀ (xs : List Operand) (l : List (Nat × Nat)), All2 (relT X lc) s.tmps a.tmps.toList → ptrsOf s xs = some l → All2 (placeOK lc) l (xs.map a.eval)
  | [], l, hR, h => by simp only [ptrsOf, Option.some.injEq] at h; subst h; exact .nil
  | x :: xs, l, hR, h => by
    simp only [ptrsOf] at h
    split at h
    · rename_i j o l' hj hl
      simp only [Option.some.injEq] at h
      subst h
      exact .cons (sv_is (eval_rel hR x) hj) (ptrs_rel xs l' hR hl)
    · cases h

theorem q_makeFunc {g : FuncId} {first caps : Array Operand} (ho : o.op = .makeFunc (.func g) first caps) (hR : Rel X s a w lc)
    (h : (match first.toList, ptrsOf s caps.toList with
      | [], some l => K (one (.fn g l)) s
      | _, _ => none) = some r) : StepQ P X o a w lc s K r := by
  split at h
  · rename_i l hf hl
    have hf' : first = #[] := by cases first; simp_all
    subst hf'
    refine stepQ_pure (v := .func (.func g) #[] (caps.map a.eval)) h ⟨caps.map a.eval, rfl, ?_⟩ fun w' => by
      unfold execOp
      simp [ho, Instr.makeFunc]
    rw [Array.toList_map]
    exact ptrs_rel _ _ hR.tmps hl
  · cases h

theorem q_extract {x : Operand} {i : Nat} (ho : o.op = .extract x i) (hR : Rel X s a w lc)
    (h : (match getO s x with
      | .tup l => match l[i]? with | some y => K (.v y) s | none => none
      | _ => none) = some r) : StepP P X o a w lc s K r := by
  have hx := eval_rel (X := X) hR.tmps x
  split at h
  · rename_i l hv
    rw [hv] at hx
    obtain ⟨vs, he, hvs⟩ := hx
    split at h
    · rename_i y hy
      obtain ⟨v, hv', hr⟩ := hvs.get _ _ hy
      have hv'' : vs[i]? = some v := by simpa using hv'
      exact stepP_pure (v := v) h hr fun w' => by unfold execOp; simp [ho, Instr.extract, he, hv'']
    · cases h
  · cases h

theorem q_index (hL : LayOK P L) {t : TypeId} {x y : Operand} (ho : o.op = .index t x y) (hR : Rel X s a w lc)
    (h : (match L.at_ t, (getO s x).sv, (getO s y).sv with
      | .string, .str b, .int _ n => gd (decide (0 ≤ n)) (gd (decide (n < (b.size : Int))) (K (one (.int .u8 (bt b n))) s))
      | _, _, _ => none) = some r) : StepQ P X o a w lc s K r := by
  have hx := eval_rel (X := X) hR.tmps x
  have hy := eval_rel (X := X) hR.tmps y
  have ht := hL t
  split at h
  · rename_i b k n hti hv hn
    rw [hti] at ht
    obtain ⟨h0, h⟩ := gd_some h
    obtain ⟨h1, h⟩ := gd_some h
    have h0 := of_decide_eq_true h0
    have h1 := of_decide_eq_true h1
    have ex := sv_is hx hv
    have ey := sv_is hy hn
    simp only [relS] at ex ey
    have hlt : n.toNat < b.size := by omega
    refine stepQ_pure (v := .int .u8 (bt b n)) h (by simp [one, relT, relA, relS]) fun w' => ?_
    have e1 : b[n.toNat]? = some b[n.toNat] := by simp [hlt]
    unfold execOp
    simp only [ho, Instr.index, asIntOf, Sem.run_bind, ex, ey, Sem.run_pure, Result.andThen_ok, run_underlying ht.1, if_pos h0, e1]
    have hl : n.toNat < b.data.toList.length := by simpa using hlt
    simp only [bt, List.getD, List.getElem?_eq_getElem hl, Option.getD_some]
    rfl
  · cases h

theorem q_len (hL : LayOK P L) {c : Call} {x : Operand} (ho : o.op = .call c) (hc : c.callee = .builtin .len) (ha : c.args.toList = [x]) (hR : Rel X s a w lc)
    (h : (match c.argTypes.toList with
      | [t] => evLen L t (getO s x).sv s K
      | _ => none) = some r) : StepQ P X o a w lc s K r := by
  have hx := eval_rel (X := X) hR.tmps x
  obtain ⟨callee, args, argTypes⟩ := c
  simp only at hc ha h
  subst hc
  have ha' : args = #[x] := by cases args; simp_all
  subst ha'
  split at h
  · rename_i t hts
    have hts' : argTypes = #[t] := by cases argTypes; simp_all
    subst hts'
    have ht := hL t
    have go : ∀ (n : Nat), (∀ w', (Builtin.len_ #[t] o.type #[a.eval x]).run P w' = .ok (.int .i64 (n : Int)) w') → K (one (.int .i64 (n : Int))) s = some r → StepQ P X o a w lc s K r := by
      intro n hn h
      refine stepQ_pure (v := .int .i64 (n : Int)) h (by simp [one, relT, relA, relS]) fun w' => ?_
      unfold execOp
      simp [ho, resolve, invoke, builtin, hn]
    unfold evLen at h
    split at h
    · rename_i e j hti hv
      rw [hti] at ht
      split at h
      · rename_i u q hb
        have hl := (sv_is hx hv).1
        obtain ⟨v', hv', hown⟩ := rowRd_rel (hR.world.blks j _ _ (rowRd_some hb).1 hl) hb
        simp only [Loc.r.injEq] at hv'
        subst hv'
        refine go q.len (fun w' => ?_) h
        rcases hown.2 with ⟨h', h0⟩ | ⟨g', cap', cur, fz, h', _⟩
        · rw [h', h0]; simp [Builtin.len_, run_underlying ht.1, goInt]
        · rw [h']; simp [Builtin.len_, run_underlying ht.1, goInt]
      · cases h
    · rename_i e u q hti hv
      rw [hti] at ht
      obtain ⟨A, n, cp, he, hn, _⟩ := sv_is hx hv
      refine go q.len (fun w' => ?_) h
      rw [he, hn]; simp [Builtin.len_, run_underlying ht.1, goInt]
    · rename_i b hti hv
      rw [hti] at ht
      have he := sv_is hx hv
      simp only [relS] at he
      refine go b.size (fun w' => ?_) h
      rw [he]; simp [Builtin.len_, run_underlying ht.1, goInt]
    · rename_i k e j hti hv
      rw [hti] at ht
      have hjr : j ∈ refsT (getO s x) := by rw [sv_refs hv (by simp)]; simp [refsS]
      split at h
      · rename_i kd l hb
        obtain ⟨g, hl, he⟩ := sv_is hx hv
        obtain ⟨es, clock, hh, hes⟩ := mpOf_rel (hR.world.blks j _ _ (mpOf_some hb).1 hl) hb
        have hlen := hes.length
        refine ⟨_, .int .i64 (l.length : Int), h, by simp [one, relT, relA, relS], fun G hV w' hb' => ?_⟩
        have hng : ¬ G g := hV.no (opRefs_mem (x := x) (by simp [ho, Op.operands, Call.operands]) hjr) (mpOf_some hb).1 (mpOf_some hb).2 hl rfl
        have hh' := lat_cell hb' hng hh
        have : (Builtin.len_ #[t] o.type #[a.eval x]).run P w' = .ok (.int .i64 (l.length : Int)) w' := by
          rw [he, hlen]; simp [Builtin.len_, run_underlying ht.1, goInt, getObj, Sem.run, hh']
        unfold execOp
        simp [ho, resolve, invoke, builtin, this]
      · cases h
    · cases h
  · cases h

theorem q_minmax {c : Call} {x y : Operand} (ho : o.op = .call c) (mx : Bool) (hc : c.callee = .builtin (if mx then .max else .min)) (ha : c.args.toList = [x, y]) (hR : Rel X s a w lc)
    (h : (match (getO s x).sv, (getO s y).sv with
      | .int k a, .int k' b => cond (sameKind k k') (K (one (.int k (if mx then mxI a b else mnI a b))) s) none
      | _, _ => none) = some r) : StepQ P X o a w lc s K r := by
  have hx := eval_rel (X := X) hR.tmps x
  have hy := eval_rel (X := X) hR.tmps y
  obtain ⟨callee, args, argTypes⟩ := c
  simp only at hc ha
  subst hc
  have ha' : args = #[x, y] := by cases args; simp_all
  subst ha'
  split at h
  · rename_i k p k' q hv hn
    have ex := sv_is hx hv
    have ey := sv_is hy hn
    simp only [relS] at ex ey
    obtain ⟨hk, h2⟩ := cond_none h
    have := sameKind_eq hk
    subst this
    cases mx with
    | true =>
      exact stepQ_pure (v := .int k (mxI p q)) h2 (by simp [one, relT, relA, relS]) fun w' => by
        unfold execOp
        simp [ho, resolve, invoke, builtin, ex, ey, Builtin.max_, Builtin.max2, mxI]
    | false =>
      exact stepQ_pure (v := .int k (mnI p q)) h2 (by simp [one, relT, relA, relS]) fun w' => by
        unfold execOp
        simp [ho, resolve, invoke, builtin, ex, ey, Builtin.min_, Builtin.min2, mnI]
  · cases h

theorem eltInfo (hL : LayOK P L) (e : TypeId) {n : Nat} (hn : sizeT L e = n) (h0 : 0 < n) : ∃ i, P.info? e = some i ∧ i.size = n := by
  have ht := hL e
  unfold sizeT at hn
  split at hn
  · rename_i k hti; rw [hti] at ht; obtain ⟨_, i, hi, _, hs, _⟩ := ht; exact ⟨i, hi, hs.trans hn⟩
  · rename_i hti; rw [hti] at ht; obtain ⟨_, i, hi, _, hs, _⟩ := ht; exact ⟨i, hi, hs.trans hn⟩
  · rename_i hti; rw [hti] at ht; obtain ⟨_, i, hi, _, hs, _⟩ := ht; exact ⟨i, hi, hs.trans hn⟩
  · rename_i hti; rw [hti] at ht; obtain ⟨_, i, hi, _, hs, _⟩ := ht; exact ⟨i, hi, hs.trans hn⟩
  · rename_i hti; rw [hti] at ht; obtain ⟨_, i, hi, _, hs, _⟩ := ht; exact ⟨i, hi, hs.trans hn⟩
  · rename_i hti; rw [hti] at ht; obtain ⟨_, _, _, _, ⟨i, hi, _, hs, _⟩, _⟩ := ht; exact ⟨i, hi, hs.trans hn⟩
  · rename_i hti; rw [hti] at ht; obtain ⟨_, _, _, i, hi, _, hs, _⟩ := ht; exact ⟨i, hi, hs.trans hn⟩
  · omega

theorem q_indexAddr (hL : LayOK P L) {t : TypeId} {x y : Operand} (ho : o.op = .indexAddr t x y) (hR : Rel X s a w lc)
    (h : evIndexAddr L t (getO s x).sv (getO s y).sv s K = some r) : StepQ P X o a w lc s K r := by
  have hx := eval_rel (X := X) hR.tmps x
  have hy := eval_rel (X := X) hR.tmps y
  have ht := hL t
  unfold evIndexAddr at h
  split at h
  · rename_i e j k n hti hv hn
    rw [hti] at ht
    split at h
    · rename_i u q hb
      obtain ⟨hz, h⟩ := gd_some h
      obtain ⟨h0, h⟩ := gd_some h
      obtain ⟨h1, h⟩ := gd_some h
      have h0 := of_decide_eq_true h0
      have h1 := of_decide_eq_true h1
      have hz := Nat.eq_of_beq_eq_true hz
      have hl := (sv_is hx hv).1
      have ey := sv_is hy hn
      simp only [relS] at ey
      obtain ⟨v', hv', hown⟩ := rowRd_rel (hR.world.blks j _ _ (rowRd_some hb).1 hl) hb
      simp only [Loc.r.injEq] at hv'
      subst hv'
      rcases hown.2 with ⟨h', hz0⟩ | ⟨g, cap, cur, fz, he, _⟩
      · omega
      · obtain ⟨i, hi, hsz⟩ := eltInfo hL e hz q.sz_pos
        refine stepQ_pure (v := .pointer (some ⟨g, n.toNat * q.sz + 0, none⟩)) h ⟨g, q.len, cap, by rw [← he]; exact hl, h0, h1, rfl⟩ fun w' => ?_
        unfold execOp
        simp only [ho, Instr.indexAt, asIntOf, Sem.run_bind, ey, Sem.run_pure, Result.andThen_ok, run_underlying ht.1, he]
        rw [if_pos ⟨h0, h1⟩]
        simp [run_sizeOf hi, hsz, Addr.add_lit]
    · cases h
  · rename_i e u q k n hti hv hn
    rw [hti] at ht
    obtain ⟨hz, h⟩ := gd_some h
    obtain ⟨h0, h⟩ := gd_some h
    obtain ⟨h1, h⟩ := gd_some h
    have h0 := of_decide_eq_true h0
    have h1 := of_decide_eq_true h1
    have hz := Nat.eq_of_beq_eq_true hz
    obtain ⟨A, m, c, he, hm, hmc, hcells⟩ := sv_is hx hv
    have ey := sv_is hy hn
    simp only [relS] at ey
    subst hm
    obtain ⟨i, hi, hsz⟩ := eltInfo hL e hz q.sz_pos
    have hsome : ∃ s0, (q.at_ n)[0]? = some s0 := by
      have := q.at_len n; have := q.sz_pos
      exact ⟨(q.at_ n)[0]'(by omega), List.getElem?_eq_getElem (by omega)⟩
    obtain ⟨s0, hs0⟩ := hsome
    obtain ⟨A', hA', hlt, _⟩ := hcells _ _ (q.at_cells h0 h1 hs0)
    subst hA'
    refine stepQ_pure (v := .pointer (some (A'.add (n.toNat * q.sz)))) h ⟨h0, h1, _, rfl, by rw [ChangeShapes.block_add]; exact hlt, fun m s hm => ?_⟩ fun w' => ?_
    · obtain ⟨A2, e2, _, h3⟩ := hcells _ _ (q.at_cells h0 h1 (m := m) (by simpa using hm))
      cases e2
      rw [Addr.add_add]; exact h3
    · unfold execOp
      simp only [ho, Instr.indexAt, asIntOf, Sem.run_bind, ey, Sem.run_pure, Result.andThen_ok, run_underlying ht.1, he]
      rw [if_pos ⟨h0, h1⟩]
      simp [run_sizeOf hi, hsz]
  · rename_i n' e j off k n hti hv hn
    rw [hti] at ht
    obtain ⟨hu, hn2, he, i, hi, hzz, _, _⟩ := ht
    subst hn2
    obtain ⟨h0, h⟩ := gd_some h
    obtain ⟨h1, h⟩ := gd_some h
    have h0 := of_decide_eq_true h0
    have h1 := of_decide_eq_true h1
    obtain ⟨g, hl, ex⟩ := sv_is hx hv
    have ey := sv_is hy hn
    simp only [relS] at ey
    have hte := hL e
    rw [he] at hte
    obtain ⟨_, ie, hie, _, hsz, _⟩ := hte
    have hrun : ∀ w' : World, (execOp a.eval o).run P w' = .ok (.value (.pointer (some ⟨g, off + n.toNat, none⟩))) w' := fun w' => by
      unfold execOp
      simp only [ho, Instr.indexAt, Instr.sureAddr, asIntOf, Sem.run_bind, ey, Sem.run_pure, Result.andThen_ok, run_underlying hu, ex]
      rw [if_pos ⟨h0, h1⟩]
      simp [run_sizeOf hie, hsz, Addr.add_lit]
    cases hc : (n == 0) with
    | true =>
      rw [hc] at h
      have : n = 0 := by simpa using hc
      subst this
      exact stepQ_pure h ⟨g, hl, rfl⟩ hrun
    | false =>
      rw [hc] at h
      have : n = 1 := by have := (beq_eq_false_iff_ne ..).1 hc; omega
      subst this
      exact stepQ_pure h ⟨g, hl, rfl⟩ hrun
  · cases h

theorem q_sliceStr (hL : LayOK P L) {t : TypeId} {x : Operand} {lo hi : Option Operand} (ho : o.op = .slice t x lo hi none) (hR : Rel X s a w lc)
    (h : (match L.at_ t, (getO s x).sv with
      | .string, .str b => evSliceStr b (lo.map (getO s)) (hi.map (getO s)) fun v => K v s
      | _, _ => none) = some r) : StepQ P X o a w lc s K r := by
  have hx := eval_rel (X := X) hR.tmps x
  have ht := hL t
  split at h
  · rename_i b hti hv
    rw [hti] at ht
    have ex := sv_is hx hv
    simp only [relS] at ex
    have int : ∀ (y : Operand) (k : IntKind) (n : Int), getO s y = .v (.one (.int k n)) → a.eval y = .int k n := fun y k n hy => by
      have := eval_rel (X := X) hR.tmps y
      rw [hy] at this; exact this
    have shape : ∀ (z : TV), (∃ k n, z = .v (.one (.int k n))) ∨ (∀ k n, z ≠ .v (.one (.int k n))) := fun z => by
      cases z with
      | tup _ => exact .inr fun _ _ h => by cases h
      | v z => cases z with
        | agg _ => exact .inr fun _ _ h => by cases h
        | one z => cases z <;> first | exact .inl ⟨_, _, rfl⟩ | exact .inr fun _ _ h => by cases h
    cases lo with
    | none => cases hi with
      | none =>
        simp only [Option.map_none, evSliceStr] at h
        exact stepQ_pure (v := .string (b.extract 0 b.size)) h (by simp [one, relT, relA, relS]) fun w' => by
          unfold execOp
          simp [ho, Instr.sliceAt, Instr.slice, run_underlying ht.1, ex, Instr.sliceBounds]
      | some y =>
        simp only [Option.map_none, Option.map_some] at h
        rcases shape (getO s y) with ⟨k, n, hy⟩ | hno
        · simp only [hy, evSliceStr] at h
          obtain ⟨h0, h⟩ := gd_some h
          obtain ⟨h1, h⟩ := gd_some h
          have h0 := of_decide_eq_true h0
          have h1 := of_decide_eq_true h1
          exact stepQ_pure (v := .string (b.extract 0 n.toNat)) h (by simp [one, relT, relA, relS]) fun w' => by
            unfold execOp
            simp [ho, Instr.sliceAt, Instr.slice, run_underlying ht.1, ex, Instr.sliceBounds, Instr.sliceBound, int y _ _ hy, asIntOf, h0, h1]
        · unfold evSliceStr at h
          split at h
          · rename_i e; simp at e
          · rename_i e; simp at e
          · rename_i e; simp at e; exact absurd e (hno _ _)
          · rename_i e _; simp at e
          · cases h
    | some z => cases hi with
      | none =>
        simp only [Option.map_none, Option.map_some] at h
        rcases shape (getO s z) with ⟨k, n, hy⟩ | hno
        · simp only [hy, evSliceStr] at h
          obtain ⟨h0, h⟩ := gd_some h
          obtain ⟨h1, h⟩ := gd_some h
          have h0 := of_decide_eq_true h0
          have h1 := of_decide_eq_true h1
          exact stepQ_pure (v := .string (b.extract n.toNat b.size)) h (by simp [one, relT, relA, relS]) fun w' => by
            unfold execOp
            simp [ho, Instr.sliceAt, Instr.slice, run_underlying ht.1, ex, Instr.sliceBounds, Instr.sliceBound, int z _ _ hy, asIntOf, h0, h1]
        · unfold evSliceStr at h
          split at h
          · rename_i e _; simp at e
          · rename_i e _; simp only [Option.some.injEq] at e; exact absurd e (hno _ _)
          · rename_i e _; simp at e
          · rename_i e; simp at e
          · cases h
      | some y =>
        simp only [Option.map_some] at h
        rcases shape (getO s z) with ⟨k, n, hz⟩ | hno
        · rcases shape (getO s y) with ⟨k', n', hy⟩ | hno
          · simp only [hy, hz, evSliceStr] at h
            obtain ⟨h0, h⟩ := gd_some h
            obtain ⟨h1, h⟩ := gd_some h
            obtain ⟨h2, h⟩ := gd_some h
            obtain ⟨h3, h⟩ := gd_some h
            have h0 := of_decide_eq_true h0
            have h1 := of_decide_eq_true h1
            have h2 := of_decide_eq_true h2
            have h3 := of_decide_eq_true h3
            have h4 : n ≤ max n' 0 := by omega
            exact stepQ_pure (v := .string (b.extract n.toNat n'.toNat)) h (by simp [one, relT, relA, relS]) fun w' => by
              unfold execOp
              simp [ho, Instr.sliceAt, Instr.slice, run_underlying ht.1, ex, Instr.sliceBounds, Instr.sliceBound, int z _ _ hz, int y _ _ hy, asIntOf, h0, h1, h2, h4]
          · unfold evSliceStr at h
            split at h
            · rename_i e; simp at e
            · rename_i e; simp at e
            · rename_i e _; simp at e
            · rename_i e; simp at e; exact absurd e (hno _ _)
            · cases h
        · unfold evSliceStr at h
          split at h
          · rename_i e _; simp at e
          · rename_i e; simp at e
          · rename_i e _; simp at e
          · rename_i e _; simp at e; exact absurd e (hno _ _)
          · cases h
  · cases h
end
end Go.Rv
