/- Functions whose row, told for ever, is handed back to be turned. -/
import Derived.Test.YtfdggelojmofmaaDoorRvFrz
namespace Go.Rv
section
variable {I : World → Prop} {P : Program} {L : Lay} {β : Type}

/-- A row, and what is plain. -/
def thawR : TV → Option (TypeId × Row × List AV)
  | .tup (.one (.fsl t r) :: l) => cond (l.all plainA && !r.deep) (some (t, r, l)) none
  | .tup (.one (.sl t r) :: l) => cond (l.all plainA && !r.deep) (some (t, r, l)) none
  | _ => none
def thawK (K : TV → Option β) (y : TV) : Option β := match thawR y with
  | some (t, r, l) => K (.tup (.one (.sl t r) :: l))
  | none => none
theorem plainA_fix {x : AV} (h : plainA x = true) : fixA x = true := by
  have hs : ∀ s : SV, plainS s = true → fixS s = true := fun s h => by cases s <;> first | rfl | cases h
  cases x with
  | one s => exact hs s h
  | agg l =>
    simp only [plainA, fixA, List.all_eq_true] at h ⊢
    exact fun s hm => hs s (h s hm)
theorem plainL_fix {l : List AV} (h : l.all plainA = true) : l.all fixA = true := by
  simp only [List.all_eq_true] at h ⊢
  exact fun x hm => plainA_fix (h x hm)
theorem thaw_fin {X Y : Cx I} (hX : SpecCx X) {w' : World} (hb : BelowP X w') {t : TypeId} {r : Row} {l : List AV} {v0 : Value} {vs : List Value} {lc : List Loc} (hm : ∀ g, v0.ownBlock = some g → X.mine g)
    (hin : r.cellsIn X.ft X.fw r.cells) (hown : w'.ownsRow 0 t r.sz v0 r.len r.cells) (hl : l.all plainA = true) (hv : All2 (relA Y lc) l vs) : CallRes X w' (.tup (.one (.sl t r) :: l)) (.tuple (v0 :: vs).toArray) := by
  obtain ⟨k1, k2, k3⟩ := fixAs_take (plainL_fix hl) [.row t r]
  have hA : ∃ A n c, v0 = .slice A n c := by
    rcases hown.2 with ⟨h, _⟩ | ⟨g, cap, cur, h, _⟩
    · exact ⟨_, _, _, h⟩
    · exact ⟨_, _, _, h⟩
  have e : takeT [] (.tup (.one (.sl t r) :: l)) = (.tup (.one (.row 0) :: l), [.row t r]) := by
    simp only [takeT, takeAs, takeA, takeS, List.length_nil, List.nil_append, k1]
  refine ⟨X, [.r v0], .refl X, ?_, ?_, ?_⟩
  · rw [e]
    have one : ∀ (j : Nat) (b : Blk), ([Blk.row t r] : List Blk)[j]? = some b → j = 0 ∧ b = .row t r := fun j b h => by
      cases j with
      | zero => simp at h; exact ⟨rfl, h.symm⟩
      | succ j => simp at h
    have oneL : ∀ ℓ, ([Loc.r v0] : List Loc)[0]? = some ℓ → ℓ = .r v0 := fun ℓ h => by simp at h; exact h.symm
    refine ⟨rfl, fun j b ℓ hj hl => ?_, fun i j bi bj li lj g hne hi hj => ?_, hb, fun k hk => ?_, fun j b ℓ g hj hon hl hg hft => ?_⟩
    · obtain ⟨rfl, rfl⟩ := one j b hj
      obtain rfl := oneL ℓ hl
      exact ⟨hm, _, hin, hown⟩
    · exact absurd ((one i bi hi).1.trans (one j bj hj).1.symm) hne
    · obtain ⟨a1, a2⟩ := hX.frz k hk
      exact ⟨Nat.lt_of_lt_of_le a1 hb.size, (hb.block k (hX.old a1)).trans a2⟩
    · obtain ⟨rfl, rfl⟩ := one j b hj
      obtain rfl := oneL ℓ hl
      exact Cx.mine_old (hm g hg) (hX.old (hX.frz g hft).1)
  · rw [e]
    exact ⟨_, rfl, .cons ⟨rfl, hA⟩ ((relAs_plain hl).2 ((relAs_plain hl).1 hv))⟩
  · show List.all (AV.one (.sl t r) :: l) ansA = true
    rw [List.all_cons, k3]
    rfl

theorem thaw_call {X : Cx I} (hX : SpecCx X) {w' : World} {y : TV} {v : Value} {t : TypeId} {r : Row} {l : List AV} (hy : thawR y = some (t, r, l)) (h : CallRes (X.grow (fun _ => False) X.w0) w' y v) :
    CallRes X w' (.tup (.one (.sl t r) :: l)) v := by
  obtain ⟨X', lc, hle, hW, hr, hans⟩ := h
  clear hans
  obtain ⟨ft, fw, a1, a2, a3⟩ := hle
  have hb : BelowP X w' := ⟨hW.below.os, hW.below.tape, hW.below.output, hW.below.size, hW.below.block⟩
  have hmine : ∀ k, ft k → X.mine k := fun k hk => (a3 k hk).elim False.elim id
  unfold thawR at hy
  split at hy
  · rename_i t0 r0 l0
    obtain ⟨hc, hy⟩ := cond_none hy
    simp only [Option.some.injEq, Prod.mk.injEq] at hy
    obtain ⟨rfl, rfl, rfl⟩ := hy
    simp only [Bool.and_eq_true, Bool.not_eq_true'] at hc
    obtain ⟨k1, k2, k3⟩ := fixAs_take (plainL_fix hc.1) []
    have e : takeT [] (.tup (.one (.fsl t0 r0) :: l0)) = (.tup (.one (.fsl t0 r0) :: l0), []) := by
      simp only [takeT, takeAs, takeA, takeS, k1]
    rw [e] at hW hr
    obtain ⟨vs, rfl, hvs⟩ := hr
    obtain ⟨vl⟩ := vs
    cases hvs with
    | @cons _ v0 _ vs h1 h2 =>
    obtain ⟨⟨A, n, c, e1, e2, e3, xs2, hin2, hcell⟩, xs, hown, hS⟩ := h1
    have hx2 : xs2 = r0.cells := (Row.in_plain hc.2).1 hin2
    subst hx2
    have hxs : xs = r0.cells := by
      have hlen := Row.in_len hin2
      refine List.ext_getElem? fun m => ?_
      rcases Nat.lt_or_ge m (r0.len * r0.sz) with hm | hm
      · have g1 : xs[m]? = some (xs[m]'(by rw [hown.1]; exact hm)) := List.getElem?_eq_getElem _
        have g2 : r0.cells[m]? = some (r0.cells[m]'(by rw [hlen]; exact hm)) := List.getElem?_eq_getElem _
        obtain ⟨g, c2, e4, hc1⟩ := own_cellAt hown g1
        obtain ⟨a, e5, _, hc2⟩ := hcell m _ g2
        rw [e1] at e4
        cases e4
        cases e5
        rw [Addr.add_lit, Nat.zero_add] at hc2
        rw [g1, g2, ← hc1, ← hc2]
      · rw [List.getElem?_eq_none (by rw [hown.1]; exact hm), List.getElem?_eq_none (by rw [hlen]; exact hm)]
    subst hxs
    have hown' : w'.ownsRow 0 t0 r0.sz v0 r0.len r0.cells := by
      refine ⟨hown.1, ?_⟩
      rcases hown.2 with h2 | ⟨g, cap, cur, h4, h5, h6, h7⟩
      · exact .inl h2
      · exact .inr ⟨g, cap, cur, h4, h5, by rw [(hW.frz g (hS g (by rw [h4]; rfl))).2]; exact h6, h7⟩
    exact thaw_fin hX hb (fun g hg => hmine g (hS g hg)) ((Row.in_plain hc.2).2 rfl) hown' hc.1 h2
  · rename_i t0 r0 l0
    obtain ⟨hc, hy⟩ := cond_none hy
    simp only [Option.some.injEq, Prod.mk.injEq] at hy
    obtain ⟨rfl, rfl, rfl⟩ := hy
    simp only [Bool.and_eq_true, Bool.not_eq_true'] at hc
    obtain ⟨k1, k2, k3⟩ := fixAs_take (plainL_fix hc.1) [.row t0 r0]
    have e : takeT [] (.tup (.one (.sl t0 r0) :: l0)) = (.tup (.one (.row 0) :: l0), [.row t0 r0]) := by
      simp only [takeT, takeAs, takeA, takeS, List.length_nil, List.nil_append, k1]
    rw [e] at hW hr
    obtain ⟨vs, rfl, hvs⟩ := hr
    obtain ⟨vl⟩ := vs
    cases hvs with
    | @cons _ v0 _ vs h1 h2 =>
    obtain ⟨h1, _⟩ := h1
    obtain ⟨hm, xs, hin, hown⟩ := hW.blks 0 _ _ rfl h1
    have hx : xs = r0.cells := (Row.in_plain hc.2).1 hin
    subst hx
    exact thaw_fin hX hb (fun g hg => hm g hg) ((Row.in_plain hc.2).2 rfl) hown hc.1 h2
  · cases hy

/-- A function that is handed what is plain; the row that it hands back is whole and new: it may be turned. -/
theorem thaw_ok {g : FuncId} {S T : Spec β} (h : SpecOK I P g S) (ht : ∀ args K r, T args K = some r → args.all plainT = true ∧ S args (thawK K) = some r) : SpecOK I P g T :=
  ⟨h.1, fun args K r hr => by
    obtain ⟨hp, hS⟩ := ht args K r hr
    obtain ⟨y, hy, hc⟩ := h.2 args (thawK K) r hS
    unfold thawK at hy
    split at hy
    · rename_i t q l e
      refine ⟨_, hy, fun X vs hX hv => ?_⟩
      have hX0 : SpecCx (X.grow (fun _ => False) X.w0) := ⟨hX.pins, hX.gp, hX.fz, fun k hk => hk.elim⟩
      have hv0 : All2 (relT (X.grow (fun _ => False) X.w0) []) args vs := by
        simp only [List.all_eq_true] at hp
        clear hc hS hr
        induction hv with
        | nil => exact .nil
        | cons a _ ih => exact .cons ((relT_plain (hp _ (List.mem_cons_self ..))).2 ((relT_plain (hp _ (List.mem_cons_self ..))).1 a)) (ih fun s hm => hp s (List.mem_cons_of_mem _ hm))
      exact (hc _ vs hX0 hv0).mono fun e' w' ⟨v, he, hr⟩ => ⟨v, he, thaw_call hX e hr⟩
    · cases hy⟩
/-- A function, told by its text; the row that it hands back is turned by whoever called it. -/
theorem spec_of_thaw (hL : LayOK P L) (hm : P.follows .mixedOrders = true) {E : Env β} (hE : SpecsOK I P E) (hM : MutsOK I P E) (hG : GsOK I P E) {f : FuncId} {fn : Func} (hf : P.funcs[f]? = some fn) (hc : ((fn.name == "runtime.NumGoroutine") || fn.body.isNone) = false)
    (n : Nat) (hn : Nat.beq (fnLoops fn).length n = true) (hr : RAll L E (retMask fn) (lp fn) n) {S : Spec β} (hS : ∀ args K r, S args K = some r → args.all plainT = true ∧ evFn L E fn args (thawK K) = some r) : SpecOK I P f S :=
  thaw_ok (spec_of hL hm hE hM hG hf hc n hn hr (S := fun args K => evFn L E fn args K) fun _ _ _ h => h) hS
end
end Go.Rv
