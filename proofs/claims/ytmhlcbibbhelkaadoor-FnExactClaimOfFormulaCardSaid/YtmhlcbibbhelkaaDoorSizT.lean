/- The sizes' functions answer as told: what the walks ask, from the evaluator's contracts. -/
import Derived.Test.YtmhlcbibbhelkaaDoorSizS
import Derived.Test.YtmhlcbibbhelkaaDoorRvLaw
namespace Go.Proofs.YtmhlcbibbhelkaaDoor
open Go.Rv Go.RowKit
set_option linter.unusedVariables false
/-- The table of sizes. -/
def szT (n : Nat) : List Int := (sizesI n).getD []
theorem szT_I {n : Nat} (hn : n ≤ 3) : sizesI n = some (szT n) := by
  obtain ⟨T, h1, _⟩ := sizes_eq hn
  unfold szT
  rw [h1]
  rfl
theorem szT_Z {n : Nat} (hn : n ≤ 3) : sizesZ n = some (szT n) := by
  obtain ⟨T, h1, h2⟩ := sizes_eq hn
  unfold szT
  rw [h1, h2]
  rfl
section
variable {I : World → Prop} {P : Program} {β : Type}
def impl_sizes (_N : Nat) (a0 : Int) (k : List Int → Option β) : Option β := gd (decide (0 ≤ a0)) (gd (decide (a0 ≤ 3)) (k (szT a0.toNat)))
def spec_l22Sizes (_N : Nat) (a0 : Int) (k : List Int → Option β) : Option β := gd (decide (0 ≤ a0)) (gd (decide (a0 ≤ 3)) (k (szT a0.toNat)))
def szSpec (t : TypeId) (N : Nat) : Rv.Spec β := fun args K => match args with
  | [.v (.one (.int .i64 n))] => impl_sizes N n fun r => K (.v (.one (.sl t (.ints .i64 r))))
  | _ => none
theorem sz_ok {g : FuncId} {fn : Func} {t : TypeId} (hf : P.funcs[g]? = some fn) (hc : ((fn.name == "runtime.NumGoroutine") || fn.body.isNone) = false)
    (h : ∀ (X : Cx I) (n : Nat), SpecCx X → n ≤ 3 → Calls P g #[.int .i64 (n : Int)] X.w0 fun e w' => ∃ v', e = .returned v' ∧ w'.ownsRow X.w0.heap.size t 1 v' (szT n).length ((szT n).map (Value.int .i64)) ∧ RowKit.Below X.w0.heap.size X.w0 w') (N : Nat) :
    SpecOK (β := β) I P g (szSpec t N) := by
  refine ⟨body_of hf hc, fun args K r hr => ?_⟩
  unfold szSpec at hr
  split at hr
  · rename_i n
    unfold impl_sizes at hr
    obtain ⟨h1, hr⟩ := gd_some hr
    obtain ⟨h2, hr⟩ := gd_some hr
    have h1 := of_decide_eq_true h1
    have h2 := of_decide_eq_true h2
    refine ⟨_, hr, fun X vs hX hv => ?_⟩
    rcases hv with _ | ⟨ha, hv⟩
    rcases hv with _ | _
    rename_i va
    obtain rfl : va = .int .i64 n := ha
    obtain ⟨k, rfl⟩ : ∃ k : Nat, n = k := ⟨n.toNat, by omega⟩
    exact (h X k hX (by omega)).mono fun e w' ⟨v', he, hown, hw⟩ => ⟨_, he, callRes_ints hX hw hown⟩
  · cases hr
theorem call_cx {X : Cx I} (hX : SpecCx X) {W : World} (hB : RowKit.Below X.w0.heap.size X.w0 W) : SpecCx (X.call W (.of hB)) :=
  ⟨rfl, rfl, fun _ h => h, fun k hk => by
    obtain ⟨h1, h2⟩ := hX.frz k hk
    exact ⟨Nat.lt_of_lt_of_le h1 hB.size, (hB.block k h1).trans h2⟩⟩
/-- A call that answers without memory, in a world that has grown since. -/
theorem call_at {g : FuncId} {S : Rv.Spec TV} (h : SpecOK (β := TV) I P g S) {args : List TV} {y : TV} (hr : S args some = some y) {v0 : Value} (hy : ∀ (X' : Cx I) lc v, relT X' lc (takeT [] y).1 v → v = v0)
    {X : Cx I} (hX : SpecCx X) {W : World} (hB : RowKit.Below X.w0.heap.size X.w0 W) {vs : List Value} (hv : All2 (relT (X.call W (.of hB)) []) args vs) :
    Calls P g vs.toArray W fun e w' => e = .returned v0 ∧ RowKit.Below W.heap.size W w' := by
  obtain ⟨y', hy', hc⟩ := h.2 args some y hr
  obtain rfl : y' = y := by simpa using hy'
  have hX' := call_cx hX hB
  refine (hc (X.call W (.of hB)) vs hX' hv).mono fun e w' ⟨v, he, X2, lc, hle, hW, hrl, _⟩ => ?_
  refine ⟨by rw [he, hy _ _ _ hrl], ?_⟩
  obtain ⟨ft, fw, _, _, _⟩ := hle
  have := hW.below
  exact ⟨this.os, this.tape, this.output, this.size, fun k hk => this.block k (hX'.old hk)⟩
end
end Go.Proofs.YtmhlcbibbhelkaaDoor
