/- The functions that the claims reach answer as their texts do. -/
import Derived.Test.YtdjmbggefcfacaaE2
namespace Go.Proofs.Ytdjmbggefcfacaa
open Go.Rv
set_option maxRecDepth 100000
set_option maxHeartbeats 2000000
set_option linter.unusedVariables false
def S30 {β : Type} (N : Nat) : MSpec β := fun args bl K => match args, bl with
  | [.v (.agg [.int .i64 a0, .int .i64 a1, .int .i64 a2, .int .i64 a3, .int .i64 a4, .str a5, .row 0]), .v (.one (.int .i64 a7))], [.prow 0 3 (.ints .i64 a6)] => laws_markClaim N a0 a1 a2 a3 a4 a5 a6 a7 (fun z10 m0 => K (.v (.one (.int .i64 z10))) [(.ints .i64 m0)])
  | _, _ => none
def E30 {β : Type} (N : Nat) : Env β := ⟨[], [(21, S21 N)], []⟩
theorem e30_0 {β : Type} (N : Nat)  (a0 : Int) (a1 : Int) (a2 : Int) (a3 : Int) (a4 : Int) (a5 : ByteArray) (a6 : List Int) (a7 : Int) (K : TV → List Row → Option β) : evFnM lay (E30 N) Try.f30 [.v (.agg [.int .i64 a0, .int .i64 a1, .int .i64 a2, .int .i64 a3, .int .i64 a4, .str a5, .row 0]), .v (.one (.int .i64 a7))] [.prow 0 3 (.ints .i64 a6)] K = laws_markClaim N a0 a1 a2 a3 a4 a5 a6 a7 (fun z10 m0 => K (.v (.one (.int .i64 z10))) [(.ints .i64 m0)]) := by kernel_rfl
theorem o30 {β : Type} (N : Nat) : MutOK (β := β) Try.prog 30 (S30 N) := by
  refine mut_of lay_ok mixed (E := E30 N) (specs_loops specs_nil) (muts_cons (o21 N) muts_nil) Try.func30 (by kernel_rfl) 0 (by kernel_rfl) trivial fun args bl K r h => ?_
  unfold S30 at h
  split at h
  · exact (e30_0 N _ _ _ _ _ _ _ _ _).trans h
  · cases h
def S6 {β : Type} (N : Nat) : Rv.Spec β := fun args K => match args with
  | [.v (.agg [.int .i64 a0, .int .i64 a1])] => laws_FnExactClaimOfTests N a0 a1 (fun z38 => K (.v (.one (.bool z38))))
  | _ => none
def E6 {β : Type} (N : Nat) : Env β := ⟨[(13, S13 N), (27, S27 N), (28, S28 N), (29, S29 N), (31, S31 N)], [(30, S30 N)], []⟩
theorem e6_0 {β : Type} (N : Nat)  (a0 : Int) (a1 : Int) (K : TV → Option β) : evFn lay (E6 N) Try.f6 [.v (.agg [.int .i64 a0, .int .i64 a1])] K = laws_FnExactClaimOfTests N a0 a1 (fun z38 => K (.v (.one (.bool z38)))) := by kernel_rfl
theorem o6 {β : Type} (N : Nat) : SpecOK (β := β) Try.prog 6 (S6 N) := by
  refine spec_of lay_ok mixed (E := E6 N) (specs_loops (specs_cons (o13 N) (specs_cons (o27 N) (specs_cons (o28 N) (specs_cons (o29 N) (specs_cons (o31 N) specs_nil)))))) (muts_cons (o30 N) muts_nil) Try.func6 (by kernel_rfl) 0 (by kernel_rfl) trivial fun args K r h => ?_
  unfold S6 at h
  split at h
  · exact (e6_0 N _ _ _).trans h
  · cases h
end Go.Proofs.Ytdjmbggefcfacaa
