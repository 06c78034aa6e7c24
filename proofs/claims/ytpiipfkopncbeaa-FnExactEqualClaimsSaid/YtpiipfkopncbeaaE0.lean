/- The functions that the claims reach answer as their texts do. -/
import Derived.Test.YtpiipfkopncbeaaT0
import Derived.Test.YtpiipfkopncbeaaProg
import Derived.KernelRfl
namespace Go.Proofs.Ytpiipfkopncbeaa
open Go.Rv
set_option maxRecDepth 100000
set_option linter.unusedVariables false
def lay : Lay := [(2, .int .i64),
  (3, .int .i64),
  (4, .bool),
  (5, .int .u8),
  (9, .string),
  (12, .int .u64),
  (21, .int .i32),
  (24, .slice 9),
  (29, .struct [⟨0, 1, false⟩, ⟨1, 1, false⟩] [3, 3] 16 true),
  (30, .struct [⟨0, 1, false⟩, ⟨1, 1, false⟩] [3, 3] 16 true),
  (31, .struct [⟨0, 1, false⟩, ⟨1, 1, false⟩] [3, 3] 16 true),
  (39, .slice 3),
  (44, .struct [⟨0, 2, true⟩, ⟨2, 1, false⟩, ⟨3, 1, false⟩] [3, 3, 3, 39] 48 false),
  (45, .struct [⟨0, 2, true⟩, ⟨2, 1, false⟩, ⟨3, 1, false⟩] [3, 3, 3, 39] 48 false),
  (48, .struct [⟨0, 2, true⟩, ⟨2, 1, false⟩, ⟨3, 1, false⟩] [3, 3, 3, 39] 48 false),
  (49, .struct [⟨0, 2, true⟩, ⟨2, 1, false⟩, ⟨3, 1, false⟩] [3, 3, 3, 39] 48 false),
  (57, .struct [⟨0, 1, false⟩, ⟨1, 2, true⟩, ⟨3, 1, false⟩, ⟨4, 1, false⟩, ⟨5, 1, false⟩, ⟨6, 1, false⟩] [3, 3, 3, 3, 3, 9, 39] 80 false),
  (58, .struct [⟨0, 1, false⟩, ⟨1, 2, true⟩, ⟨3, 1, false⟩, ⟨4, 1, false⟩, ⟨5, 1, false⟩, ⟨6, 1, false⟩] [3, 3, 3, 3, 3, 9, 39] 80 false),
  (61, .struct [⟨0, 1, false⟩, ⟨1, 2, true⟩, ⟨3, 1, false⟩, ⟨4, 1, false⟩, ⟨5, 1, false⟩, ⟨6, 1, false⟩] [3, 3, 3, 3, 3, 9, 39] 80 false),
  (62, .struct [⟨0, 1, false⟩, ⟨1, 2, true⟩, ⟨3, 1, false⟩, ⟨4, 1, false⟩, ⟨5, 1, false⟩, ⟨6, 1, false⟩] [3, 3, 3, 3, 3, 9, 39] 80 false),
  (81, .slice 5),
  (82, .int .u64),
  (88, .int .u64),
  (96, .int .u32),
  (100, .pointer 5)]

theorem lay_ok : LayOK Try.prog lay := layOK_of (by decide +kernel)
theorem mixed : Try.prog.follows .mixedOrders = true := by kernel_rfl
def S68 {β : Type} (N : Nat) : Rv.Spec β := fun args K => match args with
  | [.v (.one (.sl 3 (.ints .i64 a0))), .v (.one (.int .i64 a1))] => laws_szIntS N a0 a1 (fun z2 => K (.v (.one (.int .i64 z2))))
  | _ => none
def E68 {β : Type} (N : Nat) : Env β := ⟨[], [], []⟩
theorem e68_0 {β : Type} (N : Nat)  (a0 : List Int) (a1 : Int) (K : TV → Option β) : evFn lay (E68 N) Try.f68 [.v (.one (.sl 3 (.ints .i64 a0))), .v (.one (.int .i64 a1))] K = laws_szIntS N a0 a1 (fun z2 => K (.v (.one (.int .i64 z2)))) := by kernel_rfl
theorem o68 {β : Type} (N : Nat) : SpecOK (β := β) Try.prog 68 (S68 N) := by
  refine spec_of lay_ok mixed (E := E68 N) (specs_loops specs_nil) muts_nil Try.func68 (by kernel_rfl) 0 (by kernel_rfl) trivial fun args K r h => ?_
  unfold S68 at h
  split at h
  · exact (e68_0 N _ _ _).trans h
  · cases h
def S37 {β : Type} (N : Nat) : Rv.Spec β := fun args K => match args with
  | [.v (.agg [.int .i64 a0, .int .i64 a1, .int .i64 a2, .sl 3 (.ints .i64 a3)]), .v (.one (.int .i64 a4))] => laws_szKept N a0 a1 a2 a3 a4 (fun z6 => K (.v (.one (.int .i64 z6))))
  | _ => none
def E37 {β : Type} (N : Nat) : Env β := ⟨[(68, S68 N)], [], []⟩
theorem e37_0 {β : Type} (N : Nat)  (a0 : Int) (a1 : Int) (a2 : Int) (a3 : List Int) (a4 : Int) (K : TV → Option β) : evFn lay (E37 N) Try.f37 [.v (.agg [.int .i64 a0, .int .i64 a1, .int .i64 a2, .sl 3 (.ints .i64 a3)]), .v (.one (.int .i64 a4))] K = laws_szKept N a0 a1 a2 a3 a4 (fun z6 => K (.v (.one (.int .i64 z6)))) := by kernel_rfl
theorem o37 {β : Type} (N : Nat) : SpecOK (β := β) Try.prog 37 (S37 N) := by
  refine spec_of lay_ok mixed (E := E37 N) (specs_loops (specs_cons (o68 N) specs_nil)) muts_nil Try.func37 (by kernel_rfl) 0 (by kernel_rfl) trivial fun args K r h => ?_
  unfold S37 at h
  split at h
  · exact (e37_0 N _ _ _ _ _ _).trans h
  · cases h
def S27 {β : Type} (N : Nat) : Rv.Spec β := fun args K => match args with
  | [.v (.agg [.int .i64 a0, .int .i64 a1])] => laws_toTable N a0 a1 (fun z2 z3 => K (.v (.agg [.int .i64 z2, .int .i64 z3])))
  | _ => none
def E27 {β : Type} (N : Nat) : Env β := ⟨[], [], []⟩
theorem e27_0 {β : Type} (N : Nat)  (a0 : Int) (a1 : Int) (K : TV → Option β) : evFn lay (E27 N) Try.f27 [.v (.agg [.int .i64 a0, .int .i64 a1])] K = laws_toTable N a0 a1 (fun z2 z3 => K (.v (.agg [.int .i64 z2, .int .i64 z3]))) := by kernel_rfl
theorem o27 {β : Type} (N : Nat) : SpecOK (β := β) Try.prog 27 (S27 N) := by
  refine spec_of lay_ok mixed (E := E27 N) (specs_loops specs_nil) muts_nil Try.func27 (by kernel_rfl) 0 (by kernel_rfl) trivial fun args K r h => ?_
  unfold S27 at h
  split at h
  · exact (e27_0 N _ _ _).trans h
  · cases h
def S45 {β : Type} (N : Nat) : Rv.Spec β := fun args K => match args with
  | [.v (.one (.sl 3 (.ints .i64 a0)))] => laws_toIntS N a0 (fun z2 => K (.v (.one (.sl 3 (.ints .i64 z2)))))
  | _ => none
def h45_0_0  (v0 : List Int) (v1 : Int) (v2 : List Int) : St := ⟨.v (.one (.sl 3 (.ints .i64 v0))) :: .v (.one .und) :: .v (.one .und) :: .v (.one (.row 0)) :: .v (.one (.int .i64 v1)) :: .v (.one .und) :: .v (.one .und) :: .v (.one .und) :: .v (.one .und) :: .v (.one .und) :: .v (.one .und) :: .v (.one .und) :: .v (.one .und) :: .v (.one .und) :: .v (.one .und) :: .v (.one .und) :: .v (.one .und) :: .v (.one .und) :: .v (.one .und) :: .v (.one .und) :: .v (.one .und) :: .v (.one .und) :: [], [.row 3 (.ints .i64 v2)]⟩
def x45_0_0_k0  (y0 : List Int) : St := ⟨.v (.one .und) :: .v (.one .und) :: .v (.one .und) :: .v (.one (.row 0)) :: .v (.one .und) :: .v (.one .und) :: .v (.one .und) :: .v (.one .und) :: .v (.one .und) :: .v (.one .und) :: .v (.one .und) :: .v (.one .und) :: .v (.one .und) :: .v (.one .und) :: .v (.one .und) :: .v (.one .und) :: .v (.one .und) :: .v (.one .und) :: .v (.one .und) :: .v (.one .und) :: .v (.one .und) :: .v (.one .und) :: [], [.row 3 (.ints .i64 y0)]⟩
def LS45_0 {β : Type} (N : Nat) : LSpec β := fun s K => match s with
  | ⟨.v (.one (.sl 3 (.ints .i64 v0))) :: .v (.one .und) :: .v (.one .und) :: .v (.one (.row 0)) :: .v (.one (.int .i64 v1)) :: .v (.one .und) :: .v (.one .und) :: .v (.one .und) :: .v (.one .und) :: .v (.one .und) :: .v (.one .und) :: .v (.one .und) :: .v (.one .und) :: .v (.one .und) :: .v (.one .und) :: .v (.one .und) :: .v (.one .und) :: .v (.one .und) :: .v (.one .und) :: .v (.one .und) :: .v (.one .und) :: .v (.one .und) :: [], [.row 3 (.ints .i64 v2)]⟩ => laws_toIntS_l0 N  N v0 v1 v2 (fun y0 => K (.exit 0) (x45_0_0_k0  y0))
  | _ => none
def E45 {β : Type} (N : Nat) : Env β := ⟨[], [], [(0, LS45_0 N)]⟩
theorem st45_0_0 {β : Type} (N : Nat)  (v0 : List Int) (v1 : Int) (v2 : List Int) (rec_ : St → Option β) (K : Exit → St → Option β) :
    ev lay (E45 N) (retMask Try.f45) (lp Try.f45 0).body (lp Try.f45 0).ex ((lp Try.f45 0).lv (retMask Try.f45)) (h45_0_0  v0 v1 v2) (nextR (fun s' => rec_ (s'.tidy ((lp Try.f45 0).lv (retMask Try.f45)))) K) =
      laws_toIntS_l0b N  v0 v1 v2 (fun v0 v1 v2 => rec_ (h45_0_0  v0 v1 v2)) (fun y0 => K (.exit 0) (x45_0_0_k0  y0)) := by kernel_rfl
theorem ro45_0_0 {β : Type} (N : Nat)  (K : Exit → St → Option β) : ∀ (F : Nat) (v0 : List Int) (v1 : Int) (v2 : List Int), (lp Try.f45 0).rounds lay (E45 N) (retMask Try.f45) F (h45_0_0  v0 v1 v2) K = laws_toIntS_l0 N  F v0 v1 v2 (fun y0 => K (.exit 0) (x45_0_0_k0  y0)) := by
  intro F
  induction F with
  | zero => intros; rfl
  | succ F ih =>
    intros
    rw [rounds_next]
    refine (st45_0_0 N  _ _ _ (fun s => (lp Try.f45 0).rounds lay (E45 N) (retMask Try.f45) F s K) K).trans ?_
    simp only [ih]
    rfl
theorem lk45_0 {β : Type} (N : Nat) : lookL (E45 (β := β) N).loops (lp Try.f45 0).id = LS45_0 N := by kernel_rfl
theorem rk45_0 {β : Type} (N : Nat) : RoundsOK lay (E45 (β := β) N) (retMask Try.f45) (lp Try.f45 0) := by
  intro s K r h
  rw [lk45_0] at h
  unfold LS45_0 at h
  split at h
  · exact ⟨N, (ro45_0_0 N  _ N _ _ _).trans h⟩
  · cases h
theorem e45_0 {β : Type} (N : Nat)  (a0 : List Int) (K : TV → Option β) : evFn lay (E45 N) Try.f45 [.v (.one (.sl 3 (.ints .i64 a0)))] K = laws_toIntS N a0 (fun z2 => K (.v (.one (.sl 3 (.ints .i64 z2))))) := by kernel_rfl
theorem o45 {β : Type} (N : Nat) : SpecOK (β := β) Try.prog 45 (S45 N) := by
  refine spec_of lay_ok mixed (E := E45 N) (specs_loops specs_nil) muts_nil Try.func45 (by kernel_rfl) 1 (by kernel_rfl) ⟨trivial, rk45_0 N⟩ fun args K r h => ?_
  unfold S45 at h
  split at h
  · exact (e45_0 N _ _).trans h
  · cases h
def S39 {β : Type} (N : Nat) : Rv.Spec β := fun args K => match args with
  | [.v (.agg [.int .i64 a0, .int .i64 a1, .int .i64 a2, .sl 3 (.ints .i64 a3)])] => laws_toKept N a0 a1 a2 a3 (fun z7 z8 z9 z10 => K (.v (.agg [.int .i64 z7, .int .i64 z8, .int .i64 z9, .sl 3 (.ints .i64 z10)])))
  | _ => none
def E39 {β : Type} (N : Nat) : Env β := ⟨[(27, S27 N), (45, S45 N)], [], []⟩
theorem e39_0 {β : Type} (N : Nat)  (a0 : Int) (a1 : Int) (a2 : Int) (a3 : List Int) (K : TV → Option β) : evFn lay (E39 N) Try.f39 [.v (.agg [.int .i64 a0, .int .i64 a1, .int .i64 a2, .sl 3 (.ints .i64 a3)])] K = laws_toKept N a0 a1 a2 a3 (fun z7 z8 z9 z10 => K (.v (.agg [.int .i64 z7, .int .i64 z8, .int .i64 z9, .sl 3 (.ints .i64 z10)]))) := by kernel_rfl
theorem o39 {β : Type} (N : Nat) : SpecOK (β := β) Try.prog 39 (S39 N) := by
  refine spec_of lay_ok mixed (E := E39 N) (specs_loops (specs_cons (o27 N) (specs_cons (o45 N) specs_nil))) muts_nil Try.func39 (by kernel_rfl) 0 (by kernel_rfl) trivial fun args K r h => ?_
  unfold S39 at h
  split at h
  · exact (e39_0 N _ _ _ _ _).trans h
  · cases h
def S69 {β : Type} (N : Nat) : Rv.Spec β := fun args K => match args with
  | [.v (.one (.sl 3 (.ints .i64 a0))), .v (.one (.sl 3 (.ints .i64 a1)))] => spec_l30Same N a0 a1 (fun z4 => K (.v (.one (.bool z4))))
  | _ => none
def h69_0_0  (v0 : List Int) (v1 : List Int) (v2 : Int) : St := ⟨.v (.one (.sl 3 (.ints .i64 v0))) :: .v (.one (.sl 3 (.ints .i64 v1))) :: .v (.one .und) :: .v (.one .und) :: .v (.one .und) :: .v (.one (.int .i64 v2)) :: .v (.one .und) :: .v (.one .und) :: .v (.one .und) :: .v (.one .und) :: .v (.one .und) :: .v (.one .und) :: .v (.one .und) :: .v (.one .und) :: .v (.one .und) :: .v (.one .und) :: .v (.one .und) :: .v (.one .und) :: .v (.one .und) :: .v (.one .und) :: .v (.one .und) :: .v (.one .und) :: .v (.one .und) :: .v (.one .und) :: .v (.one .und) :: .v (.one .und) :: [], []⟩
def x69_0_0_k0  (y0 : Bool) : St := ⟨.v (.one .und) :: .v (.one .und) :: .v (.one .und) :: .v (.one .und) :: .v (.one (.bool y0)) :: .v (.one .und) :: .v (.one .und) :: .v (.one .und) :: .v (.one .und) :: .v (.one .und) :: .v (.one .und) :: .v (.one .und) :: .v (.one .und) :: .v (.one .und) :: .v (.one .und) :: .v (.one .und) :: .v (.one .und) :: .v (.one .und) :: .v (.one .und) :: .v (.one .und) :: .v (.one .und) :: .v (.one .und) :: .v (.one .und) :: .v (.one .und) :: .v (.one .und) :: .v (.one .und) :: [], []⟩
def x69_0_0_k1   : St := ⟨.v (.one .und) :: .v (.one .und) :: .v (.one .und) :: .v (.one .und) :: .v (.one .und) :: .v (.one .und) :: .v (.one .und) :: .v (.one .und) :: .v (.one .und) :: .v (.one .und) :: .v (.one .und) :: .v (.one .und) :: .v (.one .und) :: .v (.one .und) :: .v (.one .und) :: .v (.one .und) :: .v (.one .und) :: .v (.one .und) :: .v (.one .und) :: .v (.one .und) :: .v (.one .und) :: .v (.one .und) :: .v (.one .und) :: .v (.one .und) :: .v (.one .und) :: .v (.one .und) :: [], []⟩
def LS69_0 {β : Type} (N : Nat) : LSpec β := fun s K => match s with
  | ⟨.v (.one (.sl 3 (.ints .i64 v0))) :: .v (.one (.sl 3 (.ints .i64 v1))) :: .v (.one .und) :: .v (.one .und) :: .v (.one .und) :: .v (.one (.int .i64 v2)) :: .v (.one .und) :: .v (.one .und) :: .v (.one .und) :: .v (.one .und) :: .v (.one .und) :: .v (.one .und) :: .v (.one .und) :: .v (.one .und) :: .v (.one .und) :: .v (.one .und) :: .v (.one .und) :: .v (.one .und) :: .v (.one .und) :: .v (.one .und) :: .v (.one .und) :: .v (.one .und) :: .v (.one .und) :: .v (.one .und) :: .v (.one .und) :: .v (.one .und) :: [], []⟩ => spec_l30Same_l0 N  N v0 v1 v2 (fun y0 => K .ret (x69_0_0_k0  y0)) (K (.exit 0) (x69_0_0_k1  ))
  | _ => none
def E69 {β : Type} (N : Nat) : Env β := ⟨[], [], [(0, LS69_0 N)]⟩
theorem st69_0_0 {β : Type} (N : Nat)  (v0 : List Int) (v1 : List Int) (v2 : Int) (rec_ : St → Option β) (K : Exit → St → Option β) :
    ev lay (E69 N) (retMask Try.f69) (lp Try.f69 0).body (lp Try.f69 0).ex ((lp Try.f69 0).lv (retMask Try.f69)) (h69_0_0  v0 v1 v2) (nextR (fun s' => rec_ (s'.tidy ((lp Try.f69 0).lv (retMask Try.f69)))) K) =
      spec_l30Same_l0b N  v0 v1 v2 (fun v0 v1 v2 => rec_ (h69_0_0  v0 v1 v2)) (fun y0 => K .ret (x69_0_0_k0  y0)) (K (.exit 0) (x69_0_0_k1  )) := by kernel_rfl
theorem ro69_0_0 {β : Type} (N : Nat)  (K : Exit → St → Option β) : ∀ (F : Nat) (v0 : List Int) (v1 : List Int) (v2 : Int), (lp Try.f69 0).rounds lay (E69 N) (retMask Try.f69) F (h69_0_0  v0 v1 v2) K = spec_l30Same_l0 N  F v0 v1 v2 (fun y0 => K .ret (x69_0_0_k0  y0)) (K (.exit 0) (x69_0_0_k1  )) := by
  intro F
  induction F with
  | zero => intros; rfl
  | succ F ih =>
    intros
    rw [rounds_next]
    refine (st69_0_0 N  _ _ _ (fun s => (lp Try.f69 0).rounds lay (E69 N) (retMask Try.f69) F s K) K).trans ?_
    simp only [ih]
    rfl
theorem lk69_0 {β : Type} (N : Nat) : lookL (E69 (β := β) N).loops (lp Try.f69 0).id = LS69_0 N := by kernel_rfl
theorem rk69_0 {β : Type} (N : Nat) : RoundsOK lay (E69 (β := β) N) (retMask Try.f69) (lp Try.f69 0) := by
  intro s K r h
  rw [lk69_0] at h
  unfold LS69_0 at h
  split at h
  · exact ⟨N, (ro69_0_0 N  _ N _ _ _).trans h⟩
  · cases h
theorem e69_0 {β : Type} (N : Nat)  (a0 : List Int) (a1 : List Int) (K : TV → Option β) : evFn lay (E69 N) Try.f69 [.v (.one (.sl 3 (.ints .i64 a0))), .v (.one (.sl 3 (.ints .i64 a1)))] K = spec_l30Same N a0 a1 (fun z4 => K (.v (.one (.bool z4)))) := by kernel_rfl
theorem o69 {β : Type} (N : Nat) : SpecOK (β := β) Try.prog 69 (S69 N) := by
  refine spec_of lay_ok mixed (E := E69 N) (specs_loops specs_nil) muts_nil Try.func69 (by kernel_rfl) 1 (by kernel_rfl) ⟨trivial, rk69_0 N⟩ fun args K r h => ?_
  unfold S69 at h
  split at h
  · exact (e69_0 N _ _ _).trans h
  · cases h
def S38 {β : Type} (N : Nat) : Rv.Spec β := fun args K => match args with
  | [.v (.agg [.int .i64 a0, .int .i64 a1, .int .i64 a2, .sl 3 (.ints .i64 a3)]), .v (.agg [.int .i64 a4, .int .i64 a5, .int .i64 a6, .sl 3 (.ints .i64 a7)])] => spec_EqualKept N a0 a1 a2 a3 a4 a5 a6 a7 (fun z9 => K (.v (.one (.bool z9))))
  | _ => none
def E38 {β : Type} (N : Nat) : Env β := ⟨[(69, S69 N)], [], []⟩
theorem e38_0 {β : Type} (N : Nat)  (a0 : Int) (a1 : Int) (a2 : Int) (a3 : List Int) (a4 : Int) (a5 : Int) (a6 : Int) (a7 : List Int) (K : TV → Option β) : evFn lay (E38 N) Try.f38 [.v (.agg [.int .i64 a0, .int .i64 a1, .int .i64 a2, .sl 3 (.ints .i64 a3)]), .v (.agg [.int .i64 a4, .int .i64 a5, .int .i64 a6, .sl 3 (.ints .i64 a7)])] K = spec_EqualKept N a0 a1 a2 a3 a4 a5 a6 a7 (fun z9 => K (.v (.one (.bool z9)))) := by kernel_rfl
theorem o38 {β : Type} (N : Nat) : SpecOK (β := β) Try.prog 38 (S38 N) := by
  refine spec_of lay_ok mixed (E := E38 N) (specs_loops (specs_cons (o69 N) specs_nil)) muts_nil Try.func38 (by kernel_rfl) 0 (by kernel_rfl) trivial fun args K r h => ?_
  unfold S38 at h
  split at h
  · exact (e38_0 N _ _ _ _ _ _ _ _ _).trans h
  · cases h
def S70 {β : Type} (N : Nat) : Rv.Spec β := fun args K => match args with
  | [.v (.one (.sl 3 (.ints .i64 a0))), .v (.one (.sl 3 (.ints .i64 a1)))] => slices_Equal_Sint_int N a0 a1 (fun z4 => K (.v (.one (.bool z4))))
  | _ => none
def h70_0_0  (v0 : List Int) (v1 : List Int) (v2 : Int) (v3 : Int) : St := ⟨.v (.one (.sl 3 (.ints .i64 v0))) :: .v (.one (.sl 3 (.ints .i64 v1))) :: .v (.one .und) :: .v (.one .und) :: .v (.one .und) :: .v (.one .und) :: .v (.one .und) :: .v (.one .und) :: .v (.one .und) :: .v (.one .und) :: .v (.one .und) :: .v (.one .und) :: .v (.one (.int .i64 v2)) :: .v (.one (.int .i64 v3)) :: .v (.one .und) :: .v (.one .und) :: .v (.one .und) :: .v (.one .und) :: .v (.one .und) :: .v (.one .und) :: .v (.one .und) :: .v (.one .und) :: .v (.one .und) :: .v (.one .und) :: .v (.one .und) :: .v (.one .und) :: [], []⟩
def x70_0_0_k0  (y0 : Bool) : St := ⟨.v (.one .und) :: .v (.one .und) :: .v (.one .und) :: .v (.one .und) :: .v (.one (.bool y0)) :: .v (.one .und) :: .v (.one .und) :: .v (.one .und) :: .v (.one .und) :: .v (.one .und) :: .v (.one .und) :: .v (.one .und) :: .v (.one .und) :: .v (.one .und) :: .v (.one .und) :: .v (.one .und) :: .v (.one .und) :: .v (.one .und) :: .v (.one .und) :: .v (.one .und) :: .v (.one .und) :: .v (.one .und) :: .v (.one .und) :: .v (.one .und) :: .v (.one .und) :: .v (.one .und) :: [], []⟩
def x70_0_0_k1   : St := ⟨.v (.one .und) :: .v (.one .und) :: .v (.one .und) :: .v (.one .und) :: .v (.one .und) :: .v (.one .und) :: .v (.one .und) :: .v (.one .und) :: .v (.one .und) :: .v (.one .und) :: .v (.one .und) :: .v (.one .und) :: .v (.one .und) :: .v (.one .und) :: .v (.one .und) :: .v (.one .und) :: .v (.one .und) :: .v (.one .und) :: .v (.one .und) :: .v (.one .und) :: .v (.one .und) :: .v (.one .und) :: .v (.one .und) :: .v (.one .und) :: .v (.one .und) :: .v (.one .und) :: [], []⟩
def LS70_0 {β : Type} (N : Nat) : LSpec β := fun s K => match s with
  | ⟨.v (.one (.sl 3 (.ints .i64 v0))) :: .v (.one (.sl 3 (.ints .i64 v1))) :: .v (.one .und) :: .v (.one .und) :: .v (.one .und) :: .v (.one .und) :: .v (.one .und) :: .v (.one .und) :: .v (.one .und) :: .v (.one .und) :: .v (.one .und) :: .v (.one .und) :: .v (.one (.int .i64 v2)) :: .v (.one (.int .i64 v3)) :: .v (.one .und) :: .v (.one .und) :: .v (.one .und) :: .v (.one .und) :: .v (.one .und) :: .v (.one .und) :: .v (.one .und) :: .v (.one .und) :: .v (.one .und) :: .v (.one .und) :: .v (.one .und) :: .v (.one .und) :: [], []⟩ => slices_Equal_Sint_int_l0 N  N v0 v1 v2 v3 (fun y0 => K .ret (x70_0_0_k0  y0)) (K (.exit 0) (x70_0_0_k1  ))
  | _ => none
def E70 {β : Type} (N : Nat) : Env β := ⟨[], [], [(0, LS70_0 N)]⟩
theorem st70_0_0 {β : Type} (N : Nat)  (v0 : List Int) (v1 : List Int) (v2 : Int) (v3 : Int) (rec_ : St → Option β) (K : Exit → St → Option β) :
    ev lay (E70 N) (retMask Try.f70) (lp Try.f70 0).body (lp Try.f70 0).ex ((lp Try.f70 0).lv (retMask Try.f70)) (h70_0_0  v0 v1 v2 v3) (nextR (fun s' => rec_ (s'.tidy ((lp Try.f70 0).lv (retMask Try.f70)))) K) =
      slices_Equal_Sint_int_l0b N  v0 v1 v2 v3 (fun v0 v1 v2 v3 => rec_ (h70_0_0  v0 v1 v2 v3)) (fun y0 => K .ret (x70_0_0_k0  y0)) (K (.exit 0) (x70_0_0_k1  )) := by kernel_rfl
theorem ro70_0_0 {β : Type} (N : Nat)  (K : Exit → St → Option β) : ∀ (F : Nat) (v0 : List Int) (v1 : List Int) (v2 : Int) (v3 : Int), (lp Try.f70 0).rounds lay (E70 N) (retMask Try.f70) F (h70_0_0  v0 v1 v2 v3) K = slices_Equal_Sint_int_l0 N  F v0 v1 v2 v3 (fun y0 => K .ret (x70_0_0_k0  y0)) (K (.exit 0) (x70_0_0_k1  )) := by
  intro F
  induction F with
  | zero => intros; rfl
  | succ F ih =>
    intros
    rw [rounds_next]
    refine (st70_0_0 N  _ _ _ _ (fun s => (lp Try.f70 0).rounds lay (E70 N) (retMask Try.f70) F s K) K).trans ?_
    simp only [ih]
    rfl
theorem lk70_0 {β : Type} (N : Nat) : lookL (E70 (β := β) N).loops (lp Try.f70 0).id = LS70_0 N := by kernel_rfl
theorem rk70_0 {β : Type} (N : Nat) : RoundsOK lay (E70 (β := β) N) (retMask Try.f70) (lp Try.f70 0) := by
  intro s K r h
  rw [lk70_0] at h
  unfold LS70_0 at h
  split at h
  · exact ⟨N, (ro70_0_0 N  _ N _ _ _ _).trans h⟩
  · cases h
theorem e70_0 {β : Type} (N : Nat)  (a0 : List Int) (a1 : List Int) (K : TV → Option β) : evFn lay (E70 N) Try.f70 [.v (.one (.sl 3 (.ints .i64 a0))), .v (.one (.sl 3 (.ints .i64 a1)))] K = slices_Equal_Sint_int N a0 a1 (fun z4 => K (.v (.one (.bool z4)))) := by kernel_rfl
theorem o70 {β : Type} (N : Nat) : SpecOK (β := β) Try.prog 70 (S70 N) := by
  refine spec_of lay_ok mixed (E := E70 N) (specs_loops specs_nil) muts_nil Try.func70 (by kernel_rfl) 1 (by kernel_rfl) ⟨trivial, rk70_0 N⟩ fun args K r h => ?_
  unfold S70 at h
  split at h
  · exact (e70_0 N _ _ _).trans h
  · cases h
def S40 {β : Type} (N : Nat) : Rv.Spec β := fun args K => match args with
  | [.v (.agg [.int .i64 a0, .int .i64 a1, .int .i64 a2, .sl 3 (.ints .i64 a3)]), .v (.agg [.int .i64 a4, .int .i64 a5, .int .i64 a6, .sl 3 (.ints .i64 a7)])] => impl_EqualKept N a0 a1 a2 a3 a4 a5 a6 a7 (fun z9 => K (.v (.one (.bool z9))))
  | _ => none
def E40 {β : Type} (N : Nat) : Env β := ⟨[(70, S70 N)], [], []⟩
theorem e40_0 {β : Type} (N : Nat)  (a0 : Int) (a1 : Int) (a2 : Int) (a3 : List Int) (a4 : Int) (a5 : Int) (a6 : Int) (a7 : List Int) (K : TV → Option β) : evFn lay (E40 N) Try.f40 [.v (.agg [.int .i64 a0, .int .i64 a1, .int .i64 a2, .sl 3 (.ints .i64 a3)]), .v (.agg [.int .i64 a4, .int .i64 a5, .int .i64 a6, .sl 3 (.ints .i64 a7)])] K = impl_EqualKept N a0 a1 a2 a3 a4 a5 a6 a7 (fun z9 => K (.v (.one (.bool z9)))) := by kernel_rfl
theorem o40 {β : Type} (N : Nat) : SpecOK (β := β) Try.prog 40 (S40 N) := by
  refine spec_of lay_ok mixed (E := E40 N) (specs_loops (specs_cons (o70 N) specs_nil)) muts_nil Try.func40 (by kernel_rfl) 0 (by kernel_rfl) trivial fun args K r h => ?_
  unfold S40 at h
  split at h
  · exact (e40_0 N _ _ _ _ _ _ _ _ _).trans h
  · cases h
def S29 {β : Type} (N : Nat) : Rv.Spec β := fun args K => match args with
  | [.v (.agg [.int .i64 a0, .int .i64 a1]), .v (.agg [.int .i64 a2, .int .i64 a3])] => laws_eqTable N a0 a1 a2 a3 (fun z4 => K (.v (.one (.bool z4))))
  | _ => none
def E29 {β : Type} (N : Nat) : Env β := ⟨[], [], []⟩
theorem e29_0 {β : Type} (N : Nat)  (a0 : Int) (a1 : Int) (a2 : Int) (a3 : Int) (K : TV → Option β) : evFn lay (E29 N) Try.f29 [.v (.agg [.int .i64 a0, .int .i64 a1]), .v (.agg [.int .i64 a2, .int .i64 a3])] K = laws_eqTable N a0 a1 a2 a3 (fun z4 => K (.v (.one (.bool z4)))) := by kernel_rfl
theorem o29 {β : Type} (N : Nat) : SpecOK (β := β) Try.prog 29 (S29 N) := by
  refine spec_of lay_ok mixed (E := E29 N) (specs_loops specs_nil) muts_nil Try.func29 (by kernel_rfl) 0 (by kernel_rfl) trivial fun args K r h => ?_
  unfold S29 at h
  split at h
  · exact (e29_0 N _ _ _ _ _).trans h
  · cases h
def S34 {β : Type} (N : Nat) : Rv.Spec β := fun args K => match args with
  | [.v (.one (.sl 3 (.ints .i64 a0))), .v (.one (.sl 3 (.ints .i64 a1)))] => laws_eqIntS N a0 a1 (fun z4 => K (.v (.one (.bool z4))))
  | _ => none
def h34_0_0  (v0 : List Int) (v1 : List Int) (v2 : Int) : St := ⟨.v (.one (.sl 3 (.ints .i64 v0))) :: .v (.one (.sl 3 (.ints .i64 v1))) :: .v (.one .und) :: .v (.one .und) :: .v (.one .und) :: .v (.one (.int .i64 v2)) :: .v (.one .und) :: .v (.one .und) :: .v (.one .und) :: .v (.one .und) :: .v (.one .und) :: .v (.one .und) :: .v (.one .und) :: .v (.one .und) :: .v (.one .und) :: .v (.one .und) :: .v (.one .und) :: .v (.one .und) :: .v (.one .und) :: .v (.one .und) :: .v (.one .und) :: .v (.one .und) :: .v (.one .und) :: .v (.one .und) :: .v (.one .und) :: .v (.one .und) :: [], []⟩
def x34_0_0_k0  (y0 : Bool) : St := ⟨.v (.one .und) :: .v (.one .und) :: .v (.one .und) :: .v (.one .und) :: .v (.one (.bool y0)) :: .v (.one .und) :: .v (.one .und) :: .v (.one .und) :: .v (.one .und) :: .v (.one .und) :: .v (.one .und) :: .v (.one .und) :: .v (.one .und) :: .v (.one .und) :: .v (.one .und) :: .v (.one .und) :: .v (.one .und) :: .v (.one .und) :: .v (.one .und) :: .v (.one .und) :: .v (.one .und) :: .v (.one .und) :: .v (.one .und) :: .v (.one .und) :: .v (.one .und) :: .v (.one .und) :: [], []⟩
def x34_0_0_k1   : St := ⟨.v (.one .und) :: .v (.one .und) :: .v (.one .und) :: .v (.one .und) :: .v (.one .und) :: .v (.one .und) :: .v (.one .und) :: .v (.one .und) :: .v (.one .und) :: .v (.one .und) :: .v (.one .und) :: .v (.one .und) :: .v (.one .und) :: .v (.one .und) :: .v (.one .und) :: .v (.one .und) :: .v (.one .und) :: .v (.one .und) :: .v (.one .und) :: .v (.one .und) :: .v (.one .und) :: .v (.one .und) :: .v (.one .und) :: .v (.one .und) :: .v (.one .und) :: .v (.one .und) :: [], []⟩
def LS34_0 {β : Type} (N : Nat) : LSpec β := fun s K => match s with
  | ⟨.v (.one (.sl 3 (.ints .i64 v0))) :: .v (.one (.sl 3 (.ints .i64 v1))) :: .v (.one .und) :: .v (.one .und) :: .v (.one .und) :: .v (.one (.int .i64 v2)) :: .v (.one .und) :: .v (.one .und) :: .v (.one .und) :: .v (.one .und) :: .v (.one .und) :: .v (.one .und) :: .v (.one .und) :: .v (.one .und) :: .v (.one .und) :: .v (.one .und) :: .v (.one .und) :: .v (.one .und) :: .v (.one .und) :: .v (.one .und) :: .v (.one .und) :: .v (.one .und) :: .v (.one .und) :: .v (.one .und) :: .v (.one .und) :: .v (.one .und) :: [], []⟩ => laws_eqIntS_l0 N  N v0 v1 v2 (fun y0 => K .ret (x34_0_0_k0  y0)) (K (.exit 0) (x34_0_0_k1  ))
  | _ => none
def E34 {β : Type} (N : Nat) : Env β := ⟨[], [], [(0, LS34_0 N)]⟩
theorem st34_0_0 {β : Type} (N : Nat)  (v0 : List Int) (v1 : List Int) (v2 : Int) (rec_ : St → Option β) (K : Exit → St → Option β) :
    ev lay (E34 N) (retMask Try.f34) (lp Try.f34 0).body (lp Try.f34 0).ex ((lp Try.f34 0).lv (retMask Try.f34)) (h34_0_0  v0 v1 v2) (nextR (fun s' => rec_ (s'.tidy ((lp Try.f34 0).lv (retMask Try.f34)))) K) =
      laws_eqIntS_l0b N  v0 v1 v2 (fun v0 v1 v2 => rec_ (h34_0_0  v0 v1 v2)) (fun y0 => K .ret (x34_0_0_k0  y0)) (K (.exit 0) (x34_0_0_k1  )) := by kernel_rfl
theorem ro34_0_0 {β : Type} (N : Nat)  (K : Exit → St → Option β) : ∀ (F : Nat) (v0 : List Int) (v1 : List Int) (v2 : Int), (lp Try.f34 0).rounds lay (E34 N) (retMask Try.f34) F (h34_0_0  v0 v1 v2) K = laws_eqIntS_l0 N  F v0 v1 v2 (fun y0 => K .ret (x34_0_0_k0  y0)) (K (.exit 0) (x34_0_0_k1  )) := by
  intro F
  induction F with
  | zero => intros; rfl
  | succ F ih =>
    intros
    rw [rounds_next]
    refine (st34_0_0 N  _ _ _ (fun s => (lp Try.f34 0).rounds lay (E34 N) (retMask Try.f34) F s K) K).trans ?_
    simp only [ih]
    rfl
theorem lk34_0 {β : Type} (N : Nat) : lookL (E34 (β := β) N).loops (lp Try.f34 0).id = LS34_0 N := by kernel_rfl
theorem rk34_0 {β : Type} (N : Nat) : RoundsOK lay (E34 (β := β) N) (retMask Try.f34) (lp Try.f34 0) := by
  intro s K r h
  rw [lk34_0] at h
  unfold LS34_0 at h
  split at h
  · exact ⟨N, (ro34_0_0 N  _ N _ _ _).trans h⟩
  · cases h
theorem e34_0 {β : Type} (N : Nat)  (a0 : List Int) (a1 : List Int) (K : TV → Option β) : evFn lay (E34 N) Try.f34 [.v (.one (.sl 3 (.ints .i64 a0))), .v (.one (.sl 3 (.ints .i64 a1)))] K = laws_eqIntS N a0 a1 (fun z4 => K (.v (.one (.bool z4)))) := by kernel_rfl
theorem o34 {β : Type} (N : Nat) : SpecOK (β := β) Try.prog 34 (S34 N) := by
  refine spec_of lay_ok mixed (E := E34 N) (specs_loops specs_nil) muts_nil Try.func34 (by kernel_rfl) 1 (by kernel_rfl) ⟨trivial, rk34_0 N⟩ fun args K r h => ?_
  unfold S34 at h
  split at h
  · exact (e34_0 N _ _ _).trans h
  · cases h
def S41 {β : Type} (N : Nat) : Rv.Spec β := fun args K => match args with
  | [.v (.agg [.int .i64 a0, .int .i64 a1, .int .i64 a2, .sl 3 (.ints .i64 a3)]), .v (.agg [.int .i64 a4, .int .i64 a5, .int .i64 a6, .sl 3 (.ints .i64 a7)])] => laws_eqKept N a0 a1 a2 a3 a4 a5 a6 a7 (fun z10 => K (.v (.one (.bool z10))))
  | _ => none
def E41 {β : Type} (N : Nat) : Env β := ⟨[(29, S29 N), (34, S34 N)], [], []⟩
theorem e41_0 {β : Type} (N : Nat)  (a0 : Int) (a1 : Int) (a2 : Int) (a3 : List Int) (a4 : Int) (a5 : Int) (a6 : Int) (a7 : List Int) (K : TV → Option β) : evFn lay (E41 N) Try.f41 [.v (.agg [.int .i64 a0, .int .i64 a1, .int .i64 a2, .sl 3 (.ints .i64 a3)]), .v (.agg [.int .i64 a4, .int .i64 a5, .int .i64 a6, .sl 3 (.ints .i64 a7)])] K = laws_eqKept N a0 a1 a2 a3 a4 a5 a6 a7 (fun z10 => K (.v (.one (.bool z10)))) := by kernel_rfl
theorem o41 {β : Type} (N : Nat) : SpecOK (β := β) Try.prog 41 (S41 N) := by
  refine spec_of lay_ok mixed (E := E41 N) (specs_loops (specs_cons (o29 N) (specs_cons (o34 N) specs_nil))) muts_nil Try.func41 (by kernel_rfl) 0 (by kernel_rfl) trivial fun args K r h => ?_
  unfold S41 at h
  split at h
  · exact (e41_0 N _ _ _ _ _ _ _ _ _).trans h
  · cases h
def S10 {β : Type} (N : Nat) : Rv.Spec β := fun args K => match args with
  | [.v (.agg [.int .i64 a0, .int .i64 a1, .int .i64 a2, .sl 3 (.ints .i64 a3)]), .v (.agg [.int .i64 a4, .int .i64 a5, .int .i64 a6, .sl 3 (.ints .i64 a7)])] => laws_FnExactEqualKept N a0 a1 a2 a3 a4 a5 a6 a7 (fun z38 => K (.v (.one (.bool z38))))
  | _ => none
def E10 {β : Type} (N : Nat) : Env β := ⟨[(37, S37 N), (39, S39 N), (38, S38 N), (40, S40 N), (41, S41 N)], [], []⟩
theorem e10_0 {β : Type} (N : Nat)  (a0 : Int) (a1 : Int) (a2 : Int) (a3 : List Int) (a4 : Int) (a5 : Int) (a6 : Int) (a7 : List Int) (K : TV → Option β) : evFn lay (E10 N) Try.f10 [.v (.agg [.int .i64 a0, .int .i64 a1, .int .i64 a2, .sl 3 (.ints .i64 a3)]), .v (.agg [.int .i64 a4, .int .i64 a5, .int .i64 a6, .sl 3 (.ints .i64 a7)])] K = laws_FnExactEqualKept N a0 a1 a2 a3 a4 a5 a6 a7 (fun z38 => K (.v (.one (.bool z38)))) := by kernel_rfl
theorem o10 {β : Type} (N : Nat) : SpecOK (β := β) Try.prog 10 (S10 N) := by
  refine spec_of lay_ok mixed (E := E10 N) (specs_loops (specs_cons (o37 N) (specs_cons (o39 N) (specs_cons (o38 N) (specs_cons (o40 N) (specs_cons (o41 N) specs_nil)))))) muts_nil Try.func10 (by kernel_rfl) 0 (by kernel_rfl) trivial fun args K r h => ?_
  unfold S10 at h
  split at h
  · exact (e10_0 N _ _ _ _ _ _ _ _ _).trans h
  · cases h
def S47 {β : Type} (N : Nat) : Rv.Spec β := fun args K => match args with
  | [.v (.agg [.int .i64 a0, .int .i64 a1, .int .i64 a2, .int .i64 a3, .int .i64 a4, .str a5, .sl 3 (.ints .i64 a6)]), .v (.one (.int .i64 a7))] => laws_szClaim N a0 a1 a2 a3 a4 a5 a6 a7 (fun z9 => K (.v (.one (.int .i64 z9))))
  | _ => none
def E47 {β : Type} (N : Nat) : Env β := ⟨[(68, S68 N)], [], []⟩
theorem e47_0 {β : Type} (N : Nat)  (a0 : Int) (a1 : Int) (a2 : Int) (a3 : Int) (a4 : Int) (a5 : ByteArray) (a6 : List Int) (a7 : Int) (K : TV → Option β) : evFn lay (E47 N) Try.f47 [.v (.agg [.int .i64 a0, .int .i64 a1, .int .i64 a2, .int .i64 a3, .int .i64 a4, .str a5, .sl 3 (.ints .i64 a6)]), .v (.one (.int .i64 a7))] K = laws_szClaim N a0 a1 a2 a3 a4 a5 a6 a7 (fun z9 => K (.v (.one (.int .i64 z9)))) := by kernel_rfl
theorem o47 {β : Type} (N : Nat) : SpecOK (β := β) Try.prog 47 (S47 N) := by
  refine spec_of lay_ok mixed (E := E47 N) (specs_loops (specs_cons (o68 N) specs_nil)) muts_nil Try.func47 (by kernel_rfl) 0 (by kernel_rfl) trivial fun args K r h => ?_
  unfold S47 at h
  split at h
  · exact (e47_0 N _ _ _ _ _ _ _ _ _).trans h
  · cases h
def S49 {β : Type} (N : Nat) : Rv.Spec β := fun args K => match args with
  | [.v (.agg [.int .i64 a0, .int .i64 a1, .int .i64 a2, .int .i64 a3, .int .i64 a4, .str a5, .sl 3 (.ints .i64 a6)])] => laws_toClaim N a0 a1 a2 a3 a4 a5 a6 (fun z10 z11 z12 z13 z14 z15 z16 => K (.v (.agg [.int .i64 z10, .int .i64 z11, .int .i64 z12, .int .i64 z13, .int .i64 z14, .str z15, .sl 3 (.ints .i64 z16)])))
  | _ => none
def E49 {β : Type} (N : Nat) : Env β := ⟨[(27, S27 N), (45, S45 N)], [], []⟩
theorem e49_0 {β : Type} (N : Nat)  (a0 : Int) (a1 : Int) (a2 : Int) (a3 : Int) (a4 : Int) (a5 : ByteArray) (a6 : List Int) (K : TV → Option β) : evFn lay (E49 N) Try.f49 [.v (.agg [.int .i64 a0, .int .i64 a1, .int .i64 a2, .int .i64 a3, .int .i64 a4, .str a5, .sl 3 (.ints .i64 a6)])] K = laws_toClaim N a0 a1 a2 a3 a4 a5 a6 (fun z10 z11 z12 z13 z14 z15 z16 => K (.v (.agg [.int .i64 z10, .int .i64 z11, .int .i64 z12, .int .i64 z13, .int .i64 z14, .str z15, .sl 3 (.ints .i64 z16)]))) := by kernel_rfl
theorem o49 {β : Type} (N : Nat) : SpecOK (β := β) Try.prog 49 (S49 N) := by
  refine spec_of lay_ok mixed (E := E49 N) (specs_loops (specs_cons (o27 N) (specs_cons (o45 N) specs_nil))) muts_nil Try.func49 (by kernel_rfl) 0 (by kernel_rfl) trivial fun args K r h => ?_
  unfold S49 at h
  split at h
  · exact (e49_0 N _ _ _ _ _ _ _ _).trans h
  · cases h
def S48 {β : Type} (N : Nat) : Rv.Spec β := fun args K => match args with
  | [.v (.agg [.int .i64 a0, .int .i64 a1, .int .i64 a2, .int .i64 a3, .int .i64 a4, .str a5, .sl 3 (.ints .i64 a6)]), .v (.agg [.int .i64 a7, .int .i64 a8, .int .i64 a9, .int .i64 a10, .int .i64 a11, .str a12, .sl 3 (.ints .i64 a13)])] => spec_EqualClaims N a0 a1 a2 a3 a4 a5 a6 a7 a8 a9 a10 a11 a12 a13 (fun z15 => K (.v (.one (.bool z15))))
  | _ => none
def E48 {β : Type} (N : Nat) : Env β := ⟨[(69, S69 N)], [], []⟩
theorem e48_0 {β : Type} (N : Nat)  (a0 : Int) (a1 : Int) (a2 : Int) (a3 : Int) (a4 : Int) (a5 : ByteArray) (a6 : List Int) (a7 : Int) (a8 : Int) (a9 : Int) (a10 : Int) (a11 : Int) (a12 : ByteArray) (a13 : List Int) (K : TV → Option β) : evFn lay (E48 N) Try.f48 [.v (.agg [.int .i64 a0, .int .i64 a1, .int .i64 a2, .int .i64 a3, .int .i64 a4, .str a5, .sl 3 (.ints .i64 a6)]), .v (.agg [.int .i64 a7, .int .i64 a8, .int .i64 a9, .int .i64 a10, .int .i64 a11, .str a12, .sl 3 (.ints .i64 a13)])] K = spec_EqualClaims N a0 a1 a2 a3 a4 a5 a6 a7 a8 a9 a10 a11 a12 a13 (fun z15 => K (.v (.one (.bool z15)))) := by kernel_rfl
theorem o48 {β : Type} (N : Nat) : SpecOK (β := β) Try.prog 48 (S48 N) := by
  refine spec_of lay_ok mixed (E := E48 N) (specs_loops (specs_cons (o69 N) specs_nil)) muts_nil Try.func48 (by kernel_rfl) 0 (by kernel_rfl) trivial fun args K r h => ?_
  unfold S48 at h
  split at h
  · exact (e48_0 N _ _ _ _ _ _ _ _ _ _ _ _ _ _ _).trans h
  · cases h
def S50 {β : Type} (N : Nat) : Rv.Spec β := fun args K => match args with
  | [.v (.agg [.int .i64 a0, .int .i64 a1, .int .i64 a2, .int .i64 a3, .int .i64 a4, .str a5, .sl 3 (.ints .i64 a6)]), .v (.agg [.int .i64 a7, .int .i64 a8, .int .i64 a9, .int .i64 a10, .int .i64 a11, .str a12, .sl 3 (.ints .i64 a13)])] => impl_EqualClaims N a0 a1 a2 a3 a4 a5 a6 a7 a8 a9 a10 a11 a12 a13 (fun z15 => K (.v (.one (.bool z15))))
  | _ => none
def E50 {β : Type} (N : Nat) : Env β := ⟨[(70, S70 N)], [], []⟩
theorem e50_0 {β : Type} (N : Nat)  (a0 : Int) (a1 : Int) (a2 : Int) (a3 : Int) (a4 : Int) (a5 : ByteArray) (a6 : List Int) (a7 : Int) (a8 : Int) (a9 : Int) (a10 : Int) (a11 : Int) (a12 : ByteArray) (a13 : List Int) (K : TV → Option β) : evFn lay (E50 N) Try.f50 [.v (.agg [.int .i64 a0, .int .i64 a1, .int .i64 a2, .int .i64 a3, .int .i64 a4, .str a5, .sl 3 (.ints .i64 a6)]), .v (.agg [.int .i64 a7, .int .i64 a8, .int .i64 a9, .int .i64 a10, .int .i64 a11, .str a12, .sl 3 (.ints .i64 a13)])] K = impl_EqualClaims N a0 a1 a2 a3 a4 a5 a6 a7 a8 a9 a10 a11 a12 a13 (fun z15 => K (.v (.one (.bool z15)))) := by kernel_rfl
theorem o50 {β : Type} (N : Nat) : SpecOK (β := β) Try.prog 50 (S50 N) := by
  refine spec_of lay_ok mixed (E := E50 N) (specs_loops (specs_cons (o70 N) specs_nil)) muts_nil Try.func50 (by kernel_rfl) 0 (by kernel_rfl) trivial fun args K r h => ?_
  unfold S50 at h
  split at h
  · exact (e50_0 N _ _ _ _ _ _ _ _ _ _ _ _ _ _ _).trans h
  · cases h
def S51 {β : Type} (N : Nat) : Rv.Spec β := fun args K => match args with
  | [.v (.agg [.int .i64 a0, .int .i64 a1, .int .i64 a2, .int .i64 a3, .int .i64 a4, .str a5, .sl 3 (.ints .i64 a6)]), .v (.agg [.int .i64 a7, .int .i64 a8, .int .i64 a9, .int .i64 a10, .int .i64 a11, .str a12, .sl 3 (.ints .i64 a13)])] => laws_eqClaim N a0 a1 a2 a3 a4 a5 a6 a7 a8 a9 a10 a11 a12 a13 (fun z16 => K (.v (.one (.bool z16))))
  | _ => none
def E51 {β : Type} (N : Nat) : Env β := ⟨[(29, S29 N), (34, S34 N)], [], []⟩
theorem e51_0 {β : Type} (N : Nat)  (a0 : Int) (a1 : Int) (a2 : Int) (a3 : Int) (a4 : Int) (a5 : ByteArray) (a6 : List Int) (a7 : Int) (a8 : Int) (a9 : Int) (a10 : Int) (a11 : Int) (a12 : ByteArray) (a13 : List Int) (K : TV → Option β) : evFn lay (E51 N) Try.f51 [.v (.agg [.int .i64 a0, .int .i64 a1, .int .i64 a2, .int .i64 a3, .int .i64 a4, .str a5, .sl 3 (.ints .i64 a6)]), .v (.agg [.int .i64 a7, .int .i64 a8, .int .i64 a9, .int .i64 a10, .int .i64 a11, .str a12, .sl 3 (.ints .i64 a13)])] K = laws_eqClaim N a0 a1 a2 a3 a4 a5 a6 a7 a8 a9 a10 a11 a12 a13 (fun z16 => K (.v (.one (.bool z16)))) := by kernel_rfl
theorem o51 {β : Type} (N : Nat) : SpecOK (β := β) Try.prog 51 (S51 N) := by
  refine spec_of lay_ok mixed (E := E51 N) (specs_loops (specs_cons (o29 N) (specs_cons (o34 N) specs_nil))) muts_nil Try.func51 (by kernel_rfl) 0 (by kernel_rfl) trivial fun args K r h => ?_
  unfold S51 at h
  split at h
  · exact (e51_0 N _ _ _ _ _ _ _ _ _ _ _ _ _ _ _).trans h
  · cases h
def S13 {β : Type} (N : Nat) : Rv.Spec β := fun args K => match args with
  | [.v (.agg [.int .i64 a0, .int .i64 a1, .int .i64 a2, .int .i64 a3, .int .i64 a4, .str a5, .sl 3 (.ints .i64 a6)]), .v (.agg [.int .i64 a7, .int .i64 a8, .int .i64 a9, .int .i64 a10, .int .i64 a11, .str a12, .sl 3 (.ints .i64 a13)])] => laws_FnExactEqualClaims N a0 a1 a2 a3 a4 a5 a6 a7 a8 a9 a10 a11 a12 a13 (fun z62 => K (.v (.one (.bool z62))))
  | _ => none
def E13 {β : Type} (N : Nat) : Env β := ⟨[(47, S47 N), (49, S49 N), (48, S48 N), (50, S50 N), (51, S51 N)], [], []⟩
theorem e13_0 {β : Type} (N : Nat)  (a0 : Int) (a1 : Int) (a2 : Int) (a3 : Int) (a4 : Int) (a5 : ByteArray) (a6 : List Int) (a7 : Int) (a8 : Int) (a9 : Int) (a10 : Int) (a11 : Int) (a12 : ByteArray) (a13 : List Int) (K : TV → Option β) : evFn lay (E13 N) Try.f13 [.v (.agg [.int .i64 a0, .int .i64 a1, .int .i64 a2, .int .i64 a3, .int .i64 a4, .str a5, .sl 3 (.ints .i64 a6)]), .v (.agg [.int .i64 a7, .int .i64 a8, .int .i64 a9, .int .i64 a10, .int .i64 a11, .str a12, .sl 3 (.ints .i64 a13)])] K = laws_FnExactEqualClaims N a0 a1 a2 a3 a4 a5 a6 a7 a8 a9 a10 a11 a12 a13 (fun z62 => K (.v (.one (.bool z62)))) := by kernel_rfl
theorem o13 {β : Type} (N : Nat) : SpecOK (β := β) Try.prog 13 (S13 N) := by
  refine spec_of lay_ok mixed (E := E13 N) (specs_loops (specs_cons (o47 N) (specs_cons (o49 N) (specs_cons (o48 N) (specs_cons (o50 N) (specs_cons (o51 N) specs_nil)))))) muts_nil Try.func13 (by kernel_rfl) 0 (by kernel_rfl) trivial fun args K r h => ?_
  unfold S13 at h
  split at h
  · exact (e13_0 N _ _ _ _ _ _ _ _ _ _ _ _ _ _ _).trans h
  · cases h
end Go.Proofs.Ytpiipfkopncbeaa
