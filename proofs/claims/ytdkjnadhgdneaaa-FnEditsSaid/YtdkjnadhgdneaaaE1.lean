/- The functions that the claims reach answer as their texts do. -/
import Derived.Test.YtdkjnadhgdneaaaE0
namespace Go.Proofs.Ytdkjnadhgdneaaa
open Go.Rv
set_option maxRecDepth 100000
set_option maxHeartbeats 2000000
set_option linter.unusedVariables false
def VS109 {β : Type} (N : Nat) (q_spec_l1Byte_g0 : (a0 : List Int) → (a1 : Int) → (a2 : Int) → (k0 : Int → List Int → Int → Int → Option β) → Option β) : GSpec β := fun args bl K => match args, bl with
  | [.v (.one (.ptr 0 0))], [.pcells 0 96 [.sl 5 (.ints .u8 a0), .int .i64 a1, .int .i64 a2]] => q_spec_l1Byte_g0 a0 a1 a2 (fun y0 y1 y2 y3 => K (.v (.one (.int .i64 y0))) [.pcells 0 96 [.sl 5 (.ints .u8 y1), .int .i64 y2, .int .i64 y3]])
  | _, _ => none
def S109 {β : Type} (N : Nat) : GSpec β := VS109 N (spec_l1Byte_g0 N)
def VE109 {β : Type} (N : Nat) : Env β := ⟨[], [], [], []⟩
def E109 {β : Type} (N : Nat) : Env β := VE109 N
def BV_spec_l1Byte_g0 {β : Type} (N : Nat) (a0 : List Int) (a1 : Int) (a2 : Int) (k0 : Int → List Int → Int → Int → Option β) : Option β :=
(cond ((decide (a1 < (a0.length : Int))))
((gd ((decide (0 ≤ a1)))
((gd ((decide (a1 < (a0.length : Int))))
(k0 ((bits .and .i64 (w64 ((bits .and .i64 (bits .xor .i64 (shrI .i64 (w64 ((w64 (a2 * 6364136223846793005)) + 1442695040888963407)) 33) (shrI .i64 (w64 ((w64 (a2 * 6364136223846793005)) + 1442695040888963407)) 45)) 255) + (w64 ((rd 0 a0 a1))))) 255)) a0 ((w64 (a1 + 1))) ((w64 ((w64 (a2 * 6364136223846793005)) + 1442695040888963407))))))))
(k0 ((bits .and .i64 (bits .xor .i64 (shrI .i64 (w64 ((w64 (a2 * 6364136223846793005)) + 1442695040888963407)) 33) (shrI .i64 (w64 ((w64 (a2 * 6364136223846793005)) + 1442695040888963407)) 45)) 255)) a0 a1 ((w64 ((w64 (a2 * 6364136223846793005)) + 1442695040888963407)))))
theorem t_spec_l1Byte_g0 {β : Type} (N : Nat) (a0 : List Int) (a1 : Int) (a2 : Int) (k0 : Int → List Int → Int → Int → Option β) : spec_l1Byte_g0 N a0 a1 a2 k0 = BV_spec_l1Byte_g0 N a0 a1 a2 k0 := by
  unfold spec_l1Byte_g0 BV_spec_l1Byte_g0
  rfl
theorem ve109_0 {β : Type} (N : Nat) (a0 : List Int) (a1 : Int) (a2 : Int) (K : TV → List Blk → Option β) : evFnG lay (VE109 N) Try.f109 [.v (.one (.ptr 0 0))] [.pcells 0 96 [.sl 5 (.ints .u8 a0), .int .i64 a1, .int .i64 a2]] K = BV_spec_l1Byte_g0 N a0 a1 a2 (fun y0 y1 y2 y3 => K (.v (.one (.int .i64 y0))) [.pcells 0 96 [.sl 5 (.ints .u8 y1), .int .i64 y2, .int .i64 y3]]) := by kernel_rfl
theorem e109_0 {β : Type} (N : Nat) (a0 : List Int) (a1 : Int) (a2 : Int) (K : TV → List Blk → Option β) : evFnG lay (E109 N) Try.f109 [.v (.one (.ptr 0 0))] [.pcells 0 96 [.sl 5 (.ints .u8 a0), .int .i64 a1, .int .i64 a2]] K = spec_l1Byte_g0 N a0 a1 a2 (fun y0 y1 y2 y3 => K (.v (.one (.int .i64 y0))) [.pcells 0 96 [.sl 5 (.ints .u8 y1), .int .i64 y2, .int .i64 y3]]) := (ve109_0 N a0 a1 a2 K).trans (t_spec_l1Byte_g0 N a0 a1 a2 (fun y0 y1 y2 y3 => K (.v (.one (.int .i64 y0))) [.pcells 0 96 [.sl 5 (.ints .u8 y1), .int .i64 y2, .int .i64 y3]])).symm
theorem o109 {β : Type} (N : Nat) : GOK (β := β) Try.prog 109 (S109 N) := by
  refine g_of lay_ok mixed (E := E109 N) (specs_loops specs_nil) muts_nil gs_nil Try.func109 (by kernel_rfl) 0 (by kernel_rfl) trivial fun args bl K r h => ?_
  unfold S109 VS109 at h
  split at h
  · exact (e109_0 N _ _ _ _).trans h
  · cases h
def VS57 {β : Type} (N : Nat) (q_spec_l1Below_g0 : (a0 : Int) → (a1 : List Int) → (a2 : Int) → (a3 : Int) → (k0 : Int → List Int → Int → Int → Option β) → Option β) : GSpec β := fun args bl K => match args, bl with
  | [.v (.one (.ptr 0 0)), .v (.one (.int .i64 a0))], [.pcells 0 96 [.sl 5 (.ints .u8 a1), .int .i64 a2, .int .i64 a3]] => q_spec_l1Below_g0 a0 a1 a2 a3 (fun y0 y1 y2 y3 => K (.v (.one (.int .i64 y0))) [.pcells 0 96 [.sl 5 (.ints .u8 y1), .int .i64 y2, .int .i64 y3]])
  | _, _ => none
def S57 {β : Type} (N : Nat) : GSpec β := VS57 N (spec_l1Below_g0 N)
def VE57 {β : Type} (N : Nat) (q_spec_l1Byte_g0 : (a0 : List Int) → (a1 : Int) → (a2 : Int) → (k0 : Int → List Int → Int → Int → Option β) → Option β) : Env β := ⟨[], [], [], [(109, VS109 N q_spec_l1Byte_g0)]⟩
def E57 {β : Type} (N : Nat) : Env β := VE57 N (spec_l1Byte_g0 N)
def BV_spec_l1Below_g0 {β : Type} (N : Nat) (q_spec_l1Byte_g0 : (a0 : List Int) → (a1 : Int) → (a2 : Int) → (k0 : Int → List Int → Int → Int → Option β) → Option β) (a0 : Int) (a1 : List Int) (a2 : Int) (a3 : Int) (k0 : Int → List Int → Int → Int → Option β) : Option β :=
(cond ((decide (a0 ≤ 0)))
(k0 0 a1 a2 a3)
((cond ((decide (a0 ≤ 256)))
(q_spec_l1Byte_g0 a1 a2 a3 (fun r66_0 r66_1 r66_2 r66_3 =>
(gd ((a0 != 0))
(k0 ((remI r66_0 a0)) r66_1 r66_2 r66_3))))
(q_spec_l1Byte_g0 a1 a2 a3 (fun r67_0 r67_1 r67_2 r67_3 =>
q_spec_l1Byte_g0 r67_1 r67_2 r67_3 (fun r68_0 r68_1 r68_2 r68_3 =>
q_spec_l1Byte_g0 r68_1 r68_2 r68_3 (fun r69_0 r69_1 r69_2 r69_3 =>
q_spec_l1Byte_g0 r69_1 r69_2 r69_3 (fun r70_0 r70_1 r70_2 r70_3 =>
(gd ((a0 != 0))
(k0 ((remI (w64 ((w64 ((w64 ((w64 (r67_0 * 16777216)) + (w64 (r68_0 * 65536)))) + (w64 (r69_0 * 256)))) + r70_0)) a0)) r70_1 r70_2 r70_3))))))))))
theorem t_spec_l1Below_g0 {β : Type} (N : Nat) (a0 : Int) (a1 : List Int) (a2 : Int) (a3 : Int) (k0 : Int → List Int → Int → Int → Option β) : spec_l1Below_g0 N a0 a1 a2 a3 k0 = BV_spec_l1Below_g0 N (spec_l1Byte_g0 N) a0 a1 a2 a3 k0 := by
  unfold spec_l1Below_g0 BV_spec_l1Below_g0
  rfl
theorem ve57_0 {β : Type} (N : Nat) (q_spec_l1Byte_g0 : (a0 : List Int) → (a1 : Int) → (a2 : Int) → (k0 : Int → List Int → Int → Int → Option β) → Option β) (a0 : Int) (a1 : List Int) (a2 : Int) (a3 : Int) (K : TV → List Blk → Option β) : evFnG lay (VE57 N q_spec_l1Byte_g0) Try.f57 [.v (.one (.ptr 0 0)), .v (.one (.int .i64 a0))] [.pcells 0 96 [.sl 5 (.ints .u8 a1), .int .i64 a2, .int .i64 a3]] K = BV_spec_l1Below_g0 N q_spec_l1Byte_g0 a0 a1 a2 a3 (fun y0 y1 y2 y3 => K (.v (.one (.int .i64 y0))) [.pcells 0 96 [.sl 5 (.ints .u8 y1), .int .i64 y2, .int .i64 y3]]) := by kernel_rfl
theorem e57_0 {β : Type} (N : Nat) (a0 : Int) (a1 : List Int) (a2 : Int) (a3 : Int) (K : TV → List Blk → Option β) : evFnG lay (E57 N) Try.f57 [.v (.one (.ptr 0 0)), .v (.one (.int .i64 a0))] [.pcells 0 96 [.sl 5 (.ints .u8 a1), .int .i64 a2, .int .i64 a3]] K = spec_l1Below_g0 N a0 a1 a2 a3 (fun y0 y1 y2 y3 => K (.v (.one (.int .i64 y0))) [.pcells 0 96 [.sl 5 (.ints .u8 y1), .int .i64 y2, .int .i64 y3]]) := (ve57_0 N (spec_l1Byte_g0 N) a0 a1 a2 a3 K).trans (t_spec_l1Below_g0 N a0 a1 a2 a3 (fun y0 y1 y2 y3 => K (.v (.one (.int .i64 y0))) [.pcells 0 96 [.sl 5 (.ints .u8 y1), .int .i64 y2, .int .i64 y3]])).symm
theorem o57 {β : Type} (N : Nat) : GOK (β := β) Try.prog 57 (S57 N) := by
  refine g_of lay_ok mixed (E := E57 N) (specs_loops specs_nil) muts_nil (gs_cons (o109 N) gs_nil) Try.func57 (by kernel_rfl) 0 (by kernel_rfl) trivial fun args bl K r h => ?_
  unfold S57 VS57 at h
  split at h
  · exact (e57_0 N _ _ _ _ _).trans h
  · cases h
def VS138 {β : Type} (N : Nat) (q_spec_l2Variable : (a0 : Int) → (a1 : Int) → (k : Int → Option β) → Option β) : Rv.Spec β := fun args K => match args with
  | [.v (.one (.int .i64 a0)), .v (.one (.int .i64 a1))] => q_spec_l2Variable a0 a1 (fun z2 => K (.v (.one (.int .i64 z2))))
  | _ => none
def S138 {β : Type} (N : Nat) : Rv.Spec β := VS138 N (spec_l2Variable N)
def h138_0_0  (v0 : Int) (v1 : Int) (v2 : Int) (v3 : Int) : St := ⟨.v (.one (.int .i64 v0)) :: .v (.one (.int .i64 v1)) :: .v (.one .und) :: .v (.one .und) :: .v (.one .und) :: .v (.one (.int .i64 v2)) :: .v (.one (.int .i64 v3)) :: .v (.one .und) :: .v (.one .und) :: .v (.one .und) :: .v (.one .und) :: .v (.one .und) :: .v (.one .und) :: .v (.one .und) :: .v (.one .und) :: .v (.one .und) :: .v (.one .und) :: .v (.one .und) :: .v (.one .und) :: .v (.one .und) :: .v (.one .und) :: .v (.one .und) :: .v (.one .und) :: [], []⟩
def x138_0_0_k0  (y0 : Int) : St := ⟨.v (.one .und) :: .v (.one .und) :: .v (.one .und) :: .v (.one .und) :: .v (.one .und) :: .v (.one (.int .i64 y0)) :: .v (.one .und) :: .v (.one .und) :: .v (.one .und) :: .v (.one .und) :: .v (.one .und) :: .v (.one .und) :: .v (.one .und) :: .v (.one .und) :: .v (.one .und) :: .v (.one .und) :: .v (.one .und) :: .v (.one .und) :: .v (.one .und) :: .v (.one .und) :: .v (.one .und) :: .v (.one .und) :: .v (.one .und) :: [], []⟩
theorem fl138_0_0 (s : St) : refSt (h138_0_0 0 0 0 0) s = h138_0_0 (intS (oneA (vT (nx tund s.tmps 0)))) (intS (oneA (vT (nx tund s.tmps 1)))) (intS (oneA (vT (nx tund s.tmps 5)))) (intS (oneA (vT (nx tund s.tmps 6)))) := by kernel_rfl
def VLS138_0 {β : Type} (N : Nat) (q_spec_l2Variable_l0 : Nat → Int → Int → Int → Int → (Int → Option β) → Option β) : LSpec β := fun s K => cond (shpSt (h138_0_0 0 0 0 0) s) ((fun (v0 : Int) (v1 : Int) (v2 : Int) (v3 : Int) => q_spec_l2Variable_l0  N v0 v1 v2 v3 (fun y0 => K (.exit 0) (x138_0_0_k0  y0))) (intS (oneA (vT (nx tund s.tmps 0)))) (intS (oneA (vT (nx tund s.tmps 1)))) (intS (oneA (vT (nx tund s.tmps 5)))) (intS (oneA (vT (nx tund s.tmps 6))))) (none)
def LS138_0 {β : Type} (N : Nat) : LSpec β := VLS138_0 N (spec_l2Variable_l0 N)
def VE138 {β : Type} (N : Nat) (q_spec_l2Variable_l0 : Nat → Int → Int → Int → Int → (Int → Option β) → Option β) : Env β := ⟨[], [], [(0, VLS138_0 N q_spec_l2Variable_l0)], []⟩
def E138 {β : Type} (N : Nat) : Env β := VE138 N (spec_l2Variable_l0 N)
def BV_spec_l2Variable_l0b {β : Type} (N : Nat)  (v0 : Int) (v1 : Int) (v2 : Int) (v3 : Int) (rec_ : Int → Int → Int → Int → Option β) (k0 : Int → Option β) : Option β :=
(gd ((decide (0 ≤ v0)))
((cond ((decide (v3 < (shlI .i64 1 v0))))
((gd ((decide (0 ≤ v1)))
((cond (((bits .and .i64 (shrI .i64 v3 v1) 1) == 1))
((gd ((decide (0 ≤ v3)))
(rec_ v0 v1 ((bits .or .i64 v2 (shlI .i64 1 v3))) ((w64 (v3 + 1))))))
(rec_ v0 v1 v2 ((w64 (v3 + 1))))))))
(k0 v2))))
theorem t_spec_l2Variable_l0b {β : Type} (N : Nat)  (v0 : Int) (v1 : Int) (v2 : Int) (v3 : Int) (rec_ : Int → Int → Int → Int → Option β) (k0 : Int → Option β) : spec_l2Variable_l0b N v0 v1 v2 v3 rec_ k0 = BV_spec_l2Variable_l0b N v0 v1 v2 v3 rec_ k0 := by
  unfold spec_l2Variable_l0b BV_spec_l2Variable_l0b
  rfl
theorem vst138_0_0 {β : Type} (N : Nat) (q_spec_l2Variable_l0 : Nat → Int → Int → Int → Int → (Int → Option β) → Option β)  (v0 : Int) (v1 : Int) (v2 : Int) (v3 : Int) (rec_ : St → Option β) (K : Exit → St → Option β) :
    ev lay (VE138 N q_spec_l2Variable_l0) (retMask Try.f138) (lp Try.f138 0).body (lp Try.f138 0).ex ((lp Try.f138 0).lv (retMask Try.f138)) (h138_0_0  v0 v1 v2 v3) (nextR (fun s' => rec_ (s'.tidy ((lp Try.f138 0).lv (retMask Try.f138)))) K) = BV_spec_l2Variable_l0b N  v0 v1 v2 v3 (fun v0 v1 v2 v3 => rec_ (h138_0_0  v0 v1 v2 v3)) (fun y0 => K (.exit 0) (x138_0_0_k0  y0)) := by kernel_rfl
theorem st138_0_0 {β : Type} (N : Nat)  (v0 : Int) (v1 : Int) (v2 : Int) (v3 : Int) (rec_ : St → Option β) (K : Exit → St → Option β) :
    ev lay (E138 N) (retMask Try.f138) (lp Try.f138 0).body (lp Try.f138 0).ex ((lp Try.f138 0).lv (retMask Try.f138)) (h138_0_0  v0 v1 v2 v3) (nextR (fun s' => rec_ (s'.tidy ((lp Try.f138 0).lv (retMask Try.f138)))) K) = spec_l2Variable_l0b N  v0 v1 v2 v3 (fun v0 v1 v2 v3 => rec_ (h138_0_0  v0 v1 v2 v3)) (fun y0 => K (.exit 0) (x138_0_0_k0  y0)) := (vst138_0_0 N (spec_l2Variable_l0 N) v0 v1 v2 v3 rec_ K).trans (t_spec_l2Variable_l0b N  v0 v1 v2 v3 (fun v0 v1 v2 v3 => rec_ (h138_0_0  v0 v1 v2 v3)) (fun y0 => K (.exit 0) (x138_0_0_k0  y0))).symm
theorem ro138_0_0 {β : Type} (N : Nat)  (K : Exit → St → Option β) : ∀ (F : Nat) (v0 : Int) (v1 : Int) (v2 : Int) (v3 : Int), (lp Try.f138 0).rounds lay (E138 N) (retMask Try.f138) F (h138_0_0  v0 v1 v2 v3) K = spec_l2Variable_l0 N  F v0 v1 v2 v3 (fun y0 => K (.exit 0) (x138_0_0_k0  y0)) := by
  intro F
  induction F with
  | zero => intros; rfl
  | succ F ih =>
    intros
    rw [rounds_next]
    refine (st138_0_0 N  _ _ _ _ (fun s => (lp Try.f138 0).rounds lay (E138 N) (retMask Try.f138) F s K) K).trans ?_
    simp only [ih]
    rfl
theorem lk138_0 {β : Type} (N : Nat) : lookL (E138 (β := β) N).loops (lp Try.f138 0).id = LS138_0 N := by kernel_rfl
theorem rk138_0 {β : Type} (N : Nat) : RoundsOK lay (E138 (β := β) N) (retMask Try.f138) (lp Try.f138 0) := by
  intro s K r h
  rw [lk138_0] at h
  unfold LS138_0 VLS138_0 at h
  cases hb : shpSt (h138_0_0 0 0 0 0) s with
  | true =>
    rw [hb, cond_true] at h
    exact ⟨N, by rw [← shpSt_ref hb, fl138_0_0 s]; exact (ro138_0_0 N  K N (intS (oneA (vT (nx tund s.tmps 0)))) (intS (oneA (vT (nx tund s.tmps 1)))) (intS (oneA (vT (nx tund s.tmps 5)))) (intS (oneA (vT (nx tund s.tmps 6))))).trans h⟩
  | false =>
  rw [hb, cond_false] at h
  clear hb
  cases h
def BV_spec_l2Variable {β : Type} (N : Nat) (q_spec_l2Variable_l0 : Nat → Int → Int → Int → Int → (Int → Option β) → Option β) (a0 : Int) (a1 : Int) (k : Int → Option β) : Option β :=
q_spec_l2Variable_l0  N a0 a1 0 0 (fun e3_0 =>
k e3_0)
theorem t_spec_l2Variable {β : Type} (N : Nat) (a0 : Int) (a1 : Int) (k : Int → Option β) : spec_l2Variable N a0 a1 k = BV_spec_l2Variable N (spec_l2Variable_l0 N) a0 a1 k := by
  unfold spec_l2Variable BV_spec_l2Variable
  rfl
theorem ve138_0 {β : Type} (N : Nat) (q_spec_l2Variable_l0 : Nat → Int → Int → Int → Int → (Int → Option β) → Option β)  (a0 : Int) (a1 : Int) (K : TV → Option β) : evFn lay (VE138 N q_spec_l2Variable_l0) Try.f138 [.v (.one (.int .i64 a0)), .v (.one (.int .i64 a1))] K = BV_spec_l2Variable N q_spec_l2Variable_l0 a0 a1 (fun z2 => K (.v (.one (.int .i64 z2)))) := by kernel_rfl
theorem e138_0 {β : Type} (N : Nat)  (a0 : Int) (a1 : Int) (K : TV → Option β) : evFn lay (E138 N) Try.f138 [.v (.one (.int .i64 a0)), .v (.one (.int .i64 a1))] K = spec_l2Variable N a0 a1 (fun z2 => K (.v (.one (.int .i64 z2)))) := (ve138_0 N (spec_l2Variable_l0 N) a0 a1 K).trans (t_spec_l2Variable N a0 a1 (fun z2 => K (.v (.one (.int .i64 z2))))).symm
theorem o138 {β : Type} (N : Nat) : SpecOK (β := β) Try.prog 138 (S138 N) := by
  refine spec_of lay_ok mixed (E := E138 N) (specs_loops specs_nil) muts_nil gs_nil Try.func138 (by kernel_rfl) 1 (by kernel_rfl) ⟨trivial, rk138_0 N⟩ fun args K r h => ?_
  unfold S138 VS138 at h
  split at h
  · exact (e138_0 N _ _ _).trans h
  · cases h
def VS84 {β : Type} (N : Nat) (q_spec_l2Full : (a0 : Int) → (k : Int → Option β) → Option β) : Rv.Spec β := fun args K => match args with
  | [.v (.one (.int .i64 a0))] => q_spec_l2Full a0 (fun z1 => K (.v (.one (.int .i64 z1))))
  | _ => none
def S84 {β : Type} (N : Nat) : Rv.Spec β := VS84 N (spec_l2Full N)
def VE84 {β : Type} (N : Nat) : Env β := ⟨[], [], [], []⟩
def E84 {β : Type} (N : Nat) : Env β := VE84 N
def BV_spec_l2Full {β : Type} (N : Nat) (a0 : Int) (k : Int → Option β) : Option β :=
(gd ((decide (0 ≤ a0)))
((gd ((decide (0 ≤ (shlI .u64 1 a0))))
(k ((w64 ((shlI .i64 1 (shlI .u64 1 a0)) - 1)))))))
theorem t_spec_l2Full {β : Type} (N : Nat) (a0 : Int) (k : Int → Option β) : spec_l2Full N a0 k = BV_spec_l2Full N a0 k := by
  unfold spec_l2Full BV_spec_l2Full
  rfl
theorem ve84_0 {β : Type} (N : Nat)  (a0 : Int) (K : TV → Option β) : evFn lay (VE84 N) Try.f84 [.v (.one (.int .i64 a0))] K = BV_spec_l2Full N a0 (fun z1 => K (.v (.one (.int .i64 z1)))) := by kernel_rfl
theorem e84_0 {β : Type} (N : Nat)  (a0 : Int) (K : TV → Option β) : evFn lay (E84 N) Try.f84 [.v (.one (.int .i64 a0))] K = spec_l2Full N a0 (fun z1 => K (.v (.one (.int .i64 z1)))) := (ve84_0 N a0 K).trans (t_spec_l2Full N a0 (fun z1 => K (.v (.one (.int .i64 z1))))).symm
theorem o84 {β : Type} (N : Nat) : SpecOK (β := β) Try.prog 84 (S84 N) := by
  refine spec_of lay_ok mixed (E := E84 N) (specs_loops specs_nil) muts_nil gs_nil Try.func84 (by kernel_rfl) 0 (by kernel_rfl) trivial fun args K r h => ?_
  unfold S84 VS84 at h
  split at h
  · exact (e84_0 N _ _).trans h
  · cases h
end Go.Proofs.Ytdkjnadhgdneaaa
