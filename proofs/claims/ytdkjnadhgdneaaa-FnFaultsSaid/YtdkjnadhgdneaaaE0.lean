/- The functions that the claims reach answer as their texts do. -/
import Derived.Test.YtdkjnadhgdneaaaT0
import Derived.Test.YtdkjnadhgdneaaaProg
import Derived.KernelRfl
namespace Go.Proofs.Ytdkjnadhgdneaaa
open Go.Rv
set_option maxRecDepth 100000
set_option maxHeartbeats 2000000
set_option linter.unusedVariables false
def lay : Lay := [(2, .int .i64),
  (3, .int .i64),
  (4, .bool),
  (5, .int .u8),
  (9, .string),
  (12, .int .u64),
  (21, .int .i32),
  (22, .slice 5),
  (24, .struct [⟨0, 1, false⟩, ⟨1, 1, false⟩] [3, 3] 16 true),
  (25, .struct [⟨0, 1, false⟩, ⟨1, 1, false⟩] [3, 3] 16 true),
  (26, .slice 3),
  (27, .struct [⟨0, 2, true⟩, ⟨2, 1, false⟩, ⟨3, 1, false⟩] [3, 3, 3, 26] 48 false),
  (28, .struct [⟨0, 2, true⟩, ⟨2, 1, false⟩, ⟨3, 1, false⟩] [3, 3, 3, 26] 48 false),
  (62, .struct [⟨0, 1, false⟩, ⟨1, 1, false⟩] [3, 3] 16 true),
  (69, .pointer 96),
  (95, .struct [⟨0, 1, false⟩, ⟨1, 1, false⟩, ⟨2, 1, false⟩] [22, 3, 3] 40 false),
  (96, .struct [⟨0, 1, false⟩, ⟨1, 1, false⟩, ⟨2, 1, false⟩] [22, 3, 3] 40 false),
  (100, .int .u64),
  (102, .int .u64),
  (108, .pointer 117),
  (111, .struct [⟨0, 1, false⟩, ⟨1, 1, false⟩] [3, 3] 16 true),
  (112, .struct [⟨0, 1, false⟩, ⟨1, 1, false⟩] [3, 3] 16 true),
  (115, .map 112 3),
  (116, .struct [⟨0, 2, true⟩, ⟨2, 1, false⟩, ⟨3, 1, false⟩] [3, 3, 115, 115] 32 false),
  (117, .struct [⟨0, 2, true⟩, ⟨2, 1, false⟩, ⟨3, 1, false⟩] [3, 3, 115, 115] 32 false),
  (120, .array 2 4),
  (127, .int .u32),
  (131, .pointer 5)]

theorem lay_ok : LayOK Try.prog lay := layOK_of (by decide +kernel)
theorem mixed : Try.prog.follows .mixedOrders = true := by kernel_rfl
def VS8 {β : Type} (N : Nat) (q_laws_big : (a0 : List Int) → (k : Bool → Option β) → Option β) : Rv.Spec β := fun args K => match args with
  | [.v (.one (.sl 5 (.ints .u8 a0)))] => q_laws_big a0 (fun z1 => K (.v (.one (.bool z1))))
  | _ => none
def S8 {β : Type} (N : Nat) : Rv.Spec β := VS8 N (laws_big N)
def VE8 {β : Type} (N : Nat) : Env β := ⟨[], [], [], []⟩
def E8 {β : Type} (N : Nat) : Env β := VE8 N
def BV_laws_big {β : Type} (N : Nat) (a0 : List Int) (k : Bool → Option β) : Option β :=
k ((decide ((a0.length : Int) > 1048576)))
theorem t_laws_big {β : Type} (N : Nat) (a0 : List Int) (k : Bool → Option β) : laws_big N a0 k = BV_laws_big N a0 k := by
  unfold laws_big BV_laws_big
  rfl
theorem ve8_0 {β : Type} (N : Nat)  (a0 : List Int) (K : TV → Option β) : evFn lay (VE8 N) Try.f8 [.v (.one (.sl 5 (.ints .u8 a0)))] K = BV_laws_big N a0 (fun z1 => K (.v (.one (.bool z1)))) := by kernel_rfl
theorem e8_0 {β : Type} (N : Nat)  (a0 : List Int) (K : TV → Option β) : evFn lay (E8 N) Try.f8 [.v (.one (.sl 5 (.ints .u8 a0)))] K = laws_big N a0 (fun z1 => K (.v (.one (.bool z1)))) := (ve8_0 N a0 K).trans (t_laws_big N a0 (fun z1 => K (.v (.one (.bool z1))))).symm
theorem o8 {β : Type} (N : Nat) : SpecOK (β := β) Try.prog 8 (S8 N) := by
  refine spec_of lay_ok mixed (E := E8 N) (specs_loops specs_nil) muts_nil gs_nil Try.func8 (by kernel_rfl) 0 (by kernel_rfl) trivial fun args K r h => ?_
  unfold S8 VS8 at h
  split at h
  · exact (e8_0 N _ _).trans h
  · cases h
def VS55 {β : Type} (N : Nat) (q_spec_l1New_g0 : (a0 : List Int) → (k0 : List Int → Int → Int → Option β) → Option β) : GSpec β := fun args bl K => match args, bl with
  | [.v (.one (.sl 5 (.ints .u8 a0)))], [] => q_spec_l1New_g0 a0 (fun y0 y1 y2 => K (.v (.one (.ptr 0 0))) [.cells 96 [.sl 5 (.ints .u8 y0), .int .i64 y1, .int .i64 y2]])
  | _, _ => none
def S55 {β : Type} (N : Nat) : GSpec β := VS55 N (spec_l1New_g0 N)
def h55_0_0  (v0 : List Int) (v1 : Int) (v2 : Int) : St := ⟨.v (.one (.sl 5 (.ints .u8 v0))) :: .v (.one .und) :: .v (.one .und) :: .v (.one (.int .i64 v1)) :: .v (.one (.int .i64 v2)) :: .v (.one .und) :: .v (.one .und) :: .v (.one .und) :: .v (.one .und) :: .v (.one .und) :: .v (.one .und) :: .v (.one .und) :: .v (.one .und) :: .v (.one .und) :: .v (.one .und) :: .v (.one .und) :: .v (.one .und) :: .v (.one .und) :: .v (.one .und) :: .v (.one .und) :: .v (.one .und) :: .v (.one .und) :: .v (.one .und) :: .v (.one .und) :: .v (.one .und) :: .v (.one .und) :: .v (.one .und) :: .v (.one .und) :: .v (.one .und) :: .v (.one .und) :: .v (.one .und) :: .v (.one .und) :: [], []⟩
def x55_0_0_k0  (y0 : List Int) (y1 : Int) : St := ⟨.v (.one (.sl 5 (.ints .u8 y0))) :: .v (.one .und) :: .v (.one .und) :: .v (.one (.int .i64 y1)) :: .v (.one .und) :: .v (.one .und) :: .v (.one .und) :: .v (.one .und) :: .v (.one .und) :: .v (.one .und) :: .v (.one .und) :: .v (.one .und) :: .v (.one .und) :: .v (.one .und) :: .v (.one .und) :: .v (.one .und) :: .v (.one .und) :: .v (.one .und) :: .v (.one .und) :: .v (.one .und) :: .v (.one .und) :: .v (.one .und) :: .v (.one .und) :: .v (.one .und) :: .v (.one .und) :: .v (.one .und) :: .v (.one .und) :: .v (.one .und) :: .v (.one .und) :: .v (.one .und) :: .v (.one .und) :: .v (.one .und) :: [], []⟩
theorem fl55_0_0 (s : St) : refSt (h55_0_0 [] 0 0) s = h55_0_0 (rInts (rowV (oneA (vT (nx tund s.tmps 0))))) (intS (oneA (vT (nx tund s.tmps 3)))) (intS (oneA (vT (nx tund s.tmps 4)))) := by kernel_rfl
def VLS55_0 {β : Type} (N : Nat) (q_spec_l1New_l0 : Nat → List Int → Int → Int → (List Int → Int → Option β) → Option β) : LSpec β := fun s K => cond (shpSt (h55_0_0 [] 0 0) s) ((fun (v0 : List Int) (v1 : Int) (v2 : Int) => q_spec_l1New_l0  N v0 v1 v2 (fun y0 y1 => K (.exit 0) (x55_0_0_k0  y0 y1))) (rInts (rowV (oneA (vT (nx tund s.tmps 0))))) (intS (oneA (vT (nx tund s.tmps 3)))) (intS (oneA (vT (nx tund s.tmps 4))))) (none)
def LS55_0 {β : Type} (N : Nat) : LSpec β := VLS55_0 N (spec_l1New_l0 N)
def VE55 {β : Type} (N : Nat) (q_spec_l1New_l0 : Nat → List Int → Int → Int → (List Int → Int → Option β) → Option β) : Env β := ⟨[], [], [(0, VLS55_0 N q_spec_l1New_l0)], []⟩
def E55 {β : Type} (N : Nat) : Env β := VE55 N (spec_l1New_l0 N)
def BV_spec_l1New_l0b {β : Type} (N : Nat)  (v0 : List Int) (v1 : Int) (v2 : Int) (rec_ : List Int → Int → Int → Option β) (k0 : List Int → Int → Option β) : Option β :=
(cond ((decide (v2 < (v0.length : Int))))
((cond ((decide (v2 < 4000)))
((gd ((decide (0 ≤ v2)))
((gd ((decide (v2 < (v0.length : Int))))
(rec_ v0 ((bits .and .i64 (w64 ((w64 ((w64 (v1 * 131)) + (w64 ((rd 0 v0 v2))))) + 7)) 1073741823)) ((w64 (v2 + 1))))))))
(k0 v0 v1)))
(k0 v0 v1))
theorem t_spec_l1New_l0b {β : Type} (N : Nat)  (v0 : List Int) (v1 : Int) (v2 : Int) (rec_ : List Int → Int → Int → Option β) (k0 : List Int → Int → Option β) : spec_l1New_l0b N v0 v1 v2 rec_ k0 = BV_spec_l1New_l0b N v0 v1 v2 rec_ k0 := by
  unfold spec_l1New_l0b BV_spec_l1New_l0b
  rfl
theorem vst55_0_0 {β : Type} (N : Nat) (q_spec_l1New_l0 : Nat → List Int → Int → Int → (List Int → Int → Option β) → Option β)  (v0 : List Int) (v1 : Int) (v2 : Int) (rec_ : St → Option β) (K : Exit → St → Option β) :
    ev lay (VE55 N q_spec_l1New_l0) (retMask Try.f55) (lp Try.f55 0).body (lp Try.f55 0).ex ((lp Try.f55 0).lv (retMask Try.f55)) (h55_0_0  v0 v1 v2) (nextR (fun s' => rec_ (s'.tidy ((lp Try.f55 0).lv (retMask Try.f55)))) K) = BV_spec_l1New_l0b N  v0 v1 v2 (fun v0 v1 v2 => rec_ (h55_0_0  v0 v1 v2)) (fun y0 y1 => K (.exit 0) (x55_0_0_k0  y0 y1)) := by kernel_rfl
theorem st55_0_0 {β : Type} (N : Nat)  (v0 : List Int) (v1 : Int) (v2 : Int) (rec_ : St → Option β) (K : Exit → St → Option β) :
    ev lay (E55 N) (retMask Try.f55) (lp Try.f55 0).body (lp Try.f55 0).ex ((lp Try.f55 0).lv (retMask Try.f55)) (h55_0_0  v0 v1 v2) (nextR (fun s' => rec_ (s'.tidy ((lp Try.f55 0).lv (retMask Try.f55)))) K) = spec_l1New_l0b N  v0 v1 v2 (fun v0 v1 v2 => rec_ (h55_0_0  v0 v1 v2)) (fun y0 y1 => K (.exit 0) (x55_0_0_k0  y0 y1)) := (vst55_0_0 N (spec_l1New_l0 N) v0 v1 v2 rec_ K).trans (t_spec_l1New_l0b N  v0 v1 v2 (fun v0 v1 v2 => rec_ (h55_0_0  v0 v1 v2)) (fun y0 y1 => K (.exit 0) (x55_0_0_k0  y0 y1))).symm
theorem ro55_0_0 {β : Type} (N : Nat)  (K : Exit → St → Option β) : ∀ (F : Nat) (v0 : List Int) (v1 : Int) (v2 : Int), (lp Try.f55 0).rounds lay (E55 N) (retMask Try.f55) F (h55_0_0  v0 v1 v2) K = spec_l1New_l0 N  F v0 v1 v2 (fun y0 y1 => K (.exit 0) (x55_0_0_k0  y0 y1)) := by
  intro F
  induction F with
  | zero => intros; rfl
  | succ F ih =>
    intros
    rw [rounds_next]
    refine (st55_0_0 N  _ _ _ (fun s => (lp Try.f55 0).rounds lay (E55 N) (retMask Try.f55) F s K) K).trans ?_
    simp only [ih]
    rfl
theorem lk55_0 {β : Type} (N : Nat) : lookL (E55 (β := β) N).loops (lp Try.f55 0).id = LS55_0 N := by kernel_rfl
theorem rk55_0 {β : Type} (N : Nat) : RoundsOK lay (E55 (β := β) N) (retMask Try.f55) (lp Try.f55 0) := by
  intro s K r h
  rw [lk55_0] at h
  unfold LS55_0 VLS55_0 at h
  cases hb : shpSt (h55_0_0 [] 0 0) s with
  | true =>
    rw [hb, cond_true] at h
    exact ⟨N, by rw [← shpSt_ref hb, fl55_0_0 s]; exact (ro55_0_0 N  K N (rInts (rowV (oneA (vT (nx tund s.tmps 0))))) (intS (oneA (vT (nx tund s.tmps 3)))) (intS (oneA (vT (nx tund s.tmps 4))))).trans h⟩
  | false =>
  rw [hb, cond_false] at h
  clear hb
  cases h
def BV_spec_l1New_g0 {β : Type} (N : Nat) (q_spec_l1New_l0 : Nat → List Int → Int → Int → (List Int → Int → Option β) → Option β) (a0 : List Int) (k0 : List Int → Int → Int → Option β) : Option β :=
q_spec_l1New_l0  N a0 ((w64 (10101 + (a0.length : Int)))) 0 (fun e4_0 e4_1 =>
k0 e4_0 0 e4_1)
theorem t_spec_l1New_g0 {β : Type} (N : Nat) (a0 : List Int) (k0 : List Int → Int → Int → Option β) : spec_l1New_g0 N a0 k0 = BV_spec_l1New_g0 N (spec_l1New_l0 N) a0 k0 := by
  unfold spec_l1New_g0 BV_spec_l1New_g0
  rfl
theorem ve55_0 {β : Type} (N : Nat) (q_spec_l1New_l0 : Nat → List Int → Int → Int → (List Int → Int → Option β) → Option β) (a0 : List Int) (K : TV → List Blk → Option β) : evFnG lay (VE55 N q_spec_l1New_l0) Try.f55 [.v (.one (.sl 5 (.ints .u8 a0)))] [] K = BV_spec_l1New_g0 N q_spec_l1New_l0 a0 (fun y0 y1 y2 => K (.v (.one (.ptr 0 0))) [.cells 96 [.sl 5 (.ints .u8 y0), .int .i64 y1, .int .i64 y2]]) := by kernel_rfl
theorem e55_0 {β : Type} (N : Nat) (a0 : List Int) (K : TV → List Blk → Option β) : evFnG lay (E55 N) Try.f55 [.v (.one (.sl 5 (.ints .u8 a0)))] [] K = spec_l1New_g0 N a0 (fun y0 y1 y2 => K (.v (.one (.ptr 0 0))) [.cells 96 [.sl 5 (.ints .u8 y0), .int .i64 y1, .int .i64 y2]]) := (ve55_0 N (spec_l1New_l0 N) a0 K).trans (t_spec_l1New_g0 N a0 (fun y0 y1 y2 => K (.v (.one (.ptr 0 0))) [.cells 96 [.sl 5 (.ints .u8 y0), .int .i64 y1, .int .i64 y2]])).symm
theorem o55 {β : Type} (N : Nat) : GOK (β := β) Try.prog 55 (S55 N) := by
  refine g_of lay_ok mixed (E := E55 N) (specs_loops specs_nil) muts_nil gs_nil Try.func55 (by kernel_rfl) 1 (by kernel_rfl) ⟨trivial, rk55_0 N⟩ fun args bl K r h => ?_
  unfold S55 VS55 at h
  split at h
  · exact (e55_0 N _ _).trans h
  · cases h
def VS109 {β : Type} (N : Nat) (q_spec_l1Byte_g0 : (a0 : List Int) → (a1 : Int) → (a2 : Int) → (k0 : Int → List Int → Int → Int → Option β) → Option β) : GSpec β := fun args bl K => match args, bl with
  | [.v (.one (.ptr 0 0))], [.pcells 0 96 [.sl 5 (.ints .u8 a0), .int .i64 a1, .int .i64 a2]] => q_spec_l1Byte_g0 a0 a1 a2 (fun y0 y1 y2 y3 => K (.v (.one (.int .i64 y0))) [.pcells 0 96 [.sl 5 (.ints .u8 y1), .int .i64 y2, .int .i64 y3]])
  | _, _ => none
def S109 {β : Type} (N : Nat) : GSpec β := VS109 N (spec_l1Byte_g0 N)
def VE109 {β : Type} (N : Nat) : Env β := ⟨[], [], [], []⟩
def E109 {β : Type} (N : Nat) : Env β := VE109 N
def BV_spec_l1Byte_g0 {β : Type} (N : Nat) (a0 : List Int) (a1 : Int) (a2 : Int) (k0 : Int → List Int → Int → Int → Option β) : Option β :=
(cond ((decide (a1 < (a0.length : Int))))
((gd ((decide (0 ≤ a1)))
((gd ((decide (a1 < (a0.length : Int))))
(k0 ((bits .and .i64 (w64 ((bits .and .i64 (bits .xor .i64 (shrI .i64 (w64 ((w64 (a2 * 6364136223846793005)) + 1442695040888963407)) 33) (shrI .i64 (w64 ((w64 (a2 * 6364136223846793005)) + 1442695040888963407)) 45)) 255) + (w64 ((rd 0 a0 a1))))) 255)) a0 ((w64 (a1 + 1))) ((w64 ((w64 (a2 * 6364136223846793005)) + 1442695040888963407))))))))
(k0 ((bits .and .i64 (bits .xor .i64 (shrI .i64 (w64 ((w64 (a2 * 6364136223846793005)) + 1442695040888963407)) 33) (shrI .i64 (w64 ((w64 (a2 * 6364136223846793005)) + 1442695040888963407)) 45)) 255)) a0 a1 ((w64 ((w64 (a2 * 6364136223846793005)) + 1442695040888963407)))))
theorem t_spec_l1Byte_g0 {β : Type} (N : Nat) (a0 : List Int) (a1 : Int) (a2 : Int) (k0 : Int → List Int → Int → Int → Option β) : spec_l1Byte_g0 N a0 a1 a2 k0 = BV_spec_l1Byte_g0 N a0 a1 a2 k0 := by
  unfold spec_l1Byte_g0 BV_spec_l1Byte_g0
  rfl
theorem ve109_0 {β : Type} (N : Nat) (a0 : List Int) (a1 : Int) (a2 : Int) (K : TV → List Blk → Option β) : evFnG lay (VE109 N) Try.f109 [.v (.one (.ptr 0 0))] [.pcells 0 96 [.sl 5 (.ints .u8 a0), .int .i64 a1, .int .i64 a2]] K = BV_spec_l1Byte_g0 N a0 a1 a2 (fun y0 y1 y2 y3 => K (.v (.one (.int .i64 y0))) [.pcells 0 96 [.sl 5 (.ints .u8 y1), .int .i64 y2, .int .i64 y3]]) := by kernel_rfl
theorem e109_0 {β : Type} (N : Nat) (a0 : List Int) (a1 : Int) (a2 : Int) (K : TV → List Blk → Option β) : evFnG lay (E109 N) Try.f109 [.v (.one (.ptr 0 0))] [.pcells 0 96 [.sl 5 (.ints .u8 a0), .int .i64 a1, .int .i64 a2]] K = spec_l1Byte_g0 N a0 a1 a2 (fun y0 y1 y2 y3 => K (.v (.one (.int .i64 y0))) [.pcells 0 96 [.sl 5 (.ints .u8 y1), .int .i64 y2, .int .i64 y3]]) := (ve109_0 N a0 a1 a2 K).trans (t_spec_l1Byte_g0 N a0 a1 a2 (fun y0 y1 y2 y3 => K (.v (.one (.int .i64 y0))) [.pcells 0 96 [.sl 5 (.ints .u8 y1), .int .i64 y2, .int .i64 y3]])).symm
theorem o109 {β : Type} (N : Nat) : GOK (β := β) Try.prog 109 (S109 N) := by
  refine g_of lay_ok mixed (E := E109 N) (specs_loops specs_nil) muts_nil gs_nil Try.func109 (by kernel_rfl) 0 (by kernel_rfl) trivial fun args bl K r h => ?_
  unfold S109 VS109 at h
  split at h
  · exact (e109_0 N _ _ _ _).trans h
  · cases h
def VS57 {β : Type} (N : Nat) (q_spec_l1Below_g0 : (a0 : Int) → (a1 : List Int) → (a2 : Int) → (a3 : Int) → (k0 : Int → List Int → Int → Int → Option β) → Option β) : GSpec β := fun args bl K => match args, bl with
  | [.v (.one (.ptr 0 0)), .v (.one (.int .i64 a0))], [.pcells 0 96 [.sl 5 (.ints .u8 a1), .int .i64 a2, .int .i64 a3]] => q_spec_l1Below_g0 a0 a1 a2 a3 (fun y0 y1 y2 y3 => K (.v (.one (.int .i64 y0))) [.pcells 0 96 [.sl 5 (.ints .u8 y1), .int .i64 y2, .int .i64 y3]])
  | _, _ => none
def S57 {β : Type} (N : Nat) : GSpec β := VS57 N (spec_l1Below_g0 N)
def VE57 {β : Type} (N : Nat) (q_spec_l1Byte_g0 : (a0 : List Int) → (a1 : Int) → (a2 : Int) → (k0 : Int → List Int → Int → Int → Option β) → Option β) : Env β := ⟨[], [], [], [(109, VS109 N q_spec_l1Byte_g0)]⟩
def E57 {β : Type} (N : Nat) : Env β := VE57 N (spec_l1Byte_g0 N)
def BV_spec_l1Below_g0 {β : Type} (N : Nat) (q_spec_l1Byte_g0 : (a0 : List Int) → (a1 : Int) → (a2 : Int) → (k0 : Int → List Int → Int → Int → Option β) → Option β) (a0 : Int) (a1 : List Int) (a2 : Int) (a3 : Int) (k0 : Int → List Int → Int → Int → Option β) : Option β :=
(cond ((decide (a0 ≤ 0)))
(k0 0 a1 a2 a3)
((cond ((decide (a0 ≤ 256)))
(q_spec_l1Byte_g0 a1 a2 a3 (fun r6_0 r6_1 r6_2 r6_3 =>
(gd ((a0 != 0))
(k0 ((remI r6_0 a0)) r6_1 r6_2 r6_3))))
(q_spec_l1Byte_g0 a1 a2 a3 (fun r7_0 r7_1 r7_2 r7_3 =>
q_spec_l1Byte_g0 r7_1 r7_2 r7_3 (fun r8_0 r8_1 r8_2 r8_3 =>
q_spec_l1Byte_g0 r8_1 r8_2 r8_3 (fun r9_0 r9_1 r9_2 r9_3 =>
q_spec_l1Byte_g0 r9_1 r9_2 r9_3 (fun r10_0 r10_1 r10_2 r10_3 =>
(gd ((a0 != 0))
(k0 ((remI (w64 ((w64 ((w64 ((w64 (r7_0 * 16777216)) + (w64 (r8_0 * 65536)))) + (w64 (r9_0 * 256)))) + r10_0)) a0)) r10_1 r10_2 r10_3))))))))))
theorem t_spec_l1Below_g0 {β : Type} (N : Nat) (a0 : Int) (a1 : List Int) (a2 : Int) (a3 : Int) (k0 : Int → List Int → Int → Int → Option β) : spec_l1Below_g0 N a0 a1 a2 a3 k0 = BV_spec_l1Below_g0 N (spec_l1Byte_g0 N) a0 a1 a2 a3 k0 := by
  unfold spec_l1Below_g0 BV_spec_l1Below_g0
  rfl
theorem ve57_0 {β : Type} (N : Nat) (q_spec_l1Byte_g0 : (a0 : List Int) → (a1 : Int) → (a2 : Int) → (k0 : Int → List Int → Int → Int → Option β) → Option β) (a0 : Int) (a1 : List Int) (a2 : Int) (a3 : Int) (K : TV → List Blk → Option β) : evFnG lay (VE57 N q_spec_l1Byte_g0) Try.f57 [.v (.one (.ptr 0 0)), .v (.one (.int .i64 a0))] [.pcells 0 96 [.sl 5 (.ints .u8 a1), .int .i64 a2, .int .i64 a3]] K = BV_spec_l1Below_g0 N q_spec_l1Byte_g0 a0 a1 a2 a3 (fun y0 y1 y2 y3 => K (.v (.one (.int .i64 y0))) [.pcells 0 96 [.sl 5 (.ints .u8 y1), .int .i64 y2, .int .i64 y3]]) := by kernel_rfl
theorem e57_0 {β : Type} (N : Nat) (a0 : Int) (a1 : List Int) (a2 : Int) (a3 : Int) (K : TV → List Blk → Option β) : evFnG lay (E57 N) Try.f57 [.v (.one (.ptr 0 0)), .v (.one (.int .i64 a0))] [.pcells 0 96 [.sl 5 (.ints .u8 a1), .int .i64 a2, .int .i64 a3]] K = spec_l1Below_g0 N a0 a1 a2 a3 (fun y0 y1 y2 y3 => K (.v (.one (.int .i64 y0))) [.pcells 0 96 [.sl 5 (.ints .u8 y1), .int .i64 y2, .int .i64 y3]]) := (ve57_0 N (spec_l1Byte_g0 N) a0 a1 a2 a3 K).trans (t_spec_l1Below_g0 N a0 a1 a2 a3 (fun y0 y1 y2 y3 => K (.v (.one (.int .i64 y0))) [.pcells 0 96 [.sl 5 (.ints .u8 y1), .int .i64 y2, .int .i64 y3]])).symm
theorem o57 {β : Type} (N : Nat) : GOK (β := β) Try.prog 57 (S57 N) := by
  refine g_of lay_ok mixed (E := E57 N) (specs_loops specs_nil) muts_nil (gs_cons (o109 N) gs_nil) Try.func57 (by kernel_rfl) 0 (by kernel_rfl) trivial fun args bl K r h => ?_
  unfold S57 VS57 at h
  split at h
  · exact (e57_0 N _ _ _ _ _).trans h
  · cases h
def VS138 {β : Type} (N : Nat) (q_spec_l2Variable : (a0 : Int) → (a1 : Int) → (k : Int → Option β) → Option β) : Rv.Spec β := fun args K => match args with
  | [.v (.one (.int .i64 a0)), .v (.one (.int .i64 a1))] => q_spec_l2Variable a0 a1 (fun z2 => K (.v (.one (.int .i64 z2))))
  | _ => none
def S138 {β : Type} (N : Nat) : Rv.Spec β := VS138 N (spec_l2Variable N)
def h138_0_0  (v0 : Int) (v1 : Int) (v2 : Int) (v3 : Int) : St := ⟨.v (.one (.int .i64 v0)) :: .v (.one (.int .i64 v1)) :: .v (.one .und) :: .v (.one .und) :: .v (.one .und) :: .v (.one (.int .i64 v2)) :: .v (.one (.int .i64 v3)) :: .v (.one .und) :: .v (.one .und) :: .v (.one .und) :: .v (.one .und) :: .v (.one .und) :: .v (.one .und) :: .v (.one .und) :: .v (.one .und) :: .v (.one .und) :: .v (.one .und) :: .v (.one .und) :: .v (.one .und) :: .v (.one .und) :: .v (.one .und) :: .v (.one .und) :: .v (.one .und) :: [], []⟩
def x138_0_0_k0  (y0 : Int) : St := ⟨.v (.one .und) :: .v (.one .und) :: .v (.one .und) :: .v (.one .und) :: .v (.one .und) :: .v (.one (.int .i64 y0)) :: .v (.one .und) :: .v (.one .und) :: .v (.one .und) :: .v (.one .und) :: .v (.one .und) :: .v (.one .und) :: .v (.one .und) :: .v (.one .und) :: .v (.one .und) :: .v (.one .und) :: .v (.one .und) :: .v (.one .und) :: .v (.one .und) :: .v (.one .und) :: .v (.one .und) :: .v (.one .und) :: .v (.one .und) :: [], []⟩
theorem fl138_0_0 (s : St) : refSt (h138_0_0 0 0 0 0) s = h138_0_0 (intS (oneA (vT (nx tund s.tmps 0)))) (intS (oneA (vT (nx tund s.tmps 1)))) (intS (oneA (vT (nx tund s.tmps 5)))) (intS (oneA (vT (nx tund s.tmps 6)))) := by kernel_rfl
def VLS138_0 {β : Type} (N : Nat) (q_spec_l2Variable_l0 : Nat → Int → Int → Int → Int → (Int → Option β) → Option β) : LSpec β := fun s K => cond (shpSt (h138_0_0 0 0 0 0) s) ((fun (v0 : Int) (v1 : Int) (v2 : Int) (v3 : Int) => q_spec_l2Variable_l0  N v0 v1 v2 v3 (fun y0 => K (.exit 0) (x138_0_0_k0  y0))) (intS (oneA (vT (nx tund s.tmps 0)))) (intS (oneA (vT (nx tund s.tmps 1)))) (intS (oneA (vT (nx tund s.tmps 5)))) (intS (oneA (vT (nx tund s.tmps 6))))) (none)
def LS138_0 {β : Type} (N : Nat) : LSpec β := VLS138_0 N (spec_l2Variable_l0 N)
def VE138 {β : Type} (N : Nat) (q_spec_l2Variable_l0 : Nat → Int → Int → Int → Int → (Int → Option β) → Option β) : Env β := ⟨[], [], [(0, VLS138_0 N q_spec_l2Variable_l0)], []⟩
def E138 {β : Type} (N : Nat) : Env β := VE138 N (spec_l2Variable_l0 N)
def BV_spec_l2Variable_l0b {β : Type} (N : Nat)  (v0 : Int) (v1 : Int) (v2 : Int) (v3 : Int) (rec_ : Int → Int → Int → Int → Option β) (k0 : Int → Option β) : Option β :=
(gd ((decide (0 ≤ v0)))
((cond ((decide (v3 < (shlI .i64 1 v0))))
((gd ((decide (0 ≤ v1)))
((cond (((bits .and .i64 (shrI .i64 v3 v1) 1) == 1))
((gd ((decide (0 ≤ v3)))
(rec_ v0 v1 ((bits .or .i64 v2 (shlI .i64 1 v3))) ((w64 (v3 + 1))))))
(rec_ v0 v1 v2 ((w64 (v3 + 1))))))))
(k0 v2))))
theorem t_spec_l2Variable_l0b {β : Type} (N : Nat)  (v0 : Int) (v1 : Int) (v2 : Int) (v3 : Int) (rec_ : Int → Int → Int → Int → Option β) (k0 : Int → Option β) : spec_l2Variable_l0b N v0 v1 v2 v3 rec_ k0 = BV_spec_l2Variable_l0b N v0 v1 v2 v3 rec_ k0 := by
  unfold spec_l2Variable_l0b BV_spec_l2Variable_l0b
  rfl
theorem vst138_0_0 {β : Type} (N : Nat) (q_spec_l2Variable_l0 : Nat → Int → Int → Int → Int → (Int → Option β) → Option β)  (v0 : Int) (v1 : Int) (v2 : Int) (v3 : Int) (rec_ : St → Option β) (K : Exit → St → Option β) :
    ev lay (VE138 N q_spec_l2Variable_l0) (retMask Try.f138) (lp Try.f138 0).body (lp Try.f138 0).ex ((lp Try.f138 0).lv (retMask Try.f138)) (h138_0_0  v0 v1 v2 v3) (nextR (fun s' => rec_ (s'.tidy ((lp Try.f138 0).lv (retMask Try.f138)))) K) = BV_spec_l2Variable_l0b N  v0 v1 v2 v3 (fun v0 v1 v2 v3 => rec_ (h138_0_0  v0 v1 v2 v3)) (fun y0 => K (.exit 0) (x138_0_0_k0  y0)) := by kernel_rfl
theorem st138_0_0 {β : Type} (N : Nat)  (v0 : Int) (v1 : Int) (v2 : Int) (v3 : Int) (rec_ : St → Option β) (K : Exit → St → Option β) :
    ev lay (E138 N) (retMask Try.f138) (lp Try.f138 0).body (lp Try.f138 0).ex ((lp Try.f138 0).lv (retMask Try.f138)) (h138_0_0  v0 v1 v2 v3) (nextR (fun s' => rec_ (s'.tidy ((lp Try.f138 0).lv (retMask Try.f138)))) K) = spec_l2Variable_l0b N  v0 v1 v2 v3 (fun v0 v1 v2 v3 => rec_ (h138_0_0  v0 v1 v2 v3)) (fun y0 => K (.exit 0) (x138_0_0_k0  y0)) := (vst138_0_0 N (spec_l2Variable_l0 N) v0 v1 v2 v3 rec_ K).trans (t_spec_l2Variable_l0b N  v0 v1 v2 v3 (fun v0 v1 v2 v3 => rec_ (h138_0_0  v0 v1 v2 v3)) (fun y0 => K (.exit 0) (x138_0_0_k0  y0))).symm
theorem ro138_0_0 {β : Type} (N : Nat)  (K : Exit → St → Option β) : ∀ (F : Nat) (v0 : Int) (v1 : Int) (v2 : Int) (v3 : Int), (lp Try.f138 0).rounds lay (E138 N) (retMask Try.f138) F (h138_0_0  v0 v1 v2 v3) K = spec_l2Variable_l0 N  F v0 v1 v2 v3 (fun y0 => K (.exit 0) (x138_0_0_k0  y0)) := by
  intro F
  induction F with
  | zero => intros; rfl
  | succ F ih =>
    intros
    rw [rounds_next]
    refine (st138_0_0 N  _ _ _ _ (fun s => (lp Try.f138 0).rounds lay (E138 N) (retMask Try.f138) F s K) K).trans ?_
    simp only [ih]
    rfl
theorem lk138_0 {β : Type} (N : Nat) : lookL (E138 (β := β) N).loops (lp Try.f138 0).id = LS138_0 N := by kernel_rfl
theorem rk138_0 {β : Type} (N : Nat) : RoundsOK lay (E138 (β := β) N) (retMask Try.f138) (lp Try.f138 0) := by
  intro s K r h
  rw [lk138_0] at h
  unfold LS138_0 VLS138_0 at h
  cases hb : shpSt (h138_0_0 0 0 0 0) s with
  | true =>
    rw [hb, cond_true] at h
    exact ⟨N, by rw [← shpSt_ref hb, fl138_0_0 s]; exact (ro138_0_0 N  K N (intS (oneA (vT (nx tund s.tmps 0)))) (intS (oneA (vT (nx tund s.tmps 1)))) (intS (oneA (vT (nx tund s.tmps 5)))) (intS (oneA (vT (nx tund s.tmps 6))))).trans h⟩
  | false =>
  rw [hb, cond_false] at h
  clear hb
  cases h
def BV_spec_l2Variable {β : Type} (N : Nat) (q_spec_l2Variable_l0 : Nat → Int → Int → Int → Int → (Int → Option β) → Option β) (a0 : Int) (a1 : Int) (k : Int → Option β) : Option β :=
q_spec_l2Variable_l0  N a0 a1 0 0 (fun e3_0 =>
k e3_0)
theorem t_spec_l2Variable {β : Type} (N : Nat) (a0 : Int) (a1 : Int) (k : Int → Option β) : spec_l2Variable N a0 a1 k = BV_spec_l2Variable N (spec_l2Variable_l0 N) a0 a1 k := by
  unfold spec_l2Variable BV_spec_l2Variable
  rfl
theorem ve138_0 {β : Type} (N : Nat) (q_spec_l2Variable_l0 : Nat → Int → Int → Int → Int → (Int → Option β) → Option β)  (a0 : Int) (a1 : Int) (K : TV → Option β) : evFn lay (VE138 N q_spec_l2Variable_l0) Try.f138 [.v (.one (.int .i64 a0)), .v (.one (.int .i64 a1))] K = BV_spec_l2Variable N q_spec_l2Variable_l0 a0 a1 (fun z2 => K (.v (.one (.int .i64 z2)))) := by kernel_rfl
theorem e138_0 {β : Type} (N : Nat)  (a0 : Int) (a1 : Int) (K : TV → Option β) : evFn lay (E138 N) Try.f138 [.v (.one (.int .i64 a0)), .v (.one (.int .i64 a1))] K = spec_l2Variable N a0 a1 (fun z2 => K (.v (.one (.int .i64 z2)))) := (ve138_0 N (spec_l2Variable_l0 N) a0 a1 K).trans (t_spec_l2Variable N a0 a1 (fun z2 => K (.v (.one (.int .i64 z2))))).symm
theorem o138 {β : Type} (N : Nat) : SpecOK (β := β) Try.prog 138 (S138 N) := by
  refine spec_of lay_ok mixed (E := E138 N) (specs_loops specs_nil) muts_nil gs_nil Try.func138 (by kernel_rfl) 1 (by kernel_rfl) ⟨trivial, rk138_0 N⟩ fun args K r h => ?_
  unfold S138 VS138 at h
  split at h
  · exact (e138_0 N _ _ _).trans h
  · cases h
def VS84 {β : Type} (N : Nat) (q_spec_l2Full : (a0 : Int) → (k : Int → Option β) → Option β) : Rv.Spec β := fun args K => match args with
  | [.v (.one (.int .i64 a0))] => q_spec_l2Full a0 (fun z1 => K (.v (.one (.int .i64 z1))))
  | _ => none
def S84 {β : Type} (N : Nat) : Rv.Spec β := VS84 N (spec_l2Full N)
def VE84 {β : Type} (N : Nat) : Env β := ⟨[], [], [], []⟩
def E84 {β : Type} (N : Nat) : Env β := VE84 N
def BV_spec_l2Full {β : Type} (N : Nat) (a0 : Int) (k : Int → Option β) : Option β :=
(gd ((decide (0 ≤ a0)))
((gd ((decide (0 ≤ (shlI .u64 1 a0))))
(k ((w64 ((shlI .i64 1 (shlI .u64 1 a0)) - 1)))))))
theorem t_spec_l2Full {β : Type} (N : Nat) (a0 : Int) (k : Int → Option β) : spec_l2Full N a0 k = BV_spec_l2Full N a0 k := by
  unfold spec_l2Full BV_spec_l2Full
  rfl
theorem ve84_0 {β : Type} (N : Nat)  (a0 : Int) (K : TV → Option β) : evFn lay (VE84 N) Try.f84 [.v (.one (.int .i64 a0))] K = BV_spec_l2Full N a0 (fun z1 => K (.v (.one (.int .i64 z1)))) := by kernel_rfl
theorem e84_0 {β : Type} (N : Nat)  (a0 : Int) (K : TV → Option β) : evFn lay (E84 N) Try.f84 [.v (.one (.int .i64 a0))] K = spec_l2Full N a0 (fun z1 => K (.v (.one (.int .i64 z1)))) := (ve84_0 N a0 K).trans (t_spec_l2Full N a0 (fun z1 => K (.v (.one (.int .i64 z1))))).symm
theorem o84 {β : Type} (N : Nat) : SpecOK (β := β) Try.prog 84 (S84 N) := by
  refine spec_of lay_ok mixed (E := E84 N) (specs_loops specs_nil) muts_nil gs_nil Try.func84 (by kernel_rfl) 0 (by kernel_rfl) trivial fun args K r h => ?_
  unfold S84 VS84 at h
  split at h
  · exact (e84_0 N _ _).trans h
  · cases h
def VS70 {β : Type} (N : Nat) (q_spec_l2Count : (a0 : Int) → (k : Int → Option β) → Option β) : Rv.Spec β := fun args K => match args with
  | [.v (.one (.int .i64 a0))] => q_spec_l2Count a0 (fun z1 => K (.v (.one (.int .i64 z1))))
  | _ => none
def S70 {β : Type} (N : Nat) : Rv.Spec β := VS70 N (spec_l2Count N)
def h70_0_0  (v0 : Int) (v1 : Int) : St := ⟨.v (.one .und) :: .v (.one .und) :: .v (.one .und) :: .v (.one (.int .i64 v0)) :: .v (.one (.int .i64 v1)) :: .v (.one .und) :: .v (.one .und) :: .v (.one .und) :: .v (.one .und) :: .v (.one .und) :: .v (.one .und) :: .v (.one .und) :: .v (.one .und) :: .v (.one .und) :: .v (.one .und) :: [], []⟩
def x70_0_0_k0  (y0 : Int) : St := ⟨.v (.one .und) :: .v (.one .und) :: .v (.one .und) :: .v (.one (.int .i64 y0)) :: .v (.one .und) :: .v (.one .und) :: .v (.one .und) :: .v (.one .und) :: .v (.one .und) :: .v (.one .und) :: .v (.one .und) :: .v (.one .und) :: .v (.one .und) :: .v (.one .und) :: .v (.one .und) :: [], []⟩
theorem fl70_0_0 (s : St) : refSt (h70_0_0 0 0) s = h70_0_0 (intS (oneA (vT (nx tund s.tmps 3)))) (intS (oneA (vT (nx tund s.tmps 4)))) := by kernel_rfl
def VLS70_0 {β : Type} (N : Nat) (q_spec_l2Count_l0 : Nat → Int → Int → (Int → Option β) → Option β) : LSpec β := fun s K => cond (shpSt (h70_0_0 0 0) s) ((fun (v0 : Int) (v1 : Int) => q_spec_l2Count_l0  N v0 v1 (fun y0 => K (.exit 0) (x70_0_0_k0  y0))) (intS (oneA (vT (nx tund s.tmps 3)))) (intS (oneA (vT (nx tund s.tmps 4))))) (none)
def LS70_0 {β : Type} (N : Nat) : LSpec β := VLS70_0 N (spec_l2Count_l0 N)
def VE70 {β : Type} (N : Nat) (q_spec_l2Count_l0 : Nat → Int → Int → (Int → Option β) → Option β) : Env β := ⟨[], [], [(0, VLS70_0 N q_spec_l2Count_l0)], []⟩
def E70 {β : Type} (N : Nat) : Env β := VE70 N (spec_l2Count_l0 N)
def BV_spec_l2Count_l0b {β : Type} (N : Nat)  (v0 : Int) (v1 : Int) (rec_ : Int → Int → Option β) (k0 : Int → Option β) : Option β :=
(cond ((decide (v1 > 0)))
(rec_ ((w64 (v0 + (bits .and .i64 v1 1)))) ((shrI .i64 v1 1)))
(k0 v0))
theorem t_spec_l2Count_l0b {β : Type} (N : Nat)  (v0 : Int) (v1 : Int) (rec_ : Int → Int → Option β) (k0 : Int → Option β) : spec_l2Count_l0b N v0 v1 rec_ k0 = BV_spec_l2Count_l0b N v0 v1 rec_ k0 := by
  unfold spec_l2Count_l0b BV_spec_l2Count_l0b
  rfl
theorem vst70_0_0 {β : Type} (N : Nat) (q_spec_l2Count_l0 : Nat → Int → Int → (Int → Option β) → Option β)  (v0 : Int) (v1 : Int) (rec_ : St → Option β) (K : Exit → St → Option β) :
    ev lay (VE70 N q_spec_l2Count_l0) (retMask Try.f70) (lp Try.f70 0).body (lp Try.f70 0).ex ((lp Try.f70 0).lv (retMask Try.f70)) (h70_0_0  v0 v1) (nextR (fun s' => rec_ (s'.tidy ((lp Try.f70 0).lv (retMask Try.f70)))) K) = BV_spec_l2Count_l0b N  v0 v1 (fun v0 v1 => rec_ (h70_0_0  v0 v1)) (fun y0 => K (.exit 0) (x70_0_0_k0  y0)) := by kernel_rfl
theorem st70_0_0 {β : Type} (N : Nat)  (v0 : Int) (v1 : Int) (rec_ : St → Option β) (K : Exit → St → Option β) :
    ev lay (E70 N) (retMask Try.f70) (lp Try.f70 0).body (lp Try.f70 0).ex ((lp Try.f70 0).lv (retMask Try.f70)) (h70_0_0  v0 v1) (nextR (fun s' => rec_ (s'.tidy ((lp Try.f70 0).lv (retMask Try.f70)))) K) = spec_l2Count_l0b N  v0 v1 (fun v0 v1 => rec_ (h70_0_0  v0 v1)) (fun y0 => K (.exit 0) (x70_0_0_k0  y0)) := (vst70_0_0 N (spec_l2Count_l0 N) v0 v1 rec_ K).trans (t_spec_l2Count_l0b N  v0 v1 (fun v0 v1 => rec_ (h70_0_0  v0 v1)) (fun y0 => K (.exit 0) (x70_0_0_k0  y0))).symm
theorem ro70_0_0 {β : Type} (N : Nat)  (K : Exit → St → Option β) : ∀ (F : Nat) (v0 : Int) (v1 : Int), (lp Try.f70 0).rounds lay (E70 N) (retMask Try.f70) F (h70_0_0  v0 v1) K = spec_l2Count_l0 N  F v0 v1 (fun y0 => K (.exit 0) (x70_0_0_k0  y0)) := by
  intro F
  induction F with
  | zero => intros; rfl
  | succ F ih =>
    intros
    rw [rounds_next]
    refine (st70_0_0 N  _ _ (fun s => (lp Try.f70 0).rounds lay (E70 N) (retMask Try.f70) F s K) K).trans ?_
    simp only [ih]
    rfl
theorem lk70_0 {β : Type} (N : Nat) : lookL (E70 (β := β) N).loops (lp Try.f70 0).id = LS70_0 N := by kernel_rfl
theorem rk70_0 {β : Type} (N : Nat) : RoundsOK lay (E70 (β := β) N) (retMask Try.f70) (lp Try.f70 0) := by
  intro s K r h
  rw [lk70_0] at h
  unfold LS70_0 VLS70_0 at h
  cases hb : shpSt (h70_0_0 0 0) s with
  | true =>
    rw [hb, cond_true] at h
    exact ⟨N, by rw [← shpSt_ref hb, fl70_0_0 s]; exact (ro70_0_0 N  K N (intS (oneA (vT (nx tund s.tmps 3)))) (intS (oneA (vT (nx tund s.tmps 4))))).trans h⟩
  | false =>
  rw [hb, cond_false] at h
  clear hb
  cases h
def BV_spec_l2Count {β : Type} (N : Nat) (q_spec_l2Count_l0 : Nat → Int → Int → (Int → Option β) → Option β) (a0 : Int) (k : Int → Option β) : Option β :=
q_spec_l2Count_l0  N 0 a0 (fun e2_0 =>
k e2_0)
theorem t_spec_l2Count {β : Type} (N : Nat) (a0 : Int) (k : Int → Option β) : spec_l2Count N a0 k = BV_spec_l2Count N (spec_l2Count_l0 N) a0 k := by
  unfold spec_l2Count BV_spec_l2Count
  rfl
theorem ve70_0 {β : Type} (N : Nat) (q_spec_l2Count_l0 : Nat → Int → Int → (Int → Option β) → Option β)  (a0 : Int) (K : TV → Option β) : evFn lay (VE70 N q_spec_l2Count_l0) Try.f70 [.v (.one (.int .i64 a0))] K = BV_spec_l2Count N q_spec_l2Count_l0 a0 (fun z1 => K (.v (.one (.int .i64 z1)))) := by kernel_rfl
theorem e70_0 {β : Type} (N : Nat)  (a0 : Int) (K : TV → Option β) : evFn lay (E70 N) Try.f70 [.v (.one (.int .i64 a0))] K = spec_l2Count N a0 (fun z1 => K (.v (.one (.int .i64 z1)))) := (ve70_0 N (spec_l2Count_l0 N) a0 K).trans (t_spec_l2Count N a0 (fun z1 => K (.v (.one (.int .i64 z1))))).symm
theorem o70 {β : Type} (N : Nat) : SpecOK (β := β) Try.prog 70 (S70 N) := by
  refine spec_of lay_ok mixed (E := E70 N) (specs_loops specs_nil) muts_nil gs_nil Try.func70 (by kernel_rfl) 1 (by kernel_rfl) ⟨trivial, rk70_0 N⟩ fun args K r h => ?_
  unfold S70 VS70 at h
  split at h
  · exact (e70_0 N _ _).trans h
  · cases h
end Go.Proofs.Ytdkjnadhgdneaaa
