/- The functions that the claims reach answer as their texts do. -/
import Derived.Test.YtddflpokemgnmaaT0
import Derived.Test.YtddflpokemgnmaaProg
import Derived.KernelRfl
import Derived.Test.YtddflpokemgnmaaShelf
namespace Go.Proofs.Ytddflpokemgnmaa
open Go.Rv
set_option maxRecDepth 100000
set_option maxHeartbeats 2000000
set_option linter.unusedVariables false
def lay : Lay := [(1, .func),
  (2, .int .i64),
  (3, .int .i64),
  (4, .bool),
  (5, .int .u8),
  (9, .string),
  (12, .int .u64),
  (21, .int .i32),
  (22, .slice 5),
  (26, .struct [⟨0, 1, false⟩, ⟨1, 1, false⟩] [3, 3] 16 true),
  (27, .struct [⟨0, 1, false⟩, ⟨1, 1, false⟩] [3, 3] 16 true),
  (36, .slice 3),
  (39, .pointer 62),
  (43, .pointer 71),
  (61, .struct [⟨0, 1, false⟩, ⟨1, 1, false⟩, ⟨2, 1, false⟩] [22, 3, 3] 40 false),
  (62, .struct [⟨0, 1, false⟩, ⟨1, 1, false⟩, ⟨2, 1, false⟩] [22, 3, 3] 40 false),
  (70, .struct [⟨0, 1, false⟩, ⟨1, 1, false⟩, ⟨2, 1, false⟩] [5, 43, 43] 24 false),
  (71, .struct [⟨0, 1, false⟩, ⟨1, 1, false⟩, ⟨2, 1, false⟩] [5, 43, 43] 24 false),
  (75, .int .u64),
  (79, .slice 9),
  (88, .pointer 83),
  (89, .int .u32),
  (100, .pointer 5)]

theorem lay_ok : LayOK Try.prog lay := layOK_of (by decide +kernel)
theorem mixed : Try.prog.follows .mixedOrders = true := by kernel_rfl
def inv : World → Prop := fun _ => True
def S45 {β : Type} (N : Nat) : Rv.Spec β := containsAnySpec N
theorem o45 {β : Type} (N : Nat) : SpecOK (β := β) inv Try.prog 45 (S45 N) := containsAny_ok Try.func45 (by kernel_rfl) (Try.strings_ContainsAny (Go.zero_of_info (show (Try.prog.info? 83).map (fun i => (i.zero, i.size)) = some (some (.agg (Array.replicate 256 (.bool false))), 256) by kernel_rfl)).1) N
def S48 {β : Type} (N : Nat) : Rv.Spec β := countSpec N
theorem o48 {β : Type} (N : Nat) : SpecOK (β := β) inv Try.prog 48 (S48 N) := count_ok Try.func48 (by kernel_rfl) Try.strings_Count_one N
def VS4 {β : Type} (N : Nat) (q_laws_big : (a0 : List Int) → (k : Bool → Option β) → Option β) : Rv.Spec β := fun args K => match args with
  | [.v (.one (.sl 5 (.ints .u8 a0)))] => q_laws_big a0 (fun z1 => K (.v (.one (.bool z1))))
  | _ => none
def S4 {β : Type} (N : Nat) : Rv.Spec β := VS4 N (laws_big N)
def VE4 {β : Type} (N : Nat) : Env β := ⟨[], [], [], [], ⟨[], [], [], []⟩⟩
def E4 {β : Type} (N : Nat) : Env β := VE4 N
def BV_laws_big {β : Type} (N : Nat) (a0 : List Int) (k : Bool → Option β) : Option β :=
k ((decide ((a0.length : Int) > 1048576)))
theorem t_laws_big {β : Type} (N : Nat) (a0 : List Int) (k : Bool → Option β) : laws_big N a0 k = BV_laws_big N a0 k := by
  unfold laws_big BV_laws_big
  rfl
theorem ve4_0 {β : Type} (N : Nat)  (a0 : List Int) (K : TV → Option β) : evFn lay (VE4 N) Try.f4 [.v (.one (.sl 5 (.ints .u8 a0)))] K = BV_laws_big N a0 (fun z1 => K (.v (.one (.bool z1)))) := by kernel_rfl
theorem e4_0 {β : Type} (N : Nat)  (a0 : List Int) (K : TV → Option β) : evFn lay (E4 N) Try.f4 [.v (.one (.sl 5 (.ints .u8 a0)))] K = laws_big N a0 (fun z1 => K (.v (.one (.bool z1)))) := (ve4_0 N a0 K).trans (t_laws_big N a0 (fun z1 => K (.v (.one (.bool z1))))).symm
theorem o4 {β : Type} (N : Nat) : SpecOK (β := β) inv Try.prog 4 (S4 N) := by
  refine spec_of lay_ok mixed (E := E4 N) (specs_loops specs_nil) muts_nil gs_nil Try.func4 (by kernel_rfl) 0 (by kernel_rfl) trivial fun args K r h => ?_
  unfold S4 VS4 at h
  split at h
  · exact (e4_0 N _ _).trans h
  · cases h
def VS28 {β : Type} (N : Nat) (q_spec_l1New_g0 : (a0 : List Int) → (k0 : List Int → Int → Int → Option β) → Option β) : GSpec β := fun args bl K => match args, bl with
  | [.v (.one (.sl 5 (.ints .u8 a0)))], [] => q_spec_l1New_g0 a0 (fun y0 y1 y2 => K (.v (.one (.ptr 0 0))) [.cells 62 [.sl 5 (.ints .u8 y0), .int .i64 y1, .int .i64 y2]])
  | _, _ => none
def S28 {β : Type} (N : Nat) : GSpec β := VS28 N (spec_l1New_g0 N)
def h28_0_0  (v0 : List Int) (v1 : Int) (v2 : Int) : St := ⟨.v (.one (.sl 5 (.ints .u8 v0))) :: .v (.one .und) :: .v (.one .und) :: .v (.one (.int .i64 v1)) :: .v (.one (.int .i64 v2)) :: .v (.one .und) :: .v (.one .und) :: .v (.one .und) :: .v (.one .und) :: .v (.one .und) :: .v (.one .und) :: .v (.one .und) :: .v (.one .und) :: .v (.one .und) :: .v (.one .und) :: .v (.one .und) :: .v (.one .und) :: .v (.one .und) :: .v (.one .und) :: .v (.one .und) :: .v (.one .und) :: .v (.one .und) :: .v (.one .und) :: .v (.one .und) :: .v (.one .und) :: .v (.one .und) :: .v (.one .und) :: .v (.one .und) :: .v (.one .und) :: .v (.one .und) :: .v (.one .und) :: .v (.one .und) :: [], []⟩
def x28_0_0_k0  (y0 : List Int) (y1 : Int) : St := ⟨.v (.one (.sl 5 (.ints .u8 y0))) :: .v (.one .und) :: .v (.one .und) :: .v (.one (.int .i64 y1)) :: .v (.one .und) :: .v (.one .und) :: .v (.one .und) :: .v (.one .und) :: .v (.one .und) :: .v (.one .und) :: .v (.one .und) :: .v (.one .und) :: .v (.one .und) :: .v (.one .und) :: .v (.one .und) :: .v (.one .und) :: .v (.one .und) :: .v (.one .und) :: .v (.one .und) :: .v (.one .und) :: .v (.one .und) :: .v (.one .und) :: .v (.one .und) :: .v (.one .und) :: .v (.one .und) :: .v (.one .und) :: .v (.one .und) :: .v (.one .und) :: .v (.one .und) :: .v (.one .und) :: .v (.one .und) :: .v (.one .und) :: [], []⟩
theorem fl28_0_0 (s : St) : refSt (h28_0_0 [] 0 0) s = h28_0_0 (rInts (rowV (oneA (vT (nx tund s.tmps 0))))) (intS (oneA (vT (nx tund s.tmps 3)))) (intS (oneA (vT (nx tund s.tmps 4)))) := by kernel_rfl
def VLS28_0 {β : Type} (N : Nat) (q_spec_l1New_l0 : Nat → List Int → Int → Int → (List Int → Int → Option β) → Option β) : LSpec β := fun s K => cond (shpSt (h28_0_0 [] 0 0) s) ((fun (v0 : List Int) (v1 : Int) (v2 : Int) => q_spec_l1New_l0  N v0 v1 v2 (fun y0 y1 => K (.exit 0) (x28_0_0_k0  y0 y1))) (rInts (rowV (oneA (vT (nx tund s.tmps 0))))) (intS (oneA (vT (nx tund s.tmps 3)))) (intS (oneA (vT (nx tund s.tmps 4))))) (none)
def LS28_0 {β : Type} (N : Nat) : LSpec β := VLS28_0 N (spec_l1New_l0 N)
def VE28 {β : Type} (N : Nat) (q_spec_l1New_l0 : Nat → List Int → Int → Int → (List Int → Int → Option β) → Option β) : Env β := ⟨[], [], [(0, VLS28_0 N q_spec_l1New_l0)], [], ⟨[], [], [], []⟩⟩
def E28 {β : Type} (N : Nat) : Env β := VE28 N (spec_l1New_l0 N)
def BV_spec_l1New_l0b {β : Type} (N : Nat)  (v0 : List Int) (v1 : Int) (v2 : Int) (rec_ : List Int → Int → Int → Option β) (k0 : List Int → Int → Option β) : Option β :=
(cond ((decide (v2 < (v0.length : Int))))
((cond ((decide (v2 < 4000)))
((gd ((decide (0 ≤ v2)))
((gd ((decide (v2 < (v0.length : Int))))
(rec_ v0 ((bits .and .i64 (w64 ((w64 ((w64 (v1 * 131)) + (w64 ((rd 0 v0 v2))))) + 7)) 1073741823)) ((w64 (v2 + 1))))))))
(k0 v0 v1)))
(k0 v0 v1))
theorem t_spec_l1New_l0b {β : Type} (N : Nat)  (v0 : List Int) (v1 : Int) (v2 : Int) (rec_ : List Int → Int → Int → Option β) (k0 : List Int → Int → Option β) : spec_l1New_l0b N v0 v1 v2 rec_ k0 = BV_spec_l1New_l0b N v0 v1 v2 rec_ k0 := by
  unfold spec_l1New_l0b BV_spec_l1New_l0b
  rfl
theorem vst28_0_0 {β : Type} (N : Nat) (q_spec_l1New_l0 : Nat → List Int → Int → Int → (List Int → Int → Option β) → Option β)  (v0 : List Int) (v1 : Int) (v2 : Int) (rec_ : St → Option β) (K : Exit → St → Option β) :
    ev lay (VE28 N q_spec_l1New_l0) (retMask Try.f28) (lp Try.f28 0).body (lp Try.f28 0).ex ((lp Try.f28 0).lv (retMask Try.f28)) (h28_0_0  v0 v1 v2) (nextR (fun s' => rec_ (s'.tidy ((lp Try.f28 0).lv (retMask Try.f28)))) K) = BV_spec_l1New_l0b N  v0 v1 v2 (fun v0 v1 v2 => rec_ (h28_0_0  v0 v1 v2)) (fun y0 y1 => K (.exit 0) (x28_0_0_k0  y0 y1)) := by kernel_rfl
theorem st28_0_0 {β : Type} (N : Nat)  (v0 : List Int) (v1 : Int) (v2 : Int) (rec_ : St → Option β) (K : Exit → St → Option β) :
    ev lay (E28 N) (retMask Try.f28) (lp Try.f28 0).body (lp Try.f28 0).ex ((lp Try.f28 0).lv (retMask Try.f28)) (h28_0_0  v0 v1 v2) (nextR (fun s' => rec_ (s'.tidy ((lp Try.f28 0).lv (retMask Try.f28)))) K) = spec_l1New_l0b N  v0 v1 v2 (fun v0 v1 v2 => rec_ (h28_0_0  v0 v1 v2)) (fun y0 y1 => K (.exit 0) (x28_0_0_k0  y0 y1)) := (vst28_0_0 N (spec_l1New_l0 N) v0 v1 v2 rec_ K).trans (t_spec_l1New_l0b N  v0 v1 v2 (fun v0 v1 v2 => rec_ (h28_0_0  v0 v1 v2)) (fun y0 y1 => K (.exit 0) (x28_0_0_k0  y0 y1))).symm
theorem ro28_0_0 {β : Type} (N : Nat)  (K : Exit → St → Option β) : ∀ (F : Nat) (v0 : List Int) (v1 : Int) (v2 : Int), (lp Try.f28 0).rounds lay (E28 N) (retMask Try.f28) F (h28_0_0  v0 v1 v2) K = spec_l1New_l0 N  F v0 v1 v2 (fun y0 y1 => K (.exit 0) (x28_0_0_k0  y0 y1)) := by
  intro F
  induction F with
  | zero => intros; rfl
  | succ F ih =>
    intros
    rw [rounds_next]
    refine (st28_0_0 N  _ _ _ (fun s => (lp Try.f28 0).rounds lay (E28 N) (retMask Try.f28) F s K) K).trans ?_
    simp only [ih]
    rfl
theorem lk28_0 {β : Type} (N : Nat) : lookL (E28 (β := β) N).loops (lp Try.f28 0).id = LS28_0 N := by kernel_rfl
theorem rk28_0 {β : Type} (N : Nat) : RoundsOK lay (E28 (β := β) N) (retMask Try.f28) (lp Try.f28 0) := by
  intro s K r h
  rw [lk28_0] at h
  unfold LS28_0 VLS28_0 at h
  cases hb : shpSt (h28_0_0 [] 0 0) s with
  | true =>
    rw [hb, cond_true] at h
    exact ⟨N, by rw [← shpSt_ref hb, fl28_0_0 s]; exact (ro28_0_0 N  K N (rInts (rowV (oneA (vT (nx tund s.tmps 0))))) (intS (oneA (vT (nx tund s.tmps 3)))) (intS (oneA (vT (nx tund s.tmps 4))))).trans h⟩
  | false =>
  rw [hb, cond_false] at h
  clear hb
  cases h
def BV_spec_l1New_g0 {β : Type} (N : Nat) (q_spec_l1New_l0 : Nat → List Int → Int → Int → (List Int → Int → Option β) → Option β) (a0 : List Int) (k0 : List Int → Int → Int → Option β) : Option β :=
q_spec_l1New_l0  N a0 ((w64 (10101 + (a0.length : Int)))) 0 (fun e3_0 e3_1 =>
k0 e3_0 0 e3_1)
theorem t_spec_l1New_g0 {β : Type} (N : Nat) (a0 : List Int) (k0 : List Int → Int → Int → Option β) : spec_l1New_g0 N a0 k0 = BV_spec_l1New_g0 N (spec_l1New_l0 N) a0 k0 := by
  unfold spec_l1New_g0 BV_spec_l1New_g0
  rfl
theorem ve28_0 {β : Type} (N : Nat) (q_spec_l1New_l0 : Nat → List Int → Int → Int → (List Int → Int → Option β) → Option β) (a0 : List Int) (K : TV → List Blk → Option β) : evFnG lay (VE28 N q_spec_l1New_l0) Try.f28 [.v (.one (.sl 5 (.ints .u8 a0)))] [] K = BV_spec_l1New_g0 N q_spec_l1New_l0 a0 (fun y0 y1 y2 => K (.v (.one (.ptr 0 0))) [.cells 62 [.sl 5 (.ints .u8 y0), .int .i64 y1, .int .i64 y2]]) := by kernel_rfl
theorem e28_0 {β : Type} (N : Nat) (a0 : List Int) (K : TV → List Blk → Option β) : evFnG lay (E28 N) Try.f28 [.v (.one (.sl 5 (.ints .u8 a0)))] [] K = spec_l1New_g0 N a0 (fun y0 y1 y2 => K (.v (.one (.ptr 0 0))) [.cells 62 [.sl 5 (.ints .u8 y0), .int .i64 y1, .int .i64 y2]]) := (ve28_0 N (spec_l1New_l0 N) a0 K).trans (t_spec_l1New_g0 N a0 (fun y0 y1 y2 => K (.v (.one (.ptr 0 0))) [.cells 62 [.sl 5 (.ints .u8 y0), .int .i64 y1, .int .i64 y2]])).symm
theorem o28 {β : Type} (N : Nat) : GOK (β := β) inv Try.prog 28 (S28 N) := by
  refine g_of lay_ok mixed (E := E28 N) (specs_loops specs_nil) muts_nil gs_nil Try.func28 (by kernel_rfl) 1 (by kernel_rfl) ⟨trivial, rk28_0 N⟩ fun args bl K r h => ?_
  unfold S28 VS28 at h
  split at h
  · exact (e28_0 N _ _).trans h
  · cases h
def VS72 {β : Type} (N : Nat) (q_spec_l1Byte_g0 : (a0 : List Int) → (a1 : Int) → (a2 : Int) → (k0 : Int → List Int → Int → Int → Option β) → Option β) : GSpec β := fun args bl K => match args, bl with
  | [.v (.one (.ptr 0 0))], [.pcells 0 62 [.sl 5 (.ints .u8 a0), .int .i64 a1, .int .i64 a2]] => q_spec_l1Byte_g0 a0 a1 a2 (fun y0 y1 y2 y3 => K (.v (.one (.int .i64 y0))) [.pcells 0 62 [.sl 5 (.ints .u8 y1), .int .i64 y2, .int .i64 y3]])
  | _, _ => none
def S72 {β : Type} (N : Nat) : GSpec β := VS72 N (spec_l1Byte_g0 N)
def VE72 {β : Type} (N : Nat) : Env β := ⟨[], [], [], [], ⟨[], [], [], []⟩⟩
def E72 {β : Type} (N : Nat) : Env β := VE72 N
def BV_spec_l1Byte_g0 {β : Type} (N : Nat) (a0 : List Int) (a1 : Int) (a2 : Int) (k0 : Int → List Int → Int → Int → Option β) : Option β :=
(cond ((decide (a1 < (a0.length : Int))))
((gd ((decide (0 ≤ a1)))
((gd ((decide (a1 < (a0.length : Int))))
(k0 ((bits .and .i64 (w64 ((bits .and .i64 (bits .xor .i64 (shrI .i64 (w64 ((w64 (a2 * 6364136223846793005)) + 1442695040888963407)) 33) (shrI .i64 (w64 ((w64 (a2 * 6364136223846793005)) + 1442695040888963407)) 45)) 255) + (w64 ((rd 0 a0 a1))))) 255)) a0 ((w64 (a1 + 1))) ((w64 ((w64 (a2 * 6364136223846793005)) + 1442695040888963407))))))))
(k0 ((bits .and .i64 (bits .xor .i64 (shrI .i64 (w64 ((w64 (a2 * 6364136223846793005)) + 1442695040888963407)) 33) (shrI .i64 (w64 ((w64 (a2 * 6364136223846793005)) + 1442695040888963407)) 45)) 255)) a0 a1 ((w64 ((w64 (a2 * 6364136223846793005)) + 1442695040888963407)))))
theorem t_spec_l1Byte_g0 {β : Type} (N : Nat) (a0 : List Int) (a1 : Int) (a2 : Int) (k0 : Int → List Int → Int → Int → Option β) : spec_l1Byte_g0 N a0 a1 a2 k0 = BV_spec_l1Byte_g0 N a0 a1 a2 k0 := by
  unfold spec_l1Byte_g0 BV_spec_l1Byte_g0
  rfl
theorem ve72_0 {β : Type} (N : Nat) (a0 : List Int) (a1 : Int) (a2 : Int) (K : TV → List Blk → Option β) : evFnG lay (VE72 N) Try.f72 [.v (.one (.ptr 0 0))] [.pcells 0 62 [.sl 5 (.ints .u8 a0), .int .i64 a1, .int .i64 a2]] K = BV_spec_l1Byte_g0 N a0 a1 a2 (fun y0 y1 y2 y3 => K (.v (.one (.int .i64 y0))) [.pcells 0 62 [.sl 5 (.ints .u8 y1), .int .i64 y2, .int .i64 y3]]) := by kernel_rfl
theorem e72_0 {β : Type} (N : Nat) (a0 : List Int) (a1 : Int) (a2 : Int) (K : TV → List Blk → Option β) : evFnG lay (E72 N) Try.f72 [.v (.one (.ptr 0 0))] [.pcells 0 62 [.sl 5 (.ints .u8 a0), .int .i64 a1, .int .i64 a2]] K = spec_l1Byte_g0 N a0 a1 a2 (fun y0 y1 y2 y3 => K (.v (.one (.int .i64 y0))) [.pcells 0 62 [.sl 5 (.ints .u8 y1), .int .i64 y2, .int .i64 y3]]) := (ve72_0 N a0 a1 a2 K).trans (t_spec_l1Byte_g0 N a0 a1 a2 (fun y0 y1 y2 y3 => K (.v (.one (.int .i64 y0))) [.pcells 0 62 [.sl 5 (.ints .u8 y1), .int .i64 y2, .int .i64 y3]])).symm
theorem o72 {β : Type} (N : Nat) : GOK (β := β) inv Try.prog 72 (S72 N) := by
  refine g_of lay_ok mixed (E := E72 N) (specs_loops specs_nil) muts_nil gs_nil Try.func72 (by kernel_rfl) 0 (by kernel_rfl) trivial fun args bl K r h => ?_
  unfold S72 VS72 at h
  split at h
  · exact (e72_0 N _ _ _ _).trans h
  · cases h
def VS56 {β : Type} (N : Nat) (q_spec_l1Below_g0 : (a0 : Int) → (a1 : List Int) → (a2 : Int) → (a3 : Int) → (k0 : Int → List Int → Int → Int → Option β) → Option β) : GSpec β := fun args bl K => match args, bl with
  | [.v (.one (.ptr 0 0)), .v (.one (.int .i64 a0))], [.pcells 0 62 [.sl 5 (.ints .u8 a1), .int .i64 a2, .int .i64 a3]] => q_spec_l1Below_g0 a0 a1 a2 a3 (fun y0 y1 y2 y3 => K (.v (.one (.int .i64 y0))) [.pcells 0 62 [.sl 5 (.ints .u8 y1), .int .i64 y2, .int .i64 y3]])
  | _, _ => none
def S56 {β : Type} (N : Nat) : GSpec β := VS56 N (spec_l1Below_g0 N)
def VE56 {β : Type} (N : Nat) (q_spec_l1Byte_g0 : (a0 : List Int) → (a1 : Int) → (a2 : Int) → (k0 : Int → List Int → Int → Int → Option β) → Option β) : Env β := ⟨[], [], [], [(72, VS72 N q_spec_l1Byte_g0)], ⟨[], [], [], []⟩⟩
def E56 {β : Type} (N : Nat) : Env β := VE56 N (spec_l1Byte_g0 N)
def BV_spec_l1Below_g0 {β : Type} (N : Nat) (q_spec_l1Byte_g0 : (a0 : List Int) → (a1 : Int) → (a2 : Int) → (k0 : Int → List Int → Int → Int → Option β) → Option β) (a0 : Int) (a1 : List Int) (a2 : Int) (a3 : Int) (k0 : Int → List Int → Int → Int → Option β) : Option β :=
(cond ((decide (a0 ≤ 0)))
(k0 0 a1 a2 a3)
((cond ((decide (a0 ≤ 256)))
(q_spec_l1Byte_g0 a1 a2 a3 (fun r5_0 r5_1 r5_2 r5_3 =>
(gd ((a0 != 0))
(k0 ((remI r5_0 a0)) r5_1 r5_2 r5_3))))
(q_spec_l1Byte_g0 a1 a2 a3 (fun r6_0 r6_1 r6_2 r6_3 =>
q_spec_l1Byte_g0 r6_1 r6_2 r6_3 (fun r7_0 r7_1 r7_2 r7_3 =>
q_spec_l1Byte_g0 r7_1 r7_2 r7_3 (fun r8_0 r8_1 r8_2 r8_3 =>
q_spec_l1Byte_g0 r8_1 r8_2 r8_3 (fun r9_0 r9_1 r9_2 r9_3 =>
(gd ((a0 != 0))
(k0 ((remI (w64 ((w64 ((w64 ((w64 (r6_0 * 16777216)) + (w64 (r7_0 * 65536)))) + (w64 (r8_0 * 256)))) + r9_0)) a0)) r9_1 r9_2 r9_3))))))))))
theorem t_spec_l1Below_g0 {β : Type} (N : Nat) (a0 : Int) (a1 : List Int) (a2 : Int) (a3 : Int) (k0 : Int → List Int → Int → Int → Option β) : spec_l1Below_g0 N a0 a1 a2 a3 k0 = BV_spec_l1Below_g0 N (spec_l1Byte_g0 N) a0 a1 a2 a3 k0 := by
  unfold spec_l1Below_g0 BV_spec_l1Below_g0
  rfl
theorem ve56_0 {β : Type} (N : Nat) (q_spec_l1Byte_g0 : (a0 : List Int) → (a1 : Int) → (a2 : Int) → (k0 : Int → List Int → Int → Int → Option β) → Option β) (a0 : Int) (a1 : List Int) (a2 : Int) (a3 : Int) (K : TV → List Blk → Option β) : evFnG lay (VE56 N q_spec_l1Byte_g0) Try.f56 [.v (.one (.ptr 0 0)), .v (.one (.int .i64 a0))] [.pcells 0 62 [.sl 5 (.ints .u8 a1), .int .i64 a2, .int .i64 a3]] K = BV_spec_l1Below_g0 N q_spec_l1Byte_g0 a0 a1 a2 a3 (fun y0 y1 y2 y3 => K (.v (.one (.int .i64 y0))) [.pcells 0 62 [.sl 5 (.ints .u8 y1), .int .i64 y2, .int .i64 y3]]) := by kernel_rfl
theorem e56_0 {β : Type} (N : Nat) (a0 : Int) (a1 : List Int) (a2 : Int) (a3 : Int) (K : TV → List Blk → Option β) : evFnG lay (E56 N) Try.f56 [.v (.one (.ptr 0 0)), .v (.one (.int .i64 a0))] [.pcells 0 62 [.sl 5 (.ints .u8 a1), .int .i64 a2, .int .i64 a3]] K = spec_l1Below_g0 N a0 a1 a2 a3 (fun y0 y1 y2 y3 => K (.v (.one (.int .i64 y0))) [.pcells 0 62 [.sl 5 (.ints .u8 y1), .int .i64 y2, .int .i64 y3]]) := (ve56_0 N (spec_l1Byte_g0 N) a0 a1 a2 a3 K).trans (t_spec_l1Below_g0 N a0 a1 a2 a3 (fun y0 y1 y2 y3 => K (.v (.one (.int .i64 y0))) [.pcells 0 62 [.sl 5 (.ints .u8 y1), .int .i64 y2, .int .i64 y3]])).symm
theorem o56 {β : Type} (N : Nat) : GOK (β := β) inv Try.prog 56 (S56 N) := by
  refine g_of lay_ok mixed (E := E56 N) (specs_loops specs_nil) muts_nil (gs_cons (o72 N) gs_nil) Try.func56 (by kernel_rfl) 0 (by kernel_rfl) trivial fun args bl K r h => ?_
  unfold S56 VS56 at h
  split at h
  · exact (e56_0 N _ _ _ _ _).trans h
  · cases h
def VS70 {β : Type} (N : Nat) (q_spec_l1Pick_g0 : (a0 : List Int) → (a1 : Int) → (a2 : Int) → (a3 : List ByteArray) → (k0 : ByteArray → List Int → Int → Int → List ByteArray → Option β) → Option β) : GSpec β := fun args bl K => match args, bl with
  | [.v (.one (.ptr 0 0)), .v (.one (.row 1))], [.pcells 0 62 [.sl 5 (.ints .u8 a0), .int .i64 a1, .int .i64 a2], .prow 1 9 (.strs a3)] => q_spec_l1Pick_g0 a0 a1 a2 a3 (fun y0 y1 y2 y3 y4 => K (.v (.one (.str y0))) [.pcells 0 62 [.sl 5 (.ints .u8 y1), .int .i64 y2, .int .i64 y3], .prow 1 9 (.strs y4)])
  | _, _ => none
def S70 {β : Type} (N : Nat) : GSpec β := VS70 N (spec_l1Pick_g0 N)
def VE70 {β : Type} (N : Nat) (q_spec_l1Below_g0 : (a0 : Int) → (a1 : List Int) → (a2 : Int) → (a3 : Int) → (k0 : Int → List Int → Int → Int → Option β) → Option β) : Env β := ⟨[], [], [], [(56, VS56 N q_spec_l1Below_g0)], ⟨[], [], [], []⟩⟩
def E70 {β : Type} (N : Nat) : Env β := VE70 N (spec_l1Below_g0 N)
def BV_spec_l1Pick_g0 {β : Type} (N : Nat) (q_spec_l1Below_g0 : (a0 : Int) → (a1 : List Int) → (a2 : Int) → (a3 : Int) → (k0 : Int → List Int → Int → Int → Option β) → Option β) (a0 : List Int) (a1 : Int) (a2 : Int) (a3 : List ByteArray) (k0 : ByteArray → List Int → Int → Int → List ByteArray → Option β) : Option β :=
q_spec_l1Below_g0 ((a3.length : Int)) a0 a1 a2 (fun r10_0 r10_1 r10_2 r10_3 =>
(gd ((decide (0 ≤ r10_0)))
((gd ((decide (r10_0 < (a3.length : Int))))
(k0 ((rd ByteArray.empty a3 r10_0)) r10_1 r10_2 r10_3 a3)))))
theorem t_spec_l1Pick_g0 {β : Type} (N : Nat) (a0 : List Int) (a1 : Int) (a2 : Int) (a3 : List ByteArray) (k0 : ByteArray → List Int → Int → Int → List ByteArray → Option β) : spec_l1Pick_g0 N a0 a1 a2 a3 k0 = BV_spec_l1Pick_g0 N (spec_l1Below_g0 N) a0 a1 a2 a3 k0 := by
  unfold spec_l1Pick_g0 BV_spec_l1Pick_g0
  rfl
theorem ve70_0 {β : Type} (N : Nat) (q_spec_l1Below_g0 : (a0 : Int) → (a1 : List Int) → (a2 : Int) → (a3 : Int) → (k0 : Int → List Int → Int → Int → Option β) → Option β) (a0 : List Int) (a1 : Int) (a2 : Int) (a3 : List ByteArray) (K : TV → List Blk → Option β) : evFnG lay (VE70 N q_spec_l1Below_g0) Try.f70 [.v (.one (.ptr 0 0)), .v (.one (.row 1))] [.pcells 0 62 [.sl 5 (.ints .u8 a0), .int .i64 a1, .int .i64 a2], .prow 1 9 (.strs a3)] K = BV_spec_l1Pick_g0 N q_spec_l1Below_g0 a0 a1 a2 a3 (fun y0 y1 y2 y3 y4 => K (.v (.one (.str y0))) [.pcells 0 62 [.sl 5 (.ints .u8 y1), .int .i64 y2, .int .i64 y3], .prow 1 9 (.strs y4)]) := by kernel_rfl
theorem e70_0 {β : Type} (N : Nat) (a0 : List Int) (a1 : Int) (a2 : Int) (a3 : List ByteArray) (K : TV → List Blk → Option β) : evFnG lay (E70 N) Try.f70 [.v (.one (.ptr 0 0)), .v (.one (.row 1))] [.pcells 0 62 [.sl 5 (.ints .u8 a0), .int .i64 a1, .int .i64 a2], .prow 1 9 (.strs a3)] K = spec_l1Pick_g0 N a0 a1 a2 a3 (fun y0 y1 y2 y3 y4 => K (.v (.one (.str y0))) [.pcells 0 62 [.sl 5 (.ints .u8 y1), .int .i64 y2, .int .i64 y3], .prow 1 9 (.strs y4)]) := (ve70_0 N (spec_l1Below_g0 N) a0 a1 a2 a3 K).trans (t_spec_l1Pick_g0 N a0 a1 a2 a3 (fun y0 y1 y2 y3 y4 => K (.v (.one (.str y0))) [.pcells 0 62 [.sl 5 (.ints .u8 y1), .int .i64 y2, .int .i64 y3], .prow 1 9 (.strs y4)])).symm
theorem o70 {β : Type} (N : Nat) : GOK (β := β) inv Try.prog 70 (S70 N) := by
  refine g_of lay_ok mixed (E := E70 N) (specs_loops specs_nil) muts_nil (gs_cons (o56 N) gs_nil) Try.func70 (by kernel_rfl) 0 (by kernel_rfl) trivial fun args bl K r h => ?_
  unfold S70 VS70 at h
  split at h
  · exact (e70_0 N _ _ _ _ _).trans h
  · cases h
def VS54 {β : Type} (N : Nat) (q_spec_l1Once_g0 : (a0 : Int) → (a1 : List Int) → (a2 : Int) → (a3 : Int) → (k0 : Bool → List Int → Int → Int → Option β) → Option β) : GSpec β := fun args bl K => match args, bl with
  | [.v (.one (.ptr 0 0)), .v (.one (.int .i64 a0))], [.pcells 0 62 [.sl 5 (.ints .u8 a1), .int .i64 a2, .int .i64 a3]] => q_spec_l1Once_g0 a0 a1 a2 a3 (fun y0 y1 y2 y3 => K (.v (.one (.bool y0))) [.pcells 0 62 [.sl 5 (.ints .u8 y1), .int .i64 y2, .int .i64 y3]])
  | _, _ => none
def S54 {β : Type} (N : Nat) : GSpec β := VS54 N (spec_l1Once_g0 N)
def VE54 {β : Type} (N : Nat) (q_spec_l1Below_g0 : (a0 : Int) → (a1 : List Int) → (a2 : Int) → (a3 : Int) → (k0 : Int → List Int → Int → Int → Option β) → Option β) : Env β := ⟨[], [], [], [(56, VS56 N q_spec_l1Below_g0)], ⟨[], [], [], []⟩⟩
def E54 {β : Type} (N : Nat) : Env β := VE54 N (spec_l1Below_g0 N)
def BV_spec_l1Once_g0 {β : Type} (N : Nat) (q_spec_l1Below_g0 : (a0 : Int) → (a1 : List Int) → (a2 : Int) → (a3 : Int) → (k0 : Int → List Int → Int → Int → Option β) → Option β) (a0 : Int) (a1 : List Int) (a2 : Int) (a3 : Int) (k0 : Bool → List Int → Int → Int → Option β) : Option β :=
q_spec_l1Below_g0 a0 a1 a2 a3 (fun r12_0 r12_1 r12_2 r12_3 =>
k0 ((r12_0 == 0)) r12_1 r12_2 r12_3)
theorem t_spec_l1Once_g0 {β : Type} (N : Nat) (a0 : Int) (a1 : List Int) (a2 : Int) (a3 : Int) (k0 : Bool → List Int → Int → Int → Option β) : spec_l1Once_g0 N a0 a1 a2 a3 k0 = BV_spec_l1Once_g0 N (spec_l1Below_g0 N) a0 a1 a2 a3 k0 := by
  unfold spec_l1Once_g0 BV_spec_l1Once_g0
  rfl
theorem ve54_0 {β : Type} (N : Nat) (q_spec_l1Below_g0 : (a0 : Int) → (a1 : List Int) → (a2 : Int) → (a3 : Int) → (k0 : Int → List Int → Int → Int → Option β) → Option β) (a0 : Int) (a1 : List Int) (a2 : Int) (a3 : Int) (K : TV → List Blk → Option β) : evFnG lay (VE54 N q_spec_l1Below_g0) Try.f54 [.v (.one (.ptr 0 0)), .v (.one (.int .i64 a0))] [.pcells 0 62 [.sl 5 (.ints .u8 a1), .int .i64 a2, .int .i64 a3]] K = BV_spec_l1Once_g0 N q_spec_l1Below_g0 a0 a1 a2 a3 (fun y0 y1 y2 y3 => K (.v (.one (.bool y0))) [.pcells 0 62 [.sl 5 (.ints .u8 y1), .int .i64 y2, .int .i64 y3]]) := by kernel_rfl
theorem e54_0 {β : Type} (N : Nat) (a0 : Int) (a1 : List Int) (a2 : Int) (a3 : Int) (K : TV → List Blk → Option β) : evFnG lay (E54 N) Try.f54 [.v (.one (.ptr 0 0)), .v (.one (.int .i64 a0))] [.pcells 0 62 [.sl 5 (.ints .u8 a1), .int .i64 a2, .int .i64 a3]] K = spec_l1Once_g0 N a0 a1 a2 a3 (fun y0 y1 y2 y3 => K (.v (.one (.bool y0))) [.pcells 0 62 [.sl 5 (.ints .u8 y1), .int .i64 y2, .int .i64 y3]]) := (ve54_0 N (spec_l1Below_g0 N) a0 a1 a2 a3 K).trans (t_spec_l1Once_g0 N a0 a1 a2 a3 (fun y0 y1 y2 y3 => K (.v (.one (.bool y0))) [.pcells 0 62 [.sl 5 (.ints .u8 y1), .int .i64 y2, .int .i64 y3]])).symm
theorem o54 {β : Type} (N : Nat) : GOK (β := β) inv Try.prog 54 (S54 N) := by
  refine g_of lay_ok mixed (E := E54 N) (specs_loops specs_nil) muts_nil (gs_cons (o56 N) gs_nil) Try.func54 (by kernel_rfl) 0 (by kernel_rfl) trivial fun args bl K r h => ?_
  unfold S54 VS54 at h
  split at h
  · exact (e54_0 N _ _ _ _ _).trans h
  · cases h
def VSF53 {β : Type} (N : Nat) (q_spec_l5Draw_g0_f : Nat → Int → List Int → Int → Int → (ByteArray → List Int → Int → Int → Option β) → Option β) (G : Nat) : GSpec β := fun args bl K => match args, bl with
  | [.v (.one (.ptr 0 0)), .v (.one (.int .i64 a0))], [.pcells 0 62 [.sl 5 (.ints .u8 a1), .int .i64 a2, .int .i64 a3]] => q_spec_l5Draw_g0_f G a0 a1 a2 a3 (fun y0 y1 y2 y3 => K (.v (.one (.str y0))) [.pcells 0 62 [.sl 5 (.ints .u8 y1), .int .i64 y2, .int .i64 y3]])
  | _, _ => none
def SF53 {β : Type} (N : Nat) (G : Nat) : GSpec β := VSF53 N (spec_l5Draw_g0_f N) G
def VS53 {β : Type} (N : Nat) (q_spec_l5Draw_g0_f : Nat → Int → List Int → Int → Int → (ByteArray → List Int → Int → Int → Option β) → Option β) : GSpec β := VSF53 N q_spec_l5Draw_g0_f N
def S53 {β : Type} (N : Nat) : GSpec β := SF53 N N
def VE53 {β : Type} (N : Nat) (q_spec_l1Pick_g0 : (a0 : List Int) → (a1 : Int) → (a2 : Int) → (a3 : List ByteArray) → (k0 : ByteArray → List Int → Int → Int → List ByteArray → Option β) → Option β) (q_spec_l1Once_g0 : (a0 : Int) → (a1 : List Int) → (a2 : Int) → (a3 : Int) → (k0 : Bool → List Int → Int → Int → Option β) → Option β) (q_spec_l1Below_g0 : (a0 : Int) → (a1 : List Int) → (a2 : Int) → (a3 : Int) → (k0 : Int → List Int → Int → Int → Option β) → Option β) (q_spec_l5Draw_g0_f : Nat → Int → List Int → Int → Int → (ByteArray → List Int → Int → Int → Option β) → Option β) (G : Nat) : Env β := ⟨[], [], [], [(70, VS70 N q_spec_l1Pick_g0), (54, VS54 N q_spec_l1Once_g0), (56, VS56 N q_spec_l1Below_g0), (53, VSF53 N q_spec_l5Draw_g0_f G)], ⟨[], [], [], []⟩⟩
def E53 {β : Type} (N : Nat) (G : Nat) : Env β := VE53 N (spec_l1Pick_g0 N) (spec_l1Once_g0 N) (spec_l1Below_g0 N) (spec_l5Draw_g0_f N) G
def BV_spec_l5Draw_g0_b {β : Type} (N : Nat) (q_spec_l1Pick_g0 : (a0 : List Int) → (a1 : Int) → (a2 : Int) → (a3 : List ByteArray) → (k0 : ByteArray → List Int → Int → Int → List ByteArray → Option β) → Option β) (q_spec_l1Once_g0 : (a0 : Int) → (a1 : List Int) → (a2 : Int) → (a3 : Int) → (k0 : Bool → List Int → Int → Int → Option β) → Option β) (q_spec_l1Below_g0 : (a0 : Int) → (a1 : List Int) → (a2 : Int) → (a3 : Int) → (k0 : Int → List Int → Int → Int → Option β) → Option β) (self : Int → List Int → Int → Int → (ByteArray → List Int → Int → Int → Option β) → Option β) (a0 : Int) (a1 : List Int) (a2 : Int) (a3 : Int) (k0 : ByteArray → List Int → Int → Int → Option β) : Option β :=
(cond ((a0 == 0))
(q_spec_l1Pick_g0 a1 a2 a3 (((((((((((([] : List ByteArray) ++ [(strOf [97])]) ++ [(strOf [98])]) ++ [(strOf [99])]) ++ [(strOf [100])]) ++ [(strOf [33, 97])]) ++ [(strOf [33, 98])]) ++ [(strOf [97])]) ++ [(strOf [98])]) ++ [(strOf [48])]) ++ [(strOf [49])])) (fun r5_0 r5_1 r5_2 r5_3 r5_4 =>
k0 r5_0 r5_1 r5_2 r5_3))
(q_spec_l1Once_g0 4 a1 a2 a3 (fun r6_0 r6_1 r6_2 r6_3 =>
(cond r6_0
(q_spec_l1Pick_g0 r6_1 r6_2 r6_3 (((((((((((([] : List ByteArray) ++ [(strOf [97])]) ++ [(strOf [98])]) ++ [(strOf [99])]) ++ [(strOf [100])]) ++ [(strOf [33, 97])]) ++ [(strOf [33, 98])]) ++ [(strOf [97])]) ++ [(strOf [98])]) ++ [(strOf [48])]) ++ [(strOf [49])])) (fun r7_0 r7_1 r7_2 r7_3 r7_4 =>
k0 r7_0 r7_1 r7_2 r7_3))
(q_spec_l1Below_g0 7 r6_1 r6_2 r6_3 (fun r8_0 r8_1 r8_2 r8_3 =>
(cond ((r8_0 == 0))
(self ((w64 (a0 - 1))) r8_1 r8_2 r8_3 (fun r9_0 r9_1 r9_2 r9_3 =>
(gd ((decide (((strOf [33])).size + r9_0.size ≤ 9223372036854775807)))
(k0 (((strOf [33]) ++ r9_0)) r9_1 r9_2 r9_3))))
((cond ((r8_0 == 1))
(self ((w64 (a0 - 1))) r8_1 r8_2 r8_3 (fun r10_0 r10_1 r10_2 r10_3 =>
(gd ((decide (((strOf [94])).size + r10_0.size ≤ 9223372036854775807)))
(self ((w64 (a0 - 1))) r10_1 r10_2 r10_3 (fun r11_0 r11_1 r11_2 r11_3 =>
(gd ((decide ((((strOf [94]) ++ r10_0)).size + r11_0.size ≤ 9223372036854775807)))
(k0 ((((strOf [94]) ++ r10_0) ++ r11_0)) r11_1 r11_2 r11_3)))))))
((cond ((r8_0 == 2))
((cond ((r8_0 == 2))
(self ((w64 (a0 - 1))) r8_1 r8_2 r8_3 (fun r12_0 r12_1 r12_2 r12_3 =>
(gd ((decide (((strOf [124])).size + r12_0.size ≤ 9223372036854775807)))
(self ((w64 (a0 - 1))) r12_1 r12_2 r12_3 (fun r13_0 r13_1 r13_2 r13_3 =>
(gd ((decide ((((strOf [124]) ++ r12_0)).size + r13_0.size ≤ 9223372036854775807)))
(k0 ((((strOf [124]) ++ r12_0) ++ r13_0)) r13_1 r13_2 r13_3)))))))
(self ((w64 (a0 - 1))) r8_1 r8_2 r8_3 (fun r14_0 r14_1 r14_2 r14_3 =>
(gd ((decide (((strOf [38])).size + r14_0.size ≤ 9223372036854775807)))
(self ((w64 (a0 - 1))) r14_1 r14_2 r14_3 (fun r15_0 r15_1 r15_2 r15_3 =>
(gd ((decide ((((strOf [38]) ++ r14_0)).size + r15_0.size ≤ 9223372036854775807)))
(k0 ((((strOf [38]) ++ r14_0) ++ r15_0)) r15_1 r15_2 r15_3)))))))))
((cond ((r8_0 == 3))
(self ((w64 (a0 - 1))) r8_1 r8_2 r8_3 (fun r16_0 r16_1 r16_2 r16_3 =>
(gd ((decide (((strOf [124])).size + r16_0.size ≤ 9223372036854775807)))
(self ((w64 (a0 - 1))) r16_1 r16_2 r16_3 (fun r17_0 r17_1 r17_2 r17_3 =>
(gd ((decide ((((strOf [124]) ++ r16_0)).size + r17_0.size ≤ 9223372036854775807)))
(k0 ((((strOf [124]) ++ r16_0) ++ r17_0)) r17_1 r17_2 r17_3)))))))
(self ((w64 (a0 - 1))) r8_1 r8_2 r8_3 (fun r18_0 r18_1 r18_2 r18_3 =>
(gd ((decide (((strOf [38])).size + r18_0.size ≤ 9223372036854775807)))
(self ((w64 (a0 - 1))) r18_1 r18_2 r18_3 (fun r19_0 r19_1 r19_2 r19_3 =>
(gd ((decide ((((strOf [38]) ++ r18_0)).size + r19_0.size ≤ 9223372036854775807)))
(k0 ((((strOf [38]) ++ r18_0) ++ r19_0)) r19_1 r19_2 r19_3))))))))))))))))))))
theorem t_spec_l5Draw_g0_b {β : Type} (N : Nat) (self : Int → List Int → Int → Int → (ByteArray → List Int → Int → Int → Option β) → Option β) (a0 : Int) (a1 : List Int) (a2 : Int) (a3 : Int) (k0 : ByteArray → List Int → Int → Int → Option β) : spec_l5Draw_g0_b N self a0 a1 a2 a3 k0 = BV_spec_l5Draw_g0_b N (spec_l1Pick_g0 N) (spec_l1Once_g0 N) (spec_l1Below_g0 N) self a0 a1 a2 a3 k0 := by
  unfold spec_l5Draw_g0_b BV_spec_l5Draw_g0_b
  rfl
theorem ve53_0 {β : Type} (N : Nat) (q_spec_l1Pick_g0 : (a0 : List Int) → (a1 : Int) → (a2 : Int) → (a3 : List ByteArray) → (k0 : ByteArray → List Int → Int → Int → List ByteArray → Option β) → Option β) (q_spec_l1Once_g0 : (a0 : Int) → (a1 : List Int) → (a2 : Int) → (a3 : Int) → (k0 : Bool → List Int → Int → Int → Option β) → Option β) (q_spec_l1Below_g0 : (a0 : Int) → (a1 : List Int) → (a2 : Int) → (a3 : Int) → (k0 : Int → List Int → Int → Int → Option β) → Option β) (q_spec_l5Draw_g0_f : Nat → Int → List Int → Int → Int → (ByteArray → List Int → Int → Int → Option β) → Option β) (G : Nat) (a0 : Int) (a1 : List Int) (a2 : Int) (a3 : Int) (K : TV → List Blk → Option β) : evFnG lay (VE53 N q_spec_l1Pick_g0 q_spec_l1Once_g0 q_spec_l1Below_g0 q_spec_l5Draw_g0_f G) Try.f53 [.v (.one (.ptr 0 0)), .v (.one (.int .i64 a0))] [.pcells 0 62 [.sl 5 (.ints .u8 a1), .int .i64 a2, .int .i64 a3]] K = BV_spec_l5Draw_g0_b N q_spec_l1Pick_g0 q_spec_l1Once_g0 q_spec_l1Below_g0 (q_spec_l5Draw_g0_f G) a0 a1 a2 a3 (fun y0 y1 y2 y3 => K (.v (.one (.str y0))) [.pcells 0 62 [.sl 5 (.ints .u8 y1), .int .i64 y2, .int .i64 y3]]) := by kernel_rfl
theorem e53_0 {β : Type} (N : Nat) (G : Nat) (a0 : Int) (a1 : List Int) (a2 : Int) (a3 : Int) (K : TV → List Blk → Option β) : evFnG lay (E53 N G) Try.f53 [.v (.one (.ptr 0 0)), .v (.one (.int .i64 a0))] [.pcells 0 62 [.sl 5 (.ints .u8 a1), .int .i64 a2, .int .i64 a3]] K = spec_l5Draw_g0_f N (G + 1) a0 a1 a2 a3 (fun y0 y1 y2 y3 => K (.v (.one (.str y0))) [.pcells 0 62 [.sl 5 (.ints .u8 y1), .int .i64 y2, .int .i64 y3]]) := (ve53_0 N (spec_l1Pick_g0 N) (spec_l1Once_g0 N) (spec_l1Below_g0 N) (spec_l5Draw_g0_f N) G a0 a1 a2 a3 K).trans (t_spec_l5Draw_g0_b N (spec_l5Draw_g0_f N G) a0 a1 a2 a3 (fun y0 y1 y2 y3 => K (.v (.one (.str y0))) [.pcells 0 62 [.sl 5 (.ints .u8 y1), .int .i64 y2, .int .i64 y3]])).symm
theorem z53 {β : Type} (N : Nat) : ∀ args bl K r, SF53 (β := β) N 0 args bl K = some r → (none : Option β) = some r := by
  intro args bl K r h
  unfold SF53 VSF53 at h
  split at h <;> exact h
theorem of53 {β : Type} (N : Nat) : ∀ G, GOK (β := β) inv Try.prog 53 (SF53 N G) := by
  intro G
  induction G with
  | zero => exact g_zero Try.func53 (by kernel_rfl) (z53 N)
  | succ G ih =>
    refine g_of lay_ok mixed (E := E53 N G) (specs_loops specs_nil) muts_nil (gs_cons (o70 N) (gs_cons (o54 N) (gs_cons (o56 N) (gs_cons ih gs_nil)))) Try.func53 (by kernel_rfl) 0 (by kernel_rfl) trivial fun args bl K r h => ?_
    unfold SF53 VSF53 at h
    split at h
    · exact (e53_0 N G _ _ _ _ _).trans h
    · cases h
theorem o53 {β : Type} (N : Nat) : GOK (β := β) inv Try.prog 53 (S53 N) := of53 N N
def VS71 {β : Type} (N : Nat) (q_spec_l1Text_g0 : (a0 : Int) → (a1 : List Int) → (a2 : Int) → (a3 : Int) → (k0 : ByteArray → List Int → Int → Int → Option β) → Option β) : GSpec β := fun args bl K => match args, bl with
  | [.v (.one (.ptr 0 0)), .v (.one (.int .i64 a0))], [.pcells 0 62 [.sl 5 (.ints .u8 a1), .int .i64 a2, .int .i64 a3]] => q_spec_l1Text_g0 a0 a1 a2 a3 (fun y0 y1 y2 y3 => K (.v (.one (.str y0))) [.pcells 0 62 [.sl 5 (.ints .u8 y1), .int .i64 y2, .int .i64 y3]])
  | _, _ => none
def S71 {β : Type} (N : Nat) : GSpec β := VS71 N (spec_l1Text_g0 N)
def h71_0_0  (v0 : Int) (v1 : Int) (v2 : List Int) (v3 : Int) (v4 : Int) (v5 : List Int) : St := ⟨.v (.one (.ptr 0 0)) :: .v (.one .und) :: .v (.one .und) :: .v (.one .und) :: .v (.one .und) :: .v (.one (.row 1)) :: .v (.one (.int .i64 v0)) :: .v (.one (.int .i64 v1)) :: .v (.one .und) :: .v (.one .und) :: .v (.one .und) :: .v (.one .und) :: .v (.one .und) :: .v (.one .und) :: .v (.one .und) :: .v (.one .und) :: .v (.one .und) :: .v (.one .und) :: .v (.one .und) :: .v (.one .und) :: .v (.one .und) :: .v (.one .und) :: .v (.one .und) :: .v (.one .und) :: .v (.one .und) :: .v (.one .und) :: .v (.one .und) :: .v (.one .und) :: .v (.one .und) :: .v (.one .und) :: .v (.one .und) :: .v (.one .und) :: .v (.one .und) :: .v (.one .und) :: .v (.one .und) :: .v (.one .und) :: .v (.one .und) :: .v (.one .und) :: [], [.pcells 0 62 [.sl 5 (.ints .u8 v2), .int .i64 v3, .int .i64 v4], .row 5 (.ints .u8 v5)]⟩
def x71_0_0_k0  (y0 : List Int) (y1 : Int) (y2 : Int) (y3 : List Int) : St := ⟨.v (.one .und) :: .v (.one .und) :: .v (.one .und) :: .v (.one .und) :: .v (.one .und) :: .v (.one (.row 1)) :: .v (.one .und) :: .v (.one .und) :: .v (.one .und) :: .v (.one .und) :: .v (.one .und) :: .v (.one .und) :: .v (.one .und) :: .v (.one .und) :: .v (.one .und) :: .v (.one .und) :: .v (.one .und) :: .v (.one .und) :: .v (.one .und) :: .v (.one .und) :: .v (.one .und) :: .v (.one .und) :: .v (.one .und) :: .v (.one .und) :: .v (.one .und) :: .v (.one .und) :: .v (.one .und) :: .v (.one .und) :: .v (.one .und) :: .v (.one .und) :: .v (.one .und) :: .v (.one .und) :: .v (.one .und) :: .v (.one .und) :: .v (.one .und) :: .v (.one .und) :: .v (.one .und) :: .v (.one .und) :: [], [.pcells 0 62 [.sl 5 (.ints .u8 y0), .int .i64 y1, .int .i64 y2], .row 5 (.ints .u8 y3)]⟩
theorem fl71_0_0 (s : St) : refSt (h71_0_0 0 0 [] 0 0 []) s = h71_0_0 (intS (oneA (vT (nx tund s.tmps 6)))) (intS (oneA (vT (nx tund s.tmps 7)))) (rInts (rowV (nx .und (cellsB (nx .dead s.blks 0)) 0))) (intS (nx .und (cellsB (nx .dead s.blks 0)) 1)) (intS (nx .und (cellsB (nx .dead s.blks 0)) 2)) (rInts (rowB_ (nx .dead s.blks 1))) := by kernel_rfl
def VLS71_0 {β : Type} (N : Nat) (q_spec_l1Text_l0 : Nat → Int → Int → List Int → Int → Int → List Int → (List Int → Int → Int → List Int → Option β) → Option β) : LSpec β := fun s K => cond (shpSt (h71_0_0 0 0 [] 0 0 []) s) ((fun (v0 : Int) (v1 : Int) (v2 : List Int) (v3 : Int) (v4 : Int) (v5 : List Int) => q_spec_l1Text_l0  N v0 v1 v2 v3 v4 v5 (fun y0 y1 y2 y3 => K (.exit 0) (x71_0_0_k0  y0 y1 y2 y3))) (intS (oneA (vT (nx tund s.tmps 6)))) (intS (oneA (vT (nx tund s.tmps 7)))) (rInts (rowV (nx .und (cellsB (nx .dead s.blks 0)) 0))) (intS (nx .und (cellsB (nx .dead s.blks 0)) 1)) (intS (nx .und (cellsB (nx .dead s.blks 0)) 2)) (rInts (rowB_ (nx .dead s.blks 1)))) (none)
def LS71_0 {β : Type} (N : Nat) : LSpec β := VLS71_0 N (spec_l1Text_l0 N)
def VE71 {β : Type} (N : Nat) (q_spec_l1Text_l0 : Nat → Int → Int → List Int → Int → Int → List Int → (List Int → Int → Int → List Int → Option β) → Option β) (q_spec_l1Below_g0 : (a0 : Int) → (a1 : List Int) → (a2 : Int) → (a3 : Int) → (k0 : Int → List Int → Int → Int → Option β) → Option β) (q_spec_l1Byte_g0 : (a0 : List Int) → (a1 : Int) → (a2 : Int) → (k0 : Int → List Int → Int → Int → Option β) → Option β) : Env β := ⟨[], [], [(0, VLS71_0 N q_spec_l1Text_l0)], [(56, VS56 N q_spec_l1Below_g0), (72, VS72 N q_spec_l1Byte_g0)], ⟨[], [], [], []⟩⟩
def E71 {β : Type} (N : Nat) : Env β := VE71 N (spec_l1Text_l0 N) (spec_l1Below_g0 N) (spec_l1Byte_g0 N)
def BV_spec_l1Text_l0b {β : Type} (N : Nat) (q_spec_l1Byte_g0 : (a0 : List Int) → (a1 : Int) → (a2 : Int) → (k0 : Int → List Int → Int → Int → Option β) → Option β)  (v0 : Int) (v1 : Int) (v2 : List Int) (v3 : Int) (v4 : Int) (v5 : List Int) (rec_ : Int → Int → List Int → Int → Int → List Int → Option β) (k0 : List Int → Int → Int → List Int → Option β) : Option β :=
(cond ((decide (v1 > 0)))
(q_spec_l1Byte_g0 v2 v3 v4 (fun r24_0 r24_1 r24_2 r24_3 =>
(cond ((v0 == 1))
((cond ((v0 == 2))
((gd ((decide ((v5.length + ((([] : List Int) ++ [(w8 ((w64 (97 + (remI (remI r24_0 2) 4)))))])).length) * 1 ≤ 140737488355328)))
(rec_ v0 ((w64 (v1 - 1))) r24_1 r24_2 r24_3 ((v5 ++ (([] : List Int) ++ [(w8 ((w64 (97 + (remI (remI r24_0 2) 4)))))]))))))
((gd ((decide ((v5.length + ((([] : List Int) ++ [(w8 ((remI r24_0 2)))])).length) * 1 ≤ 140737488355328)))
(rec_ v0 ((w64 (v1 - 1))) r24_1 r24_2 r24_3 ((v5 ++ (([] : List Int) ++ [(w8 ((remI r24_0 2)))]))))))))
((cond ((v0 == 2))
((gd ((decide ((v5.length + ((([] : List Int) ++ [(w8 ((w64 (97 + (remI r24_0 4)))))])).length) * 1 ≤ 140737488355328)))
(rec_ v0 ((w64 (v1 - 1))) r24_1 r24_2 r24_3 ((v5 ++ (([] : List Int) ++ [(w8 ((w64 (97 + (remI r24_0 4)))))]))))))
((gd ((decide ((v5.length + ((([] : List Int) ++ [(w8 (r24_0))])).length) * 1 ≤ 140737488355328)))
(rec_ v0 ((w64 (v1 - 1))) r24_1 r24_2 r24_3 ((v5 ++ (([] : List Int) ++ [(w8 (r24_0))])))))))))))
(k0 v2 v3 v4 v5))
theorem t_spec_l1Text_l0b {β : Type} (N : Nat)  (v0 : Int) (v1 : Int) (v2 : List Int) (v3 : Int) (v4 : Int) (v5 : List Int) (rec_ : Int → Int → List Int → Int → Int → List Int → Option β) (k0 : List Int → Int → Int → List Int → Option β) : spec_l1Text_l0b N v0 v1 v2 v3 v4 v5 rec_ k0 = BV_spec_l1Text_l0b N (spec_l1Byte_g0 N) v0 v1 v2 v3 v4 v5 rec_ k0 := by
  unfold spec_l1Text_l0b BV_spec_l1Text_l0b
  rfl
theorem vst71_0_0 {β : Type} (N : Nat) (q_spec_l1Text_l0 : Nat → Int → Int → List Int → Int → Int → List Int → (List Int → Int → Int → List Int → Option β) → Option β) (q_spec_l1Below_g0 : (a0 : Int) → (a1 : List Int) → (a2 : Int) → (a3 : Int) → (k0 : Int → List Int → Int → Int → Option β) → Option β) (q_spec_l1Byte_g0 : (a0 : List Int) → (a1 : Int) → (a2 : Int) → (k0 : Int → List Int → Int → Int → Option β) → Option β)  (v0 : Int) (v1 : Int) (v2 : List Int) (v3 : Int) (v4 : Int) (v5 : List Int) (rec_ : St → Option β) (K : Exit → St → Option β) :
    ev lay (VE71 N q_spec_l1Text_l0 q_spec_l1Below_g0 q_spec_l1Byte_g0) (retMask Try.f71) (lp Try.f71 0).body (lp Try.f71 0).ex ((lp Try.f71 0).lv (retMask Try.f71)) (h71_0_0  v0 v1 v2 v3 v4 v5) (nextR (fun s' => rec_ (s'.tidy ((lp Try.f71 0).lv (retMask Try.f71)))) K) = BV_spec_l1Text_l0b N q_spec_l1Byte_g0  v0 v1 v2 v3 v4 v5 (fun v0 v1 v2 v3 v4 v5 => rec_ (h71_0_0  v0 v1 v2 v3 v4 v5)) (fun y0 y1 y2 y3 => K (.exit 0) (x71_0_0_k0  y0 y1 y2 y3)) := by kernel_rfl
theorem st71_0_0 {β : Type} (N : Nat)  (v0 : Int) (v1 : Int) (v2 : List Int) (v3 : Int) (v4 : Int) (v5 : List Int) (rec_ : St → Option β) (K : Exit → St → Option β) :
    ev lay (E71 N) (retMask Try.f71) (lp Try.f71 0).body (lp Try.f71 0).ex ((lp Try.f71 0).lv (retMask Try.f71)) (h71_0_0  v0 v1 v2 v3 v4 v5) (nextR (fun s' => rec_ (s'.tidy ((lp Try.f71 0).lv (retMask Try.f71)))) K) = spec_l1Text_l0b N  v0 v1 v2 v3 v4 v5 (fun v0 v1 v2 v3 v4 v5 => rec_ (h71_0_0  v0 v1 v2 v3 v4 v5)) (fun y0 y1 y2 y3 => K (.exit 0) (x71_0_0_k0  y0 y1 y2 y3)) := (vst71_0_0 N (spec_l1Text_l0 N) (spec_l1Below_g0 N) (spec_l1Byte_g0 N) v0 v1 v2 v3 v4 v5 rec_ K).trans (t_spec_l1Text_l0b N  v0 v1 v2 v3 v4 v5 (fun v0 v1 v2 v3 v4 v5 => rec_ (h71_0_0  v0 v1 v2 v3 v4 v5)) (fun y0 y1 y2 y3 => K (.exit 0) (x71_0_0_k0  y0 y1 y2 y3))).symm
theorem ro71_0_0 {β : Type} (N : Nat)  (K : Exit → St → Option β) : ∀ (F : Nat) (v0 : Int) (v1 : Int) (v2 : List Int) (v3 : Int) (v4 : Int) (v5 : List Int), (lp Try.f71 0).rounds lay (E71 N) (retMask Try.f71) F (h71_0_0  v0 v1 v2 v3 v4 v5) K = spec_l1Text_l0 N  F v0 v1 v2 v3 v4 v5 (fun y0 y1 y2 y3 => K (.exit 0) (x71_0_0_k0  y0 y1 y2 y3)) := by
  intro F
  induction F with
  | zero => intros; rfl
  | succ F ih =>
    intros
    rw [rounds_next]
    refine (st71_0_0 N  _ _ _ _ _ _ (fun s => (lp Try.f71 0).rounds lay (E71 N) (retMask Try.f71) F s K) K).trans ?_
    simp only [ih]
    rfl
theorem lk71_0 {β : Type} (N : Nat) : lookL (E71 (β := β) N).loops (lp Try.f71 0).id = LS71_0 N := by kernel_rfl
theorem rk71_0 {β : Type} (N : Nat) : RoundsOK lay (E71 (β := β) N) (retMask Try.f71) (lp Try.f71 0) := by
  intro s K r h
  rw [lk71_0] at h
  unfold LS71_0 VLS71_0 at h
  cases hb : shpSt (h71_0_0 0 0 [] 0 0 []) s with
  | true =>
    rw [hb, cond_true] at h
    exact ⟨N, by rw [← shpSt_ref hb, fl71_0_0 s]; exact (ro71_0_0 N  K N (intS (oneA (vT (nx tund s.tmps 6)))) (intS (oneA (vT (nx tund s.tmps 7)))) (rInts (rowV (nx .und (cellsB (nx .dead s.blks 0)) 0))) (intS (nx .und (cellsB (nx .dead s.blks 0)) 1)) (intS (nx .und (cellsB (nx .dead s.blks 0)) 2)) (rInts (rowB_ (nx .dead s.blks 1)))).trans h⟩
  | false =>
  rw [hb, cond_false] at h
  clear hb
  cases h
def BV_spec_l1Text_g0 {β : Type} (N : Nat) (q_spec_l1Below_g0 : (a0 : Int) → (a1 : List Int) → (a2 : Int) → (a3 : Int) → (k0 : Int → List Int → Int → Int → Option β) → Option β) (q_spec_l1Text_l0 : Nat → Int → Int → List Int → Int → Int → List Int → (List Int → Int → Int → List Int → Option β) → Option β) (a0 : Int) (a1 : List Int) (a2 : Int) (a3 : Int) (k0 : ByteArray → List Int → Int → Int → Option β) : Option β :=
q_spec_l1Below_g0 4 a1 a2 a3 (fun r22_0 r22_1 r22_2 r22_3 =>
q_spec_l1Below_g0 ((w64 (a0 + 1))) r22_1 r22_2 r22_3 (fun r23_0 r23_1 r23_2 r23_3 =>
q_spec_l1Text_l0  N r22_0 r23_0 r23_1 r23_2 r23_3 (([] : List Int)) (fun e25_0 e25_1 e25_2 e25_3 =>
k0 ((strOf e25_3)) e25_0 e25_1 e25_2)))
theorem t_spec_l1Text_g0 {β : Type} (N : Nat) (a0 : Int) (a1 : List Int) (a2 : Int) (a3 : Int) (k0 : ByteArray → List Int → Int → Int → Option β) : spec_l1Text_g0 N a0 a1 a2 a3 k0 = BV_spec_l1Text_g0 N (spec_l1Below_g0 N) (spec_l1Text_l0 N) a0 a1 a2 a3 k0 := by
  unfold spec_l1Text_g0 BV_spec_l1Text_g0
  rfl
theorem ve71_0 {β : Type} (N : Nat) (q_spec_l1Text_l0 : Nat → Int → Int → List Int → Int → Int → List Int → (List Int → Int → Int → List Int → Option β) → Option β) (q_spec_l1Below_g0 : (a0 : Int) → (a1 : List Int) → (a2 : Int) → (a3 : Int) → (k0 : Int → List Int → Int → Int → Option β) → Option β) (q_spec_l1Byte_g0 : (a0 : List Int) → (a1 : Int) → (a2 : Int) → (k0 : Int → List Int → Int → Int → Option β) → Option β) (a0 : Int) (a1 : List Int) (a2 : Int) (a3 : Int) (K : TV → List Blk → Option β) : evFnG lay (VE71 N q_spec_l1Text_l0 q_spec_l1Below_g0 q_spec_l1Byte_g0) Try.f71 [.v (.one (.ptr 0 0)), .v (.one (.int .i64 a0))] [.pcells 0 62 [.sl 5 (.ints .u8 a1), .int .i64 a2, .int .i64 a3]] K = BV_spec_l1Text_g0 N q_spec_l1Below_g0 q_spec_l1Text_l0 a0 a1 a2 a3 (fun y0 y1 y2 y3 => K (.v (.one (.str y0))) [.pcells 0 62 [.sl 5 (.ints .u8 y1), .int .i64 y2, .int .i64 y3]]) := by kernel_rfl
theorem e71_0 {β : Type} (N : Nat) (a0 : Int) (a1 : List Int) (a2 : Int) (a3 : Int) (K : TV → List Blk → Option β) : evFnG lay (E71 N) Try.f71 [.v (.one (.ptr 0 0)), .v (.one (.int .i64 a0))] [.pcells 0 62 [.sl 5 (.ints .u8 a1), .int .i64 a2, .int .i64 a3]] K = spec_l1Text_g0 N a0 a1 a2 a3 (fun y0 y1 y2 y3 => K (.v (.one (.str y0))) [.pcells 0 62 [.sl 5 (.ints .u8 y1), .int .i64 y2, .int .i64 y3]]) := (ve71_0 N (spec_l1Text_l0 N) (spec_l1Below_g0 N) (spec_l1Byte_g0 N) a0 a1 a2 a3 K).trans (t_spec_l1Text_g0 N a0 a1 a2 a3 (fun y0 y1 y2 y3 => K (.v (.one (.str y0))) [.pcells 0 62 [.sl 5 (.ints .u8 y1), .int .i64 y2, .int .i64 y3]])).symm
theorem o71 {β : Type} (N : Nat) : GOK (β := β) inv Try.prog 71 (S71 N) := by
  refine g_of lay_ok mixed (E := E71 N) (specs_loops specs_nil) muts_nil (gs_cons (o56 N) (gs_cons (o72 N) gs_nil)) Try.func71 (by kernel_rfl) 1 (by kernel_rfl) ⟨trivial, rk71_0 N⟩ fun args bl K r h => ?_
  unfold S71 VS71 at h
  split at h
  · exact (e71_0 N _ _ _ _ _).trans h
  · cases h
def VS55 {β : Type} (N : Nat) (q_spec_l1Spoil_g0 : (a0 : ByteArray) → (a1 : List Int) → (a2 : Int) → (a3 : Int) → (k0 : ByteArray → List Int → Int → Int → Option β) → Option β) : GSpec β := fun args bl K => match args, bl with
  | [.v (.one (.ptr 0 0)), .v (.one (.str a0))], [.pcells 0 62 [.sl 5 (.ints .u8 a1), .int .i64 a2, .int .i64 a3]] => q_spec_l1Spoil_g0 a0 a1 a2 a3 (fun y0 y1 y2 y3 => K (.v (.one (.str y0))) [.pcells 0 62 [.sl 5 (.ints .u8 y1), .int .i64 y2, .int .i64 y3]])
  | _, _ => none
def S55 {β : Type} (N : Nat) : GSpec β := VS55 N (spec_l1Spoil_g0 N)
def VE55 {β : Type} (N : Nat) (q_spec_l1Text_g0 : (a0 : Int) → (a1 : List Int) → (a2 : Int) → (a3 : Int) → (k0 : ByteArray → List Int → Int → Int → Option β) → Option β) (q_spec_l1Below_g0 : (a0 : Int) → (a1 : List Int) → (a2 : Int) → (a3 : Int) → (k0 : Int → List Int → Int → Int → Option β) → Option β) (q_spec_l1Byte_g0 : (a0 : List Int) → (a1 : Int) → (a2 : Int) → (k0 : Int → List Int → Int → Int → Option β) → Option β) : Env β := ⟨[], [], [], [(71, VS71 N q_spec_l1Text_g0), (56, VS56 N q_spec_l1Below_g0), (72, VS72 N q_spec_l1Byte_g0)], ⟨[], [], [], []⟩⟩
def E55 {β : Type} (N : Nat) : Env β := VE55 N (spec_l1Text_g0 N) (spec_l1Below_g0 N) (spec_l1Byte_g0 N)
def BV_spec_l1Spoil_g0 {β : Type} (N : Nat) (q_spec_l1Text_g0 : (a0 : Int) → (a1 : List Int) → (a2 : Int) → (a3 : Int) → (k0 : ByteArray → List Int → Int → Int → Option β) → Option β) (q_spec_l1Below_g0 : (a0 : Int) → (a1 : List Int) → (a2 : Int) → (a3 : Int) → (k0 : Int → List Int → Int → Int → Option β) → Option β) (q_spec_l1Byte_g0 : (a0 : List Int) → (a1 : Int) → (a2 : Int) → (k0 : Int → List Int → Int → Int → Option β) → Option β) (a0 : ByteArray) (a1 : List Int) (a2 : Int) (a3 : Int) (k0 : ByteArray → List Int → Int → Int → Option β) : Option β :=
(cond (((a0.size : Int) == 0))
(q_spec_l1Text_g0 3 a1 a2 a3 (fun r26_0 r26_1 r26_2 r26_3 =>
k0 r26_0 r26_1 r26_2 r26_3))
(q_spec_l1Below_g0 ((a0.size : Int)) a1 a2 a3 (fun r27_0 r27_1 r27_2 r27_3 =>
q_spec_l1Below_g0 4 r27_1 r27_2 r27_3 (fun r28_0 r28_1 r28_2 r28_3 =>
(cond ((r28_0 == 0))
((gd ((decide (0 ≤ r27_0)))
((gd ((decide (r27_0 ≤ (a0.size : Int))))
((gd ((decide (0 ≤ (w64 (r27_0 + 1)))))
((gd ((decide ((w64 (r27_0 + 1)) ≤ (a0.size : Int))))
((gd ((decide (((a0.extract 0 (Int.toNat r27_0))).size + ((a0.extract (Int.toNat (w64 (r27_0 + 1))) a0.size)).size ≤ 9223372036854775807)))
(k0 (((a0.extract 0 (Int.toNat r27_0)) ++ (a0.extract (Int.toNat (w64 (r27_0 + 1))) a0.size))) r28_1 r28_2 r28_3)))))))))))
((cond ((r28_0 == 1))
((gd ((decide (0 ≤ r27_0)))
((gd ((decide (r27_0 ≤ (a0.size : Int))))
((gd ((decide (0 ≤ r27_0)))
((gd ((decide (r27_0 ≤ (a0.size : Int))))
(q_spec_l1Byte_g0 r28_1 r28_2 r28_3 (fun r29_0 r29_1 r29_2 r29_3 =>
(gd ((decide (((a0.extract 0 (Int.toNat r27_0))).size + ((strOf ((([] : List Int) ++ [(w8 (r29_0))])))).size ≤ 9223372036854775807)))
((gd ((decide ((((a0.extract 0 (Int.toNat r27_0)) ++ (strOf ((([] : List Int) ++ [(w8 (r29_0))]))))).size + ((a0.extract (Int.toNat r27_0) a0.size)).size ≤ 9223372036854775807)))
(k0 ((((a0.extract 0 (Int.toNat r27_0)) ++ (strOf ((([] : List Int) ++ [(w8 (r29_0))])))) ++ (a0.extract (Int.toNat r27_0) a0.size))) r29_1 r29_2 r29_3))))))))))))))
((cond ((r28_0 == 2))
((gd ((decide (0 ≤ r27_0)))
((gd ((decide (r27_0 ≤ (a0.size : Int))))
(k0 ((a0.extract 0 (Int.toNat r27_0))) r28_1 r28_2 r28_3)))))
((gd ((decide (0 ≤ r27_0)))
((gd ((decide (r27_0 ≤ (a0.size : Int))))
((gd ((decide (0 ≤ r27_0)))
((gd ((decide (r27_0 < (a0.size : Int))))
((gd ((decide (0 ≤ (w64 (r27_0 + 1)))))
((gd ((decide ((w64 (r27_0 + 1)) ≤ (a0.size : Int))))
(q_spec_l1Below_g0 255 r28_1 r28_2 r28_3 (fun r30_0 r30_1 r30_2 r30_3 =>
(gd ((decide (((a0.extract 0 (Int.toNat r27_0))).size + ((strOf ((([] : List Int) ++ [(w8 ((bits .xor .i64 (w64 ((bt a0 r27_0))) (w64 (1 + r30_0)))))])))).size ≤ 9223372036854775807)))
((gd ((decide ((((a0.extract 0 (Int.toNat r27_0)) ++ (strOf ((([] : List Int) ++ [(w8 ((bits .xor .i64 (w64 ((bt a0 r27_0))) (w64 (1 + r30_0)))))]))))).size + ((a0.extract (Int.toNat (w64 (r27_0 + 1))) a0.size)).size ≤ 9223372036854775807)))
(k0 ((((a0.extract 0 (Int.toNat r27_0)) ++ (strOf ((([] : List Int) ++ [(w8 ((bits .xor .i64 (w64 ((bt a0 r27_0))) (w64 (1 + r30_0)))))])))) ++ (a0.extract (Int.toNat (w64 (r27_0 + 1))) a0.size))) r30_1 r30_2 r30_3)))))))))))))))))))))))))))
theorem t_spec_l1Spoil_g0 {β : Type} (N : Nat) (a0 : ByteArray) (a1 : List Int) (a2 : Int) (a3 : Int) (k0 : ByteArray → List Int → Int → Int → Option β) : spec_l1Spoil_g0 N a0 a1 a2 a3 k0 = BV_spec_l1Spoil_g0 N (spec_l1Text_g0 N) (spec_l1Below_g0 N) (spec_l1Byte_g0 N) a0 a1 a2 a3 k0 := by
  unfold spec_l1Spoil_g0 BV_spec_l1Spoil_g0
  rfl
theorem ve55_0 {β : Type} (N : Nat) (q_spec_l1Text_g0 : (a0 : Int) → (a1 : List Int) → (a2 : Int) → (a3 : Int) → (k0 : ByteArray → List Int → Int → Int → Option β) → Option β) (q_spec_l1Below_g0 : (a0 : Int) → (a1 : List Int) → (a2 : Int) → (a3 : Int) → (k0 : Int → List Int → Int → Int → Option β) → Option β) (q_spec_l1Byte_g0 : (a0 : List Int) → (a1 : Int) → (a2 : Int) → (k0 : Int → List Int → Int → Int → Option β) → Option β) (a0 : ByteArray) (a1 : List Int) (a2 : Int) (a3 : Int) (K : TV → List Blk → Option β) : evFnG lay (VE55 N q_spec_l1Text_g0 q_spec_l1Below_g0 q_spec_l1Byte_g0) Try.f55 [.v (.one (.ptr 0 0)), .v (.one (.str a0))] [.pcells 0 62 [.sl 5 (.ints .u8 a1), .int .i64 a2, .int .i64 a3]] K = BV_spec_l1Spoil_g0 N q_spec_l1Text_g0 q_spec_l1Below_g0 q_spec_l1Byte_g0 a0 a1 a2 a3 (fun y0 y1 y2 y3 => K (.v (.one (.str y0))) [.pcells 0 62 [.sl 5 (.ints .u8 y1), .int .i64 y2, .int .i64 y3]]) := by kernel_rfl
theorem e55_0 {β : Type} (N : Nat) (a0 : ByteArray) (a1 : List Int) (a2 : Int) (a3 : Int) (K : TV → List Blk → Option β) : evFnG lay (E55 N) Try.f55 [.v (.one (.ptr 0 0)), .v (.one (.str a0))] [.pcells 0 62 [.sl 5 (.ints .u8 a1), .int .i64 a2, .int .i64 a3]] K = spec_l1Spoil_g0 N a0 a1 a2 a3 (fun y0 y1 y2 y3 => K (.v (.one (.str y0))) [.pcells 0 62 [.sl 5 (.ints .u8 y1), .int .i64 y2, .int .i64 y3]]) := (ve55_0 N (spec_l1Text_g0 N) (spec_l1Below_g0 N) (spec_l1Byte_g0 N) a0 a1 a2 a3 K).trans (t_spec_l1Spoil_g0 N a0 a1 a2 a3 (fun y0 y1 y2 y3 => K (.v (.one (.str y0))) [.pcells 0 62 [.sl 5 (.ints .u8 y1), .int .i64 y2, .int .i64 y3]])).symm
theorem o55 {β : Type} (N : Nat) : GOK (β := β) inv Try.prog 55 (S55 N) := by
  refine g_of lay_ok mixed (E := E55 N) (specs_loops specs_nil) muts_nil (gs_cons (o71 N) (gs_cons (o56 N) (gs_cons (o72 N) gs_nil))) Try.func55 (by kernel_rfl) 0 (by kernel_rfl) trivial fun args bl K r h => ?_
  unfold S55 VS55 at h
  split at h
  · exact (e55_0 N _ _ _ _ _).trans h
  · cases h
def VS29 {β : Type} (N : Nat) (q_spec_l5Any_g0 : (a0 : List Int) → (a1 : Int) → (a2 : Int) → (k0 : ByteArray → List Int → Int → Int → Option β) → Option β) : GSpec β := fun args bl K => match args, bl with
  | [.v (.one (.ptr 0 0))], [.pcells 0 62 [.sl 5 (.ints .u8 a0), .int .i64 a1, .int .i64 a2]] => q_spec_l5Any_g0 a0 a1 a2 (fun y0 y1 y2 y3 => K (.v (.one (.str y0))) [.pcells 0 62 [.sl 5 (.ints .u8 y1), .int .i64 y2, .int .i64 y3]])
  | _, _ => none
def S29 {β : Type} (N : Nat) : GSpec β := VS29 N (spec_l5Any_g0 N)
def VE29 {β : Type} (N : Nat) (q_spec_l5Draw_g0_f : Nat → Int → List Int → Int → Int → (ByteArray → List Int → Int → Int → Option β) → Option β) (q_spec_l1Once_g0 : (a0 : Int) → (a1 : List Int) → (a2 : Int) → (a3 : Int) → (k0 : Bool → List Int → Int → Int → Option β) → Option β) (q_spec_l1Spoil_g0 : (a0 : ByteArray) → (a1 : List Int) → (a2 : Int) → (a3 : Int) → (k0 : ByteArray → List Int → Int → Int → Option β) → Option β) : Env β := ⟨[], [], [], [(53, VS53 N q_spec_l5Draw_g0_f), (54, VS54 N q_spec_l1Once_g0), (55, VS55 N q_spec_l1Spoil_g0)], ⟨[], [], [], []⟩⟩
def E29 {β : Type} (N : Nat) : Env β := VE29 N (spec_l5Draw_g0_f N) (spec_l1Once_g0 N) (spec_l1Spoil_g0 N)
def BV_spec_l5Any_g0 {β : Type} (N : Nat) (q_spec_l5Draw_g0_f : Nat → Int → List Int → Int → Int → (ByteArray → List Int → Int → Int → Option β) → Option β) (q_spec_l1Once_g0 : (a0 : Int) → (a1 : List Int) → (a2 : Int) → (a3 : Int) → (k0 : Bool → List Int → Int → Int → Option β) → Option β) (q_spec_l1Spoil_g0 : (a0 : ByteArray) → (a1 : List Int) → (a2 : Int) → (a3 : Int) → (k0 : ByteArray → List Int → Int → Int → Option β) → Option β) (a0 : List Int) (a1 : Int) (a2 : Int) (k0 : ByteArray → List Int → Int → Int → Option β) : Option β :=
q_spec_l5Draw_g0_f N 3 a0 a1 a2 (fun r20_0 r20_1 r20_2 r20_3 =>
q_spec_l1Once_g0 10 r20_1 r20_2 r20_3 (fun r21_0 r21_1 r21_2 r21_3 =>
(cond r21_0
(q_spec_l1Spoil_g0 r20_0 r21_1 r21_2 r21_3 (fun r31_0 r31_1 r31_2 r31_3 =>
k0 r31_0 r31_1 r31_2 r31_3))
(k0 r20_0 r21_1 r21_2 r21_3))))
theorem t_spec_l5Any_g0 {β : Type} (N : Nat) (a0 : List Int) (a1 : Int) (a2 : Int) (k0 : ByteArray → List Int → Int → Int → Option β) : spec_l5Any_g0 N a0 a1 a2 k0 = BV_spec_l5Any_g0 N (spec_l5Draw_g0_f N) (spec_l1Once_g0 N) (spec_l1Spoil_g0 N) a0 a1 a2 k0 := by
  unfold spec_l5Any_g0 BV_spec_l5Any_g0
  rfl
theorem ve29_0 {β : Type} (N : Nat) (q_spec_l5Draw_g0_f : Nat → Int → List Int → Int → Int → (ByteArray → List Int → Int → Int → Option β) → Option β) (q_spec_l1Once_g0 : (a0 : Int) → (a1 : List Int) → (a2 : Int) → (a3 : Int) → (k0 : Bool → List Int → Int → Int → Option β) → Option β) (q_spec_l1Spoil_g0 : (a0 : ByteArray) → (a1 : List Int) → (a2 : Int) → (a3 : Int) → (k0 : ByteArray → List Int → Int → Int → Option β) → Option β) (a0 : List Int) (a1 : Int) (a2 : Int) (K : TV → List Blk → Option β) : evFnG lay (VE29 N q_spec_l5Draw_g0_f q_spec_l1Once_g0 q_spec_l1Spoil_g0) Try.f29 [.v (.one (.ptr 0 0))] [.pcells 0 62 [.sl 5 (.ints .u8 a0), .int .i64 a1, .int .i64 a2]] K = BV_spec_l5Any_g0 N q_spec_l5Draw_g0_f q_spec_l1Once_g0 q_spec_l1Spoil_g0 a0 a1 a2 (fun y0 y1 y2 y3 => K (.v (.one (.str y0))) [.pcells 0 62 [.sl 5 (.ints .u8 y1), .int .i64 y2, .int .i64 y3]]) := by kernel_rfl
theorem e29_0 {β : Type} (N : Nat) (a0 : List Int) (a1 : Int) (a2 : Int) (K : TV → List Blk → Option β) : evFnG lay (E29 N) Try.f29 [.v (.one (.ptr 0 0))] [.pcells 0 62 [.sl 5 (.ints .u8 a0), .int .i64 a1, .int .i64 a2]] K = spec_l5Any_g0 N a0 a1 a2 (fun y0 y1 y2 y3 => K (.v (.one (.str y0))) [.pcells 0 62 [.sl 5 (.ints .u8 y1), .int .i64 y2, .int .i64 y3]]) := (ve29_0 N (spec_l5Draw_g0_f N) (spec_l1Once_g0 N) (spec_l1Spoil_g0 N) a0 a1 a2 K).trans (t_spec_l5Any_g0 N a0 a1 a2 (fun y0 y1 y2 y3 => K (.v (.one (.str y0))) [.pcells 0 62 [.sl 5 (.ints .u8 y1), .int .i64 y2, .int .i64 y3]])).symm
theorem o29 {β : Type} (N : Nat) : GOK (β := β) inv Try.prog 29 (S29 N) := by
  refine g_of lay_ok mixed (E := E29 N) (specs_loops specs_nil) muts_nil (gs_cons (o53 N) (gs_cons (o54 N) (gs_cons (o55 N) gs_nil))) Try.func29 (by kernel_rfl) 0 (by kernel_rfl) trivial fun args bl K r h => ?_
  unfold S29 VS29 at h
  split at h
  · exact (e29_0 N _ _ _ _).trans h
  · cases h
def VS30 {β : Type} (N : Nat) (q_spec_l1PickInt_g0 : (a0 : List Int) → (a1 : Int) → (a2 : Int) → (a3 : List Int) → (k0 : Int → List Int → Int → Int → List Int → Option β) → Option β) : GSpec β := fun args bl K => match args, bl with
  | [.v (.one (.ptr 0 0)), .v (.one (.row 1))], [.pcells 0 62 [.sl 5 (.ints .u8 a0), .int .i64 a1, .int .i64 a2], .prow 1 3 (.ints .i64 a3)] => q_spec_l1PickInt_g0 a0 a1 a2 a3 (fun y0 y1 y2 y3 y4 => K (.v (.one (.int .i64 y0))) [.pcells 0 62 [.sl 5 (.ints .u8 y1), .int .i64 y2, .int .i64 y3], .prow 1 3 (.ints .i64 y4)])
  | _, _ => none
def S30 {β : Type} (N : Nat) : GSpec β := VS30 N (spec_l1PickInt_g0 N)
def VE30 {β : Type} (N : Nat) (q_spec_l1Below_g0 : (a0 : Int) → (a1 : List Int) → (a2 : Int) → (a3 : Int) → (k0 : Int → List Int → Int → Int → Option β) → Option β) : Env β := ⟨[], [], [], [(56, VS56 N q_spec_l1Below_g0)], ⟨[], [], [], []⟩⟩
def E30 {β : Type} (N : Nat) : Env β := VE30 N (spec_l1Below_g0 N)
def BV_spec_l1PickInt_g0 {β : Type} (N : Nat) (q_spec_l1Below_g0 : (a0 : Int) → (a1 : List Int) → (a2 : Int) → (a3 : Int) → (k0 : Int → List Int → Int → Int → Option β) → Option β) (a0 : List Int) (a1 : Int) (a2 : Int) (a3 : List Int) (k0 : Int → List Int → Int → Int → List Int → Option β) : Option β :=
q_spec_l1Below_g0 ((a3.length : Int)) a0 a1 a2 (fun r33_0 r33_1 r33_2 r33_3 =>
(gd ((decide (0 ≤ r33_0)))
((gd ((decide (r33_0 < (a3.length : Int))))
(k0 ((rd 0 a3 r33_0)) r33_1 r33_2 r33_3 a3)))))
theorem t_spec_l1PickInt_g0 {β : Type} (N : Nat) (a0 : List Int) (a1 : Int) (a2 : Int) (a3 : List Int) (k0 : Int → List Int → Int → Int → List Int → Option β) : spec_l1PickInt_g0 N a0 a1 a2 a3 k0 = BV_spec_l1PickInt_g0 N (spec_l1Below_g0 N) a0 a1 a2 a3 k0 := by
  unfold spec_l1PickInt_g0 BV_spec_l1PickInt_g0
  rfl
theorem ve30_0 {β : Type} (N : Nat) (q_spec_l1Below_g0 : (a0 : Int) → (a1 : List Int) → (a2 : Int) → (a3 : Int) → (k0 : Int → List Int → Int → Int → Option β) → Option β) (a0 : List Int) (a1 : Int) (a2 : Int) (a3 : List Int) (K : TV → List Blk → Option β) : evFnG lay (VE30 N q_spec_l1Below_g0) Try.f30 [.v (.one (.ptr 0 0)), .v (.one (.row 1))] [.pcells 0 62 [.sl 5 (.ints .u8 a0), .int .i64 a1, .int .i64 a2], .prow 1 3 (.ints .i64 a3)] K = BV_spec_l1PickInt_g0 N q_spec_l1Below_g0 a0 a1 a2 a3 (fun y0 y1 y2 y3 y4 => K (.v (.one (.int .i64 y0))) [.pcells 0 62 [.sl 5 (.ints .u8 y1), .int .i64 y2, .int .i64 y3], .prow 1 3 (.ints .i64 y4)]) := by kernel_rfl
theorem e30_0 {β : Type} (N : Nat) (a0 : List Int) (a1 : Int) (a2 : Int) (a3 : List Int) (K : TV → List Blk → Option β) : evFnG lay (E30 N) Try.f30 [.v (.one (.ptr 0 0)), .v (.one (.row 1))] [.pcells 0 62 [.sl 5 (.ints .u8 a0), .int .i64 a1, .int .i64 a2], .prow 1 3 (.ints .i64 a3)] K = spec_l1PickInt_g0 N a0 a1 a2 a3 (fun y0 y1 y2 y3 y4 => K (.v (.one (.int .i64 y0))) [.pcells 0 62 [.sl 5 (.ints .u8 y1), .int .i64 y2, .int .i64 y3], .prow 1 3 (.ints .i64 y4)]) := (ve30_0 N (spec_l1Below_g0 N) a0 a1 a2 a3 K).trans (t_spec_l1PickInt_g0 N a0 a1 a2 a3 (fun y0 y1 y2 y3 y4 => K (.v (.one (.int .i64 y0))) [.pcells 0 62 [.sl 5 (.ints .u8 y1), .int .i64 y2, .int .i64 y3], .prow 1 3 (.ints .i64 y4)])).symm
theorem o30 {β : Type} (N : Nat) : GOK (β := β) inv Try.prog 30 (S30 N) := by
  refine g_of lay_ok mixed (E := E30 N) (specs_loops specs_nil) muts_nil (gs_cons (o56 N) gs_nil) Try.func30 (by kernel_rfl) 0 (by kernel_rfl) trivial fun args bl K r h => ?_
  unfold S30 VS30 at h
  split at h
  · exact (e30_0 N _ _ _ _ _).trans h
  · cases h
def VS5 {β : Type} (N : Nat) (q_spec_DrawTableOfFormula : (a0 : List Int) → (k : ByteArray → Int → Option β) → Option β) : Rv.Spec β := fun args K => match args with
  | [.v (.one (.sl 5 (.ints .u8 a0)))] => q_spec_DrawTableOfFormula a0 (fun z1 z2 => K (.tup [.one (.str z1), .one (.int .i64 z2)]))
  | _ => none
def S5 {β : Type} (N : Nat) : Rv.Spec β := VS5 N (spec_DrawTableOfFormula N)
def VE5 {β : Type} (N : Nat) (q_spec_l1New_g0 : (a0 : List Int) → (k0 : List Int → Int → Int → Option β) → Option β) (q_spec_l5Any_g0 : (a0 : List Int) → (a1 : Int) → (a2 : Int) → (k0 : ByteArray → List Int → Int → Int → Option β) → Option β) (q_spec_l1PickInt_g0 : (a0 : List Int) → (a1 : Int) → (a2 : Int) → (a3 : List Int) → (k0 : Int → List Int → Int → Int → List Int → Option β) → Option β) : Env β := ⟨[], [], [], [(28, VS28 N q_spec_l1New_g0), (29, VS29 N q_spec_l5Any_g0), (30, VS30 N q_spec_l1PickInt_g0)], ⟨[], [], [], []⟩⟩
def E5 {β : Type} (N : Nat) : Env β := VE5 N (spec_l1New_g0 N) (spec_l5Any_g0 N) (spec_l1PickInt_g0 N)
def BV_spec_DrawTableOfFormula {β : Type} (N : Nat) (q_spec_l1New_g0 : (a0 : List Int) → (k0 : List Int → Int → Int → Option β) → Option β) (q_spec_l5Any_g0 : (a0 : List Int) → (a1 : Int) → (a2 : Int) → (k0 : ByteArray → List Int → Int → Int → Option β) → Option β) (q_spec_l1PickInt_g0 : (a0 : List Int) → (a1 : Int) → (a2 : Int) → (a3 : List Int) → (k0 : Int → List Int → Int → Int → List Int → Option β) → Option β) (a0 : List Int) (k : ByteArray → Int → Option β) : Option β :=
q_spec_l1New_g0 a0 (fun r3_0 r3_1 r3_2 =>
q_spec_l5Any_g0 r3_0 r3_1 r3_2 (fun r4_0 r4_1 r4_2 r4_3 =>
q_spec_l1PickInt_g0 r4_1 r4_2 r4_3 (((((((((([] : List Int) ++ [4]) ++ [4]) ++ [5]) ++ [3]) ++ [2]) ++ [0]) ++ [(-1)]) ++ [6])) (fun r5_0 r5_1 r5_2 r5_3 r5_4 =>
k r4_0 r5_0)))
theorem t_spec_DrawTableOfFormula {β : Type} (N : Nat) (a0 : List Int) (k : ByteArray → Int → Option β) : spec_DrawTableOfFormula N a0 k = BV_spec_DrawTableOfFormula N (spec_l1New_g0 N) (spec_l5Any_g0 N) (spec_l1PickInt_g0 N) a0 k := by
  unfold spec_DrawTableOfFormula BV_spec_DrawTableOfFormula
  rfl
theorem ve5_0 {β : Type} (N : Nat) (q_spec_l1New_g0 : (a0 : List Int) → (k0 : List Int → Int → Int → Option β) → Option β) (q_spec_l5Any_g0 : (a0 : List Int) → (a1 : Int) → (a2 : Int) → (k0 : ByteArray → List Int → Int → Int → Option β) → Option β) (q_spec_l1PickInt_g0 : (a0 : List Int) → (a1 : Int) → (a2 : Int) → (a3 : List Int) → (k0 : Int → List Int → Int → Int → List Int → Option β) → Option β)  (a0 : List Int) (K : TV → Option β) : evFn lay (VE5 N q_spec_l1New_g0 q_spec_l5Any_g0 q_spec_l1PickInt_g0) Try.f5 [.v (.one (.sl 5 (.ints .u8 a0)))] K = BV_spec_DrawTableOfFormula N q_spec_l1New_g0 q_spec_l5Any_g0 q_spec_l1PickInt_g0 a0 (fun z1 z2 => K (.tup [.one (.str z1), .one (.int .i64 z2)])) := by kernel_rfl
theorem e5_0 {β : Type} (N : Nat)  (a0 : List Int) (K : TV → Option β) : evFn lay (E5 N) Try.f5 [.v (.one (.sl 5 (.ints .u8 a0)))] K = spec_DrawTableOfFormula N a0 (fun z1 z2 => K (.tup [.one (.str z1), .one (.int .i64 z2)])) := (ve5_0 N (spec_l1New_g0 N) (spec_l5Any_g0 N) (spec_l1PickInt_g0 N) a0 K).trans (t_spec_DrawTableOfFormula N a0 (fun z1 z2 => K (.tup [.one (.str z1), .one (.int .i64 z2)]))).symm
theorem o5 {β : Type} (N : Nat) : SpecOK (β := β) inv Try.prog 5 (S5 N) := by
  refine spec_of lay_ok mixed (E := E5 N) (specs_loops specs_nil) muts_nil (gs_cons (o28 N) (gs_cons (o29 N) (gs_cons (o30 N) gs_nil))) Try.func5 (by kernel_rfl) 0 (by kernel_rfl) trivial fun args K r h => ?_
  unfold S5 VS5 at h
  split at h
  · exact (e5_0 N _ _).trans h
  · cases h
def VS59 {β : Type} (N : Nat) (q_impl_isLetter : (a0 : Int) → (k : Bool → Option β) → Option β) : Rv.Spec β := fun args K => match args with
  | [.v (.one (.int .u8 a0))] => q_impl_isLetter a0 (fun z1 => K (.v (.one (.bool z1))))
  | _ => none
def S59 {β : Type} (N : Nat) : Rv.Spec β := VS59 N (impl_isLetter N)
def VE59 {β : Type} (N : Nat) : Env β := ⟨[], [], [], [], ⟨[], [], [], []⟩⟩
def E59 {β : Type} (N : Nat) : Env β := VE59 N
def BV_impl_isLetter {β : Type} (N : Nat) (a0 : Int) (k : Bool → Option β) : Option β :=
(cond ((decide (a0 ≥ 97)))
(k ((decide (a0 < 102))))
(k false))
theorem t_impl_isLetter {β : Type} (N : Nat) (a0 : Int) (k : Bool → Option β) : impl_isLetter N a0 k = BV_impl_isLetter N a0 k := by
  unfold impl_isLetter BV_impl_isLetter
  rfl
theorem ve59_0 {β : Type} (N : Nat)  (a0 : Int) (K : TV → Option β) : evFn lay (VE59 N) Try.f59 [.v (.one (.int .u8 a0))] K = BV_impl_isLetter N a0 (fun z1 => K (.v (.one (.bool z1)))) := by kernel_rfl
theorem e59_0 {β : Type} (N : Nat)  (a0 : Int) (K : TV → Option β) : evFn lay (E59 N) Try.f59 [.v (.one (.int .u8 a0))] K = impl_isLetter N a0 (fun z1 => K (.v (.one (.bool z1)))) := (ve59_0 N a0 K).trans (t_impl_isLetter N a0 (fun z1 => K (.v (.one (.bool z1))))).symm
theorem o59 {β : Type} (N : Nat) : SpecOK (β := β) inv Try.prog 59 (S59 N) := by
  refine spec_of lay_ok mixed (E := E59 N) (specs_loops specs_nil) muts_nil gs_nil Try.func59 (by kernel_rfl) 0 (by kernel_rfl) trivial fun args K r h => ?_
  unfold S59 VS59 at h
  split at h
  · exact (e59_0 N _ _).trans h
  · cases h
def VSF57 {β : Type} (N : Nat) (q_impl_readPart_f : Nat → ByteArray → (Tr → ByteArray → Option β) → Option β) (G : Nat) : Rv.Spec β := fun args K => match args with
  | [.v (.one (.str a0))] => q_impl_readPart_f G a0 (fun z1 z2 => K (.tup [.one (.tr false z1), .one (.str z2)]))
  | _ => none
def SF57 {β : Type} (N : Nat) (G : Nat) : Rv.Spec β := VSF57 N (impl_readPart_f N) G
def VS57 {β : Type} (N : Nat) (q_impl_readPart_f : Nat → ByteArray → (Tr → ByteArray → Option β) → Option β) : Rv.Spec β := VSF57 N q_impl_readPart_f N
def S57 {β : Type} (N : Nat) : Rv.Spec β := SF57 N N
def VE57 {β : Type} (N : Nat) (q_impl_isLetter : (a0 : Int) → (k : Bool → Option β) → Option β) (q_impl_readPart_f : Nat → ByteArray → (Tr → ByteArray → Option β) → Option β) (G : Nat) : Env β := ⟨[(59, VS59 N q_impl_isLetter), (57, VSF57 N q_impl_readPart_f G)], [], [], [], ⟨[], [], [], []⟩⟩
def E57 {β : Type} (N : Nat) (G : Nat) : Env β := VE57 N (impl_isLetter N) (impl_readPart_f N) G
def BV_impl_readPart_b {β : Type} (N : Nat) (q_impl_isLetter : (a0 : Int) → (k : Bool → Option β) → Option β) (self : ByteArray → (Tr → ByteArray → Option β) → Option β) (a0 : ByteArray) (k : Tr → ByteArray → Option β) : Option β :=
(cond ((a0.toList == ByteArray.empty.toList))
(k Tr.nil ByteArray.empty)
((gd ((decide (0 < (a0.size : Int))))
((gd ((decide (1 ≤ (a0.size : Int))))
(q_impl_isLetter ((bt a0 0)) fun r3 =>
(cond r3
(k ((Tr.node ((bt a0 0)) 0 Tr.nil Tr.nil)) ((a0.extract (Int.toNat 1) a0.size)))
((cond (((bt a0 0) == 48))
(k ((Tr.node ((bt a0 0)) 0 Tr.nil Tr.nil)) ((a0.extract (Int.toNat 1) a0.size)))
((cond (((bt a0 0) == 49))
(k ((Tr.node ((bt a0 0)) 0 Tr.nil Tr.nil)) ((a0.extract (Int.toNat 1) a0.size)))
((cond (((bt a0 0) == 33))
(self ((a0.extract (Int.toNat 1) a0.size)) fun r4 r5 =>
(cond ((Tr.isNil r4))
(k Tr.nil ByteArray.empty)
(k ((Tr.node ((bt a0 0)) 0 r4 Tr.nil)) r5)))
((cond (((bt a0 0) == 38))
(self ((a0.extract (Int.toNat 1) a0.size)) fun r6 r7 =>
(cond ((Tr.isNil r6))
(k Tr.nil ByteArray.empty)
(self r7 fun r8 r9 =>
(cond ((Tr.isNil r8))
(k Tr.nil ByteArray.empty)
(k ((Tr.node ((bt a0 0)) 0 r6 r8)) r9)))))
((cond (((bt a0 0) == 124))
(self ((a0.extract (Int.toNat 1) a0.size)) fun r10 r11 =>
(cond ((Tr.isNil r10))
(k Tr.nil ByteArray.empty)
(self r11 fun r12 r13 =>
(cond ((Tr.isNil r12))
(k Tr.nil ByteArray.empty)
(k ((Tr.node ((bt a0 0)) 0 r10 r12)) r13)))))
((cond (((bt a0 0) == 94))
(self ((a0.extract (Int.toNat 1) a0.size)) fun r14 r15 =>
(cond ((Tr.isNil r14))
(k Tr.nil ByteArray.empty)
(self r15 fun r16 r17 =>
(cond ((Tr.isNil r16))
(k Tr.nil ByteArray.empty)
(k ((Tr.node ((bt a0 0)) 0 r14 r16)) r17)))))
(k Tr.nil ByteArray.empty))))))))))))))))))))
theorem t_impl_readPart_b {β : Type} (N : Nat) (self : ByteArray → (Tr → ByteArray → Option β) → Option β) (a0 : ByteArray) (k : Tr → ByteArray → Option β) : impl_readPart_b N self a0 k = BV_impl_readPart_b N (impl_isLetter N) self a0 k := by
  unfold impl_readPart_b BV_impl_readPart_b
  rfl
theorem ve57_0 {β : Type} (N : Nat) (q_impl_isLetter : (a0 : Int) → (k : Bool → Option β) → Option β) (q_impl_readPart_f : Nat → ByteArray → (Tr → ByteArray → Option β) → Option β) (G : Nat)  (a0 : ByteArray) (K : TV → Option β) : evFn lay (VE57 N q_impl_isLetter q_impl_readPart_f G) Try.f57 [.v (.one (.str a0))] K = BV_impl_readPart_b N q_impl_isLetter (q_impl_readPart_f G) a0 (fun z1 z2 => K (.tup [.one (.tr false z1), .one (.str z2)])) := by kernel_rfl
theorem e57_0 {β : Type} (N : Nat) (G : Nat)  (a0 : ByteArray) (K : TV → Option β) : evFn lay (E57 N G) Try.f57 [.v (.one (.str a0))] K = impl_readPart_f N (G + 1) a0 (fun z1 z2 => K (.tup [.one (.tr false z1), .one (.str z2)])) := (ve57_0 N (impl_isLetter N) (impl_readPart_f N) G a0 K).trans (t_impl_readPart_b N (impl_readPart_f N G) a0 (fun z1 z2 => K (.tup [.one (.tr false z1), .one (.str z2)]))).symm
theorem z57 {β : Type} (N : Nat) : ∀ args K r, SF57 (β := β) N 0 args K = some r → (none : Option β) = some r := by
  intro args K r h
  unfold SF57 VSF57 at h
  split at h <;> exact h
theorem of57 {β : Type} (N : Nat) : ∀ G, SpecOK (β := β) inv Try.prog 57 (SF57 N G) := by
  intro G
  induction G with
  | zero => exact s_zero Try.func57 (by kernel_rfl) (z57 N)
  | succ G ih =>
    refine spec_of lay_ok mixed (E := E57 N G) (specs_loops (specs_cons (o59 N) (specs_cons ih specs_nil))) muts_nil gs_nil Try.func57 (by kernel_rfl) 0 (by kernel_rfl) trivial fun args K r h => ?_
    unfold SF57 VSF57 at h
    split at h
    · exact (e57_0 N G _ _).trans h
    · cases h
theorem o57 {β : Type} (N : Nat) : SpecOK (β := β) inv Try.prog 57 (S57 N) := of57 N N
end Go.Proofs.Ytddflpokemgnmaa
