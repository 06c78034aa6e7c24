/- The functions that the claims reach answer as their texts do. -/
import Derived.Test.YtddflpokemgnmaaDoorT0
import Derived.Test.YtddflpokemgnmaaDoorProg
import Derived.KernelRfl
import Derived.Test.YtddflpokemgnmaaDoorShelf
namespace Go.Proofs.YtddflpokemgnmaaDoor
open Go.Rv
set_option maxRecDepth 100000
set_option maxHeartbeats 2000000
set_option linter.unusedVariables false
variable {β : Type}
def lay : Lay := [(1, .func),
  (2, .int .i64),
  (3, .int .i64),
  (4, .bool),
  (5, .int .u8),
  (9, .string),
  (12, .int .u64),
  (21, .int .i32),
  (22, .slice 5),
  (24, .struct [⟨0, 1, false⟩, ⟨1, 1, false⟩] [3, 3] 16 true),
  (25, .struct [⟨0, 1, false⟩, ⟨1, 1, false⟩] [3, 3] 16 true),
  (33, .slice 3),
  (43, .pointer 83),
  (44, .struct [⟨0, 1, false⟩, ⟨1, 1, false⟩] [3, 3] 16 true),
  (45, .struct [⟨0, 1, false⟩, ⟨1, 1, false⟩] [3, 3] 16 true),
  (51, .int .u64),
  (54, .pointer 59),
  (58, .struct [⟨0, 1, false⟩, ⟨1, 1, false⟩, ⟨2, 1, false⟩, ⟨3, 1, false⟩] [5, 3, 54, 54] 32 false),
  (59, .struct [⟨0, 1, false⟩, ⟨1, 1, false⟩, ⟨2, 1, false⟩, ⟨3, 1, false⟩] [5, 3, 54, 54] 32 false),
  (63, .pointer 65),
  (64, .struct [⟨0, 2, true⟩, ⟨2, 1, false⟩, ⟨3, 1, false⟩, ⟨4, 1, false⟩] [3, 3, 3, 3, 33] 56 false),
  (65, .struct [⟨0, 2, true⟩, ⟨2, 1, false⟩, ⟨3, 1, false⟩, ⟨4, 1, false⟩] [3, 3, 3, 3, 33] 56 false),
  (69, .map 3 3),
  (71, .int .u64),
  (76, .pointer 96),
  (81, .map 45 3),
  (82, .struct [⟨0, 2, true⟩, ⟨2, 1, false⟩, ⟨3, 1, false⟩] [3, 3, 3, 81] 32 false),
  (83, .struct [⟨0, 2, true⟩, ⟨2, 1, false⟩, ⟨3, 1, false⟩] [3, 3, 3, 81] 32 false),
  (95, .struct [⟨0, 1, false⟩, ⟨1, 1, false⟩, ⟨2, 1, false⟩] [22, 3, 3] 40 false),
  (96, .struct [⟨0, 1, false⟩, ⟨1, 1, false⟩, ⟨2, 1, false⟩] [22, 3, 3] 40 false),
  (110, .int .u32),
  (125, .pointer 5)]

theorem lay_ok : LayOK Tryd.prog lay := layOK_of (by decide +kernel)
theorem mixed : Tryd.prog.follows .mixedOrders = true := by kernel_rfl
def inv : World → Prop := tabInv Tryd.prog
def S65 (N : Nat) : Rv.Spec β := cloneSpec 3 N
theorem o65 (N : Nat) : SpecOK (β := β) inv Tryd.prog 65 (S65 N) := clone_ok Tryd.func65 (by kernel_rfl) Tryd.slices_Clone_int_nil Tryd.slices_Clone_int_zero Tryd.slices_Clone_int N
def S75 (N : Nat) : Rv.Spec β := itoaSpec N
theorem o75 (N : Nat) : SpecOK (β := β) inv Tryd.prog 75 (S75 N) := itoa_ok Tryd.func75 (by kernel_rfl) Tryd.strconv_Itoa N
def S76 (N : Nat) : Rv.Spec β := indexByteSpec N
theorem o76 (N : Nat) : SpecOK (β := β) inv Tryd.prog 76 (S76 N) := indexByte_ok Tryd.func76 (by kernel_rfl) Tryd.strings_IndexByte N
def VS4 (N : Nat) (zq0 : (a0 : List Int) → (k : Bool → O β) → O β) : Rv.Spec β := fun args K => match args with
  | [.v (.one (.sl 5 (.ints .u8 a0)))] => zq0 a0 (fun z1 => K (.v (.one (.bool z1))))
  | _ => none
def S4 (N : Nat) : Rv.Spec β := VS4 N (zj0 N)
def VE4 (N : Nat) : Env β := ⟨[], [], [], [], ⟨[], [], [], []⟩⟩
def E4 (N : Nat) : Env β := VE4 N
def zb0 (N : Nat) (a0 : List Int) (k : Bool → O β) : O β :=
k ((decide ((a0.length : Int) > 1048576)))
theorem zt0 (N : Nat) (a0 : List Int) (k : Bool → O β) : zj0 N a0 k = zb0 N a0 k := by
  unfold zj0 zb0
  rfl
theorem ve4_0 (N : Nat)  (a0 : List Int) (K : TV → O β) : evFn lay (VE4 N) Tryd.f4 [.v (.one (.sl 5 (.ints .u8 a0)))] K = zb0 N a0 (fun z1 => K (.v (.one (.bool z1)))) := by kernel_rfl
theorem e4_0 (N : Nat)  (a0 : List Int) (K : TV → O β) : evFn lay (E4 N) Tryd.f4 [.v (.one (.sl 5 (.ints .u8 a0)))] K = zj0 N a0 (fun z1 => K (.v (.one (.bool z1)))) := (ve4_0 N a0 K).trans (zt0 N a0 (fun z1 => K (.v (.one (.bool z1))))).symm
theorem o4 (N : Nat) : SpecOK (β := β) inv Tryd.prog 4 (S4 N) := by
  refine spec_of lay_ok mixed (E := E4 N) (specs_loops specs_nil) muts_nil gs_nil Tryd.func4 (by kernel_rfl) 0 (by kernel_rfl) trivial fun args K r h => ?_
  unfold S4 VS4 at h
  split at h
  · exact (e4_0 N _ _).trans h
  · cases h
def VS51 (N : Nat) (zq3 : (a0 : List Int) → (k0 : List Int → Int → Int → O β) → O β) : GSpec β := fun args bl K => match args, bl with
  | [.v (.one (.sl 5 (.ints .u8 a0)))], [] => zq3 a0 (fun y0 y1 y2 => K (.v (.one (.ptr 0 0))) [.cells 96 [.sl 5 (.ints .u8 y0), .int .i64 y1, .int .i64 y2]])
  | _, _ => none
def S51 (N : Nat) : GSpec β := VS51 N (zj3 N)
def h51_0_0  (v0 : List Int) (v1 : Int) (v2 : Int) : St := ⟨.v (.one (.sl 5 (.ints .u8 v0))) :: tund :: tund :: .v (.one (.int .i64 v1)) :: .v (.one (.int .i64 v2)) :: tund :: tund :: tund :: tund :: tund :: tund :: tund :: tund :: tund :: tund :: tund :: tund :: tund :: tund :: tund :: tund :: tund :: tund :: tund :: tund :: tund :: tund :: tund :: tund :: tund :: tund :: tund :: [], []⟩
def x51_0_0_k0  (y0 : List Int) (y1 : Int) : St := ⟨.v (.one (.sl 5 (.ints .u8 y0))) :: tund :: tund :: .v (.one (.int .i64 y1)) :: tund :: tund :: tund :: tund :: tund :: tund :: tund :: tund :: tund :: tund :: tund :: tund :: tund :: tund :: tund :: tund :: tund :: tund :: tund :: tund :: tund :: tund :: tund :: tund :: tund :: tund :: tund :: tund :: [], []⟩
theorem fl51_0_0 (s : St) : refSt (h51_0_0 [] 0 0) s = h51_0_0 (rInts (rowV (oneA (vT (nx tund s.tmps 0))))) (intS (oneA (vT (nx tund s.tmps 3)))) (intS (oneA (vT (nx tund s.tmps 4)))) := by kernel_rfl
def VLS51_0 (N : Nat) (zq2 : Nat → List Int → Int → Int → (List Int → Int → O β) → O β) : LSpec β := fun s K => cond (shpSt (h51_0_0 [] 0 0) s) ((fun (v0 : List Int) (v1 : Int) (v2 : Int) => zq2  N v0 v1 v2 (fun y0 y1 => K (.exit 0) (x51_0_0_k0  y0 y1))) (rInts (rowV (oneA (vT (nx tund s.tmps 0))))) (intS (oneA (vT (nx tund s.tmps 3)))) (intS (oneA (vT (nx tund s.tmps 4))))) (none)
def LS51_0 (N : Nat) : LSpec β := VLS51_0 N (zj2 N)
def VE51 (N : Nat) (zq2 : Nat → List Int → Int → Int → (List Int → Int → O β) → O β) : Env β := ⟨[], [], [(0, VLS51_0 N zq2)], [], ⟨[], [], [], []⟩⟩
def E51 (N : Nat) : Env β := VE51 N (zj2 N)
def zb1 (N : Nat)  (v0 : List Int) (v1 : Int) (v2 : Int) (rec_ : List Int → Int → Int → O β) (k0 : List Int → Int → O β) : O β :=
(cond ((decide (v2 < (v0.length : Int))))
((cond ((decide (v2 < 4000)))
((gd ((decide (0 ≤ v2)))
((gd ((decide (v2 < (v0.length : Int))))
(rec_ v0 ((bits .and .i64 (w64 ((w64 ((w64 (v1 * 131)) + (w64 ((rd 0 v0 v2))))) + 7)) 1073741823)) ((w64 (v2 + 1))))))))
(k0 v0 v1)))
(k0 v0 v1))
theorem zt1 (N : Nat)  (v0 : List Int) (v1 : Int) (v2 : Int) (rec_ : List Int → Int → Int → O β) (k0 : List Int → Int → O β) : zj1 N v0 v1 v2 rec_ k0 = zb1 N v0 v1 v2 rec_ k0 := by
  unfold zj1 zb1
  rfl
theorem vst51_0_0 (N : Nat) (zq2 : Nat → List Int → Int → Int → (List Int → Int → O β) → O β)  (v0 : List Int) (v1 : Int) (v2 : Int) (rec_ : St → O β) (K : Exit → St → O β) :
    ev lay (VE51 N zq2) (retMask Tryd.f51) (lp Tryd.f51 0).body (lp Tryd.f51 0).ex ((lp Tryd.f51 0).lv (retMask Tryd.f51)) (h51_0_0  v0 v1 v2) (nextR (fun s' => rec_ (s'.tidy ((lp Tryd.f51 0).lv (retMask Tryd.f51)))) K) = zb1 N  v0 v1 v2 (fun v0 v1 v2 => rec_ (h51_0_0  v0 v1 v2)) (fun y0 y1 => K (.exit 0) (x51_0_0_k0  y0 y1)) := by kernel_rfl
theorem st51_0_0 (N : Nat)  (v0 : List Int) (v1 : Int) (v2 : Int) (rec_ : St → O β) (K : Exit → St → O β) :
    ev lay (E51 N) (retMask Tryd.f51) (lp Tryd.f51 0).body (lp Tryd.f51 0).ex ((lp Tryd.f51 0).lv (retMask Tryd.f51)) (h51_0_0  v0 v1 v2) (nextR (fun s' => rec_ (s'.tidy ((lp Tryd.f51 0).lv (retMask Tryd.f51)))) K) = zj1 N  v0 v1 v2 (fun v0 v1 v2 => rec_ (h51_0_0  v0 v1 v2)) (fun y0 y1 => K (.exit 0) (x51_0_0_k0  y0 y1)) := (vst51_0_0 N (zj2 N) v0 v1 v2 rec_ K).trans (zt1 N  v0 v1 v2 (fun v0 v1 v2 => rec_ (h51_0_0  v0 v1 v2)) (fun y0 y1 => K (.exit 0) (x51_0_0_k0  y0 y1))).symm
theorem ro51_0_0 (N : Nat)  (K : Exit → St → O β) : ∀ (F : Nat) (v0 : List Int) (v1 : Int) (v2 : Int), (lp Tryd.f51 0).rounds lay (E51 N) (retMask Tryd.f51) F (h51_0_0  v0 v1 v2) K = zj2 N  F v0 v1 v2 (fun y0 y1 => K (.exit 0) (x51_0_0_k0  y0 y1)) := by
  intro F
  induction F with
  | zero => intros; rfl
  | succ F ih =>
    intros
    rw [rounds_next]
    refine (st51_0_0 N  _ _ _ (fun s => (lp Tryd.f51 0).rounds lay (E51 N) (retMask Tryd.f51) F s K) K).trans ?_
    simp only [ih]
    rfl
theorem lk51_0 (N : Nat) : lookL (E51 (β := β) N).loops (lp Tryd.f51 0).id = LS51_0 N := by kernel_rfl
theorem rk51_0 (N : Nat) : RoundsOK lay (E51 (β := β) N) (retMask Tryd.f51) (lp Tryd.f51 0) := by
  intro s K r h
  rw [lk51_0] at h
  unfold LS51_0 VLS51_0 at h
  cases hb : shpSt (h51_0_0 [] 0 0) s with
  | true =>
    rw [hb, cond_true] at h
    exact ⟨N, by rw [← shpSt_ref hb, fl51_0_0 s]; exact (ro51_0_0 N  K N (rInts (rowV (oneA (vT (nx tund s.tmps 0))))) (intS (oneA (vT (nx tund s.tmps 3)))) (intS (oneA (vT (nx tund s.tmps 4))))).trans h⟩
  | false =>
  rw [hb, cond_false] at h
  clear hb
  cases h
def zb3 (N : Nat) (zq2 : Nat → List Int → Int → Int → (List Int → Int → O β) → O β) (a0 : List Int) (k0 : List Int → Int → Int → O β) : O β :=
zq2  N a0 ((w64 (10101 + (a0.length : Int)))) 0 (fun e4_0 e4_1 =>
k0 e4_0 0 e4_1)
theorem zt3 (N : Nat) (a0 : List Int) (k0 : List Int → Int → Int → O β) : zj3 N a0 k0 = zb3 N (zj2 N) a0 k0 := by
  unfold zj3 zb3
  rfl
theorem ve51_0 (N : Nat) (zq2 : Nat → List Int → Int → Int → (List Int → Int → O β) → O β) (a0 : List Int) (K : TV → List Blk → O β) : evFnG lay (VE51 N zq2) Tryd.f51 [.v (.one (.sl 5 (.ints .u8 a0)))] [] K = zb3 N zq2 a0 (fun y0 y1 y2 => K (.v (.one (.ptr 0 0))) [.cells 96 [.sl 5 (.ints .u8 y0), .int .i64 y1, .int .i64 y2]]) := by kernel_rfl
theorem e51_0 (N : Nat) (a0 : List Int) (K : TV → List Blk → O β) : evFnG lay (E51 N) Tryd.f51 [.v (.one (.sl 5 (.ints .u8 a0)))] [] K = zj3 N a0 (fun y0 y1 y2 => K (.v (.one (.ptr 0 0))) [.cells 96 [.sl 5 (.ints .u8 y0), .int .i64 y1, .int .i64 y2]]) := (ve51_0 N (zj2 N) a0 K).trans (zt3 N a0 (fun y0 y1 y2 => K (.v (.one (.ptr 0 0))) [.cells 96 [.sl 5 (.ints .u8 y0), .int .i64 y1, .int .i64 y2]])).symm
theorem o51 (N : Nat) : GOK (β := β) inv Tryd.prog 51 (S51 N) := by
  refine g_of lay_ok mixed (E := E51 N) (specs_loops specs_nil) muts_nil gs_nil Tryd.func51 (by kernel_rfl) 1 (by kernel_rfl) ⟨trivial, rk51_0 N⟩ fun args bl K r h => ?_
  unfold S51 VS51 at h
  split at h
  · exact (e51_0 N _ _).trans h
  · cases h
def VS79 (N : Nat) (zq4 : (a0 : List Int) → (a1 : Int) → (a2 : Int) → (k0 : Int → List Int → Int → Int → O β) → O β) : GSpec β := fun args bl K => match args, bl with
  | [.v (.one (.ptr 0 0))], [.pcells 0 96 [.sl 5 (.ints .u8 a0), .int .i64 a1, .int .i64 a2]] => zq4 a0 a1 a2 (fun y0 y1 y2 y3 => K (.v (.one (.int .i64 y0))) [.pcells 0 96 [.sl 5 (.ints .u8 y1), .int .i64 y2, .int .i64 y3]])
  | _, _ => none
def S79 (N : Nat) : GSpec β := VS79 N (zj4 N)
def VE79 (N : Nat) : Env β := ⟨[], [], [], [], ⟨[], [], [], []⟩⟩
def E79 (N : Nat) : Env β := VE79 N
def zb4 (N : Nat) (a0 : List Int) (a1 : Int) (a2 : Int) (k0 : Int → List Int → Int → Int → O β) : O β :=
(cond ((decide (a1 < (a0.length : Int))))
((gd ((decide (0 ≤ a1)))
((gd ((decide (a1 < (a0.length : Int))))
(k0 ((bits .and .i64 (w64 ((bits .and .i64 (bits .xor .i64 (shrI .i64 (w64 ((w64 (a2 * 6364136223846793005)) + 1442695040888963407)) 33) (shrI .i64 (w64 ((w64 (a2 * 6364136223846793005)) + 1442695040888963407)) 45)) 255) + (w64 ((rd 0 a0 a1))))) 255)) a0 ((w64 (a1 + 1))) ((w64 ((w64 (a2 * 6364136223846793005)) + 1442695040888963407))))))))
(k0 ((bits .and .i64 (bits .xor .i64 (shrI .i64 (w64 ((w64 (a2 * 6364136223846793005)) + 1442695040888963407)) 33) (shrI .i64 (w64 ((w64 (a2 * 6364136223846793005)) + 1442695040888963407)) 45)) 255)) a0 a1 ((w64 ((w64 (a2 * 6364136223846793005)) + 1442695040888963407)))))
theorem zt4 (N : Nat) (a0 : List Int) (a1 : Int) (a2 : Int) (k0 : Int → List Int → Int → Int → O β) : zj4 N a0 a1 a2 k0 = zb4 N a0 a1 a2 k0 := by
  unfold zj4 zb4
  rfl
theorem ve79_0 (N : Nat) (a0 : List Int) (a1 : Int) (a2 : Int) (K : TV → List Blk → O β) : evFnG lay (VE79 N) Tryd.f79 [.v (.one (.ptr 0 0))] [.pcells 0 96 [.sl 5 (.ints .u8 a0), .int .i64 a1, .int .i64 a2]] K = zb4 N a0 a1 a2 (fun y0 y1 y2 y3 => K (.v (.one (.int .i64 y0))) [.pcells 0 96 [.sl 5 (.ints .u8 y1), .int .i64 y2, .int .i64 y3]]) := by kernel_rfl
theorem e79_0 (N : Nat) (a0 : List Int) (a1 : Int) (a2 : Int) (K : TV → List Blk → O β) : evFnG lay (E79 N) Tryd.f79 [.v (.one (.ptr 0 0))] [.pcells 0 96 [.sl 5 (.ints .u8 a0), .int .i64 a1, .int .i64 a2]] K = zj4 N a0 a1 a2 (fun y0 y1 y2 y3 => K (.v (.one (.int .i64 y0))) [.pcells 0 96 [.sl 5 (.ints .u8 y1), .int .i64 y2, .int .i64 y3]]) := (ve79_0 N a0 a1 a2 K).trans (zt4 N a0 a1 a2 (fun y0 y1 y2 y3 => K (.v (.one (.int .i64 y0))) [.pcells 0 96 [.sl 5 (.ints .u8 y1), .int .i64 y2, .int .i64 y3]])).symm
theorem o79 (N : Nat) : GOK (β := β) inv Tryd.prog 79 (S79 N) := by
  refine g_of lay_ok mixed (E := E79 N) (specs_loops specs_nil) muts_nil gs_nil Tryd.func79 (by kernel_rfl) 0 (by kernel_rfl) trivial fun args bl K r h => ?_
  unfold S79 VS79 at h
  split at h
  · exact (e79_0 N _ _ _ _).trans h
  · cases h
def VS70 (N : Nat) (zq5 : (a0 : Int) → (a1 : List Int) → (a2 : Int) → (a3 : Int) → (k0 : Int → List Int → Int → Int → O β) → O β) : GSpec β := fun args bl K => match args, bl with
  | [.v (.one (.ptr 0 0)), .v (.one (.int .i64 a0))], [.pcells 0 96 [.sl 5 (.ints .u8 a1), .int .i64 a2, .int .i64 a3]] => zq5 a0 a1 a2 a3 (fun y0 y1 y2 y3 => K (.v (.one (.int .i64 y0))) [.pcells 0 96 [.sl 5 (.ints .u8 y1), .int .i64 y2, .int .i64 y3]])
  | _, _ => none
def S70 (N : Nat) : GSpec β := VS70 N (zj5 N)
def VE70 (N : Nat) (zq4 : (a0 : List Int) → (a1 : Int) → (a2 : Int) → (k0 : Int → List Int → Int → Int → O β) → O β) : Env β := ⟨[], [], [], [(79, VS79 N zq4)], ⟨[], [], [], []⟩⟩
def E70 (N : Nat) : Env β := VE70 N (zj4 N)
def zb5 (N : Nat) (zq4 : (a0 : List Int) → (a1 : Int) → (a2 : Int) → (k0 : Int → List Int → Int → Int → O β) → O β) (a0 : Int) (a1 : List Int) (a2 : Int) (a3 : Int) (k0 : Int → List Int → Int → Int → O β) : O β :=
(cond ((decide (a0 ≤ 0)))
(k0 0 a1 a2 a3)
((cond ((decide (a0 ≤ 256)))
(zq4 a1 a2 a3 (fun r6_0 r6_1 r6_2 r6_3 =>
(gd ((a0 != 0))
(k0 ((remI r6_0 a0)) r6_1 r6_2 r6_3))))
(zq4 a1 a2 a3 (fun r7_0 r7_1 r7_2 r7_3 =>
zq4 r7_1 r7_2 r7_3 (fun r8_0 r8_1 r8_2 r8_3 =>
zq4 r8_1 r8_2 r8_3 (fun r9_0 r9_1 r9_2 r9_3 =>
zq4 r9_1 r9_2 r9_3 (fun r10_0 r10_1 r10_2 r10_3 =>
(gd ((a0 != 0))
(k0 ((remI (w64 ((w64 ((w64 ((w64 (r7_0 * 16777216)) + (w64 (r8_0 * 65536)))) + (w64 (r9_0 * 256)))) + r10_0)) a0)) r10_1 r10_2 r10_3))))))))))
theorem zt5 (N : Nat) (a0 : Int) (a1 : List Int) (a2 : Int) (a3 : Int) (k0 : Int → List Int → Int → Int → O β) : zj5 N a0 a1 a2 a3 k0 = zb5 N (zj4 N) a0 a1 a2 a3 k0 := by
  unfold zj5 zb5
  rfl
theorem ve70_0 (N : Nat) (zq4 : (a0 : List Int) → (a1 : Int) → (a2 : Int) → (k0 : Int → List Int → Int → Int → O β) → O β) (a0 : Int) (a1 : List Int) (a2 : Int) (a3 : Int) (K : TV → List Blk → O β) : evFnG lay (VE70 N zq4) Tryd.f70 [.v (.one (.ptr 0 0)), .v (.one (.int .i64 a0))] [.pcells 0 96 [.sl 5 (.ints .u8 a1), .int .i64 a2, .int .i64 a3]] K = zb5 N zq4 a0 a1 a2 a3 (fun y0 y1 y2 y3 => K (.v (.one (.int .i64 y0))) [.pcells 0 96 [.sl 5 (.ints .u8 y1), .int .i64 y2, .int .i64 y3]]) := by kernel_rfl
theorem e70_0 (N : Nat) (a0 : Int) (a1 : List Int) (a2 : Int) (a3 : Int) (K : TV → List Blk → O β) : evFnG lay (E70 N) Tryd.f70 [.v (.one (.ptr 0 0)), .v (.one (.int .i64 a0))] [.pcells 0 96 [.sl 5 (.ints .u8 a1), .int .i64 a2, .int .i64 a3]] K = zj5 N a0 a1 a2 a3 (fun y0 y1 y2 y3 => K (.v (.one (.int .i64 y0))) [.pcells 0 96 [.sl 5 (.ints .u8 y1), .int .i64 y2, .int .i64 y3]]) := (ve70_0 N (zj4 N) a0 a1 a2 a3 K).trans (zt5 N a0 a1 a2 a3 (fun y0 y1 y2 y3 => K (.v (.one (.int .i64 y0))) [.pcells 0 96 [.sl 5 (.ints .u8 y1), .int .i64 y2, .int .i64 y3]])).symm
theorem o70 (N : Nat) : GOK (β := β) inv Tryd.prog 70 (S70 N) := by
  refine g_of lay_ok mixed (E := E70 N) (specs_loops specs_nil) muts_nil (gs_cons (o79 N) gs_nil) Tryd.func70 (by kernel_rfl) 0 (by kernel_rfl) trivial fun args bl K r h => ?_
  unfold S70 VS70 at h
  split at h
  · exact (e70_0 N _ _ _ _ _).trans h
  · cases h
def VS72 (N : Nat) (zq8 : (a0 : Int) → (a1 : Int) → (k : Int → O β) → O β) : Rv.Spec β := fun args K => match args with
  | [.v (.one (.int .i64 a0)), .v (.one (.int .i64 a1))] => zq8 a0 a1 (fun z2 => K (.v (.one (.int .i64 z2))))
  | _ => none
def S72 (N : Nat) : Rv.Spec β := VS72 N (zj8 N)
def h72_0_0  (v0 : Int) (v1 : Int) (v2 : Int) (v3 : Int) : St := ⟨.v (.one (.int .i64 v0)) :: .v (.one (.int .i64 v1)) :: tund :: tund :: tund :: .v (.one (.int .i64 v2)) :: .v (.one (.int .i64 v3)) :: tund :: tund :: tund :: tund :: tund :: tund :: tund :: tund :: tund :: tund :: tund :: tund :: tund :: tund :: tund :: tund :: [], []⟩
def x72_0_0_k0  (y0 : Int) : St := ⟨tund :: tund :: tund :: tund :: tund :: .v (.one (.int .i64 y0)) :: tund :: tund :: tund :: tund :: tund :: tund :: tund :: tund :: tund :: tund :: tund :: tund :: tund :: tund :: tund :: tund :: tund :: [], []⟩
theorem fl72_0_0 (s : St) : refSt (h72_0_0 0 0 0 0) s = h72_0_0 (intS (oneA (vT (nx tund s.tmps 0)))) (intS (oneA (vT (nx tund s.tmps 1)))) (intS (oneA (vT (nx tund s.tmps 5)))) (intS (oneA (vT (nx tund s.tmps 6)))) := by kernel_rfl
def VLS72_0 (N : Nat) (zq7 : Nat → Int → Int → Int → Int → (Int → O β) → O β) : LSpec β := fun s K => cond (shpSt (h72_0_0 0 0 0 0) s) ((fun (v0 : Int) (v1 : Int) (v2 : Int) (v3 : Int) => zq7  N v0 v1 v2 v3 (fun y0 => K (.exit 0) (x72_0_0_k0  y0))) (intS (oneA (vT (nx tund s.tmps 0)))) (intS (oneA (vT (nx tund s.tmps 1)))) (intS (oneA (vT (nx tund s.tmps 5)))) (intS (oneA (vT (nx tund s.tmps 6))))) (none)
def LS72_0 (N : Nat) : LSpec β := VLS72_0 N (zj7 N)
def VE72 (N : Nat) (zq7 : Nat → Int → Int → Int → Int → (Int → O β) → O β) : Env β := ⟨[], [], [(0, VLS72_0 N zq7)], [], ⟨[], [], [], []⟩⟩
def E72 (N : Nat) : Env β := VE72 N (zj7 N)
def zb6 (N : Nat)  (v0 : Int) (v1 : Int) (v2 : Int) (v3 : Int) (rec_ : Int → Int → Int → Int → O β) (k0 : Int → O β) : O β :=
(gd ((decide (0 ≤ v0)))
((cond ((decide (v3 < (shlI .i64 1 v0))))
((gd ((decide (0 ≤ v1)))
((cond (((bits .and .i64 (shrI .i64 v3 v1) 1) == 1))
((gd ((decide (0 ≤ v3)))
(rec_ v0 v1 ((bits .or .i64 v2 (shlI .i64 1 v3))) ((w64 (v3 + 1))))))
(rec_ v0 v1 v2 ((w64 (v3 + 1))))))))
(k0 v2))))
theorem zt6 (N : Nat)  (v0 : Int) (v1 : Int) (v2 : Int) (v3 : Int) (rec_ : Int → Int → Int → Int → O β) (k0 : Int → O β) : zj6 N v0 v1 v2 v3 rec_ k0 = zb6 N v0 v1 v2 v3 rec_ k0 := by
  unfold zj6 zb6
  rfl
theorem vst72_0_0 (N : Nat) (zq7 : Nat → Int → Int → Int → Int → (Int → O β) → O β)  (v0 : Int) (v1 : Int) (v2 : Int) (v3 : Int) (rec_ : St → O β) (K : Exit → St → O β) :
    ev lay (VE72 N zq7) (retMask Tryd.f72) (lp Tryd.f72 0).body (lp Tryd.f72 0).ex ((lp Tryd.f72 0).lv (retMask Tryd.f72)) (h72_0_0  v0 v1 v2 v3) (nextR (fun s' => rec_ (s'.tidy ((lp Tryd.f72 0).lv (retMask Tryd.f72)))) K) = zb6 N  v0 v1 v2 v3 (fun v0 v1 v2 v3 => rec_ (h72_0_0  v0 v1 v2 v3)) (fun y0 => K (.exit 0) (x72_0_0_k0  y0)) := by kernel_rfl
theorem st72_0_0 (N : Nat)  (v0 : Int) (v1 : Int) (v2 : Int) (v3 : Int) (rec_ : St → O β) (K : Exit → St → O β) :
    ev lay (E72 N) (retMask Tryd.f72) (lp Tryd.f72 0).body (lp Tryd.f72 0).ex ((lp Tryd.f72 0).lv (retMask Tryd.f72)) (h72_0_0  v0 v1 v2 v3) (nextR (fun s' => rec_ (s'.tidy ((lp Tryd.f72 0).lv (retMask Tryd.f72)))) K) = zj6 N  v0 v1 v2 v3 (fun v0 v1 v2 v3 => rec_ (h72_0_0  v0 v1 v2 v3)) (fun y0 => K (.exit 0) (x72_0_0_k0  y0)) := (vst72_0_0 N (zj7 N) v0 v1 v2 v3 rec_ K).trans (zt6 N  v0 v1 v2 v3 (fun v0 v1 v2 v3 => rec_ (h72_0_0  v0 v1 v2 v3)) (fun y0 => K (.exit 0) (x72_0_0_k0  y0))).symm
theorem ro72_0_0 (N : Nat)  (K : Exit → St → O β) : ∀ (F : Nat) (v0 : Int) (v1 : Int) (v2 : Int) (v3 : Int), (lp Tryd.f72 0).rounds lay (E72 N) (retMask Tryd.f72) F (h72_0_0  v0 v1 v2 v3) K = zj7 N  F v0 v1 v2 v3 (fun y0 => K (.exit 0) (x72_0_0_k0  y0)) := by
  intro F
  induction F with
  | zero => intros; rfl
  | succ F ih =>
    intros
    rw [rounds_next]
    refine (st72_0_0 N  _ _ _ _ (fun s => (lp Tryd.f72 0).rounds lay (E72 N) (retMask Tryd.f72) F s K) K).trans ?_
    simp only [ih]
    rfl
theorem lk72_0 (N : Nat) : lookL (E72 (β := β) N).loops (lp Tryd.f72 0).id = LS72_0 N := by kernel_rfl
theorem rk72_0 (N : Nat) : RoundsOK lay (E72 (β := β) N) (retMask Tryd.f72) (lp Tryd.f72 0) := by
  intro s K r h
  rw [lk72_0] at h
  unfold LS72_0 VLS72_0 at h
  cases hb : shpSt (h72_0_0 0 0 0 0) s with
  | true =>
    rw [hb, cond_true] at h
    exact ⟨N, by rw [← shpSt_ref hb, fl72_0_0 s]; exact (ro72_0_0 N  K N (intS (oneA (vT (nx tund s.tmps 0)))) (intS (oneA (vT (nx tund s.tmps 1)))) (intS (oneA (vT (nx tund s.tmps 5)))) (intS (oneA (vT (nx tund s.tmps 6))))).trans h⟩
  | false =>
  rw [hb, cond_false] at h
  clear hb
  cases h
def zb8 (N : Nat) (zq7 : Nat → Int → Int → Int → Int → (Int → O β) → O β) (a0 : Int) (a1 : Int) (k : Int → O β) : O β :=
zq7  N a0 a1 0 0 (fun e3_0 =>
k e3_0)
theorem zt8 (N : Nat) (a0 : Int) (a1 : Int) (k : Int → O β) : zj8 N a0 a1 k = zb8 N (zj7 N) a0 a1 k := by
  unfold zj8 zb8
  rfl
theorem ve72_0 (N : Nat) (zq7 : Nat → Int → Int → Int → Int → (Int → O β) → O β)  (a0 : Int) (a1 : Int) (K : TV → O β) : evFn lay (VE72 N zq7) Tryd.f72 [.v (.one (.int .i64 a0)), .v (.one (.int .i64 a1))] K = zb8 N zq7 a0 a1 (fun z2 => K (.v (.one (.int .i64 z2)))) := by kernel_rfl
theorem e72_0 (N : Nat)  (a0 : Int) (a1 : Int) (K : TV → O β) : evFn lay (E72 N) Tryd.f72 [.v (.one (.int .i64 a0)), .v (.one (.int .i64 a1))] K = zj8 N a0 a1 (fun z2 => K (.v (.one (.int .i64 z2)))) := (ve72_0 N (zj7 N) a0 a1 K).trans (zt8 N a0 a1 (fun z2 => K (.v (.one (.int .i64 z2))))).symm
theorem o72 (N : Nat) : SpecOK (β := β) inv Tryd.prog 72 (S72 N) := by
  refine spec_of lay_ok mixed (E := E72 N) (specs_loops specs_nil) muts_nil gs_nil Tryd.func72 (by kernel_rfl) 1 (by kernel_rfl) ⟨trivial, rk72_0 N⟩ fun args K r h => ?_
  unfold S72 VS72 at h
  split at h
  · exact (e72_0 N _ _ _).trans h
  · cases h
def VS74 (N : Nat) (zq9 : (a0 : Int) → (k : Int → O β) → O β) : Rv.Spec β := fun args K => match args with
  | [.v (.one (.int .i64 a0))] => zq9 a0 (fun z1 => K (.v (.one (.int .i64 z1))))
  | _ => none
def S74 (N : Nat) : Rv.Spec β := VS74 N (zj9 N)
def VE74 (N : Nat) : Env β := ⟨[], [], [], [], ⟨[], [], [], []⟩⟩
def E74 (N : Nat) : Env β := VE74 N
def zb9 (N : Nat) (a0 : Int) (k : Int → O β) : O β :=
(gd ((decide (0 ≤ a0)))
((gd ((decide (0 ≤ (shlI .u64 1 a0))))
(k ((w64 ((shlI .i64 1 (shlI .u64 1 a0)) - 1)))))))
theorem zt9 (N : Nat) (a0 : Int) (k : Int → O β) : zj9 N a0 k = zb9 N a0 k := by
  unfold zj9 zb9
  rfl
theorem ve74_0 (N : Nat)  (a0 : Int) (K : TV → O β) : evFn lay (VE74 N) Tryd.f74 [.v (.one (.int .i64 a0))] K = zb9 N a0 (fun z1 => K (.v (.one (.int .i64 z1)))) := by kernel_rfl
theorem e74_0 (N : Nat)  (a0 : Int) (K : TV → O β) : evFn lay (E74 N) Tryd.f74 [.v (.one (.int .i64 a0))] K = zj9 N a0 (fun z1 => K (.v (.one (.int .i64 z1)))) := (ve74_0 N a0 K).trans (zt9 N a0 (fun z1 => K (.v (.one (.int .i64 z1))))).symm
theorem o74 (N : Nat) : SpecOK (β := β) inv Tryd.prog 74 (S74 N) := by
  refine spec_of lay_ok mixed (E := E74 N) (specs_loops specs_nil) muts_nil gs_nil Tryd.func74 (by kernel_rfl) 0 (by kernel_rfl) trivial fun args K r h => ?_
  unfold S74 VS74 at h
  split at h
  · exact (e74_0 N _ _).trans h
  · cases h
def VS73 (N : Nat) (zq12 : (a0 : Int) → (k : Int → O β) → O β) : Rv.Spec β := fun args K => match args with
  | [.v (.one (.int .i64 a0))] => zq12 a0 (fun z1 => K (.v (.one (.int .i64 z1))))
  | _ => none
def S73 (N : Nat) : Rv.Spec β := VS73 N (zj12 N)
def h73_0_0  (v0 : Int) (v1 : Int) : St := ⟨tund :: tund :: tund :: .v (.one (.int .i64 v0)) :: .v (.one (.int .i64 v1)) :: tund :: tund :: tund :: tund :: tund :: tund :: tund :: tund :: tund :: tund :: [], []⟩
def x73_0_0_k0  (y0 : Int) : St := ⟨tund :: tund :: tund :: .v (.one (.int .i64 y0)) :: tund :: tund :: tund :: tund :: tund :: tund :: tund :: tund :: tund :: tund :: tund :: [], []⟩
theorem fl73_0_0 (s : St) : refSt (h73_0_0 0 0) s = h73_0_0 (intS (oneA (vT (nx tund s.tmps 3)))) (intS (oneA (vT (nx tund s.tmps 4)))) := by kernel_rfl
def VLS73_0 (N : Nat) (zq11 : Nat → Int → Int → (Int → O β) → O β) : LSpec β := fun s K => cond (shpSt (h73_0_0 0 0) s) ((fun (v0 : Int) (v1 : Int) => zq11  N v0 v1 (fun y0 => K (.exit 0) (x73_0_0_k0  y0))) (intS (oneA (vT (nx tund s.tmps 3)))) (intS (oneA (vT (nx tund s.tmps 4))))) (none)
def LS73_0 (N : Nat) : LSpec β := VLS73_0 N (zj11 N)
def VE73 (N : Nat) (zq11 : Nat → Int → Int → (Int → O β) → O β) : Env β := ⟨[], [], [(0, VLS73_0 N zq11)], [], ⟨[], [], [], []⟩⟩
def E73 (N : Nat) : Env β := VE73 N (zj11 N)
def zb10 (N : Nat)  (v0 : Int) (v1 : Int) (rec_ : Int → Int → O β) (k0 : Int → O β) : O β :=
(cond ((decide (v1 > 0)))
(rec_ ((w64 (v0 + (bits .and .i64 v1 1)))) ((shrI .i64 v1 1)))
(k0 v0))
theorem zt10 (N : Nat)  (v0 : Int) (v1 : Int) (rec_ : Int → Int → O β) (k0 : Int → O β) : zj10 N v0 v1 rec_ k0 = zb10 N v0 v1 rec_ k0 := by
  unfold zj10 zb10
  rfl
theorem vst73_0_0 (N : Nat) (zq11 : Nat → Int → Int → (Int → O β) → O β)  (v0 : Int) (v1 : Int) (rec_ : St → O β) (K : Exit → St → O β) :
    ev lay (VE73 N zq11) (retMask Tryd.f73) (lp Tryd.f73 0).body (lp Tryd.f73 0).ex ((lp Tryd.f73 0).lv (retMask Tryd.f73)) (h73_0_0  v0 v1) (nextR (fun s' => rec_ (s'.tidy ((lp Tryd.f73 0).lv (retMask Tryd.f73)))) K) = zb10 N  v0 v1 (fun v0 v1 => rec_ (h73_0_0  v0 v1)) (fun y0 => K (.exit 0) (x73_0_0_k0  y0)) := by kernel_rfl
theorem st73_0_0 (N : Nat)  (v0 : Int) (v1 : Int) (rec_ : St → O β) (K : Exit → St → O β) :
    ev lay (E73 N) (retMask Tryd.f73) (lp Tryd.f73 0).body (lp Tryd.f73 0).ex ((lp Tryd.f73 0).lv (retMask Tryd.f73)) (h73_0_0  v0 v1) (nextR (fun s' => rec_ (s'.tidy ((lp Tryd.f73 0).lv (retMask Tryd.f73)))) K) = zj10 N  v0 v1 (fun v0 v1 => rec_ (h73_0_0  v0 v1)) (fun y0 => K (.exit 0) (x73_0_0_k0  y0)) := (vst73_0_0 N (zj11 N) v0 v1 rec_ K).trans (zt10 N  v0 v1 (fun v0 v1 => rec_ (h73_0_0  v0 v1)) (fun y0 => K (.exit 0) (x73_0_0_k0  y0))).symm
theorem ro73_0_0 (N : Nat)  (K : Exit → St → O β) : ∀ (F : Nat) (v0 : Int) (v1 : Int), (lp Tryd.f73 0).rounds lay (E73 N) (retMask Tryd.f73) F (h73_0_0  v0 v1) K = zj11 N  F v0 v1 (fun y0 => K (.exit 0) (x73_0_0_k0  y0)) := by
  intro F
  induction F with
  | zero => intros; rfl
  | succ F ih =>
    intros
    rw [rounds_next]
    refine (st73_0_0 N  _ _ (fun s => (lp Tryd.f73 0).rounds lay (E73 N) (retMask Tryd.f73) F s K) K).trans ?_
    simp only [ih]
    rfl
theorem lk73_0 (N : Nat) : lookL (E73 (β := β) N).loops (lp Tryd.f73 0).id = LS73_0 N := by kernel_rfl
theorem rk73_0 (N : Nat) : RoundsOK lay (E73 (β := β) N) (retMask Tryd.f73) (lp Tryd.f73 0) := by
  intro s K r h
  rw [lk73_0] at h
  unfold LS73_0 VLS73_0 at h
  cases hb : shpSt (h73_0_0 0 0) s with
  | true =>
    rw [hb, cond_true] at h
    exact ⟨N, by rw [← shpSt_ref hb, fl73_0_0 s]; exact (ro73_0_0 N  K N (intS (oneA (vT (nx tund s.tmps 3)))) (intS (oneA (vT (nx tund s.tmps 4))))).trans h⟩
  | false =>
  rw [hb, cond_false] at h
  clear hb
  cases h
def zb12 (N : Nat) (zq11 : Nat → Int → Int → (Int → O β) → O β) (a0 : Int) (k : Int → O β) : O β :=
zq11  N 0 a0 (fun e2_0 =>
k e2_0)
theorem zt12 (N : Nat) (a0 : Int) (k : Int → O β) : zj12 N a0 k = zb12 N (zj11 N) a0 k := by
  unfold zj12 zb12
  rfl
theorem ve73_0 (N : Nat) (zq11 : Nat → Int → Int → (Int → O β) → O β)  (a0 : Int) (K : TV → O β) : evFn lay (VE73 N zq11) Tryd.f73 [.v (.one (.int .i64 a0))] K = zb12 N zq11 a0 (fun z1 => K (.v (.one (.int .i64 z1)))) := by kernel_rfl
theorem e73_0 (N : Nat)  (a0 : Int) (K : TV → O β) : evFn lay (E73 N) Tryd.f73 [.v (.one (.int .i64 a0))] K = zj12 N a0 (fun z1 => K (.v (.one (.int .i64 z1)))) := (ve73_0 N (zj11 N) a0 K).trans (zt12 N a0 (fun z1 => K (.v (.one (.int .i64 z1))))).symm
theorem o73 (N : Nat) : SpecOK (β := β) inv Tryd.prog 73 (S73 N) := by
  refine spec_of lay_ok mixed (E := E73 N) (specs_loops specs_nil) muts_nil gs_nil Tryd.func73 (by kernel_rfl) 1 (by kernel_rfl) ⟨trivial, rk73_0 N⟩ fun args K r h => ?_
  unfold S73 VS73 at h
  split at h
  · exact (e73_0 N _ _).trans h
  · cases h
end Go.Proofs.YtddflpokemgnmaaDoor
