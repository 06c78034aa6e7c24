/- The functions that the claims reach answer as their texts do. -/
import Derived.Test.YtfdggelojmofmaaT0
import Derived.Test.YtfdggelojmofmaaProg
import Derived.KernelRfl
namespace Go.Proofs.Ytfdggelojmofmaa
open Go.Rv
set_option maxRecDepth 100000
set_option maxHeartbeats 2000000
set_option linter.unusedVariables false
def lay : Lay := [(1, .func),
  (2, .int .i64),
  (3, .int .i64),
  (4, .bool),
  (5, .int .u8),
  (9, .string),
  (12, .int .u64),
  (21, .int .i32),
  (25, .struct [⟨0, 1, false⟩, ⟨1, 1, false⟩] [3, 3] 16 true),
  (26, .struct [⟨0, 1, false⟩, ⟨1, 1, false⟩] [3, 3] 16 true),
  (27, .struct [⟨0, 1, false⟩, ⟨1, 1, false⟩] [3, 3] 16 true),
  (28, .slice 3),
  (29, .struct [⟨0, 1, false⟩, ⟨1, 2, true⟩, ⟨3, 1, false⟩, ⟨4, 1, false⟩, ⟨5, 1, false⟩, ⟨6, 1, false⟩] [3, 3, 3, 3, 3, 9, 28] 80 false),
  (30, .struct [⟨0, 1, false⟩, ⟨1, 2, true⟩, ⟨3, 1, false⟩, ⟨4, 1, false⟩, ⟨5, 1, false⟩, ⟨6, 1, false⟩] [3, 3, 3, 3, 3, 9, 28] 80 false),
  (37, .slice 9),
  (42, .slice 5),
  (54, .pointer 90),
  (71, .pointer 110),
  (89, .struct [⟨0, 1, false⟩, ⟨1, 1, false⟩, ⟨2, 1, false⟩] [5, 54, 54] 24 false),
  (90, .struct [⟨0, 1, false⟩, ⟨1, 1, false⟩, ⟨2, 1, false⟩] [5, 54, 54] 24 false),
  (99, .int .u64),
  (103, .slice 28),
  (107, .slice 160),
  (109, .struct [⟨0, 1, false⟩, ⟨1, 1, false⟩, ⟨2, 1, false⟩] [42, 3, 3] 40 false),
  (110, .struct [⟨0, 1, false⟩, ⟨1, 1, false⟩, ⟨2, 1, false⟩] [42, 3, 3] 40 false),
  (125, .slice 4),
  (126, .pointer 129),
  (127, .map 27 3),
  (128, .struct [⟨0, 1, false⟩, ⟨1, 1, false⟩, ⟨2, 1, false⟩] [28, 107, 127] 56 false),
  (129, .struct [⟨0, 1, false⟩, ⟨1, 1, false⟩, ⟨2, 1, false⟩] [28, 107, 127] 56 false),
  (138, .int .u32),
  (141, .int .u64),
  (146, .pointer 168),
  (149, .struct [⟨0, 1, false⟩, ⟨1, 1, false⟩] [3, 3] 16 true),
  (150, .struct [⟨0, 1, false⟩, ⟨1, 1, false⟩] [3, 3] 16 true),
  (159, .struct [⟨0, 1, false⟩, ⟨1, 1, false⟩, ⟨2, 1, false⟩] [3, 3, 3] 24 true),
  (160, .struct [⟨0, 1, false⟩, ⟨1, 1, false⟩, ⟨2, 1, false⟩] [3, 3, 3] 24 true),
  (162, .pointer 134),
  (166, .map 150 3),
  (167, .struct [⟨0, 2, true⟩, ⟨2, 1, false⟩, ⟨3, 1, false⟩] [3, 3, 166, 166] 32 false),
  (168, .struct [⟨0, 2, true⟩, ⟨2, 1, false⟩, ⟨3, 1, false⟩] [3, 3, 166, 166] 32 false),
  (172, .array 2 4),
  (181, .pointer 5)]

theorem lay_ok : LayOK Try.prog lay := layOK_of (by decide +kernel)
theorem mixed : Try.prog.follows .mixedOrders = true := by kernel_rfl
def inv : World → Prop := fun _ => True
def VS11 {β : Type} (N : Nat) (zq0 : (a0 : Int) → (a1 : Int) → (k : Int → Int → Option β) → Option β) : Rv.Spec β := fun args K => match args with
  | [.v (.agg [.int .i64 a0, .int .i64 a1])] => zq0 a0 a1 (fun z2 z3 => K (.v (.agg [.int .i64 z2, .int .i64 z3])))
  | _ => none
def S11 {β : Type} (N : Nat) : Rv.Spec β := VS11 N (zj0 N)
def VE11 {β : Type} (N : Nat) : Env β := ⟨[], [], [], [], ⟨[], [], [], [61]⟩⟩
def E11 {β : Type} (N : Nat) : Env β := VE11 N
def zb0 {β : Type} (N : Nat) (a0 : Int) (a1 : Int) (k : Int → Int → Option β) : Option β :=
k a0 a1
theorem zt0 {β : Type} (N : Nat) (a0 : Int) (a1 : Int) (k : Int → Int → Option β) : zj0 N a0 a1 k = zb0 N a0 a1 k := by
  unfold zj0 zb0
  rfl
theorem ve11_0 {β : Type} (N : Nat)  (a0 : Int) (a1 : Int) (K : TV → Option β) : evFn lay (VE11 N) Try.f11 [.v (.agg [.int .i64 a0, .int .i64 a1])] K = zb0 N a0 a1 (fun z2 z3 => K (.v (.agg [.int .i64 z2, .int .i64 z3]))) := by kernel_rfl
theorem e11_0 {β : Type} (N : Nat)  (a0 : Int) (a1 : Int) (K : TV → Option β) : evFn lay (E11 N) Try.f11 [.v (.agg [.int .i64 a0, .int .i64 a1])] K = zj0 N a0 a1 (fun z2 z3 => K (.v (.agg [.int .i64 z2, .int .i64 z3]))) := (ve11_0 N a0 a1 K).trans (zt0 N a0 a1 (fun z2 z3 => K (.v (.agg [.int .i64 z2, .int .i64 z3])))).symm
theorem o11 {β : Type} (N : Nat) : SpecOK (β := β) inv Try.prog 11 (S11 N) := by
  refine spec_of lay_ok mixed (E := E11 N) (specs_loops specs_nil) muts_nil gs_nil Try.func11 (by kernel_rfl) 0 (by kernel_rfl) trivial fun args K r h => ?_
  unfold S11 VS11 at h
  split at h
  · exact (e11_0 N _ _ _).trans h
  · cases h
def VS73 {β : Type} (N : Nat) (zq1 : (a0 : Int) → (a1 : Int) → (a2 : Int) → (k : Bool → Option β) → Option β) : Rv.Spec β := fun args K => match args with
  | [.v (.one (.int .i64 a0)), .v (.one (.int .i64 a1)), .v (.one (.int .i64 a2))] => zq1 a0 a1 a2 (fun z3 => K (.v (.one (.bool z3))))
  | _ => none
def S73 {β : Type} (N : Nat) : Rv.Spec β := VS73 N (zj1 N)
def VE73 {β : Type} (N : Nat) : Env β := ⟨[], [], [], [], ⟨[], [], [], [61]⟩⟩
def E73 {β : Type} (N : Nat) : Env β := VE73 N
def zb1 {β : Type} (N : Nat) (a0 : Int) (a1 : Int) (a2 : Int) (k : Bool → Option β) : Option β :=
(cond ((decide (a0 ≥ a1)))
(k ((decide (a0 ≤ a2))))
(k false))
theorem zt1 {β : Type} (N : Nat) (a0 : Int) (a1 : Int) (a2 : Int) (k : Bool → Option β) : zj1 N a0 a1 a2 k = zb1 N a0 a1 a2 k := by
  unfold zj1 zb1
  rfl
theorem ve73_0 {β : Type} (N : Nat)  (a0 : Int) (a1 : Int) (a2 : Int) (K : TV → Option β) : evFn lay (VE73 N) Try.f73 [.v (.one (.int .i64 a0)), .v (.one (.int .i64 a1)), .v (.one (.int .i64 a2))] K = zb1 N a0 a1 a2 (fun z3 => K (.v (.one (.bool z3)))) := by kernel_rfl
theorem e73_0 {β : Type} (N : Nat)  (a0 : Int) (a1 : Int) (a2 : Int) (K : TV → Option β) : evFn lay (E73 N) Try.f73 [.v (.one (.int .i64 a0)), .v (.one (.int .i64 a1)), .v (.one (.int .i64 a2))] K = zj1 N a0 a1 a2 (fun z3 => K (.v (.one (.bool z3)))) := (ve73_0 N a0 a1 a2 K).trans (zt1 N a0 a1 a2 (fun z3 => K (.v (.one (.bool z3))))).symm
theorem o73 {β : Type} (N : Nat) : SpecOK (β := β) inv Try.prog 73 (S73 N) := by
  refine spec_of lay_ok mixed (E := E73 N) (specs_loops specs_nil) muts_nil gs_nil Try.func73 (by kernel_rfl) 0 (by kernel_rfl) trivial fun args K r h => ?_
  unfold S73 VS73 at h
  split at h
  · exact (e73_0 N _ _ _ _).trans h
  · cases h
def VS58 {β : Type} (N : Nat) (zq2 : (a0 : Int) → (a1 : Int) → (k : Bool → Option β) → Option β) : Rv.Spec β := fun args K => match args with
  | [.v (.agg [.int .i64 a0, .int .i64 a1])] => zq2 a0 a1 (fun z2 => K (.v (.one (.bool z2))))
  | _ => none
def S58 {β : Type} (N : Nat) : Rv.Spec β := VS58 N (zj2 N)
def VE58 {β : Type} (N : Nat) (zq1 : (a0 : Int) → (a1 : Int) → (a2 : Int) → (k : Bool → Option β) → Option β) : Env β := ⟨[(73, VS73 N zq1)], [], [], [], ⟨[], [], [], [61]⟩⟩
def E58 {β : Type} (N : Nat) : Env β := VE58 N (zj1 N)
def zb2 {β : Type} (N : Nat) (zq1 : (a0 : Int) → (a1 : Int) → (a2 : Int) → (k : Bool → Option β) → Option β) (a0 : Int) (a1 : Int) (k : Bool → Option β) : Option β :=
zq1 a0 0 5 fun r3 =>
(cond r3
((gd ((decide (0 ≤ a0)))
((gd ((decide (0 ≤ (shlI .u64 1 a0))))
(zq1 a1 0 ((w64 ((shlI .i64 1 (shlI .u64 1 a0)) - 1))) fun r4 =>
k r4)))))
(k false))
theorem zt2 {β : Type} (N : Nat) (a0 : Int) (a1 : Int) (k : Bool → Option β) : zj2 N a0 a1 k = zb2 N (zj1 N) a0 a1 k := by
  unfold zj2 zb2
  rfl
theorem ve58_0 {β : Type} (N : Nat) (zq1 : (a0 : Int) → (a1 : Int) → (a2 : Int) → (k : Bool → Option β) → Option β)  (a0 : Int) (a1 : Int) (K : TV → Option β) : evFn lay (VE58 N zq1) Try.f58 [.v (.agg [.int .i64 a0, .int .i64 a1])] K = zb2 N zq1 a0 a1 (fun z2 => K (.v (.one (.bool z2)))) := by kernel_rfl
theorem e58_0 {β : Type} (N : Nat)  (a0 : Int) (a1 : Int) (K : TV → Option β) : evFn lay (E58 N) Try.f58 [.v (.agg [.int .i64 a0, .int .i64 a1])] K = zj2 N a0 a1 (fun z2 => K (.v (.one (.bool z2)))) := (ve58_0 N (zj1 N) a0 a1 K).trans (zt2 N a0 a1 (fun z2 => K (.v (.one (.bool z2))))).symm
theorem o58 {β : Type} (N : Nat) : SpecOK (β := β) inv Try.prog 58 (S58 N) := by
  refine spec_of lay_ok mixed (E := E58 N) (specs_loops (specs_cons (o73 N) specs_nil)) muts_nil gs_nil Try.func58 (by kernel_rfl) 0 (by kernel_rfl) trivial fun args K r h => ?_
  unfold S58 VS58 at h
  split at h
  · exact (e58_0 N _ _ _).trans h
  · cases h
def VS59 {β : Type} (N : Nat) (zq3 : (k : List ByteArray → Option β) → Option β) : Rv.Spec β := fun args K => match args with
  | [] => zq3  (fun z0 => K (.v (.one (.sl 9 (.strs z0)))))
  | _ => none
def S59 {β : Type} (N : Nat) : Rv.Spec β := VS59 N (zj3 N)
def VE59 {β : Type} (N : Nat) : Env β := ⟨[], [], [], [], ⟨[], [], [], [61]⟩⟩
def E59 {β : Type} (N : Nat) : Env β := VE59 N
def zb3 {β : Type} (N : Nat)  (k : List ByteArray → Option β) : Option β :=
k (((((((([] : List ByteArray) ++ [(strOf [111, 114, 100, 101, 114])]) ++ [(strOf [112, 114, 111, 100, 117, 99, 116])]) ++ [(strOf [104, 117, 97, 110, 103])]) ++ [(strOf [98, 108, 111, 99, 107, 115])]) ++ [(strOf [100, 101, 103, 114, 101, 101, 115])]) ++ [(strOf [118, 97, 114, 105, 97, 98, 108, 101, 115])]))
theorem zt3 {β : Type} (N : Nat)  (k : List ByteArray → Option β) : zj3 N k = zb3 N k := by
  unfold zj3 zb3
  rfl
theorem ve59_0 {β : Type} (N : Nat)   (K : TV → Option β) : evFn lay (VE59 N) Try.f59 [] K = zb3 N  (fun z0 => K (.v (.one (.sl 9 (.strs z0))))) := by kernel_rfl
theorem e59_0 {β : Type} (N : Nat)   (K : TV → Option β) : evFn lay (E59 N) Try.f59 [] K = zj3 N  (fun z0 => K (.v (.one (.sl 9 (.strs z0))))) := (ve59_0 N K).trans (zt3 N  (fun z0 => K (.v (.one (.sl 9 (.strs z0)))))).symm
theorem o59 {β : Type} (N : Nat) : SpecOK (β := β) inv Try.prog 59 (S59 N) := by
  refine spec_of lay_ok mixed (E := E59 N) (specs_loops specs_nil) muts_nil gs_nil Try.func59 (by kernel_rfl) 0 (by kernel_rfl) trivial fun args K r h => ?_
  unfold S59 VS59 at h
  split at h
  · exact (e59_0 N  _).trans h
  · cases h
def VS162 {β : Type} (N : Nat) (zq6 : (a0 : Int) → (a1 : Int) → (a2 : Int) → (k : Int → Option β) → Option β) : Rv.Spec β := fun args K => match args with
  | [.v (.agg [.int .i64 a0, .int .i64 a1]), .v (.one (.int .i64 a2))] => zq6 a0 a1 a2 (fun z3 => K (.v (.one (.int .i64 z3))))
  | _ => none
def S162 {β : Type} (N : Nat) : Rv.Spec β := VS162 N (zj6 N)
def h162_0_0  (v0 : Int) (v1 : Int) (v2 : Int) (v3 : Int) (v4 : Int) : St := ⟨tund :: .v (.one (.int .i64 v0)) :: .v (.one (.ptr 0 0)) :: tund :: tund :: .v (.one (.int .i64 v1)) :: .v (.one (.int .i64 v2)) :: tund :: tund :: tund :: tund :: tund :: tund :: tund :: tund :: tund :: tund :: tund :: tund :: tund :: tund :: tund :: tund :: tund :: tund :: tund :: tund :: tund :: tund :: [], [.cells 27 [.int .i64 v3, .int .i64 v4]]⟩
def x162_0_0_k0  (y0 : Int) : St := ⟨tund :: tund :: tund :: tund :: tund :: .v (.one (.int .i64 y0)) :: tund :: tund :: tund :: tund :: tund :: tund :: tund :: tund :: tund :: tund :: tund :: tund :: tund :: tund :: tund :: tund :: tund :: tund :: tund :: tund :: tund :: tund :: tund :: [], []⟩
theorem fl162_0_0 (s : St) : refSt (h162_0_0 0 0 0 0 0) s = h162_0_0 (intS (oneA (vT (nx tund s.tmps 1)))) (intS (oneA (vT (nx tund s.tmps 5)))) (intS (oneA (vT (nx tund s.tmps 6)))) (intS (nx .und (cellsB (nx .dead s.blks 0)) 0)) (intS (nx .und (cellsB (nx .dead s.blks 0)) 1)) := by kernel_rfl
def VLS162_0 {β : Type} (N : Nat) (zq5 : Nat → Int → Int → Int → Int → Int → (Int → Option β) → Option β) : LSpec β := fun s K => cond (shpSt (h162_0_0 0 0 0 0 0) s) ((fun (v0 : Int) (v1 : Int) (v2 : Int) (v3 : Int) (v4 : Int) => zq5  N v0 v1 v2 v3 v4 (fun y0 => K (.exit 0) (x162_0_0_k0  y0))) (intS (oneA (vT (nx tund s.tmps 1)))) (intS (oneA (vT (nx tund s.tmps 5)))) (intS (oneA (vT (nx tund s.tmps 6)))) (intS (nx .und (cellsB (nx .dead s.blks 0)) 0)) (intS (nx .und (cellsB (nx .dead s.blks 0)) 1))) (none)
def LS162_0 {β : Type} (N : Nat) : LSpec β := VLS162_0 N (zj5 N)
def VE162 {β : Type} (N : Nat) (zq5 : Nat → Int → Int → Int → Int → Int → (Int → Option β) → Option β) : Env β := ⟨[], [], [(0, VLS162_0 N zq5)], [], ⟨[], [], [], [61]⟩⟩
def E162 {β : Type} (N : Nat) : Env β := VE162 N (zj5 N)
def zb4 {β : Type} (N : Nat)  (v0 : Int) (v1 : Int) (v2 : Int) (v3 : Int) (v4 : Int) (rec_ : Int → Int → Int → Int → Int → Option β) (k0 : Int → Option β) : Option β :=
(cond ((decide (v2 < v3)))
((gd ((decide (0 ≤ v0)))
((gd ((decide (0 ≤ v2)))
((gd ((decide (0 ≤ (bits .xor .i64 v0 (shlI .i64 1 v2)))))
(rec_ v0 ((w64 (v1 + (bits .and .i64 (bits .xor .i64 (shrI .i64 v4 v0) (shrI .i64 v4 (bits .xor .i64 v0 (shlI .i64 1 v2)))) 1)))) ((w64 (v2 + 1))) v3 v4)))))))
(k0 v1))
theorem zt4 {β : Type} (N : Nat)  (v0 : Int) (v1 : Int) (v2 : Int) (v3 : Int) (v4 : Int) (rec_ : Int → Int → Int → Int → Int → Option β) (k0 : Int → Option β) : zj4 N v0 v1 v2 v3 v4 rec_ k0 = zb4 N v0 v1 v2 v3 v4 rec_ k0 := by
  unfold zj4 zb4
  rfl
theorem vst162_0_0 {β : Type} (N : Nat) (zq5 : Nat → Int → Int → Int → Int → Int → (Int → Option β) → Option β)  (v0 : Int) (v1 : Int) (v2 : Int) (v3 : Int) (v4 : Int) (rec_ : St → Option β) (K : Exit → St → Option β) :
    ev lay (VE162 N zq5) (retMask Try.f162) (lp Try.f162 0).body (lp Try.f162 0).ex ((lp Try.f162 0).lv (retMask Try.f162)) (h162_0_0  v0 v1 v2 v3 v4) (nextR (fun s' => rec_ (s'.tidy ((lp Try.f162 0).lv (retMask Try.f162)))) K) = zb4 N  v0 v1 v2 v3 v4 (fun v0 v1 v2 v3 v4 => rec_ (h162_0_0  v0 v1 v2 v3 v4)) (fun y0 => K (.exit 0) (x162_0_0_k0  y0)) := by kernel_rfl
theorem st162_0_0 {β : Type} (N : Nat)  (v0 : Int) (v1 : Int) (v2 : Int) (v3 : Int) (v4 : Int) (rec_ : St → Option β) (K : Exit → St → Option β) :
    ev lay (E162 N) (retMask Try.f162) (lp Try.f162 0).body (lp Try.f162 0).ex ((lp Try.f162 0).lv (retMask Try.f162)) (h162_0_0  v0 v1 v2 v3 v4) (nextR (fun s' => rec_ (s'.tidy ((lp Try.f162 0).lv (retMask Try.f162)))) K) = zj4 N  v0 v1 v2 v3 v4 (fun v0 v1 v2 v3 v4 => rec_ (h162_0_0  v0 v1 v2 v3 v4)) (fun y0 => K (.exit 0) (x162_0_0_k0  y0)) := (vst162_0_0 N (zj5 N) v0 v1 v2 v3 v4 rec_ K).trans (zt4 N  v0 v1 v2 v3 v4 (fun v0 v1 v2 v3 v4 => rec_ (h162_0_0  v0 v1 v2 v3 v4)) (fun y0 => K (.exit 0) (x162_0_0_k0  y0))).symm
theorem ro162_0_0 {β : Type} (N : Nat)  (K : Exit → St → Option β) : ∀ (F : Nat) (v0 : Int) (v1 : Int) (v2 : Int) (v3 : Int) (v4 : Int), (lp Try.f162 0).rounds lay (E162 N) (retMask Try.f162) F (h162_0_0  v0 v1 v2 v3 v4) K = zj5 N  F v0 v1 v2 v3 v4 (fun y0 => K (.exit 0) (x162_0_0_k0  y0)) := by
  intro F
  induction F with
  | zero => intros; rfl
  | succ F ih =>
    intros
    rw [rounds_next]
    refine (st162_0_0 N  _ _ _ _ _ (fun s => (lp Try.f162 0).rounds lay (E162 N) (retMask Try.f162) F s K) K).trans ?_
    simp only [ih]
    rfl
theorem lk162_0 {β : Type} (N : Nat) : lookL (E162 (β := β) N).loops (lp Try.f162 0).id = LS162_0 N := by kernel_rfl
theorem rk162_0 {β : Type} (N : Nat) : RoundsOK lay (E162 (β := β) N) (retMask Try.f162) (lp Try.f162 0) := by
  intro s K r h
  rw [lk162_0] at h
  unfold LS162_0 VLS162_0 at h
  cases hb : shpSt (h162_0_0 0 0 0 0 0) s with
  | true =>
    rw [hb, cond_true] at h
    exact ⟨N, by rw [← shpSt_ref hb, fl162_0_0 s]; exact (ro162_0_0 N  K N (intS (oneA (vT (nx tund s.tmps 1)))) (intS (oneA (vT (nx tund s.tmps 5)))) (intS (oneA (vT (nx tund s.tmps 6)))) (intS (nx .und (cellsB (nx .dead s.blks 0)) 0)) (intS (nx .und (cellsB (nx .dead s.blks 0)) 1))).trans h⟩
  | false =>
  rw [hb, cond_false] at h
  clear hb
  cases h
def zb6 {β : Type} (N : Nat) (zq5 : Nat → Int → Int → Int → Int → Int → (Int → Option β) → Option β) (a0 : Int) (a1 : Int) (a2 : Int) (k : Int → Option β) : Option β :=
zq5  N a2 0 0 a0 a1 (fun e4_0 =>
k e4_0)
theorem zt6 {β : Type} (N : Nat) (a0 : Int) (a1 : Int) (a2 : Int) (k : Int → Option β) : zj6 N a0 a1 a2 k = zb6 N (zj5 N) a0 a1 a2 k := by
  unfold zj6 zb6
  rfl
theorem ve162_0 {β : Type} (N : Nat) (zq5 : Nat → Int → Int → Int → Int → Int → (Int → Option β) → Option β)  (a0 : Int) (a1 : Int) (a2 : Int) (K : TV → Option β) : evFn lay (VE162 N zq5) Try.f162 [.v (.agg [.int .i64 a0, .int .i64 a1]), .v (.one (.int .i64 a2))] K = zb6 N zq5 a0 a1 a2 (fun z3 => K (.v (.one (.int .i64 z3)))) := by kernel_rfl
theorem e162_0 {β : Type} (N : Nat)  (a0 : Int) (a1 : Int) (a2 : Int) (K : TV → Option β) : evFn lay (E162 N) Try.f162 [.v (.agg [.int .i64 a0, .int .i64 a1]), .v (.one (.int .i64 a2))] K = zj6 N a0 a1 a2 (fun z3 => K (.v (.one (.int .i64 z3)))) := (ve162_0 N (zj5 N) a0 a1 a2 K).trans (zt6 N a0 a1 a2 (fun z3 => K (.v (.one (.int .i64 z3))))).symm
theorem o162 {β : Type} (N : Nat) : SpecOK (β := β) inv Try.prog 162 (S162 N) := by
  refine spec_of lay_ok mixed (E := E162 N) (specs_loops specs_nil) muts_nil gs_nil Try.func162 (by kernel_rfl) 1 (by kernel_rfl) ⟨trivial, rk162_0 N⟩ fun args K r h => ?_
  unfold S162 VS162 at h
  split at h
  · exact (e162_0 N _ _ _ _).trans h
  · cases h
def VS127 {β : Type} (N : Nat) (zq9 : (a0 : Int) → (a1 : Int) → (k : Int → Option β) → Option β) : Rv.Spec β := fun args K => match args with
  | [.v (.agg [.int .i64 a0, .int .i64 a1])] => zq9 a0 a1 (fun z2 => K (.v (.one (.int .i64 z2))))
  | _ => none
def S127 {β : Type} (N : Nat) : Rv.Spec β := VS127 N (zj9 N)
def h127_0_0  (v0 : Int) (v1 : Int) (v2 : Int) (v3 : Int) : St := ⟨tund :: .v (.one (.ptr 0 0)) :: tund :: .v (.one (.int .i64 v0)) :: .v (.one (.int .i64 v1)) :: tund :: tund :: tund :: tund :: tund :: tund :: tund :: tund :: tund :: tund :: tund :: tund :: tund :: tund :: tund :: tund :: [], [.cells 27 [.int .i64 v2, .int .i64 v3]]⟩
def x127_0_0_k0  (y0 : Int) : St := ⟨tund :: tund :: tund :: .v (.one (.int .i64 y0)) :: tund :: tund :: tund :: tund :: tund :: tund :: tund :: tund :: tund :: tund :: tund :: tund :: tund :: tund :: tund :: tund :: tund :: [], []⟩
theorem fl127_0_0 (s : St) : refSt (h127_0_0 0 0 0 0) s = h127_0_0 (intS (oneA (vT (nx tund s.tmps 3)))) (intS (oneA (vT (nx tund s.tmps 4)))) (intS (nx .und (cellsB (nx .dead s.blks 0)) 0)) (intS (nx .und (cellsB (nx .dead s.blks 0)) 1)) := by kernel_rfl
def VLS127_0 {β : Type} (N : Nat) (zq8 : Nat → Int → Int → Int → Int → (Int → Option β) → Option β) : LSpec β := fun s K => cond (shpSt (h127_0_0 0 0 0 0) s) ((fun (v0 : Int) (v1 : Int) (v2 : Int) (v3 : Int) => zq8  N v0 v1 v2 v3 (fun y0 => K (.exit 0) (x127_0_0_k0  y0))) (intS (oneA (vT (nx tund s.tmps 3)))) (intS (oneA (vT (nx tund s.tmps 4)))) (intS (nx .und (cellsB (nx .dead s.blks 0)) 0)) (intS (nx .und (cellsB (nx .dead s.blks 0)) 1))) (none)
def LS127_0 {β : Type} (N : Nat) : LSpec β := VLS127_0 N (zj8 N)
def VE127 {β : Type} (N : Nat) (zq2 : (a0 : Int) → (a1 : Int) → (k : Bool → Option β) → Option β) (zq6 : (a0 : Int) → (a1 : Int) → (a2 : Int) → (k : Int → Option β) → Option β) (zq8 : Nat → Int → Int → Int → Int → (Int → Option β) → Option β) : Env β := ⟨[(58, VS58 N zq2), (162, VS162 N zq6)], [], [(0, VLS127_0 N zq8)], [], ⟨[], [], [], [61]⟩⟩
def E127 {β : Type} (N : Nat) : Env β := VE127 N (zj2 N) (zj6 N) (zj8 N)
def zb7 {β : Type} (N : Nat) (zq6 : (a0 : Int) → (a1 : Int) → (a2 : Int) → (k : Int → Option β) → Option β)  (v0 : Int) (v1 : Int) (v2 : Int) (v3 : Int) (rec_ : Int → Int → Int → Int → Option β) (k0 : Int → Option β) : Option β :=
(gd ((decide (0 ≤ v2)))
((cond ((decide (v1 < (shlI .i64 1 v2))))
(zq6 v2 v3 v1 fun r4 =>
rec_ ((mxI v0 r4)) ((w64 (v1 + 1))) v2 v3)
(k0 v0))))
theorem zt7 {β : Type} (N : Nat)  (v0 : Int) (v1 : Int) (v2 : Int) (v3 : Int) (rec_ : Int → Int → Int → Int → Option β) (k0 : Int → Option β) : zj7 N v0 v1 v2 v3 rec_ k0 = zb7 N (zj6 N) v0 v1 v2 v3 rec_ k0 := by
  unfold zj7 zb7
  rfl
theorem vst127_0_0 {β : Type} (N : Nat) (zq2 : (a0 : Int) → (a1 : Int) → (k : Bool → Option β) → Option β) (zq6 : (a0 : Int) → (a1 : Int) → (a2 : Int) → (k : Int → Option β) → Option β) (zq8 : Nat → Int → Int → Int → Int → (Int → Option β) → Option β)  (v0 : Int) (v1 : Int) (v2 : Int) (v3 : Int) (rec_ : St → Option β) (K : Exit → St → Option β) :
    ev lay (VE127 N zq2 zq6 zq8) (retMask Try.f127) (lp Try.f127 0).body (lp Try.f127 0).ex ((lp Try.f127 0).lv (retMask Try.f127)) (h127_0_0  v0 v1 v2 v3) (nextR (fun s' => rec_ (s'.tidy ((lp Try.f127 0).lv (retMask Try.f127)))) K) = zb7 N zq6  v0 v1 v2 v3 (fun v0 v1 v2 v3 => rec_ (h127_0_0  v0 v1 v2 v3)) (fun y0 => K (.exit 0) (x127_0_0_k0  y0)) := by kernel_rfl
theorem st127_0_0 {β : Type} (N : Nat)  (v0 : Int) (v1 : Int) (v2 : Int) (v3 : Int) (rec_ : St → Option β) (K : Exit → St → Option β) :
    ev lay (E127 N) (retMask Try.f127) (lp Try.f127 0).body (lp Try.f127 0).ex ((lp Try.f127 0).lv (retMask Try.f127)) (h127_0_0  v0 v1 v2 v3) (nextR (fun s' => rec_ (s'.tidy ((lp Try.f127 0).lv (retMask Try.f127)))) K) = zj7 N  v0 v1 v2 v3 (fun v0 v1 v2 v3 => rec_ (h127_0_0  v0 v1 v2 v3)) (fun y0 => K (.exit 0) (x127_0_0_k0  y0)) := (vst127_0_0 N (zj2 N) (zj6 N) (zj8 N) v0 v1 v2 v3 rec_ K).trans (zt7 N  v0 v1 v2 v3 (fun v0 v1 v2 v3 => rec_ (h127_0_0  v0 v1 v2 v3)) (fun y0 => K (.exit 0) (x127_0_0_k0  y0))).symm
theorem ro127_0_0 {β : Type} (N : Nat)  (K : Exit → St → Option β) : ∀ (F : Nat) (v0 : Int) (v1 : Int) (v2 : Int) (v3 : Int), (lp Try.f127 0).rounds lay (E127 N) (retMask Try.f127) F (h127_0_0  v0 v1 v2 v3) K = zj8 N  F v0 v1 v2 v3 (fun y0 => K (.exit 0) (x127_0_0_k0  y0)) := by
  intro F
  induction F with
  | zero => intros; rfl
  | succ F ih =>
    intros
    rw [rounds_next]
    refine (st127_0_0 N  _ _ _ _ (fun s => (lp Try.f127 0).rounds lay (E127 N) (retMask Try.f127) F s K) K).trans ?_
    simp only [ih]
    rfl
theorem lk127_0 {β : Type} (N : Nat) : lookL (E127 (β := β) N).loops (lp Try.f127 0).id = LS127_0 N := by kernel_rfl
theorem rk127_0 {β : Type} (N : Nat) : RoundsOK lay (E127 (β := β) N) (retMask Try.f127) (lp Try.f127 0) := by
  intro s K r h
  rw [lk127_0] at h
  unfold LS127_0 VLS127_0 at h
  cases hb : shpSt (h127_0_0 0 0 0 0) s with
  | true =>
    rw [hb, cond_true] at h
    exact ⟨N, by rw [← shpSt_ref hb, fl127_0_0 s]; exact (ro127_0_0 N  K N (intS (oneA (vT (nx tund s.tmps 3)))) (intS (oneA (vT (nx tund s.tmps 4)))) (intS (nx .und (cellsB (nx .dead s.blks 0)) 0)) (intS (nx .und (cellsB (nx .dead s.blks 0)) 1))).trans h⟩
  | false =>
  rw [hb, cond_false] at h
  clear hb
  cases h
def zb9 {β : Type} (N : Nat) (zq2 : (a0 : Int) → (a1 : Int) → (k : Bool → Option β) → Option β) (zq8 : Nat → Int → Int → Int → Int → (Int → Option β) → Option β) (a0 : Int) (a1 : Int) (k : Int → Option β) : Option β :=
zq2 a0 a1 fun r3 =>
(cond (!r3)
(k (-1))
(zq8  N 0 0 a0 a1 (fun e5_0 =>
k e5_0)))
theorem zt9 {β : Type} (N : Nat) (a0 : Int) (a1 : Int) (k : Int → Option β) : zj9 N a0 a1 k = zb9 N (zj2 N) (zj8 N) a0 a1 k := by
  unfold zj9 zb9
  rfl
theorem ve127_0 {β : Type} (N : Nat) (zq2 : (a0 : Int) → (a1 : Int) → (k : Bool → Option β) → Option β) (zq6 : (a0 : Int) → (a1 : Int) → (a2 : Int) → (k : Int → Option β) → Option β) (zq8 : Nat → Int → Int → Int → Int → (Int → Option β) → Option β)  (a0 : Int) (a1 : Int) (K : TV → Option β) : evFn lay (VE127 N zq2 zq6 zq8) Try.f127 [.v (.agg [.int .i64 a0, .int .i64 a1])] K = zb9 N zq2 zq8 a0 a1 (fun z2 => K (.v (.one (.int .i64 z2)))) := by kernel_rfl
theorem e127_0 {β : Type} (N : Nat)  (a0 : Int) (a1 : Int) (K : TV → Option β) : evFn lay (E127 N) Try.f127 [.v (.agg [.int .i64 a0, .int .i64 a1])] K = zj9 N a0 a1 (fun z2 => K (.v (.one (.int .i64 z2)))) := (ve127_0 N (zj2 N) (zj6 N) (zj8 N) a0 a1 K).trans (zt9 N a0 a1 (fun z2 => K (.v (.one (.int .i64 z2))))).symm
theorem o127 {β : Type} (N : Nat) : SpecOK (β := β) inv Try.prog 127 (S127 N) := by
  refine spec_of lay_ok mixed (E := E127 N) (specs_loops (specs_cons (o58 N) (specs_cons (o162 N) specs_nil))) muts_nil gs_nil Try.func127 (by kernel_rfl) 1 (by kernel_rfl) ⟨trivial, rk127_0 N⟩ fun args K r h => ?_
  unfold S127 VS127 at h
  split at h
  · exact (e127_0 N _ _ _).trans h
  · cases h
def VS169 {β : Type} (N : Nat) (zq10 : (a0 : Int) → (a1 : Int) → (a2 : Int) → (k : Bool → Option β) → Option β) : Rv.Spec β := fun args K => match args with
  | [.v (.agg [.int .i64 a0, .int .i64 a1]), .v (.one (.int .i64 a2))] => zq10 a0 a1 a2 (fun z3 => K (.v (.one (.bool z3))))
  | _ => none
def S169 {β : Type} (N : Nat) : Rv.Spec β := VS169 N (zj10 N)
def VE169 {β : Type} (N : Nat) (zq2 : (a0 : Int) → (a1 : Int) → (k : Bool → Option β) → Option β) (zq1 : (a0 : Int) → (a1 : Int) → (a2 : Int) → (k : Bool → Option β) → Option β) : Env β := ⟨[(58, VS58 N zq2), (73, VS73 N zq1)], [], [], [], ⟨[], [], [], [61]⟩⟩
def E169 {β : Type} (N : Nat) : Env β := VE169 N (zj2 N) (zj1 N)
def zb10 {β : Type} (N : Nat) (zq2 : (a0 : Int) → (a1 : Int) → (k : Bool → Option β) → Option β) (zq1 : (a0 : Int) → (a1 : Int) → (a2 : Int) → (k : Bool → Option β) → Option β) (a0 : Int) (a1 : Int) (a2 : Int) (k : Bool → Option β) : Option β :=
zq2 a0 a1 fun r4 =>
(cond r4
((gd ((decide (0 ≤ a0)))
(zq1 a2 0 ((w64 ((shlI .i64 1 a0) - 1))) fun r5 =>
k r5)))
(k false))
theorem zt10 {β : Type} (N : Nat) (a0 : Int) (a1 : Int) (a2 : Int) (k : Bool → Option β) : zj10 N a0 a1 a2 k = zb10 N (zj2 N) (zj1 N) a0 a1 a2 k := by
  unfold zj10 zb10
  rfl
theorem ve169_0 {β : Type} (N : Nat) (zq2 : (a0 : Int) → (a1 : Int) → (k : Bool → Option β) → Option β) (zq1 : (a0 : Int) → (a1 : Int) → (a2 : Int) → (k : Bool → Option β) → Option β)  (a0 : Int) (a1 : Int) (a2 : Int) (K : TV → Option β) : evFn lay (VE169 N zq2 zq1) Try.f169 [.v (.agg [.int .i64 a0, .int .i64 a1]), .v (.one (.int .i64 a2))] K = zb10 N zq2 zq1 a0 a1 a2 (fun z3 => K (.v (.one (.bool z3)))) := by kernel_rfl
theorem e169_0 {β : Type} (N : Nat)  (a0 : Int) (a1 : Int) (a2 : Int) (K : TV → Option β) : evFn lay (E169 N) Try.f169 [.v (.agg [.int .i64 a0, .int .i64 a1]), .v (.one (.int .i64 a2))] K = zj10 N a0 a1 a2 (fun z3 => K (.v (.one (.bool z3)))) := (ve169_0 N (zj2 N) (zj1 N) a0 a1 a2 K).trans (zt10 N a0 a1 a2 (fun z3 => K (.v (.one (.bool z3))))).symm
theorem o169 {β : Type} (N : Nat) : SpecOK (β := β) inv Try.prog 169 (S169 N) := by
  refine spec_of lay_ok mixed (E := E169 N) (specs_loops (specs_cons (o58 N) (specs_cons (o73 N) specs_nil))) muts_nil gs_nil Try.func169 (by kernel_rfl) 0 (by kernel_rfl) trivial fun args K r h => ?_
  unfold S169 VS169 at h
  split at h
  · exact (e169_0 N _ _ _ _).trans h
  · cases h
def VS198 {β : Type} (N : Nat) (zq15 : (a0 : Int) → (a1 : Int) → (a2 : Int) → (k : List Int → Option β) → Option β) : Rv.Spec β := fun args K => match args with
  | [.v (.agg [.int .i64 a0, .int .i64 a1]), .v (.one (.int .i64 a2))] => zq15 a0 a1 a2 (fun z3 => K (.v (.one (.sl 3 (.ints .i64 z3)))))
  | _ => none
def S198 {β : Type} (N : Nat) : Rv.Spec β := VS198 N (zj15 N)
def h198_0_0  (v0 : Int) (v1 : Int) (v2 : Int) (v3 : Int) (v4 : List Int) : St := ⟨tund :: .v (.one (.int .i64 v0)) :: .v (.one (.ptr 0 0)) :: tund :: tund :: .v (.one (.row 1)) :: .v (.one (.int .i64 v1)) :: tund :: tund :: tund :: tund :: tund :: tund :: tund :: tund :: tund :: tund :: tund :: tund :: tund :: tund :: tund :: tund :: tund :: tund :: tund :: tund :: tund :: tund :: tund :: tund :: tund :: tund :: tund :: tund :: tund :: tund :: tund :: tund :: tund :: tund :: tund :: tund :: tund :: tund :: tund :: tund :: tund :: tund :: tund :: tund :: tund :: tund :: tund :: tund :: tund :: [], [.cells 27 [.int .i64 v2, .int .i64 v3], .row 3 (.ints .i64 v4)]⟩
def x198_0_0_k0  (y0 : List Int) : St := ⟨tund :: tund :: tund :: tund :: tund :: .v (.one (.row 0)) :: tund :: tund :: tund :: tund :: tund :: tund :: tund :: tund :: tund :: tund :: tund :: tund :: tund :: tund :: tund :: tund :: tund :: tund :: tund :: tund :: tund :: tund :: tund :: tund :: tund :: tund :: tund :: tund :: tund :: tund :: tund :: tund :: tund :: tund :: tund :: tund :: tund :: tund :: tund :: tund :: tund :: tund :: tund :: tund :: tund :: tund :: tund :: tund :: tund :: tund :: [], [.row 3 (.ints .i64 y0)]⟩
def h198_1_0  (v0 : Int) (v1 : Int) (v2 : Bool) (v3 : Int) (v4 : Int) (v5 : Int) (v6 : List Int) : St := ⟨tund :: .v (.one (.int .i64 v0)) :: .v (.one (.ptr 0 0)) :: tund :: tund :: .v (.one (.row 1)) :: .v (.one (.int .i64 v1)) :: .v (.one (.bool v2)) :: .v (.one (.int .i64 v3)) :: tund :: tund :: tund :: tund :: tund :: tund :: tund :: tund :: tund :: tund :: tund :: tund :: tund :: tund :: tund :: tund :: tund :: tund :: tund :: tund :: tund :: tund :: tund :: tund :: tund :: tund :: tund :: tund :: tund :: tund :: tund :: tund :: tund :: tund :: tund :: tund :: tund :: tund :: tund :: tund :: tund :: tund :: tund :: tund :: tund :: tund :: tund :: [], [.cells 27 [.int .i64 v4, .int .i64 v5], .row 3 (.ints .i64 v6)]⟩
def x198_1_0_k0  (y0 : Int) (y1 : Int) (y2 : Bool) (y3 : Int) (y4 : Int) (y5 : List Int) : St := ⟨tund :: .v (.one (.int .i64 y0)) :: .v (.one (.ptr 0 0)) :: tund :: tund :: .v (.one (.row 1)) :: .v (.one (.int .i64 y1)) :: .v (.one (.bool y2)) :: tund :: tund :: tund :: tund :: tund :: tund :: tund :: tund :: tund :: tund :: tund :: tund :: tund :: tund :: tund :: tund :: tund :: tund :: tund :: tund :: tund :: tund :: tund :: tund :: tund :: tund :: tund :: tund :: tund :: tund :: tund :: tund :: tund :: tund :: tund :: tund :: tund :: tund :: tund :: tund :: tund :: tund :: tund :: tund :: tund :: tund :: tund :: tund :: [], [.cells 27 [.int .i64 y3, .int .i64 y4], .row 3 (.ints .i64 y5)]⟩
theorem fl198_0_0 (s : St) : refSt (h198_0_0 0 0 0 0 []) s = h198_0_0 (intS (oneA (vT (nx tund s.tmps 1)))) (intS (oneA (vT (nx tund s.tmps 6)))) (intS (nx .und (cellsB (nx .dead s.blks 0)) 0)) (intS (nx .und (cellsB (nx .dead s.blks 0)) 1)) (rInts (rowB_ (nx .dead s.blks 1))) := by kernel_rfl
def VLS198_0 {β : Type} (N : Nat) (zq14 : Nat → Int → Int → Int → Int → List Int → (List Int → Option β) → Option β) : LSpec β := fun s K => cond (shpSt (h198_0_0 0 0 0 0 []) s) ((fun (v0 : Int) (v1 : Int) (v2 : Int) (v3 : Int) (v4 : List Int) => zq14  N v0 v1 v2 v3 v4 (fun y0 => K (.exit 0) (x198_0_0_k0  y0))) (intS (oneA (vT (nx tund s.tmps 1)))) (intS (oneA (vT (nx tund s.tmps 6)))) (intS (nx .und (cellsB (nx .dead s.blks 0)) 0)) (intS (nx .und (cellsB (nx .dead s.blks 0)) 1)) (rInts (rowB_ (nx .dead s.blks 1)))) (none)
def LS198_0 {β : Type} (N : Nat) : LSpec β := VLS198_0 N (zj14 N)
theorem fl198_1_0 (s : St) : refSt (h198_1_0 0 0 false 0 0 0 []) s = h198_1_0 (intS (oneA (vT (nx tund s.tmps 1)))) (intS (oneA (vT (nx tund s.tmps 6)))) (boolS (oneA (vT (nx tund s.tmps 7)))) (intS (oneA (vT (nx tund s.tmps 8)))) (intS (nx .und (cellsB (nx .dead s.blks 0)) 0)) (intS (nx .und (cellsB (nx .dead s.blks 0)) 1)) (rInts (rowB_ (nx .dead s.blks 1))) := by kernel_rfl
def VLS198_2 {β : Type} (N : Nat) (zq12 : Nat → Int → Int → Bool → Int → Int → Int → List Int → (Int → Int → Bool → Int → Int → List Int → Option β) → Option β) : LSpec β := fun s K => cond (shpSt (h198_1_0 0 0 false 0 0 0 []) s) ((fun (v0 : Int) (v1 : Int) (v2 : Bool) (v3 : Int) (v4 : Int) (v5 : Int) (v6 : List Int) => zq12  N v0 v1 v2 v3 v4 v5 v6 (fun y0 y1 y2 y3 y4 y5 => K (.exit 2) (x198_1_0_k0  y0 y1 y2 y3 y4 y5))) (intS (oneA (vT (nx tund s.tmps 1)))) (intS (oneA (vT (nx tund s.tmps 6)))) (boolS (oneA (vT (nx tund s.tmps 7)))) (intS (oneA (vT (nx tund s.tmps 8)))) (intS (nx .und (cellsB (nx .dead s.blks 0)) 0)) (intS (nx .und (cellsB (nx .dead s.blks 0)) 1)) (rInts (rowB_ (nx .dead s.blks 1)))) (none)
def LS198_2 {β : Type} (N : Nat) : LSpec β := VLS198_2 N (zj12 N)
def VE198 {β : Type} (N : Nat) (zq14 : Nat → Int → Int → Int → Int → List Int → (List Int → Option β) → Option β) (zq12 : Nat → Int → Int → Bool → Int → Int → Int → List Int → (Int → Int → Bool → Int → Int → List Int → Option β) → Option β) : Env β := ⟨[], [], [(0, VLS198_0 N zq14), (2, VLS198_2 N zq12)], [], ⟨[], [], [], [61]⟩⟩
def E198 {β : Type} (N : Nat) : Env β := VE198 N (zj14 N) (zj12 N)
def zb13 {β : Type} (N : Nat) (zq12 : Nat → Int → Int → Bool → Int → Int → Int → List Int → (Int → Int → Bool → Int → Int → List Int → Option β) → Option β)  (v0 : Int) (v1 : Int) (v2 : Int) (v3 : Int) (v4 : List Int) (rec_ : Int → Int → Int → Int → List Int → Option β) (k0 : List Int → Option β) : Option β :=
(gd ((decide (0 ≤ v2)))
((cond ((decide (v1 < (shlI .i64 1 v2))))
((gd ((decide (0 ≤ v0)))
((gd ((decide (0 ≤ (bits .xor .i64 v0 v1))))
((cond (((bits .and .i64 (shrI .i64 v3 v0) 1) == (bits .and .i64 (shrI .i64 v3 (bits .xor .i64 v0 v1)) 1)))
(rec_ v0 ((w64 (v1 + 1))) v2 v3 v4)
(zq12  N v0 v1 true 0 v2 v3 v4 (fun e4_0 e4_1 e4_2 e4_3 e4_4 e4_5 =>
(cond e4_2
((gd ((decide ((e4_5.length + ((([] : List Int) ++ [e4_1])).length) * 8 ≤ 140737488355328)))
(rec_ e4_0 ((w64 (e4_1 + 1))) e4_3 e4_4 ((e4_5 ++ (([] : List Int) ++ [e4_1]))))))
(rec_ e4_0 ((w64 (e4_1 + 1))) e4_3 e4_4 e4_5))))))))))
(k0 v4))))
theorem zt13 {β : Type} (N : Nat)  (v0 : Int) (v1 : Int) (v2 : Int) (v3 : Int) (v4 : List Int) (rec_ : Int → Int → Int → Int → List Int → Option β) (k0 : List Int → Option β) : zj13 N v0 v1 v2 v3 v4 rec_ k0 = zb13 N (zj12 N) v0 v1 v2 v3 v4 rec_ k0 := by
  unfold zj13 zb13
  rfl
theorem vst198_0_0 {β : Type} (N : Nat) (zq14 : Nat → Int → Int → Int → Int → List Int → (List Int → Option β) → Option β) (zq12 : Nat → Int → Int → Bool → Int → Int → Int → List Int → (Int → Int → Bool → Int → Int → List Int → Option β) → Option β)  (v0 : Int) (v1 : Int) (v2 : Int) (v3 : Int) (v4 : List Int) (rec_ : St → Option β) (K : Exit → St → Option β) :
    ev lay (VE198 N zq14 zq12) (retMask Try.f198) (lp Try.f198 0).body (lp Try.f198 0).ex ((lp Try.f198 0).lv (retMask Try.f198)) (h198_0_0  v0 v1 v2 v3 v4) (nextR (fun s' => rec_ (s'.tidy ((lp Try.f198 0).lv (retMask Try.f198)))) K) = zb13 N zq12  v0 v1 v2 v3 v4 (fun v0 v1 v2 v3 v4 => rec_ (h198_0_0  v0 v1 v2 v3 v4)) (fun y0 => K (.exit 0) (x198_0_0_k0  y0)) := by kernel_rfl
theorem st198_0_0 {β : Type} (N : Nat)  (v0 : Int) (v1 : Int) (v2 : Int) (v3 : Int) (v4 : List Int) (rec_ : St → Option β) (K : Exit → St → Option β) :
    ev lay (E198 N) (retMask Try.f198) (lp Try.f198 0).body (lp Try.f198 0).ex ((lp Try.f198 0).lv (retMask Try.f198)) (h198_0_0  v0 v1 v2 v3 v4) (nextR (fun s' => rec_ (s'.tidy ((lp Try.f198 0).lv (retMask Try.f198)))) K) = zj13 N  v0 v1 v2 v3 v4 (fun v0 v1 v2 v3 v4 => rec_ (h198_0_0  v0 v1 v2 v3 v4)) (fun y0 => K (.exit 0) (x198_0_0_k0  y0)) := (vst198_0_0 N (zj14 N) (zj12 N) v0 v1 v2 v3 v4 rec_ K).trans (zt13 N  v0 v1 v2 v3 v4 (fun v0 v1 v2 v3 v4 => rec_ (h198_0_0  v0 v1 v2 v3 v4)) (fun y0 => K (.exit 0) (x198_0_0_k0  y0))).symm
theorem ro198_0_0 {β : Type} (N : Nat)  (K : Exit → St → Option β) : ∀ (F : Nat) (v0 : Int) (v1 : Int) (v2 : Int) (v3 : Int) (v4 : List Int), (lp Try.f198 0).rounds lay (E198 N) (retMask Try.f198) F (h198_0_0  v0 v1 v2 v3 v4) K = zj14 N  F v0 v1 v2 v3 v4 (fun y0 => K (.exit 0) (x198_0_0_k0  y0)) := by
  intro F
  induction F with
  | zero => intros; rfl
  | succ F ih =>
    intros
    rw [rounds_next]
    refine (st198_0_0 N  _ _ _ _ _ (fun s => (lp Try.f198 0).rounds lay (E198 N) (retMask Try.f198) F s K) K).trans ?_
    simp only [ih]
    rfl
theorem lk198_0 {β : Type} (N : Nat) : lookL (E198 (β := β) N).loops (lp Try.f198 0).id = LS198_0 N := by kernel_rfl
theorem rk198_0 {β : Type} (N : Nat) : RoundsOK lay (E198 (β := β) N) (retMask Try.f198) (lp Try.f198 0) := by
  intro s K r h
  rw [lk198_0] at h
  unfold LS198_0 VLS198_0 at h
  cases hb : shpSt (h198_0_0 0 0 0 0 []) s with
  | true =>
    rw [hb, cond_true] at h
    exact ⟨N, by rw [← shpSt_ref hb, fl198_0_0 s]; exact (ro198_0_0 N  K N (intS (oneA (vT (nx tund s.tmps 1)))) (intS (oneA (vT (nx tund s.tmps 6)))) (intS (nx .und (cellsB (nx .dead s.blks 0)) 0)) (intS (nx .und (cellsB (nx .dead s.blks 0)) 1)) (rInts (rowB_ (nx .dead s.blks 1)))).trans h⟩
  | false =>
  rw [hb, cond_false] at h
  clear hb
  cases h
def zb11 {β : Type} (N : Nat)  (v0 : Int) (v1 : Int) (v2 : Bool) (v3 : Int) (v4 : Int) (v5 : Int) (v6 : List Int) (rec_ : Int → Int → Bool → Int → Int → Int → List Int → Option β) (k0 : Int → Int → Bool → Int → Int → List Int → Option β) : Option β :=
(cond ((decide (v3 < (v6.length : Int))))
((cond v2
((gd ((decide (0 ≤ v3)))
((gd ((decide (v3 < (v6.length : Int))))
((gd ((decide (0 ≤ v3)))
((gd ((decide (v3 < (v6.length : Int))))
(rec_ v0 v1 (((bits .and .i64 (rd 0 v6 v3) v1) != (rd 0 v6 v3))) ((w64 (v3 + 1))) v4 v5 v6)))))))))
(rec_ v0 v1 false ((w64 (v3 + 1))) v4 v5 v6)))
(k0 v0 v1 v2 v4 v5 v6))
theorem zt11 {β : Type} (N : Nat)  (v0 : Int) (v1 : Int) (v2 : Bool) (v3 : Int) (v4 : Int) (v5 : Int) (v6 : List Int) (rec_ : Int → Int → Bool → Int → Int → Int → List Int → Option β) (k0 : Int → Int → Bool → Int → Int → List Int → Option β) : zj11 N v0 v1 v2 v3 v4 v5 v6 rec_ k0 = zb11 N v0 v1 v2 v3 v4 v5 v6 rec_ k0 := by
  unfold zj11 zb11
  rfl
theorem vst198_1_0 {β : Type} (N : Nat) (zq14 : Nat → Int → Int → Int → Int → List Int → (List Int → Option β) → Option β) (zq12 : Nat → Int → Int → Bool → Int → Int → Int → List Int → (Int → Int → Bool → Int → Int → List Int → Option β) → Option β)  (v0 : Int) (v1 : Int) (v2 : Bool) (v3 : Int) (v4 : Int) (v5 : Int) (v6 : List Int) (rec_ : St → Option β) (K : Exit → St → Option β) :
    ev lay (VE198 N zq14 zq12) (retMask Try.f198) (lp Try.f198 1).body (lp Try.f198 1).ex ((lp Try.f198 1).lv (retMask Try.f198)) (h198_1_0  v0 v1 v2 v3 v4 v5 v6) (nextR (fun s' => rec_ (s'.tidy ((lp Try.f198 1).lv (retMask Try.f198)))) K) = zb11 N  v0 v1 v2 v3 v4 v5 v6 (fun v0 v1 v2 v3 v4 v5 v6 => rec_ (h198_1_0  v0 v1 v2 v3 v4 v5 v6)) (fun y0 y1 y2 y3 y4 y5 => K (.exit 2) (x198_1_0_k0  y0 y1 y2 y3 y4 y5)) := by kernel_rfl
theorem st198_1_0 {β : Type} (N : Nat)  (v0 : Int) (v1 : Int) (v2 : Bool) (v3 : Int) (v4 : Int) (v5 : Int) (v6 : List Int) (rec_ : St → Option β) (K : Exit → St → Option β) :
    ev lay (E198 N) (retMask Try.f198) (lp Try.f198 1).body (lp Try.f198 1).ex ((lp Try.f198 1).lv (retMask Try.f198)) (h198_1_0  v0 v1 v2 v3 v4 v5 v6) (nextR (fun s' => rec_ (s'.tidy ((lp Try.f198 1).lv (retMask Try.f198)))) K) = zj11 N  v0 v1 v2 v3 v4 v5 v6 (fun v0 v1 v2 v3 v4 v5 v6 => rec_ (h198_1_0  v0 v1 v2 v3 v4 v5 v6)) (fun y0 y1 y2 y3 y4 y5 => K (.exit 2) (x198_1_0_k0  y0 y1 y2 y3 y4 y5)) := (vst198_1_0 N (zj14 N) (zj12 N) v0 v1 v2 v3 v4 v5 v6 rec_ K).trans (zt11 N  v0 v1 v2 v3 v4 v5 v6 (fun v0 v1 v2 v3 v4 v5 v6 => rec_ (h198_1_0  v0 v1 v2 v3 v4 v5 v6)) (fun y0 y1 y2 y3 y4 y5 => K (.exit 2) (x198_1_0_k0  y0 y1 y2 y3 y4 y5))).symm
theorem ro198_1_0 {β : Type} (N : Nat)  (K : Exit → St → Option β) : ∀ (F : Nat) (v0 : Int) (v1 : Int) (v2 : Bool) (v3 : Int) (v4 : Int) (v5 : Int) (v6 : List Int), (lp Try.f198 1).rounds lay (E198 N) (retMask Try.f198) F (h198_1_0  v0 v1 v2 v3 v4 v5 v6) K = zj12 N  F v0 v1 v2 v3 v4 v5 v6 (fun y0 y1 y2 y3 y4 y5 => K (.exit 2) (x198_1_0_k0  y0 y1 y2 y3 y4 y5)) := by
  intro F
  induction F with
  | zero => intros; rfl
  | succ F ih =>
    intros
    rw [rounds_next]
    refine (st198_1_0 N  _ _ _ _ _ _ _ (fun s => (lp Try.f198 1).rounds lay (E198 N) (retMask Try.f198) F s K) K).trans ?_
    simp only [ih]
    rfl
theorem lk198_2 {β : Type} (N : Nat) : lookL (E198 (β := β) N).loops (lp Try.f198 1).id = LS198_2 N := by kernel_rfl
theorem rk198_2 {β : Type} (N : Nat) : RoundsOK lay (E198 (β := β) N) (retMask Try.f198) (lp Try.f198 1) := by
  intro s K r h
  rw [lk198_2] at h
  unfold LS198_2 VLS198_2 at h
  cases hb : shpSt (h198_1_0 0 0 false 0 0 0 []) s with
  | true =>
    rw [hb, cond_true] at h
    exact ⟨N, by rw [← shpSt_ref hb, fl198_1_0 s]; exact (ro198_1_0 N  K N (intS (oneA (vT (nx tund s.tmps 1)))) (intS (oneA (vT (nx tund s.tmps 6)))) (boolS (oneA (vT (nx tund s.tmps 7)))) (intS (oneA (vT (nx tund s.tmps 8)))) (intS (nx .und (cellsB (nx .dead s.blks 0)) 0)) (intS (nx .und (cellsB (nx .dead s.blks 0)) 1)) (rInts (rowB_ (nx .dead s.blks 1)))).trans h⟩
  | false =>
  rw [hb, cond_false] at h
  clear hb
  cases h
def zb15 {β : Type} (N : Nat) (zq14 : Nat → Int → Int → Int → Int → List Int → (List Int → Option β) → Option β) (a0 : Int) (a1 : Int) (a2 : Int) (k : List Int → Option β) : Option β :=
zq14  N a2 1 a0 a1 (([] : List Int)) (fun e5_0 =>
k e5_0)
theorem zt15 {β : Type} (N : Nat) (a0 : Int) (a1 : Int) (a2 : Int) (k : List Int → Option β) : zj15 N a0 a1 a2 k = zb15 N (zj14 N) a0 a1 a2 k := by
  unfold zj15 zb15
  rfl
theorem ve198_0 {β : Type} (N : Nat) (zq14 : Nat → Int → Int → Int → Int → List Int → (List Int → Option β) → Option β) (zq12 : Nat → Int → Int → Bool → Int → Int → Int → List Int → (Int → Int → Bool → Int → Int → List Int → Option β) → Option β)  (a0 : Int) (a1 : Int) (a2 : Int) (K : TV → Option β) : evFn lay (VE198 N zq14 zq12) Try.f198 [.v (.agg [.int .i64 a0, .int .i64 a1]), .v (.one (.int .i64 a2))] K = zb15 N zq14 a0 a1 a2 (fun z3 => K (.v (.one (.sl 3 (.ints .i64 z3))))) := by kernel_rfl
theorem e198_0 {β : Type} (N : Nat)  (a0 : Int) (a1 : Int) (a2 : Int) (K : TV → Option β) : evFn lay (E198 N) Try.f198 [.v (.agg [.int .i64 a0, .int .i64 a1]), .v (.one (.int .i64 a2))] K = zj15 N a0 a1 a2 (fun z3 => K (.v (.one (.sl 3 (.ints .i64 z3))))) := (ve198_0 N (zj14 N) (zj12 N) a0 a1 a2 K).trans (zt15 N a0 a1 a2 (fun z3 => K (.v (.one (.sl 3 (.ints .i64 z3)))))).symm
theorem o198 {β : Type} (N : Nat) : SpecOK (β := β) inv Try.prog 198 (S198 N) := by
  refine spec_of lay_ok mixed (E := E198 N) (specs_loops specs_nil) muts_nil gs_nil Try.func198 (by kernel_rfl) 2 (by kernel_rfl) ⟨⟨trivial, rk198_0 N⟩, rk198_2 N⟩ fun args K r h => ?_
  unfold S198 VS198 at h
  split at h
  · exact (e198_0 N _ _ _ _).trans h
  · cases h
def VSF197 {β : Type} (N : Nat) (zq19 : Nat → List Int → Int → Int → (Int → Option β) → Option β) (G : Nat) : Rv.Spec β := fun args K => match args with
  | [.v (.one (.sl 3 (.ints .i64 a0))), .v (.one (.int .i64 a1)), .v (.one (.int .i64 a2))] => zq19 G a0 a1 a2 (fun z3 => K (.v (.one (.int .i64 z3))))
  | _ => none
def SF197 {β : Type} (N : Nat) (G : Nat) : Rv.Spec β := VSF197 N (zj19 N) G
def VS197 {β : Type} (N : Nat) (zq19 : Nat → List Int → Int → Int → (Int → Option β) → Option β) : Rv.Spec β := VSF197 N zq19 N
def S197 {β : Type} (N : Nat) : Rv.Spec β := SF197 N N
def h197_0_0  (v0 : List Int) (v1 : Int) (v2 : Int) (v3 : Int) : St := ⟨.v (.one (.sl 3 (.ints .i64 v0))) :: tund :: .v (.one (.int .i64 v1)) :: tund :: tund :: tund :: tund :: .v (.one (.int .i64 v2)) :: .v (.one (.int .i64 v3)) :: tund :: tund :: tund :: tund :: tund :: tund :: tund :: tund :: tund :: tund :: tund :: tund :: tund :: tund :: tund :: tund :: tund :: tund :: tund :: tund :: tund :: tund :: tund :: tund :: tund :: tund :: tund :: tund :: [], []⟩
def x197_0_0_k0  (y0 : Int) : St := ⟨tund :: tund :: tund :: tund :: tund :: tund :: tund :: .v (.one (.int .i64 y0)) :: tund :: tund :: tund :: tund :: tund :: tund :: tund :: tund :: tund :: tund :: tund :: tund :: tund :: tund :: tund :: tund :: tund :: tund :: tund :: tund :: tund :: tund :: tund :: tund :: tund :: tund :: tund :: tund :: tund :: [], []⟩
theorem fl197_0_0 (s : St) : refSt (h197_0_0 [] 0 0 0) s = h197_0_0 (rInts (rowV (oneA (vT (nx tund s.tmps 0))))) (intS (oneA (vT (nx tund s.tmps 2)))) (intS (oneA (vT (nx tund s.tmps 7)))) (intS (oneA (vT (nx tund s.tmps 8)))) := by kernel_rfl
def VLS197_0 {β : Type} (N : Nat) (zq17 : (self : List Int → Int → Int → (Int → Option β) → Option β) → Nat → List Int → Int → Int → Int → (Int → Option β) → Option β) (zq19 : Nat → List Int → Int → Int → (Int → Option β) → Option β) (G : Nat) : LSpec β := fun s K => cond (shpSt (h197_0_0 [] 0 0 0) s) ((fun (v0 : List Int) (v1 : Int) (v2 : Int) (v3 : Int) => zq17 (zq19 G)  N v0 v1 v2 v3 (fun y0 => K (.exit 0) (x197_0_0_k0  y0))) (rInts (rowV (oneA (vT (nx tund s.tmps 0))))) (intS (oneA (vT (nx tund s.tmps 2)))) (intS (oneA (vT (nx tund s.tmps 7)))) (intS (oneA (vT (nx tund s.tmps 8))))) (none)
def LS197_0 {β : Type} (N : Nat) (G : Nat) : LSpec β := VLS197_0 N (zj17 N) (zj19 N) G
def VE197 {β : Type} (N : Nat) (zq19 : Nat → List Int → Int → Int → (Int → Option β) → Option β) (zq17 : (self : List Int → Int → Int → (Int → Option β) → Option β) → Nat → List Int → Int → Int → Int → (Int → Option β) → Option β) (G : Nat) : Env β := ⟨[(197, VSF197 N zq19 G)], [], [(0, VLS197_0 N zq17 zq19 G)], [], ⟨[], [], [], [61]⟩⟩
def E197 {β : Type} (N : Nat) (G : Nat) : Env β := VE197 N (zj19 N) (zj17 N) G
def zb16 {β : Type} (N : Nat) (self : List Int → Int → Int → (Int → Option β) → Option β)  (v0 : List Int) (v1 : Int) (v2 : Int) (v3 : Int) (rec_ : List Int → Int → Int → Int → Option β) (k0 : Int → Option β) : Option β :=
(cond ((decide (v3 < (v0.length : Int))))
((gd ((decide (0 ≤ v3)))
((gd ((decide (v3 < (v0.length : Int))))
((cond (((bits .and .i64 (rd 0 v0 v3) v1) == 0))
((gd ((decide (0 ≤ v3)))
((gd ((decide (v3 < (v0.length : Int))))
(self v0 ((w64 (v3 + 1))) ((bits .or .i64 v1 (rd 0 v0 v3))) fun r4 =>
rec_ v0 v1 ((mxI v2 (w64 (1 + r4)))) ((w64 (v3 + 1))))))))
(rec_ v0 v1 v2 ((w64 (v3 + 1))))))))))
(k0 v2))
theorem zt16 {β : Type} (N : Nat) (self : List Int → Int → Int → (Int → Option β) → Option β)  (v0 : List Int) (v1 : Int) (v2 : Int) (v3 : Int) (rec_ : List Int → Int → Int → Int → Option β) (k0 : Int → Option β) : zj16 N self v0 v1 v2 v3 rec_ k0 = zb16 N self v0 v1 v2 v3 rec_ k0 := by
  unfold zj16 zb16
  rfl
theorem vst197_0_0 {β : Type} (N : Nat) (zq19 : Nat → List Int → Int → Int → (Int → Option β) → Option β) (zq17 : (self : List Int → Int → Int → (Int → Option β) → Option β) → Nat → List Int → Int → Int → Int → (Int → Option β) → Option β) (G : Nat)  (v0 : List Int) (v1 : Int) (v2 : Int) (v3 : Int) (rec_ : St → Option β) (K : Exit → St → Option β) :
    ev lay (VE197 N zq19 zq17 G) (retMask Try.f197) (lp Try.f197 0).body (lp Try.f197 0).ex ((lp Try.f197 0).lv (retMask Try.f197)) (h197_0_0  v0 v1 v2 v3) (nextR (fun s' => rec_ (s'.tidy ((lp Try.f197 0).lv (retMask Try.f197)))) K) = zb16 N (zq19 G)  v0 v1 v2 v3 (fun v0 v1 v2 v3 => rec_ (h197_0_0  v0 v1 v2 v3)) (fun y0 => K (.exit 0) (x197_0_0_k0  y0)) := by kernel_rfl
theorem st197_0_0 {β : Type} (N : Nat) (G : Nat)  (v0 : List Int) (v1 : Int) (v2 : Int) (v3 : Int) (rec_ : St → Option β) (K : Exit → St → Option β) :
    ev lay (E197 N G) (retMask Try.f197) (lp Try.f197 0).body (lp Try.f197 0).ex ((lp Try.f197 0).lv (retMask Try.f197)) (h197_0_0  v0 v1 v2 v3) (nextR (fun s' => rec_ (s'.tidy ((lp Try.f197 0).lv (retMask Try.f197)))) K) = zj16 N (zj19 N G)  v0 v1 v2 v3 (fun v0 v1 v2 v3 => rec_ (h197_0_0  v0 v1 v2 v3)) (fun y0 => K (.exit 0) (x197_0_0_k0  y0)) := (vst197_0_0 N (zj19 N) (zj17 N) G v0 v1 v2 v3 rec_ K).trans (zt16 N (zj19 N G)  v0 v1 v2 v3 (fun v0 v1 v2 v3 => rec_ (h197_0_0  v0 v1 v2 v3)) (fun y0 => K (.exit 0) (x197_0_0_k0  y0))).symm
theorem ro197_0_0 {β : Type} (N : Nat) (G : Nat)  (K : Exit → St → Option β) : ∀ (F : Nat) (v0 : List Int) (v1 : Int) (v2 : Int) (v3 : Int), (lp Try.f197 0).rounds lay (E197 N G) (retMask Try.f197) F (h197_0_0  v0 v1 v2 v3) K = zj17 N (zj19 N G)  F v0 v1 v2 v3 (fun y0 => K (.exit 0) (x197_0_0_k0  y0)) := by
  intro F
  induction F with
  | zero => intros; rfl
  | succ F ih =>
    intros
    rw [rounds_next]
    refine (st197_0_0 N G  _ _ _ _ (fun s => (lp Try.f197 0).rounds lay (E197 N G) (retMask Try.f197) F s K) K).trans ?_
    simp only [ih]
    rfl
theorem lk197_0 {β : Type} (N : Nat) (G : Nat) : lookL (E197 (β := β) N G).loops (lp Try.f197 0).id = LS197_0 N G := by kernel_rfl
theorem rk197_0 {β : Type} (N : Nat) (G : Nat) : RoundsOK lay (E197 (β := β) N G) (retMask Try.f197) (lp Try.f197 0) := by
  intro s K r h
  rw [lk197_0] at h
  unfold LS197_0 VLS197_0 at h
  cases hb : shpSt (h197_0_0 [] 0 0 0) s with
  | true =>
    rw [hb, cond_true] at h
    exact ⟨N, by rw [← shpSt_ref hb, fl197_0_0 s]; exact (ro197_0_0 N G  K N (rInts (rowV (oneA (vT (nx tund s.tmps 0))))) (intS (oneA (vT (nx tund s.tmps 2)))) (intS (oneA (vT (nx tund s.tmps 7)))) (intS (oneA (vT (nx tund s.tmps 8))))).trans h⟩
  | false =>
  rw [hb, cond_false] at h
  clear hb
  cases h
def zb18 {β : Type} (N : Nat) (zq17 : (self : List Int → Int → Int → (Int → Option β) → Option β) → Nat → List Int → Int → Int → Int → (Int → Option β) → Option β) (self : List Int → Int → Int → (Int → Option β) → Option β) (a0 : List Int) (a1 : Int) (a2 : Int) (k : Int → Option β) : Option β :=
zq17 self  N a0 a2 0 a1 (fun e5_0 =>
k e5_0)
theorem zt18 {β : Type} (N : Nat) (self : List Int → Int → Int → (Int → Option β) → Option β) (a0 : List Int) (a1 : Int) (a2 : Int) (k : Int → Option β) : zj18 N self a0 a1 a2 k = zb18 N (zj17 N) self a0 a1 a2 k := by
  unfold zj18 zb18
  rfl
theorem ve197_0 {β : Type} (N : Nat) (zq19 : Nat → List Int → Int → Int → (Int → Option β) → Option β) (zq17 : (self : List Int → Int → Int → (Int → Option β) → Option β) → Nat → List Int → Int → Int → Int → (Int → Option β) → Option β) (G : Nat)  (a0 : List Int) (a1 : Int) (a2 : Int) (K : TV → Option β) : evFn lay (VE197 N zq19 zq17 G) Try.f197 [.v (.one (.sl 3 (.ints .i64 a0))), .v (.one (.int .i64 a1)), .v (.one (.int .i64 a2))] K = zb18 N zq17 (zq19 G) a0 a1 a2 (fun z3 => K (.v (.one (.int .i64 z3)))) := by kernel_rfl
theorem e197_0 {β : Type} (N : Nat) (G : Nat)  (a0 : List Int) (a1 : Int) (a2 : Int) (K : TV → Option β) : evFn lay (E197 N G) Try.f197 [.v (.one (.sl 3 (.ints .i64 a0))), .v (.one (.int .i64 a1)), .v (.one (.int .i64 a2))] K = zj19 N (G + 1) a0 a1 a2 (fun z3 => K (.v (.one (.int .i64 z3)))) := (ve197_0 N (zj19 N) (zj17 N) G a0 a1 a2 K).trans (zt18 N (zj19 N G) a0 a1 a2 (fun z3 => K (.v (.one (.int .i64 z3))))).symm
theorem z197 {β : Type} (N : Nat) : ∀ args K r, SF197 (β := β) N 0 args K = some r → (none : Option β) = some r := by
  intro args K r h
  unfold SF197 VSF197 at h
  split at h <;> exact h
theorem of197 {β : Type} (N : Nat) : ∀ G, SpecOK (β := β) inv Try.prog 197 (SF197 N G) := by
  intro G
  induction G with
  | zero => exact s_zero Try.func197 (by kernel_rfl) (z197 N)
  | succ G ih =>
    refine spec_of lay_ok mixed (E := E197 N G) (specs_loops (specs_cons ih specs_nil)) muts_nil gs_nil Try.func197 (by kernel_rfl) 1 (by kernel_rfl) ⟨trivial, rk197_0 N G⟩ fun args K r h => ?_
    unfold SF197 VSF197 at h
    split at h
    · exact (e197_0 N G _ _ _ _).trans h
    · cases h
theorem o197 {β : Type} (N : Nat) : SpecOK (β := β) inv Try.prog 197 (S197 N) := of197 N N
def VS163 {β : Type} (N : Nat) (zq21 : (a0 : Int) → (a1 : Int) → (a2 : Int) → (k : Int → Option β) → Option β) : Rv.Spec β := fun args K => match args with
  | [.v (.agg [.int .i64 a0, .int .i64 a1]), .v (.one (.int .i64 a2))] => zq21 a0 a1 a2 (fun z3 => K (.v (.one (.int .i64 z3))))
  | _ => none
def S163 {β : Type} (N : Nat) : Rv.Spec β := VS163 N (zj21 N)
def VE163 {β : Type} (N : Nat) (zq10 : (a0 : Int) → (a1 : Int) → (a2 : Int) → (k : Bool → Option β) → Option β) (zq15 : (a0 : Int) → (a1 : Int) → (a2 : Int) → (k : List Int → Option β) → Option β) (zq19 : Nat → List Int → Int → Int → (Int → Option β) → Option β) : Env β := ⟨[(169, VS169 N zq10), (198, VS198 N zq15), (197, VS197 N zq19)], [], [], [], ⟨[], [], [], [61]⟩⟩
def E163 {β : Type} (N : Nat) : Env β := VE163 N (zj10 N) (zj15 N) (zj19 N)
def zb21 {β : Type} (N : Nat) (zq10 : (a0 : Int) → (a1 : Int) → (a2 : Int) → (k : Bool → Option β) → Option β) (zq15 : (a0 : Int) → (a1 : Int) → (a2 : Int) → (k : List Int → Option β) → Option β) (zq19 : Nat → List Int → Int → Int → (Int → Option β) → Option β) (a0 : Int) (a1 : Int) (a2 : Int) (k : Int → Option β) : Option β :=
zq10 a0 a1 a2 fun r4 =>
(cond (!r4)
(k (-1))
(zq15 a0 a1 a2 fun r5 =>
zq19 N r5 0 0 fun r6 =>
k r6))
theorem zt21 {β : Type} (N : Nat) (a0 : Int) (a1 : Int) (a2 : Int) (k : Int → Option β) : zj21 N a0 a1 a2 k = zb21 N (zj10 N) (zj15 N) (zj19 N) a0 a1 a2 k := by
  unfold zj21 zb21
  rfl
theorem ve163_0 {β : Type} (N : Nat) (zq10 : (a0 : Int) → (a1 : Int) → (a2 : Int) → (k : Bool → Option β) → Option β) (zq15 : (a0 : Int) → (a1 : Int) → (a2 : Int) → (k : List Int → Option β) → Option β) (zq19 : Nat → List Int → Int → Int → (Int → Option β) → Option β)  (a0 : Int) (a1 : Int) (a2 : Int) (K : TV → Option β) : evFn lay (VE163 N zq10 zq15 zq19) Try.f163 [.v (.agg [.int .i64 a0, .int .i64 a1]), .v (.one (.int .i64 a2))] K = zb21 N zq10 zq15 zq19 a0 a1 a2 (fun z3 => K (.v (.one (.int .i64 z3)))) := by kernel_rfl
theorem e163_0 {β : Type} (N : Nat)  (a0 : Int) (a1 : Int) (a2 : Int) (K : TV → Option β) : evFn lay (E163 N) Try.f163 [.v (.agg [.int .i64 a0, .int .i64 a1]), .v (.one (.int .i64 a2))] K = zj21 N a0 a1 a2 (fun z3 => K (.v (.one (.int .i64 z3)))) := (ve163_0 N (zj10 N) (zj15 N) (zj19 N) a0 a1 a2 K).trans (zt21 N a0 a1 a2 (fun z3 => K (.v (.one (.int .i64 z3))))).symm
theorem o163 {β : Type} (N : Nat) : SpecOK (β := β) inv Try.prog 163 (S163 N) := by
  refine spec_of lay_ok mixed (E := E163 N) (specs_loops (specs_cons (o169 N) (specs_cons (o198 N) (specs_cons (o197 N) specs_nil)))) muts_nil gs_nil Try.func163 (by kernel_rfl) 0 (by kernel_rfl) trivial fun args K r h => ?_
  unfold S163 VS163 at h
  split at h
  · exact (e163_0 N _ _ _ _).trans h
  · cases h
def VS128 {β : Type} (N : Nat) (zq24 : (a0 : Int) → (a1 : Int) → (k : Int → Option β) → Option β) : Rv.Spec β := fun args K => match args with
  | [.v (.agg [.int .i64 a0, .int .i64 a1])] => zq24 a0 a1 (fun z2 => K (.v (.one (.int .i64 z2))))
  | _ => none
def S128 {β : Type} (N : Nat) : Rv.Spec β := VS128 N (zj24 N)
def h128_0_0  (v0 : Int) (v1 : Int) (v2 : Int) (v3 : Int) : St := ⟨tund :: .v (.one (.ptr 0 0)) :: tund :: .v (.one (.int .i64 v0)) :: .v (.one (.int .i64 v1)) :: tund :: tund :: tund :: tund :: tund :: tund :: tund :: tund :: tund :: tund :: tund :: tund :: tund :: tund :: tund :: tund :: [], [.cells 27 [.int .i64 v2, .int .i64 v3]]⟩
def x128_0_0_k0  (y0 : Int) : St := ⟨tund :: tund :: tund :: .v (.one (.int .i64 y0)) :: tund :: tund :: tund :: tund :: tund :: tund :: tund :: tund :: tund :: tund :: tund :: tund :: tund :: tund :: tund :: tund :: tund :: [], []⟩
theorem fl128_0_0 (s : St) : refSt (h128_0_0 0 0 0 0) s = h128_0_0 (intS (oneA (vT (nx tund s.tmps 3)))) (intS (oneA (vT (nx tund s.tmps 4)))) (intS (nx .und (cellsB (nx .dead s.blks 0)) 0)) (intS (nx .und (cellsB (nx .dead s.blks 0)) 1)) := by kernel_rfl
def VLS128_0 {β : Type} (N : Nat) (zq23 : Nat → Int → Int → Int → Int → (Int → Option β) → Option β) : LSpec β := fun s K => cond (shpSt (h128_0_0 0 0 0 0) s) ((fun (v0 : Int) (v1 : Int) (v2 : Int) (v3 : Int) => zq23  N v0 v1 v2 v3 (fun y0 => K (.exit 0) (x128_0_0_k0  y0))) (intS (oneA (vT (nx tund s.tmps 3)))) (intS (oneA (vT (nx tund s.tmps 4)))) (intS (nx .und (cellsB (nx .dead s.blks 0)) 0)) (intS (nx .und (cellsB (nx .dead s.blks 0)) 1))) (none)
def LS128_0 {β : Type} (N : Nat) : LSpec β := VLS128_0 N (zj23 N)
def VE128 {β : Type} (N : Nat) (zq2 : (a0 : Int) → (a1 : Int) → (k : Bool → Option β) → Option β) (zq21 : (a0 : Int) → (a1 : Int) → (a2 : Int) → (k : Int → Option β) → Option β) (zq23 : Nat → Int → Int → Int → Int → (Int → Option β) → Option β) : Env β := ⟨[(58, VS58 N zq2), (163, VS163 N zq21)], [], [(0, VLS128_0 N zq23)], [], ⟨[], [], [], [61]⟩⟩
def E128 {β : Type} (N : Nat) : Env β := VE128 N (zj2 N) (zj21 N) (zj23 N)
def zb22 {β : Type} (N : Nat) (zq21 : (a0 : Int) → (a1 : Int) → (a2 : Int) → (k : Int → Option β) → Option β)  (v0 : Int) (v1 : Int) (v2 : Int) (v3 : Int) (rec_ : Int → Int → Int → Int → Option β) (k0 : Int → Option β) : Option β :=
(gd ((decide (0 ≤ v2)))
((cond ((decide (v1 < (shlI .i64 1 v2))))
(zq21 v2 v3 v1 fun r4 =>
rec_ ((mxI v0 r4)) ((w64 (v1 + 1))) v2 v3)
(k0 v0))))
theorem zt22 {β : Type} (N : Nat)  (v0 : Int) (v1 : Int) (v2 : Int) (v3 : Int) (rec_ : Int → Int → Int → Int → Option β) (k0 : Int → Option β) : zj22 N v0 v1 v2 v3 rec_ k0 = zb22 N (zj21 N) v0 v1 v2 v3 rec_ k0 := by
  unfold zj22 zb22
  rfl
theorem vst128_0_0 {β : Type} (N : Nat) (zq2 : (a0 : Int) → (a1 : Int) → (k : Bool → Option β) → Option β) (zq21 : (a0 : Int) → (a1 : Int) → (a2 : Int) → (k : Int → Option β) → Option β) (zq23 : Nat → Int → Int → Int → Int → (Int → Option β) → Option β)  (v0 : Int) (v1 : Int) (v2 : Int) (v3 : Int) (rec_ : St → Option β) (K : Exit → St → Option β) :
    ev lay (VE128 N zq2 zq21 zq23) (retMask Try.f128) (lp Try.f128 0).body (lp Try.f128 0).ex ((lp Try.f128 0).lv (retMask Try.f128)) (h128_0_0  v0 v1 v2 v3) (nextR (fun s' => rec_ (s'.tidy ((lp Try.f128 0).lv (retMask Try.f128)))) K) = zb22 N zq21  v0 v1 v2 v3 (fun v0 v1 v2 v3 => rec_ (h128_0_0  v0 v1 v2 v3)) (fun y0 => K (.exit 0) (x128_0_0_k0  y0)) := by kernel_rfl
theorem st128_0_0 {β : Type} (N : Nat)  (v0 : Int) (v1 : Int) (v2 : Int) (v3 : Int) (rec_ : St → Option β) (K : Exit → St → Option β) :
    ev lay (E128 N) (retMask Try.f128) (lp Try.f128 0).body (lp Try.f128 0).ex ((lp Try.f128 0).lv (retMask Try.f128)) (h128_0_0  v0 v1 v2 v3) (nextR (fun s' => rec_ (s'.tidy ((lp Try.f128 0).lv (retMask Try.f128)))) K) = zj22 N  v0 v1 v2 v3 (fun v0 v1 v2 v3 => rec_ (h128_0_0  v0 v1 v2 v3)) (fun y0 => K (.exit 0) (x128_0_0_k0  y0)) := (vst128_0_0 N (zj2 N) (zj21 N) (zj23 N) v0 v1 v2 v3 rec_ K).trans (zt22 N  v0 v1 v2 v3 (fun v0 v1 v2 v3 => rec_ (h128_0_0  v0 v1 v2 v3)) (fun y0 => K (.exit 0) (x128_0_0_k0  y0))).symm
theorem ro128_0_0 {β : Type} (N : Nat)  (K : Exit → St → Option β) : ∀ (F : Nat) (v0 : Int) (v1 : Int) (v2 : Int) (v3 : Int), (lp Try.f128 0).rounds lay (E128 N) (retMask Try.f128) F (h128_0_0  v0 v1 v2 v3) K = zj23 N  F v0 v1 v2 v3 (fun y0 => K (.exit 0) (x128_0_0_k0  y0)) := by
  intro F
  induction F with
  | zero => intros; rfl
  | succ F ih =>
    intros
    rw [rounds_next]
    refine (st128_0_0 N  _ _ _ _ (fun s => (lp Try.f128 0).rounds lay (E128 N) (retMask Try.f128) F s K) K).trans ?_
    simp only [ih]
    rfl
theorem lk128_0 {β : Type} (N : Nat) : lookL (E128 (β := β) N).loops (lp Try.f128 0).id = LS128_0 N := by kernel_rfl
theorem rk128_0 {β : Type} (N : Nat) : RoundsOK lay (E128 (β := β) N) (retMask Try.f128) (lp Try.f128 0) := by
  intro s K r h
  rw [lk128_0] at h
  unfold LS128_0 VLS128_0 at h
  cases hb : shpSt (h128_0_0 0 0 0 0) s with
  | true =>
    rw [hb, cond_true] at h
    exact ⟨N, by rw [← shpSt_ref hb, fl128_0_0 s]; exact (ro128_0_0 N  K N (intS (oneA (vT (nx tund s.tmps 3)))) (intS (oneA (vT (nx tund s.tmps 4)))) (intS (nx .und (cellsB (nx .dead s.blks 0)) 0)) (intS (nx .und (cellsB (nx .dead s.blks 0)) 1))).trans h⟩
  | false =>
  rw [hb, cond_false] at h
  clear hb
  cases h
def zb24 {β : Type} (N : Nat) (zq2 : (a0 : Int) → (a1 : Int) → (k : Bool → Option β) → Option β) (zq23 : Nat → Int → Int → Int → Int → (Int → Option β) → Option β) (a0 : Int) (a1 : Int) (k : Int → Option β) : Option β :=
zq2 a0 a1 fun r3 =>
(cond (!r3)
(k (-1))
(zq23  N 0 0 a0 a1 (fun e5_0 =>
k e5_0)))
theorem zt24 {β : Type} (N : Nat) (a0 : Int) (a1 : Int) (k : Int → Option β) : zj24 N a0 a1 k = zb24 N (zj2 N) (zj23 N) a0 a1 k := by
  unfold zj24 zb24
  rfl
theorem ve128_0 {β : Type} (N : Nat) (zq2 : (a0 : Int) → (a1 : Int) → (k : Bool → Option β) → Option β) (zq21 : (a0 : Int) → (a1 : Int) → (a2 : Int) → (k : Int → Option β) → Option β) (zq23 : Nat → Int → Int → Int → Int → (Int → Option β) → Option β)  (a0 : Int) (a1 : Int) (K : TV → Option β) : evFn lay (VE128 N zq2 zq21 zq23) Try.f128 [.v (.agg [.int .i64 a0, .int .i64 a1])] K = zb24 N zq2 zq23 a0 a1 (fun z2 => K (.v (.one (.int .i64 z2)))) := by kernel_rfl
theorem e128_0 {β : Type} (N : Nat)  (a0 : Int) (a1 : Int) (K : TV → Option β) : evFn lay (E128 N) Try.f128 [.v (.agg [.int .i64 a0, .int .i64 a1])] K = zj24 N a0 a1 (fun z2 => K (.v (.one (.int .i64 z2)))) := (ve128_0 N (zj2 N) (zj21 N) (zj23 N) a0 a1 K).trans (zt24 N a0 a1 (fun z2 => K (.v (.one (.int .i64 z2))))).symm
theorem o128 {β : Type} (N : Nat) : SpecOK (β := β) inv Try.prog 128 (S128 N) := by
  refine spec_of lay_ok mixed (E := E128 N) (specs_loops (specs_cons (o58 N) (specs_cons (o163 N) specs_nil))) muts_nil gs_nil Try.func128 (by kernel_rfl) 1 (by kernel_rfl) ⟨trivial, rk128_0 N⟩ fun args K r h => ?_
  unfold S128 VS128 at h
  split at h
  · exact (e128_0 N _ _ _).trans h
  · cases h
end Go.Proofs.Ytfdggelojmofmaa
