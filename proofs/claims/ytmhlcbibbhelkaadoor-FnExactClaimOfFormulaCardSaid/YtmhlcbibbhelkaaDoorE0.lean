/- The functions that the claims reach answer as their texts do. -/
import Derived.Test.YtmhlcbibbhelkaaDoorT0
import Derived.Test.YtmhlcbibbhelkaaDoorProg
import Derived.KernelRfl
import Derived.Test.YtmhlcbibbhelkaaDoorShelf
namespace Go.Proofs.YtmhlcbibbhelkaaDoor
open Go.Rv
set_option maxRecDepth 100000
set_option maxHeartbeats 2000000
set_option linter.unusedVariables false
variable {β : Type}
def lay : Lay := [(1, .func),
  (2, .int .i64),
  (3, .int .i64),
  (4, .bool),
  (5, .int .u8),
  (9, .string),
  (12, .int .u64),
  (21, .int .i32),
  (22, .struct [⟨0, 1, false⟩, ⟨1, 1, false⟩] [3, 3] 16 true),
  (23, .struct [⟨0, 1, false⟩, ⟨1, 1, false⟩] [3, 3] 16 true),
  (24, .struct [⟨0, 1, false⟩, ⟨1, 1, false⟩] [3, 3] 16 true),
  (25, .slice 3),
  (26, .struct [⟨0, 1, false⟩, ⟨1, 2, true⟩, ⟨3, 1, false⟩, ⟨4, 1, false⟩, ⟨5, 1, false⟩, ⟨6, 1, false⟩] [3, 3, 3, 3, 3, 9, 25] 80 false),
  (27, .struct [⟨0, 1, false⟩, ⟨1, 2, true⟩, ⟨3, 1, false⟩, ⟨4, 1, false⟩, ⟨5, 1, false⟩, ⟨6, 1, false⟩] [3, 3, 3, 3, 3, 9, 25] 80 false),
  (46, .int .u64),
  (49, .slice 25),
  (52, .slice 5),
  (63, .int .u32),
  (66, .int .u64),
  (91, .pointer 5)]

theorem lay_ok : LayOK Tryd.prog lay := layOK_of (by decide +kernel)
theorem mixed : Tryd.prog.follows .mixedOrders = true := by kernel_rfl
def inv : World → Prop := tabInv Tryd.prog
def S38 (N : Nat) : Rv.Spec β := itoaSpec N
theorem o38 (N : Nat) : SpecOK (β := β) inv Tryd.prog 38 (S38 N) := itoa_ok Tryd.func38 (by kernel_rfl) Tryd.strconv_Itoa N
def VS40 (N : Nat) (zq0 : (a0 : Int) → (c0 : Int) → (k : Bool → O β) → O β) : Rv.Spec β := fun args K => match args with
  | [.v (.one (.int .i64 a0)), .v (.one (.cref [.int .i64 c0] 0))] => zq0 a0 c0 (fun z1 => K (.v (.one (.bool z1))))
  | _ => none
def S40 (N : Nat) : Rv.Spec β := VS40 N (zj0 N)
def VE40 (N : Nat) : Env β := ⟨[], [], [], [], ⟨[], [], [], []⟩⟩
def E40 (N : Nat) : Env β := VE40 N
def zb0 (N : Nat) (a0 : Int) (c0 : Int) (k : Bool → O β) : O β :=
(gd ((decide (0 ≤ c0)))
(k (((bits .and .i64 (shrI .i64 a0 c0) 1) == 1))))
theorem zt0 (N : Nat) (a0 : Int) (c0 : Int) (k : Bool → O β) : zj0 N a0 c0 k = zb0 N a0 c0 k := by
  unfold zj0 zb0
  rfl
theorem ve40_0 (N : Nat)  (a0 : Int) (c0 : Int) (K : TV → O β) : evFn lay (VE40 N) Tryd.f40 [.v (.one (.int .i64 a0)), .v (.one (.cref [.int .i64 c0] 0))] K = zb0 N a0 c0 (fun z1 => K (.v (.one (.bool z1)))) := by kernel_rfl
theorem e40_0 (N : Nat)  (a0 : Int) (c0 : Int) (K : TV → O β) : evFn lay (E40 N) Tryd.f40 [.v (.one (.int .i64 a0)), .v (.one (.cref [.int .i64 c0] 0))] K = zj0 N a0 c0 (fun z1 => K (.v (.one (.bool z1)))) := (ve40_0 N a0 c0 K).trans (zt0 N a0 c0 (fun z1 => K (.v (.one (.bool z1))))).symm
theorem o40 (N : Nat) : SpecOK (β := β) inv Tryd.prog 40 (S40 N) := by
  refine spec_of lay_ok mixed (E := E40 N) (specs_loops specs_nil) muts_nil gs_nil Tryd.func40 (by kernel_rfl) 0 (by kernel_rfl) trivial fun args K r h => ?_
  unfold S40 VS40 at h
  split at h
  · exact (e40_0 N _ _ _).trans h
  · cases h
def VS39 (N : Nat) (zq3 : (a0 : Int) → (a1 : (Int → (Bool → O β) → O β)) → (k : Int → Int → O β) → O β) (zq0 : (a0 : Int) → (c0 : Int) → (k : Bool → O β) → O β) : Rv.Spec β := fun args K => match args with
  | [.v (.one (.int .i64 a0)), .v (.one (.dfn 40 [([.int .i64 q0], 0)]))] => zq3 a0 (fun x0 k => zq0 x0 q0 k) (fun z2 z3 => K (.v (.agg [.int .i64 z2, .int .i64 z3])))
  | _ => none
def S39 (N : Nat) : Rv.Spec β := VS39 N (zj3 N) (zj0 N)
def h39_0_0 (q0 : Int) (v0 : Int) (v1 : Int) (v2 : Int) (v3 : Int) (v4 : Int) (v5 : Int) : St := ⟨tund :: .v (.one (.dfn 40 [([.int .i64 q0], 0)])) :: tund :: tund :: .v (.one (.ptr 0 0)) :: .v (.one (.ptr 1 0)) :: tund :: tund :: tund :: tund :: .v (.one (.int .i64 v0)) :: .v (.one (.int .i64 v1)) :: tund :: tund :: tund :: tund :: tund :: tund :: tund :: tund :: tund :: tund :: tund :: tund :: tund :: [], [.cells 24 [.int .i64 v2, .int .i64 v3], .cells 24 [.int .i64 v4, .int .i64 v5]]⟩
def x39_0_0_k0 (q0 : Int) (y0 : Int) (y1 : Int) (y2 : Int) (y3 : Int) : St := ⟨tund :: tund :: tund :: tund :: .v (.one (.ptr 0 0)) :: .v (.one (.ptr 1 0)) :: tund :: tund :: tund :: tund :: tund :: tund :: tund :: tund :: tund :: tund :: tund :: tund :: tund :: tund :: tund :: tund :: tund :: tund :: tund :: [], [.cells 24 [.int .i64 y0, .int .i64 y1], .cells 24 [.int .i64 y2, .int .i64 y3]]⟩
theorem fl39_0_0 (s : St) : refSt (h39_0_0 0 0 0 0 0 0 0) s = h39_0_0 (intF (nx .no (nx ([], 0) (dfnS (oneA (vT (nx tund s.tmps 1)))) 0).1 0)) (intS (oneA (vT (nx tund s.tmps 10)))) (intS (oneA (vT (nx tund s.tmps 11)))) (intS (nx .und (cellsB (nx .dead s.blks 0)) 0)) (intS (nx .und (cellsB (nx .dead s.blks 0)) 1)) (intS (nx .und (cellsB (nx .dead s.blks 1)) 0)) (intS (nx .und (cellsB (nx .dead s.blks 1)) 1)) := by kernel_rfl
def VLS39_0 (N : Nat) (zq2 : (a1 : (Int → (Bool → O β) → O β)) → Nat → Int → Int → Int → Int → Int → Int → (Int → Int → Int → Int → O β) → O β) (zq0 : (a0 : Int) → (c0 : Int) → (k : Bool → O β) → O β) : LSpec β := fun s K => cond (shpSt (h39_0_0 0 0 0 0 0 0 0) s) ((fun (q0 : Int) (v0 : Int) (v1 : Int) (v2 : Int) (v3 : Int) (v4 : Int) (v5 : Int) => zq2 (fun x0 k => zq0 x0 q0 k) N v0 v1 v2 v3 v4 v5 (fun y0 y1 y2 y3 => K (.exit 0) (x39_0_0_k0 q0 y0 y1 y2 y3))) (intF (nx .no (nx ([], 0) (dfnS (oneA (vT (nx tund s.tmps 1)))) 0).1 0)) (intS (oneA (vT (nx tund s.tmps 10)))) (intS (oneA (vT (nx tund s.tmps 11)))) (intS (nx .und (cellsB (nx .dead s.blks 0)) 0)) (intS (nx .und (cellsB (nx .dead s.blks 0)) 1)) (intS (nx .und (cellsB (nx .dead s.blks 1)) 0)) (intS (nx .und (cellsB (nx .dead s.blks 1)) 1))) (none)
def LS39_0 (N : Nat) : LSpec β := VLS39_0 N (zj2 N) (zj0 N)
def VE39 (N : Nat) (zq0 : (a0 : Int) → (c0 : Int) → (k : Bool → O β) → O β) (zq2 : (a1 : (Int → (Bool → O β) → O β)) → Nat → Int → Int → Int → Int → Int → Int → (Int → Int → Int → Int → O β) → O β) : Env β := ⟨[(40, VS40 N zq0)], [], [(0, VLS39_0 N zq2 zq0)], [], ⟨[], [], [], []⟩⟩
def E39 (N : Nat) : Env β := VE39 N (zj0 N) (zj2 N)
def zb1 (N : Nat) (a1 : (Int → (Bool → O β) → O β)) (v0 : Int) (v1 : Int) (v2 : Int) (v3 : Int) (v4 : Int) (v5 : Int) (rec_ : Int → Int → Int → Int → Int → Int → O β) (k0 : Int → Int → Int → Int → O β) : O β :=
(cond ((decide (v1 < v0)))
(a1 v1 fun r4 =>
(cond r4
((gd ((decide (0 ≤ v1)))
(rec_ v0 ((w64 (v1 + 1))) v2 v3 v4 ((bits .or .i64 v5 (shlI .i64 1 v1))))))
(rec_ v0 ((w64 (v1 + 1))) v2 v3 v4 v5)))
(k0 v2 v3 v4 v5))
theorem zt1 (N : Nat) (a1 : (Int → (Bool → O β) → O β)) (v0 : Int) (v1 : Int) (v2 : Int) (v3 : Int) (v4 : Int) (v5 : Int) (rec_ : Int → Int → Int → Int → Int → Int → O β) (k0 : Int → Int → Int → Int → O β) : zj1 N a1 v0 v1 v2 v3 v4 v5 rec_ k0 = zb1 N a1 v0 v1 v2 v3 v4 v5 rec_ k0 := by
  unfold zj1 zb1
  rfl
theorem vst39_0_0 (N : Nat) (zq0 : (a0 : Int) → (c0 : Int) → (k : Bool → O β) → O β) (zq2 : (a1 : (Int → (Bool → O β) → O β)) → Nat → Int → Int → Int → Int → Int → Int → (Int → Int → Int → Int → O β) → O β) (q0 : Int) (v0 : Int) (v1 : Int) (v2 : Int) (v3 : Int) (v4 : Int) (v5 : Int) (rec_ : St → O β) (K : Exit → St → O β) :
    ev lay (VE39 N zq0 zq2) (retMask Tryd.f39) (lp Tryd.f39 0).body (lp Tryd.f39 0).ex ((lp Tryd.f39 0).lv (retMask Tryd.f39)) (h39_0_0 q0 v0 v1 v2 v3 v4 v5) (nextR (fun s' => rec_ (s'.tidy ((lp Tryd.f39 0).lv (retMask Tryd.f39)))) K) = zb1 N (fun x0 k => zq0 x0 q0 k) v0 v1 v2 v3 v4 v5 (fun v0 v1 v2 v3 v4 v5 => rec_ (h39_0_0 q0 v0 v1 v2 v3 v4 v5)) (fun y0 y1 y2 y3 => K (.exit 0) (x39_0_0_k0 q0 y0 y1 y2 y3)) := by kernel_rfl
theorem st39_0_0 (N : Nat) (q0 : Int) (v0 : Int) (v1 : Int) (v2 : Int) (v3 : Int) (v4 : Int) (v5 : Int) (rec_ : St → O β) (K : Exit → St → O β) :
    ev lay (E39 N) (retMask Tryd.f39) (lp Tryd.f39 0).body (lp Tryd.f39 0).ex ((lp Tryd.f39 0).lv (retMask Tryd.f39)) (h39_0_0 q0 v0 v1 v2 v3 v4 v5) (nextR (fun s' => rec_ (s'.tidy ((lp Tryd.f39 0).lv (retMask Tryd.f39)))) K) = zj1 N (fun x0 k => zj0 N x0 q0 k) v0 v1 v2 v3 v4 v5 (fun v0 v1 v2 v3 v4 v5 => rec_ (h39_0_0 q0 v0 v1 v2 v3 v4 v5)) (fun y0 y1 y2 y3 => K (.exit 0) (x39_0_0_k0 q0 y0 y1 y2 y3)) := (vst39_0_0 N (zj0 N) (zj2 N) q0 v0 v1 v2 v3 v4 v5 rec_ K).trans (zt1 N (fun x0 k => zj0 N x0 q0 k) v0 v1 v2 v3 v4 v5 (fun v0 v1 v2 v3 v4 v5 => rec_ (h39_0_0 q0 v0 v1 v2 v3 v4 v5)) (fun y0 y1 y2 y3 => K (.exit 0) (x39_0_0_k0 q0 y0 y1 y2 y3))).symm
theorem ro39_0_0 (N : Nat) (q0 : Int) (K : Exit → St → O β) : ∀ (F : Nat) (v0 : Int) (v1 : Int) (v2 : Int) (v3 : Int) (v4 : Int) (v5 : Int), (lp Tryd.f39 0).rounds lay (E39 N) (retMask Tryd.f39) F (h39_0_0 q0 v0 v1 v2 v3 v4 v5) K = zj2 N (fun x0 k => zj0 N x0 q0 k) F v0 v1 v2 v3 v4 v5 (fun y0 y1 y2 y3 => K (.exit 0) (x39_0_0_k0 q0 y0 y1 y2 y3)) := by
  intro F
  induction F with
  | zero => intros; rfl
  | succ F ih =>
    intros
    rw [rounds_next]
    refine (st39_0_0 N q0 _ _ _ _ _ _ (fun s => (lp Tryd.f39 0).rounds lay (E39 N) (retMask Tryd.f39) F s K) K).trans ?_
    simp only [ih]
    rfl
theorem lk39_0 (N : Nat) : lookL (E39 (β := β) N).loops (lp Tryd.f39 0).id = LS39_0 N := by kernel_rfl
theorem rk39_0 (N : Nat) : RoundsOK lay (E39 (β := β) N) (retMask Tryd.f39) (lp Tryd.f39 0) := by
  intro s K r h
  rw [lk39_0] at h
  unfold LS39_0 VLS39_0 at h
  cases hb : shpSt (h39_0_0 0 0 0 0 0 0 0) s with
  | true =>
    rw [hb, cond_true] at h
    exact ⟨N, by rw [← shpSt_ref hb, fl39_0_0 s]; exact (ro39_0_0 N (intF (nx .no (nx ([], 0) (dfnS (oneA (vT (nx tund s.tmps 1)))) 0).1 0)) K N (intS (oneA (vT (nx tund s.tmps 10)))) (intS (oneA (vT (nx tund s.tmps 11)))) (intS (nx .und (cellsB (nx .dead s.blks 0)) 0)) (intS (nx .und (cellsB (nx .dead s.blks 0)) 1)) (intS (nx .und (cellsB (nx .dead s.blks 1)) 0)) (intS (nx .und (cellsB (nx .dead s.blks 1)) 1))).trans h⟩
  | false =>
  rw [hb, cond_false] at h
  clear hb
  cases h
def zb3 (N : Nat) (zq2 : (a1 : (Int → (Bool → O β) → O β)) → Nat → Int → Int → Int → Int → Int → Int → (Int → Int → Int → Int → O β) → O β) (a0 : Int) (a1 : (Int → (Bool → O β) → O β)) (k : Int → Int → O β) : O β :=
(gd ((decide (0 ≤ a0)))
(zq2 a1 N ((shlI .i64 1 a0)) 0 0 0 a0 0 (fun e5_0 e5_1 e5_2 e5_3 =>
k e5_2 e5_3)))
theorem zt3 (N : Nat) (a0 : Int) (a1 : (Int → (Bool → O β) → O β)) (k : Int → Int → O β) : zj3 N a0 a1 k = zb3 N (zj2 N) a0 a1 k := by
  unfold zj3 zb3
  rfl
theorem ve39_0 (N : Nat) (zq0 : (a0 : Int) → (c0 : Int) → (k : Bool → O β) → O β) (zq2 : (a1 : (Int → (Bool → O β) → O β)) → Nat → Int → Int → Int → Int → Int → Int → (Int → Int → Int → Int → O β) → O β) (q0 : Int) (a0 : Int) (K : TV → O β) : evFn lay (VE39 N zq0 zq2) Tryd.f39 [.v (.one (.int .i64 a0)), .v (.one (.dfn 40 [([.int .i64 q0], 0)]))] K = zb3 N zq2 a0 (fun x0 k => zq0 x0 q0 k) (fun z2 z3 => K (.v (.agg [.int .i64 z2, .int .i64 z3]))) := by kernel_rfl
theorem e39_0 (N : Nat) (q0 : Int) (a0 : Int) (K : TV → O β) : evFn lay (E39 N) Tryd.f39 [.v (.one (.int .i64 a0)), .v (.one (.dfn 40 [([.int .i64 q0], 0)]))] K = zj3 N a0 (fun x0 k => zj0 N x0 q0 k) (fun z2 z3 => K (.v (.agg [.int .i64 z2, .int .i64 z3]))) := (ve39_0 N (zj0 N) (zj2 N) q0 a0 K).trans (zt3 N a0 (fun x0 k => zj0 N x0 q0 k) (fun z2 z3 => K (.v (.agg [.int .i64 z2, .int .i64 z3])))).symm
theorem o39 (N : Nat) : SpecOK (β := β) inv Tryd.prog 39 (S39 N) := by
  refine spec_of lay_ok mixed (E := E39 N) (specs_loops (specs_cons (o40 N) specs_nil)) muts_nil gs_nil Tryd.func39 (by kernel_rfl) 1 (by kernel_rfl) ⟨trivial, rk39_0 N⟩ fun args K r h => ?_
  unfold S39 VS39 at h
  split at h
  · exact (e39_0 N _ _ _).trans h
  · cases h
def VS31 (N : Nat) (zq4 : (a0 : Int) → (a1 : Int) → (k : Int → Int → O β) → O β) : Rv.Spec β := fun args K => match args with
  | [.v (.one (.int .i64 a0)), .v (.one (.int .i64 a1))] => zq4 a0 a1 (fun z2 z3 => K (.v (.agg [.int .i64 z2, .int .i64 z3])))
  | _ => none
def S31 (N : Nat) : Rv.Spec β := VS31 N (zj4 N)
def VE31 (N : Nat) (zq3 : (a0 : Int) → (a1 : (Int → (Bool → O β) → O β)) → (k : Int → Int → O β) → O β) (zq0 : (a0 : Int) → (c0 : Int) → (k : Bool → O β) → O β) : Env β := ⟨[(39, VS39 N zq3 zq0), (40, VS40 N zq0)], [], [], [], ⟨[], [], [], []⟩⟩
def E31 (N : Nat) : Env β := VE31 N (zj3 N) (zj0 N)
def zb4 (N : Nat) (zq3 : (a0 : Int) → (a1 : (Int → (Bool → O β) → O β)) → (k : Int → Int → O β) → O β) (zq0 : (a0 : Int) → (c0 : Int) → (k : Bool → O β) → O β) (a0 : Int) (a1 : Int) (k : Int → Int → O β) : O β :=
zq3 a0 (fun x0 k => zq0 x0 a1 k) fun r4 r5 =>
k r4 r5
theorem zt4 (N : Nat) (a0 : Int) (a1 : Int) (k : Int → Int → O β) : zj4 N a0 a1 k = zb4 N (zj3 N) (zj0 N) a0 a1 k := by
  unfold zj4 zb4
  rfl
theorem ve31_0 (N : Nat) (zq3 : (a0 : Int) → (a1 : (Int → (Bool → O β) → O β)) → (k : Int → Int → O β) → O β) (zq0 : (a0 : Int) → (c0 : Int) → (k : Bool → O β) → O β)  (a0 : Int) (a1 : Int) (K : TV → O β) : evFn lay (VE31 N zq3 zq0) Tryd.f31 [.v (.one (.int .i64 a0)), .v (.one (.int .i64 a1))] K = zb4 N zq3 zq0 a0 a1 (fun z2 z3 => K (.v (.agg [.int .i64 z2, .int .i64 z3]))) := by kernel_rfl
theorem e31_0 (N : Nat)  (a0 : Int) (a1 : Int) (K : TV → O β) : evFn lay (E31 N) Tryd.f31 [.v (.one (.int .i64 a0)), .v (.one (.int .i64 a1))] K = zj4 N a0 a1 (fun z2 z3 => K (.v (.agg [.int .i64 z2, .int .i64 z3]))) := (ve31_0 N (zj3 N) (zj0 N) a0 a1 K).trans (zt4 N a0 a1 (fun z2 z3 => K (.v (.agg [.int .i64 z2, .int .i64 z3])))).symm
theorem o31 (N : Nat) : SpecOK (β := β) inv Tryd.prog 31 (S31 N) := by
  refine spec_of lay_ok mixed (E := E31 N) (specs_loops (specs_cons (o39 N) (specs_cons (o40 N) specs_nil))) muts_nil gs_nil Tryd.func31 (by kernel_rfl) 0 (by kernel_rfl) trivial fun args K r h => ?_
  unfold S31 VS31 at h
  split at h
  · exact (e31_0 N _ _ _).trans h
  · cases h
def VS26 (N : Nat) (zq7 : (a0 : Int) → (a1 : Int) → (k : Int → O β) → O β) : Rv.Spec β := fun args K => match args with
  | [.v (.one (.int .i64 a0)), .v (.one (.int .i64 a1))] => zq7 a0 a1 (fun z2 => K (.v (.one (.int .i64 z2))))
  | _ => none
def S26 (N : Nat) : Rv.Spec β := VS26 N (zj7 N)
def h26_0_0  (v0 : Int) (v1 : Int) (v2 : Int) (v3 : Int) : St := ⟨.v (.one (.int .i64 v0)) :: .v (.one (.int .i64 v1)) :: tund :: tund :: tund :: .v (.one (.int .i64 v2)) :: .v (.one (.int .i64 v3)) :: tund :: tund :: tund :: tund :: tund :: tund :: tund :: tund :: tund :: tund :: tund :: tund :: tund :: tund :: tund :: tund :: [], []⟩
def x26_0_0_k0  (y0 : Int) : St := ⟨tund :: tund :: tund :: tund :: tund :: .v (.one (.int .i64 y0)) :: tund :: tund :: tund :: tund :: tund :: tund :: tund :: tund :: tund :: tund :: tund :: tund :: tund :: tund :: tund :: tund :: tund :: [], []⟩
theorem fl26_0_0 (s : St) : refSt (h26_0_0 0 0 0 0) s = h26_0_0 (intS (oneA (vT (nx tund s.tmps 0)))) (intS (oneA (vT (nx tund s.tmps 1)))) (intS (oneA (vT (nx tund s.tmps 5)))) (intS (oneA (vT (nx tund s.tmps 6)))) := by kernel_rfl
def VLS26_0 (N : Nat) (zq6 : Nat → Int → Int → Int → Int → (Int → O β) → O β) : LSpec β := fun s K => cond (shpSt (h26_0_0 0 0 0 0) s) ((fun (v0 : Int) (v1 : Int) (v2 : Int) (v3 : Int) => zq6  N v0 v1 v2 v3 (fun y0 => K (.exit 0) (x26_0_0_k0  y0))) (intS (oneA (vT (nx tund s.tmps 0)))) (intS (oneA (vT (nx tund s.tmps 1)))) (intS (oneA (vT (nx tund s.tmps 5)))) (intS (oneA (vT (nx tund s.tmps 6))))) (none)
def LS26_0 (N : Nat) : LSpec β := VLS26_0 N (zj6 N)
def VE26 (N : Nat) (zq6 : Nat → Int → Int → Int → Int → (Int → O β) → O β) : Env β := ⟨[], [], [(0, VLS26_0 N zq6)], [], ⟨[], [], [], []⟩⟩
def E26 (N : Nat) : Env β := VE26 N (zj6 N)
def zb5 (N : Nat)  (v0 : Int) (v1 : Int) (v2 : Int) (v3 : Int) (rec_ : Int → Int → Int → Int → O β) (k0 : Int → O β) : O β :=
(gd ((decide (0 ≤ v0)))
((cond ((decide (v3 < (shlI .i64 1 v0))))
((gd ((decide (0 ≤ v1)))
((cond (((bits .and .i64 (shrI .i64 v3 v1) 1) == 1))
((gd ((decide (0 ≤ v3)))
(rec_ v0 v1 ((bits .or .i64 v2 (shlI .i64 1 v3))) ((w64 (v3 + 1))))))
(rec_ v0 v1 v2 ((w64 (v3 + 1))))))))
(k0 v2))))
theorem zt5 (N : Nat)  (v0 : Int) (v1 : Int) (v2 : Int) (v3 : Int) (rec_ : Int → Int → Int → Int → O β) (k0 : Int → O β) : zj5 N v0 v1 v2 v3 rec_ k0 = zb5 N v0 v1 v2 v3 rec_ k0 := by
  unfold zj5 zb5
  rfl
theorem vst26_0_0 (N : Nat) (zq6 : Nat → Int → Int → Int → Int → (Int → O β) → O β)  (v0 : Int) (v1 : Int) (v2 : Int) (v3 : Int) (rec_ : St → O β) (K : Exit → St → O β) :
    ev lay (VE26 N zq6) (retMask Tryd.f26) (lp Tryd.f26 0).body (lp Tryd.f26 0).ex ((lp Tryd.f26 0).lv (retMask Tryd.f26)) (h26_0_0  v0 v1 v2 v3) (nextR (fun s' => rec_ (s'.tidy ((lp Tryd.f26 0).lv (retMask Tryd.f26)))) K) = zb5 N  v0 v1 v2 v3 (fun v0 v1 v2 v3 => rec_ (h26_0_0  v0 v1 v2 v3)) (fun y0 => K (.exit 0) (x26_0_0_k0  y0)) := by kernel_rfl
theorem st26_0_0 (N : Nat)  (v0 : Int) (v1 : Int) (v2 : Int) (v3 : Int) (rec_ : St → O β) (K : Exit → St → O β) :
    ev lay (E26 N) (retMask Tryd.f26) (lp Tryd.f26 0).body (lp Tryd.f26 0).ex ((lp Tryd.f26 0).lv (retMask Tryd.f26)) (h26_0_0  v0 v1 v2 v3) (nextR (fun s' => rec_ (s'.tidy ((lp Tryd.f26 0).lv (retMask Tryd.f26)))) K) = zj5 N  v0 v1 v2 v3 (fun v0 v1 v2 v3 => rec_ (h26_0_0  v0 v1 v2 v3)) (fun y0 => K (.exit 0) (x26_0_0_k0  y0)) := (vst26_0_0 N (zj6 N) v0 v1 v2 v3 rec_ K).trans (zt5 N  v0 v1 v2 v3 (fun v0 v1 v2 v3 => rec_ (h26_0_0  v0 v1 v2 v3)) (fun y0 => K (.exit 0) (x26_0_0_k0  y0))).symm
theorem ro26_0_0 (N : Nat)  (K : Exit → St → O β) : ∀ (F : Nat) (v0 : Int) (v1 : Int) (v2 : Int) (v3 : Int), (lp Tryd.f26 0).rounds lay (E26 N) (retMask Tryd.f26) F (h26_0_0  v0 v1 v2 v3) K = zj6 N  F v0 v1 v2 v3 (fun y0 => K (.exit 0) (x26_0_0_k0  y0)) := by
  intro F
  induction F with
  | zero => intros; rfl
  | succ F ih =>
    intros
    rw [rounds_next]
    refine (st26_0_0 N  _ _ _ _ (fun s => (lp Tryd.f26 0).rounds lay (E26 N) (retMask Tryd.f26) F s K) K).trans ?_
    simp only [ih]
    rfl
theorem lk26_0 (N : Nat) : lookL (E26 (β := β) N).loops (lp Tryd.f26 0).id = LS26_0 N := by kernel_rfl
theorem rk26_0 (N : Nat) : RoundsOK lay (E26 (β := β) N) (retMask Tryd.f26) (lp Tryd.f26 0) := by
  intro s K r h
  rw [lk26_0] at h
  unfold LS26_0 VLS26_0 at h
  cases hb : shpSt (h26_0_0 0 0 0 0) s with
  | true =>
    rw [hb, cond_true] at h
    exact ⟨N, by rw [← shpSt_ref hb, fl26_0_0 s]; exact (ro26_0_0 N  K N (intS (oneA (vT (nx tund s.tmps 0)))) (intS (oneA (vT (nx tund s.tmps 1)))) (intS (oneA (vT (nx tund s.tmps 5)))) (intS (oneA (vT (nx tund s.tmps 6))))).trans h⟩
  | false =>
  rw [hb, cond_false] at h
  clear hb
  cases h
def zb7 (N : Nat) (zq6 : Nat → Int → Int → Int → Int → (Int → O β) → O β) (a0 : Int) (a1 : Int) (k : Int → O β) : O β :=
zq6  N a0 a1 0 0 (fun e3_0 =>
k e3_0)
theorem zt7 (N : Nat) (a0 : Int) (a1 : Int) (k : Int → O β) : zj7 N a0 a1 k = zb7 N (zj6 N) a0 a1 k := by
  unfold zj7 zb7
  rfl
theorem ve26_0 (N : Nat) (zq6 : Nat → Int → Int → Int → Int → (Int → O β) → O β)  (a0 : Int) (a1 : Int) (K : TV → O β) : evFn lay (VE26 N zq6) Tryd.f26 [.v (.one (.int .i64 a0)), .v (.one (.int .i64 a1))] K = zb7 N zq6 a0 a1 (fun z2 => K (.v (.one (.int .i64 z2)))) := by kernel_rfl
theorem e26_0 (N : Nat)  (a0 : Int) (a1 : Int) (K : TV → O β) : evFn lay (E26 N) Tryd.f26 [.v (.one (.int .i64 a0)), .v (.one (.int .i64 a1))] K = zj7 N a0 a1 (fun z2 => K (.v (.one (.int .i64 z2)))) := (ve26_0 N (zj6 N) a0 a1 K).trans (zt7 N a0 a1 (fun z2 => K (.v (.one (.int .i64 z2))))).symm
theorem o26 (N : Nat) : SpecOK (β := β) inv Tryd.prog 26 (S26 N) := by
  refine spec_of lay_ok mixed (E := E26 N) (specs_loops specs_nil) muts_nil gs_nil Tryd.func26 (by kernel_rfl) 1 (by kernel_rfl) ⟨trivial, rk26_0 N⟩ fun args K r h => ?_
  unfold S26 VS26 at h
  split at h
  · exact (e26_0 N _ _ _).trans h
  · cases h
def VS42 (N : Nat) (zq10 : (a0 : List Int) → (a1 : Int) → (k : Int → O β) → O β) : Rv.Spec β := fun args K => match args with
  | [.v (.one (.sl 3 (.ints .i64 a0))), .v (.one (.int .i64 a1))] => zq10 a0 a1 (fun z2 => K (.v (.one (.int .i64 z2))))
  | _ => none
def S42 (N : Nat) : Rv.Spec β := VS42 N (zj10 N)
def h42_0_0  (v0 : List Int) (v1 : Int) (v2 : Int) (v3 : Int) : St := ⟨.v (.one (.sl 3 (.ints .i64 v0))) :: .v (.one (.int .i64 v1)) :: tund :: tund :: tund :: tund :: tund :: .v (.one (.int .i64 v2)) :: .v (.one (.int .i64 v3)) :: tund :: tund :: tund :: tund :: tund :: tund :: tund :: tund :: tund :: tund :: [], []⟩
def x42_0_0_k0  (y0 : Int) : St := ⟨tund :: tund :: tund :: tund :: .v (.one (.int .i64 y0)) :: tund :: tund :: tund :: tund :: tund :: tund :: tund :: tund :: tund :: tund :: tund :: tund :: tund :: tund :: [], []⟩
def x42_0_0_k1   : St := ⟨tund :: tund :: tund :: tund :: tund :: tund :: tund :: tund :: tund :: tund :: tund :: tund :: tund :: tund :: tund :: tund :: tund :: tund :: tund :: [], []⟩
theorem fl42_0_0 (s : St) : refSt (h42_0_0 [] 0 0 0) s = h42_0_0 (rInts (rowV (oneA (vT (nx tund s.tmps 0))))) (intS (oneA (vT (nx tund s.tmps 1)))) (intS (oneA (vT (nx tund s.tmps 7)))) (intS (oneA (vT (nx tund s.tmps 8)))) := by kernel_rfl
def VLS42_0 (N : Nat) (zq9 : Nat → List Int → Int → Int → Int → (Int → O β) → (O β) → O β) : LSpec β := fun s K => cond (shpSt (h42_0_0 [] 0 0 0) s) ((fun (v0 : List Int) (v1 : Int) (v2 : Int) (v3 : Int) => zq9  N v0 v1 v2 v3 (fun y0 => K .ret (x42_0_0_k0  y0)) (K (.exit 0) (x42_0_0_k1  ))) (rInts (rowV (oneA (vT (nx tund s.tmps 0))))) (intS (oneA (vT (nx tund s.tmps 1)))) (intS (oneA (vT (nx tund s.tmps 7)))) (intS (oneA (vT (nx tund s.tmps 8))))) (none)
def LS42_0 (N : Nat) : LSpec β := VLS42_0 N (zj9 N)
def VE42 (N : Nat) (zq9 : Nat → List Int → Int → Int → Int → (Int → O β) → (O β) → O β) : Env β := ⟨[], [], [(0, VLS42_0 N zq9)], [], ⟨[], [], [], []⟩⟩
def E42 (N : Nat) : Env β := VE42 N (zj9 N)
def zb8 (N : Nat)  (v0 : List Int) (v1 : Int) (v2 : Int) (v3 : Int) (rec_ : List Int → Int → Int → Int → O β) (k0 : Int → O β) (k1 : O β) : O β :=
(cond ((decide (v3 < v2)))
((gd ((decide (0 ≤ v3)))
((gd ((decide (v3 < (v0.length : Int))))
((cond ((v1 == (rd 0 v0 v3)))
(k0 v3)
(rec_ v0 v1 v2 ((w64 (v3 + 1))))))))))
(k1 ))
theorem zt8 (N : Nat)  (v0 : List Int) (v1 : Int) (v2 : Int) (v3 : Int) (rec_ : List Int → Int → Int → Int → O β) (k0 : Int → O β) (k1 : O β) : zj8 N v0 v1 v2 v3 rec_ k0 k1 = zb8 N v0 v1 v2 v3 rec_ k0 k1 := by
  unfold zj8 zb8
  rfl
theorem vst42_0_0 (N : Nat) (zq9 : Nat → List Int → Int → Int → Int → (Int → O β) → (O β) → O β)  (v0 : List Int) (v1 : Int) (v2 : Int) (v3 : Int) (rec_ : St → O β) (K : Exit → St → O β) :
    ev lay (VE42 N zq9) (retMask Tryd.f42) (lp Tryd.f42 0).body (lp Tryd.f42 0).ex ((lp Tryd.f42 0).lv (retMask Tryd.f42)) (h42_0_0  v0 v1 v2 v3) (nextR (fun s' => rec_ (s'.tidy ((lp Tryd.f42 0).lv (retMask Tryd.f42)))) K) = zb8 N  v0 v1 v2 v3 (fun v0 v1 v2 v3 => rec_ (h42_0_0  v0 v1 v2 v3)) (fun y0 => K .ret (x42_0_0_k0  y0)) (K (.exit 0) (x42_0_0_k1  )) := by kernel_rfl
theorem st42_0_0 (N : Nat)  (v0 : List Int) (v1 : Int) (v2 : Int) (v3 : Int) (rec_ : St → O β) (K : Exit → St → O β) :
    ev lay (E42 N) (retMask Tryd.f42) (lp Tryd.f42 0).body (lp Tryd.f42 0).ex ((lp Tryd.f42 0).lv (retMask Tryd.f42)) (h42_0_0  v0 v1 v2 v3) (nextR (fun s' => rec_ (s'.tidy ((lp Tryd.f42 0).lv (retMask Tryd.f42)))) K) = zj8 N  v0 v1 v2 v3 (fun v0 v1 v2 v3 => rec_ (h42_0_0  v0 v1 v2 v3)) (fun y0 => K .ret (x42_0_0_k0  y0)) (K (.exit 0) (x42_0_0_k1  )) := (vst42_0_0 N (zj9 N) v0 v1 v2 v3 rec_ K).trans (zt8 N  v0 v1 v2 v3 (fun v0 v1 v2 v3 => rec_ (h42_0_0  v0 v1 v2 v3)) (fun y0 => K .ret (x42_0_0_k0  y0)) (K (.exit 0) (x42_0_0_k1  ))).symm
theorem ro42_0_0 (N : Nat)  (K : Exit → St → O β) : ∀ (F : Nat) (v0 : List Int) (v1 : Int) (v2 : Int) (v3 : Int), (lp Tryd.f42 0).rounds lay (E42 N) (retMask Tryd.f42) F (h42_0_0  v0 v1 v2 v3) K = zj9 N  F v0 v1 v2 v3 (fun y0 => K .ret (x42_0_0_k0  y0)) (K (.exit 0) (x42_0_0_k1  )) := by
  intro F
  induction F with
  | zero => intros; rfl
  | succ F ih =>
    intros
    rw [rounds_next]
    refine (st42_0_0 N  _ _ _ _ (fun s => (lp Tryd.f42 0).rounds lay (E42 N) (retMask Tryd.f42) F s K) K).trans ?_
    simp only [ih]
    rfl
theorem lk42_0 (N : Nat) : lookL (E42 (β := β) N).loops (lp Tryd.f42 0).id = LS42_0 N := by kernel_rfl
theorem rk42_0 (N : Nat) : RoundsOK lay (E42 (β := β) N) (retMask Tryd.f42) (lp Tryd.f42 0) := by
  intro s K r h
  rw [lk42_0] at h
  unfold LS42_0 VLS42_0 at h
  cases hb : shpSt (h42_0_0 [] 0 0 0) s with
  | true =>
    rw [hb, cond_true] at h
    exact ⟨N, by rw [← shpSt_ref hb, fl42_0_0 s]; exact (ro42_0_0 N  K N (rInts (rowV (oneA (vT (nx tund s.tmps 0))))) (intS (oneA (vT (nx tund s.tmps 1)))) (intS (oneA (vT (nx tund s.tmps 7)))) (intS (oneA (vT (nx tund s.tmps 8))))).trans h⟩
  | false =>
  rw [hb, cond_false] at h
  clear hb
  cases h
def zb10 (N : Nat) (zq9 : Nat → List Int → Int → Int → Int → (Int → O β) → (O β) → O β) (a0 : List Int) (a1 : Int) (k : Int → O β) : O β :=
zq9  N a0 a1 ((a0.length : Int)) 0 (fun e3_0 =>
k e3_0) (k (-1))
theorem zt10 (N : Nat) (a0 : List Int) (a1 : Int) (k : Int → O β) : zj10 N a0 a1 k = zb10 N (zj9 N) a0 a1 k := by
  unfold zj10 zb10
  rfl
theorem ve42_0 (N : Nat) (zq9 : Nat → List Int → Int → Int → Int → (Int → O β) → (O β) → O β)  (a0 : List Int) (a1 : Int) (K : TV → O β) : evFn lay (VE42 N zq9) Tryd.f42 [.v (.one (.sl 3 (.ints .i64 a0))), .v (.one (.int .i64 a1))] K = zb10 N zq9 a0 a1 (fun z2 => K (.v (.one (.int .i64 z2)))) := by kernel_rfl
theorem e42_0 (N : Nat)  (a0 : List Int) (a1 : Int) (K : TV → O β) : evFn lay (E42 N) Tryd.f42 [.v (.one (.sl 3 (.ints .i64 a0))), .v (.one (.int .i64 a1))] K = zj10 N a0 a1 (fun z2 => K (.v (.one (.int .i64 z2)))) := (ve42_0 N (zj9 N) a0 a1 K).trans (zt10 N a0 a1 (fun z2 => K (.v (.one (.int .i64 z2))))).symm
theorem o42 (N : Nat) : SpecOK (β := β) inv Tryd.prog 42 (S42 N) := by
  refine spec_of lay_ok mixed (E := E42 N) (specs_loops specs_nil) muts_nil gs_nil Tryd.func42 (by kernel_rfl) 1 (by kernel_rfl) ⟨trivial, rk42_0 N⟩ fun args K r h => ?_
  unfold S42 VS42 at h
  split at h
  · exact (e42_0 N _ _ _).trans h
  · cases h
def VS35 (N : Nat) (zq11 : (a0 : List Int) → (a1 : Int) → (k : Bool → O β) → O β) : Rv.Spec β := fun args K => match args with
  | [.v (.one (.sl 3 (.ints .i64 a0))), .v (.one (.int .i64 a1))] => zq11 a0 a1 (fun z2 => K (.v (.one (.bool z2))))
  | _ => none
def S35 (N : Nat) : Rv.Spec β := VS35 N (zj11 N)
def VE35 (N : Nat) (zq10 : (a0 : List Int) → (a1 : Int) → (k : Int → O β) → O β) : Env β := ⟨[(42, VS42 N zq10)], [], [], [], ⟨[], [], [], []⟩⟩
def E35 (N : Nat) : Env β := VE35 N (zj10 N)
def zb11 (N : Nat) (zq10 : (a0 : List Int) → (a1 : Int) → (k : Int → O β) → O β) (a0 : List Int) (a1 : Int) (k : Bool → O β) : O β :=
zq10 a0 a1 fun r3 =>
k ((decide (r3 ≥ 0)))
theorem zt11 (N : Nat) (a0 : List Int) (a1 : Int) (k : Bool → O β) : zj11 N a0 a1 k = zb11 N (zj10 N) a0 a1 k := by
  unfold zj11 zb11
  rfl
theorem ve35_0 (N : Nat) (zq10 : (a0 : List Int) → (a1 : Int) → (k : Int → O β) → O β)  (a0 : List Int) (a1 : Int) (K : TV → O β) : evFn lay (VE35 N zq10) Tryd.f35 [.v (.one (.sl 3 (.ints .i64 a0))), .v (.one (.int .i64 a1))] K = zb11 N zq10 a0 a1 (fun z2 => K (.v (.one (.bool z2)))) := by kernel_rfl
theorem e35_0 (N : Nat)  (a0 : List Int) (a1 : Int) (K : TV → O β) : evFn lay (E35 N) Tryd.f35 [.v (.one (.sl 3 (.ints .i64 a0))), .v (.one (.int .i64 a1))] K = zj11 N a0 a1 (fun z2 => K (.v (.one (.bool z2)))) := (ve35_0 N (zj10 N) a0 a1 K).trans (zt11 N a0 a1 (fun z2 => K (.v (.one (.bool z2))))).symm
theorem o35 (N : Nat) : SpecOK (β := β) inv Tryd.prog 35 (S35 N) := by
  refine spec_of lay_ok mixed (E := E35 N) (specs_loops (specs_cons (o42 N) specs_nil)) muts_nil gs_nil Tryd.func35 (by kernel_rfl) 0 (by kernel_rfl) trivial fun args K r h => ?_
  unfold S35 VS35 at h
  split at h
  · exact (e35_0 N _ _ _).trans h
  · cases h
end Go.Proofs.YtmhlcbibbhelkaaDoor
