/- The functions that the claims reach answer as their texts do. -/
import Derived.Test.YtignjkbhdaiegaaGreatDoorT0
import Derived.Test.YtignjkbhdaiegaaGreatDoorProg
import Derived.KernelRfl
import Derived.Test.YtignjkbhdaiegaaGreatDoorShelf
namespace Go.Proofs.YtignjkbhdaiegaaGreatDoor
open Go.Rv
set_option maxRecDepth 100000
set_option maxHeartbeats 2000000
set_option linter.unusedVariables false
def lay : Lay := [(2, .int .i64),
  (3, .int .i64),
  (4, .bool),
  (5, .int .u8),
  (9, .string),
  (12, .int .u64),
  (21, .int .i32),
  (22, .struct [⟨0, 1, false⟩, ⟨1, 1, false⟩] [3, 3] 16 true),
  (23, .struct [⟨0, 1, false⟩, ⟨1, 1, false⟩] [3, 3] 16 true),
  (25, .struct [⟨0, 1, false⟩, ⟨1, 1, false⟩] [3, 3] 16 true),
  (30, .slice 9),
  (37, .struct [⟨0, 1, false⟩] [30] 24 false),
  (38, .struct [⟨0, 1, false⟩] [30] 24 false),
  (46, .slice 3),
  (52, .int .u64),
  (53, .slice 5),
  (58, .pointer 38),
  (59, .pointer 91),
  (62, .struct [⟨0, 1, false⟩, ⟨1, 1, false⟩] [3, 3] 16 true),
  (63, .struct [⟨0, 1, false⟩, ⟨1, 1, false⟩] [3, 3] 16 true),
  (78, .map 3 4),
  (89, .map 63 3),
  (90, .struct [⟨0, 2, true⟩, ⟨2, 1, false⟩, ⟨3, 1, false⟩] [3, 3, 89, 89] 32 false),
  (91, .struct [⟨0, 2, true⟩, ⟨2, 1, false⟩, ⟨3, 1, false⟩] [3, 3, 89, 89] 32 false),
  (94, .pointer 96),
  (95, .struct [⟨0, 1, false⟩, ⟨1, 1, false⟩] [94, 53] 32 false),
  (96, .struct [⟨0, 1, false⟩, ⟨1, 1, false⟩] [94, 53] 32 false),
  (102, .slice 46),
  (109, .int .u64),
  (122, .slice 144),
  (136, .array 2 4),
  (137, .pointer 5),
  (139, .slice 4),
  (143, .struct [⟨0, 1, false⟩, ⟨1, 1, false⟩] [3, 3] 16 true),
  (144, .struct [⟨0, 1, false⟩, ⟨1, 1, false⟩] [3, 3] 16 true),
  (160, .pointer 209),
  (163, .pointer 195),
  (177, .int .u32),
  (194, .struct [⟨0, 1, false⟩, ⟨1, 1, false⟩, ⟨2, 1, false⟩] [5, 163, 163] 24 false),
  (195, .struct [⟨0, 1, false⟩, ⟨1, 1, false⟩, ⟨2, 1, false⟩] [5, 163, 163] 24 false),
  (208, .struct [⟨0, 1, false⟩, ⟨1, 1, false⟩, ⟨2, 1, false⟩] [5, 160, 160] 24 false),
  (209, .struct [⟨0, 1, false⟩, ⟨1, 1, false⟩, ⟨2, 1, false⟩] [5, 160, 160] 24 false),
  (218, .struct [⟨0, 1, false⟩, ⟨1, 1, false⟩] [5, 5] 2 true),
  (219, .struct [⟨0, 1, false⟩, ⟨1, 1, false⟩] [5, 5] 2 true)]

theorem lay_ok : LayOK Tryz.prog lay := layOK_of (by decide +kernel)
theorem mixed : Tryz.prog.follows .mixedOrders = true := by kernel_rfl
def inv : World → Prop := tabInv Tryz.prog
def S75 {β : Type} (N : Nat) : Rv.Spec β := itoaSpec N
theorem o75 {β : Type} (N : Nat) : SpecOK (β := β) inv Tryz.prog 75 (S75 N) := itoa_ok Tryz.func75 (by kernel_rfl) Tryz.strconv_Itoa N
def S87 {β : Type} (N : Nat) : Rv.Spec β := joinSpec N
theorem o87 {β : Type} (N : Nat) : SpecOK (β := β) inv Tryz.prog 87 (S87 N) := join_ok Tryz.func87 (by kernel_rfl) Tryz.strings_Join_none Tryz.strings_Join N
def VS7 {β : Type} (N : Nat) (jq0 : (a0 : Int) → (a1 : Int) → (k : Int → Int → Option β) → Option β) : Rv.Spec β := fun args K => match args with
  | [.v (.agg [.int .i64 a0, .int .i64 a1])] => jq0 a0 a1 (fun z2 z3 => K (.v (.agg [.int .i64 z2, .int .i64 z3])))
  | _ => none
def S7 {β : Type} (N : Nat) : Rv.Spec β := VS7 N (j0 N)
def VE7 {β : Type} (N : Nat) : Env β := ⟨[], [], [], [], ⟨[], [], []⟩⟩
def E7 {β : Type} (N : Nat) : Env β := VE7 N
def jb0 {β : Type} (N : Nat) (a0 : Int) (a1 : Int) (k : Int → Int → Option β) : Option β :=
k a0 a1
theorem jt0 {β : Type} (N : Nat) (a0 : Int) (a1 : Int) (k : Int → Int → Option β) : j0 N a0 a1 k = jb0 N a0 a1 k := by
  unfold j0 jb0
  rfl
theorem ve7_0 {β : Type} (N : Nat)  (a0 : Int) (a1 : Int) (K : TV → Option β) : evFn lay (VE7 N) Tryz.f7 [.v (.agg [.int .i64 a0, .int .i64 a1])] K = jb0 N a0 a1 (fun z2 z3 => K (.v (.agg [.int .i64 z2, .int .i64 z3]))) := by kernel_rfl
theorem e7_0 {β : Type} (N : Nat)  (a0 : Int) (a1 : Int) (K : TV → Option β) : evFn lay (E7 N) Tryz.f7 [.v (.agg [.int .i64 a0, .int .i64 a1])] K = j0 N a0 a1 (fun z2 z3 => K (.v (.agg [.int .i64 z2, .int .i64 z3]))) := (ve7_0 N a0 a1 K).trans (jt0 N a0 a1 (fun z2 z3 => K (.v (.agg [.int .i64 z2, .int .i64 z3])))).symm
theorem o7 {β : Type} (N : Nat) : SpecOK (β := β) inv Tryz.prog 7 (S7 N) := by
  refine spec_of lay_ok mixed (E := E7 N) (specs_loops specs_nil) muts_nil gs_nil Tryz.func7 (by kernel_rfl) 0 (by kernel_rfl) trivial fun args K r h => ?_
  unfold S7 VS7 at h
  split at h
  · exact (e7_0 N _ _ _).trans h
  · cases h
def VS62 {β : Type} (N : Nat) (jq1 : (a0 : Int) → (a1 : Int) → (a2 : Int) → (k : Bool → Option β) → Option β) : Rv.Spec β := fun args K => match args with
  | [.v (.one (.int .i64 a0)), .v (.one (.int .i64 a1)), .v (.one (.int .i64 a2))] => jq1 a0 a1 a2 (fun z3 => K (.v (.one (.bool z3))))
  | _ => none
def S62 {β : Type} (N : Nat) : Rv.Spec β := VS62 N (j1 N)
def VE62 {β : Type} (N : Nat) : Env β := ⟨[], [], [], [], ⟨[], [], []⟩⟩
def E62 {β : Type} (N : Nat) : Env β := VE62 N
def jb1 {β : Type} (N : Nat) (a0 : Int) (a1 : Int) (a2 : Int) (k : Bool → Option β) : Option β :=
(cond ((decide (a0 ≥ a1)))
(k ((decide (a0 ≤ a2))))
(k false))
theorem jt1 {β : Type} (N : Nat) (a0 : Int) (a1 : Int) (a2 : Int) (k : Bool → Option β) : j1 N a0 a1 a2 k = jb1 N a0 a1 a2 k := by
  unfold j1 jb1
  rfl
theorem ve62_0 {β : Type} (N : Nat)  (a0 : Int) (a1 : Int) (a2 : Int) (K : TV → Option β) : evFn lay (VE62 N) Tryz.f62 [.v (.one (.int .i64 a0)), .v (.one (.int .i64 a1)), .v (.one (.int .i64 a2))] K = jb1 N a0 a1 a2 (fun z3 => K (.v (.one (.bool z3)))) := by kernel_rfl
theorem e62_0 {β : Type} (N : Nat)  (a0 : Int) (a1 : Int) (a2 : Int) (K : TV → Option β) : evFn lay (E62 N) Tryz.f62 [.v (.one (.int .i64 a0)), .v (.one (.int .i64 a1)), .v (.one (.int .i64 a2))] K = j1 N a0 a1 a2 (fun z3 => K (.v (.one (.bool z3)))) := (ve62_0 N a0 a1 a2 K).trans (jt1 N a0 a1 a2 (fun z3 => K (.v (.one (.bool z3))))).symm
theorem o62 {β : Type} (N : Nat) : SpecOK (β := β) inv Tryz.prog 62 (S62 N) := by
  refine spec_of lay_ok mixed (E := E62 N) (specs_loops specs_nil) muts_nil gs_nil Tryz.func62 (by kernel_rfl) 0 (by kernel_rfl) trivial fun args K r h => ?_
  unfold S62 VS62 at h
  split at h
  · exact (e62_0 N _ _ _ _).trans h
  · cases h
def VS13 {β : Type} (N : Nat) (jq2 : (a0 : Int) → (a1 : Int) → (k : Bool → Option β) → Option β) : Rv.Spec β := fun args K => match args with
  | [.v (.agg [.int .i64 a0, .int .i64 a1])] => jq2 a0 a1 (fun z2 => K (.v (.one (.bool z2))))
  | _ => none
def S13 {β : Type} (N : Nat) : Rv.Spec β := VS13 N (j2 N)
def VE13 {β : Type} (N : Nat) (jq1 : (a0 : Int) → (a1 : Int) → (a2 : Int) → (k : Bool → Option β) → Option β) : Env β := ⟨[(62, VS62 N jq1)], [], [], [], ⟨[], [], []⟩⟩
def E13 {β : Type} (N : Nat) : Env β := VE13 N (j1 N)
def jb2 {β : Type} (N : Nat) (jq1 : (a0 : Int) → (a1 : Int) → (a2 : Int) → (k : Bool → Option β) → Option β) (a0 : Int) (a1 : Int) (k : Bool → Option β) : Option β :=
jq1 a0 0 5 fun r3 =>
(cond r3
((gd ((decide (0 ≤ a0)))
((gd ((decide (0 ≤ (shlI .u64 1 a0))))
(jq1 a1 0 ((w64 ((shlI .i64 1 (shlI .u64 1 a0)) - 1))) fun r4 =>
k r4)))))
(k false))
theorem jt2 {β : Type} (N : Nat) (a0 : Int) (a1 : Int) (k : Bool → Option β) : j2 N a0 a1 k = jb2 N (j1 N) a0 a1 k := by
  unfold j2 jb2
  rfl
theorem ve13_0 {β : Type} (N : Nat) (jq1 : (a0 : Int) → (a1 : Int) → (a2 : Int) → (k : Bool → Option β) → Option β)  (a0 : Int) (a1 : Int) (K : TV → Option β) : evFn lay (VE13 N jq1) Tryz.f13 [.v (.agg [.int .i64 a0, .int .i64 a1])] K = jb2 N jq1 a0 a1 (fun z2 => K (.v (.one (.bool z2)))) := by kernel_rfl
theorem e13_0 {β : Type} (N : Nat)  (a0 : Int) (a1 : Int) (K : TV → Option β) : evFn lay (E13 N) Tryz.f13 [.v (.agg [.int .i64 a0, .int .i64 a1])] K = j2 N a0 a1 (fun z2 => K (.v (.one (.bool z2)))) := (ve13_0 N (j1 N) a0 a1 K).trans (jt2 N a0 a1 (fun z2 => K (.v (.one (.bool z2))))).symm
theorem o13 {β : Type} (N : Nat) : SpecOK (β := β) inv Tryz.prog 13 (S13 N) := by
  refine spec_of lay_ok mixed (E := E13 N) (specs_loops (specs_cons (o62 N) specs_nil)) muts_nil gs_nil Tryz.func13 (by kernel_rfl) 0 (by kernel_rfl) trivial fun args K r h => ?_
  unfold S13 VS13 at h
  split at h
  · exact (e13_0 N _ _ _).trans h
  · cases h
def VS14 {β : Type} (N : Nat) (jq3 : (k : List ByteArray → Option β) → Option β) : Rv.Spec β := fun args K => match args with
  | [] => jq3  (fun z0 => K (.v (.one (.sl 9 (.strs z0)))))
  | _ => none
def S14 {β : Type} (N : Nat) : Rv.Spec β := VS14 N (j3 N)
def VE14 {β : Type} (N : Nat) : Env β := ⟨[], [], [], [], ⟨[], [], []⟩⟩
def E14 {β : Type} (N : Nat) : Env β := VE14 N
def jb3 {β : Type} (N : Nat)  (k : List ByteArray → Option β) : Option β :=
k (((((((((([] : List ByteArray) ++ [(strOf [115, 101, 110, 115, 105, 116, 105, 118, 105, 116, 121])]) ++ [(strOf [98, 108, 111, 99, 107, 115])]) ++ [(strOf [99, 101, 114, 116, 105, 102, 105, 99, 97, 116, 101])]) ++ [(strOf [100, 101, 112, 116, 104])]) ++ [(strOf [100, 101, 103, 114, 101, 101])]) ++ [(strOf [100, 101, 103, 114, 101, 101, 50])]) ++ [(strOf [111, 110, 101, 115])]) ++ [(strOf [105, 110, 102, 108, 117, 101, 110, 99, 101])]))
theorem jt3 {β : Type} (N : Nat)  (k : List ByteArray → Option β) : j3 N k = jb3 N k := by
  unfold j3 jb3
  rfl
theorem ve14_0 {β : Type} (N : Nat)   (K : TV → Option β) : evFn lay (VE14 N) Tryz.f14 [] K = jb3 N  (fun z0 => K (.v (.one (.sl 9 (.strs z0))))) := by kernel_rfl
theorem e14_0 {β : Type} (N : Nat)   (K : TV → Option β) : evFn lay (E14 N) Tryz.f14 [] K = j3 N  (fun z0 => K (.v (.one (.sl 9 (.strs z0))))) := (ve14_0 N K).trans (jt3 N  (fun z0 => K (.v (.one (.sl 9 (.strs z0)))))).symm
theorem o14 {β : Type} (N : Nat) : SpecOK (β := β) inv Tryz.prog 14 (S14 N) := by
  refine spec_of lay_ok mixed (E := E14 N) (specs_loops specs_nil) muts_nil gs_nil Tryz.func14 (by kernel_rfl) 0 (by kernel_rfl) trivial fun args K r h => ?_
  unfold S14 VS14 at h
  split at h
  · exact (e14_0 N  _).trans h
  · cases h
def VS122 {β : Type} (N : Nat) (jq6 : (a0 : Int) → (a1 : Int) → (a2 : Int) → (k : Int → Option β) → Option β) : Rv.Spec β := fun args K => match args with
  | [.v (.agg [.int .i64 a0, .int .i64 a1]), .v (.one (.int .i64 a2))] => jq6 a0 a1 a2 (fun z3 => K (.v (.one (.int .i64 z3))))
  | _ => none
def S122 {β : Type} (N : Nat) : Rv.Spec β := VS122 N (j6 N)
def h122_0_0  (v0 : Int) (v1 : Int) (v2 : Int) (v3 : Int) (v4 : Int) : St := ⟨tund :: .v (.one (.int .i64 v0)) :: .v (.one (.ptr 0 0)) :: tund :: tund :: .v (.one (.int .i64 v1)) :: .v (.one (.int .i64 v2)) :: tund :: tund :: tund :: tund :: tund :: tund :: tund :: tund :: tund :: tund :: tund :: tund :: tund :: tund :: tund :: tund :: tund :: tund :: tund :: tund :: tund :: tund :: [], [.cells 25 [.int .i64 v3, .int .i64 v4]]⟩
def x122_0_0_k0  (y0 : Int) : St := ⟨tund :: tund :: tund :: tund :: tund :: .v (.one (.int .i64 y0)) :: tund :: tund :: tund :: tund :: tund :: tund :: tund :: tund :: tund :: tund :: tund :: tund :: tund :: tund :: tund :: tund :: tund :: tund :: tund :: tund :: tund :: tund :: tund :: [], []⟩
theorem fl122_0_0 (s : St) : refSt (h122_0_0 0 0 0 0 0) s = h122_0_0 (intS (oneA (vT (nx tund s.tmps 1)))) (intS (oneA (vT (nx tund s.tmps 5)))) (intS (oneA (vT (nx tund s.tmps 6)))) (intS (nx .und (cellsB (nx .dead s.blks 0)) 0)) (intS (nx .und (cellsB (nx .dead s.blks 0)) 1)) := by kernel_rfl
def VLS122_0 {β : Type} (N : Nat) (jq5 : Nat → Int → Int → Int → Int → Int → (Int → Option β) → Option β) : LSpec β := fun s K => cond (shpSt (h122_0_0 0 0 0 0 0) s) ((fun (v0 : Int) (v1 : Int) (v2 : Int) (v3 : Int) (v4 : Int) => jq5  N v0 v1 v2 v3 v4 (fun y0 => K (.exit 0) (x122_0_0_k0  y0))) (intS (oneA (vT (nx tund s.tmps 1)))) (intS (oneA (vT (nx tund s.tmps 5)))) (intS (oneA (vT (nx tund s.tmps 6)))) (intS (nx .und (cellsB (nx .dead s.blks 0)) 0)) (intS (nx .und (cellsB (nx .dead s.blks 0)) 1))) (none)
def LS122_0 {β : Type} (N : Nat) : LSpec β := VLS122_0 N (j5 N)
def VE122 {β : Type} (N : Nat) (jq5 : Nat → Int → Int → Int → Int → Int → (Int → Option β) → Option β) : Env β := ⟨[], [], [(0, VLS122_0 N jq5)], [], ⟨[], [], []⟩⟩
def E122 {β : Type} (N : Nat) : Env β := VE122 N (j5 N)
def jb4 {β : Type} (N : Nat)  (v0 : Int) (v1 : Int) (v2 : Int) (v3 : Int) (v4 : Int) (rec_ : Int → Int → Int → Int → Int → Option β) (k0 : Int → Option β) : Option β :=
(cond ((decide (v2 < v3)))
((gd ((decide (0 ≤ v0)))
((gd ((decide (0 ≤ v2)))
((gd ((decide (0 ≤ (bits .xor .i64 v0 (shlI .i64 1 v2)))))
(rec_ v0 ((w64 (v1 + (bits .and .i64 (bits .xor .i64 (shrI .i64 v4 v0) (shrI .i64 v4 (bits .xor .i64 v0 (shlI .i64 1 v2)))) 1)))) ((w64 (v2 + 1))) v3 v4)))))))
(k0 v1))
theorem jt4 {β : Type} (N : Nat)  (v0 : Int) (v1 : Int) (v2 : Int) (v3 : Int) (v4 : Int) (rec_ : Int → Int → Int → Int → Int → Option β) (k0 : Int → Option β) : j4 N v0 v1 v2 v3 v4 rec_ k0 = jb4 N v0 v1 v2 v3 v4 rec_ k0 := by
  unfold j4 jb4
  rfl
theorem vst122_0_0 {β : Type} (N : Nat) (jq5 : Nat → Int → Int → Int → Int → Int → (Int → Option β) → Option β)  (v0 : Int) (v1 : Int) (v2 : Int) (v3 : Int) (v4 : Int) (rec_ : St → Option β) (K : Exit → St → Option β) :
    ev lay (VE122 N jq5) (retMask Tryz.f122) (lp Tryz.f122 0).body (lp Tryz.f122 0).ex ((lp Tryz.f122 0).lv (retMask Tryz.f122)) (h122_0_0  v0 v1 v2 v3 v4) (nextR (fun s' => rec_ (s'.tidy ((lp Tryz.f122 0).lv (retMask Tryz.f122)))) K) = jb4 N  v0 v1 v2 v3 v4 (fun v0 v1 v2 v3 v4 => rec_ (h122_0_0  v0 v1 v2 v3 v4)) (fun y0 => K (.exit 0) (x122_0_0_k0  y0)) := by kernel_rfl
theorem st122_0_0 {β : Type} (N : Nat)  (v0 : Int) (v1 : Int) (v2 : Int) (v3 : Int) (v4 : Int) (rec_ : St → Option β) (K : Exit → St → Option β) :
    ev lay (E122 N) (retMask Tryz.f122) (lp Tryz.f122 0).body (lp Tryz.f122 0).ex ((lp Tryz.f122 0).lv (retMask Tryz.f122)) (h122_0_0  v0 v1 v2 v3 v4) (nextR (fun s' => rec_ (s'.tidy ((lp Tryz.f122 0).lv (retMask Tryz.f122)))) K) = j4 N  v0 v1 v2 v3 v4 (fun v0 v1 v2 v3 v4 => rec_ (h122_0_0  v0 v1 v2 v3 v4)) (fun y0 => K (.exit 0) (x122_0_0_k0  y0)) := (vst122_0_0 N (j5 N) v0 v1 v2 v3 v4 rec_ K).trans (jt4 N  v0 v1 v2 v3 v4 (fun v0 v1 v2 v3 v4 => rec_ (h122_0_0  v0 v1 v2 v3 v4)) (fun y0 => K (.exit 0) (x122_0_0_k0  y0))).symm
theorem ro122_0_0 {β : Type} (N : Nat)  (K : Exit → St → Option β) : ∀ (F : Nat) (v0 : Int) (v1 : Int) (v2 : Int) (v3 : Int) (v4 : Int), (lp Tryz.f122 0).rounds lay (E122 N) (retMask Tryz.f122) F (h122_0_0  v0 v1 v2 v3 v4) K = j5 N  F v0 v1 v2 v3 v4 (fun y0 => K (.exit 0) (x122_0_0_k0  y0)) := by
  intro F
  induction F with
  | zero => intros; rfl
  | succ F ih =>
    intros
    rw [rounds_next]
    refine (st122_0_0 N  _ _ _ _ _ (fun s => (lp Tryz.f122 0).rounds lay (E122 N) (retMask Tryz.f122) F s K) K).trans ?_
    simp only [ih]
    rfl
theorem lk122_0 {β : Type} (N : Nat) : lookL (E122 (β := β) N).loops (lp Tryz.f122 0).id = LS122_0 N := by kernel_rfl
theorem rk122_0 {β : Type} (N : Nat) : RoundsOK lay (E122 (β := β) N) (retMask Tryz.f122) (lp Tryz.f122 0) := by
  intro s K r h
  rw [lk122_0] at h
  unfold LS122_0 VLS122_0 at h
  cases hb : shpSt (h122_0_0 0 0 0 0 0) s with
  | true =>
    rw [hb, cond_true] at h
    exact ⟨N, by rw [← shpSt_ref hb, fl122_0_0 s]; exact (ro122_0_0 N  K N (intS (oneA (vT (nx tund s.tmps 1)))) (intS (oneA (vT (nx tund s.tmps 5)))) (intS (oneA (vT (nx tund s.tmps 6)))) (intS (nx .und (cellsB (nx .dead s.blks 0)) 0)) (intS (nx .und (cellsB (nx .dead s.blks 0)) 1))).trans h⟩
  | false =>
  rw [hb, cond_false] at h
  clear hb
  cases h
def jb6 {β : Type} (N : Nat) (jq5 : Nat → Int → Int → Int → Int → Int → (Int → Option β) → Option β) (a0 : Int) (a1 : Int) (a2 : Int) (k : Int → Option β) : Option β :=
jq5  N a2 0 0 a0 a1 (fun e4_0 =>
k e4_0)
theorem jt6 {β : Type} (N : Nat) (a0 : Int) (a1 : Int) (a2 : Int) (k : Int → Option β) : j6 N a0 a1 a2 k = jb6 N (j5 N) a0 a1 a2 k := by
  unfold j6 jb6
  rfl
theorem ve122_0 {β : Type} (N : Nat) (jq5 : Nat → Int → Int → Int → Int → Int → (Int → Option β) → Option β)  (a0 : Int) (a1 : Int) (a2 : Int) (K : TV → Option β) : evFn lay (VE122 N jq5) Tryz.f122 [.v (.agg [.int .i64 a0, .int .i64 a1]), .v (.one (.int .i64 a2))] K = jb6 N jq5 a0 a1 a2 (fun z3 => K (.v (.one (.int .i64 z3)))) := by kernel_rfl
theorem e122_0 {β : Type} (N : Nat)  (a0 : Int) (a1 : Int) (a2 : Int) (K : TV → Option β) : evFn lay (E122 N) Tryz.f122 [.v (.agg [.int .i64 a0, .int .i64 a1]), .v (.one (.int .i64 a2))] K = j6 N a0 a1 a2 (fun z3 => K (.v (.one (.int .i64 z3)))) := (ve122_0 N (j5 N) a0 a1 a2 K).trans (jt6 N a0 a1 a2 (fun z3 => K (.v (.one (.int .i64 z3))))).symm
theorem o122 {β : Type} (N : Nat) : SpecOK (β := β) inv Tryz.prog 122 (S122 N) := by
  refine spec_of lay_ok mixed (E := E122 N) (specs_loops specs_nil) muts_nil gs_nil Tryz.func122 (by kernel_rfl) 1 (by kernel_rfl) ⟨trivial, rk122_0 N⟩ fun args K r h => ?_
  unfold S122 VS122 at h
  split at h
  · exact (e122_0 N _ _ _ _).trans h
  · cases h
def VS63 {β : Type} (N : Nat) (jq9 : (a0 : Int) → (a1 : Int) → (k : Int → Option β) → Option β) : Rv.Spec β := fun args K => match args with
  | [.v (.agg [.int .i64 a0, .int .i64 a1])] => jq9 a0 a1 (fun z2 => K (.v (.one (.int .i64 z2))))
  | _ => none
def S63 {β : Type} (N : Nat) : Rv.Spec β := VS63 N (j9 N)
def h63_0_0  (v0 : Int) (v1 : Int) (v2 : Int) (v3 : Int) : St := ⟨tund :: .v (.one (.ptr 0 0)) :: tund :: .v (.one (.int .i64 v0)) :: .v (.one (.int .i64 v1)) :: tund :: tund :: tund :: tund :: tund :: tund :: tund :: tund :: tund :: tund :: tund :: tund :: tund :: tund :: tund :: tund :: [], [.cells 25 [.int .i64 v2, .int .i64 v3]]⟩
def x63_0_0_k0  (y0 : Int) : St := ⟨tund :: tund :: tund :: .v (.one (.int .i64 y0)) :: tund :: tund :: tund :: tund :: tund :: tund :: tund :: tund :: tund :: tund :: tund :: tund :: tund :: tund :: tund :: tund :: tund :: [], []⟩
theorem fl63_0_0 (s : St) : refSt (h63_0_0 0 0 0 0) s = h63_0_0 (intS (oneA (vT (nx tund s.tmps 3)))) (intS (oneA (vT (nx tund s.tmps 4)))) (intS (nx .und (cellsB (nx .dead s.blks 0)) 0)) (intS (nx .und (cellsB (nx .dead s.blks 0)) 1)) := by kernel_rfl
def VLS63_0 {β : Type} (N : Nat) (jq8 : Nat → Int → Int → Int → Int → (Int → Option β) → Option β) : LSpec β := fun s K => cond (shpSt (h63_0_0 0 0 0 0) s) ((fun (v0 : Int) (v1 : Int) (v2 : Int) (v3 : Int) => jq8  N v0 v1 v2 v3 (fun y0 => K (.exit 0) (x63_0_0_k0  y0))) (intS (oneA (vT (nx tund s.tmps 3)))) (intS (oneA (vT (nx tund s.tmps 4)))) (intS (nx .und (cellsB (nx .dead s.blks 0)) 0)) (intS (nx .und (cellsB (nx .dead s.blks 0)) 1))) (none)
def LS63_0 {β : Type} (N : Nat) : LSpec β := VLS63_0 N (j8 N)
def VE63 {β : Type} (N : Nat) (jq2 : (a0 : Int) → (a1 : Int) → (k : Bool → Option β) → Option β) (jq6 : (a0 : Int) → (a1 : Int) → (a2 : Int) → (k : Int → Option β) → Option β) (jq8 : Nat → Int → Int → Int → Int → (Int → Option β) → Option β) : Env β := ⟨[(13, VS13 N jq2), (122, VS122 N jq6)], [], [(0, VLS63_0 N jq8)], [], ⟨[], [], []⟩⟩
def E63 {β : Type} (N : Nat) : Env β := VE63 N (j2 N) (j6 N) (j8 N)
def jb7 {β : Type} (N : Nat) (jq6 : (a0 : Int) → (a1 : Int) → (a2 : Int) → (k : Int → Option β) → Option β)  (v0 : Int) (v1 : Int) (v2 : Int) (v3 : Int) (rec_ : Int → Int → Int → Int → Option β) (k0 : Int → Option β) : Option β :=
(gd ((decide (0 ≤ v2)))
((cond ((decide (v1 < (shlI .i64 1 v2))))
(jq6 v2 v3 v1 fun r4 =>
rec_ ((mxI v0 r4)) ((w64 (v1 + 1))) v2 v3)
(k0 v0))))
theorem jt7 {β : Type} (N : Nat)  (v0 : Int) (v1 : Int) (v2 : Int) (v3 : Int) (rec_ : Int → Int → Int → Int → Option β) (k0 : Int → Option β) : j7 N v0 v1 v2 v3 rec_ k0 = jb7 N (j6 N) v0 v1 v2 v3 rec_ k0 := by
  unfold j7 jb7
  rfl
theorem vst63_0_0 {β : Type} (N : Nat) (jq2 : (a0 : Int) → (a1 : Int) → (k : Bool → Option β) → Option β) (jq6 : (a0 : Int) → (a1 : Int) → (a2 : Int) → (k : Int → Option β) → Option β) (jq8 : Nat → Int → Int → Int → Int → (Int → Option β) → Option β)  (v0 : Int) (v1 : Int) (v2 : Int) (v3 : Int) (rec_ : St → Option β) (K : Exit → St → Option β) :
    ev lay (VE63 N jq2 jq6 jq8) (retMask Tryz.f63) (lp Tryz.f63 0).body (lp Tryz.f63 0).ex ((lp Tryz.f63 0).lv (retMask Tryz.f63)) (h63_0_0  v0 v1 v2 v3) (nextR (fun s' => rec_ (s'.tidy ((lp Tryz.f63 0).lv (retMask Tryz.f63)))) K) = jb7 N jq6  v0 v1 v2 v3 (fun v0 v1 v2 v3 => rec_ (h63_0_0  v0 v1 v2 v3)) (fun y0 => K (.exit 0) (x63_0_0_k0  y0)) := by kernel_rfl
theorem st63_0_0 {β : Type} (N : Nat)  (v0 : Int) (v1 : Int) (v2 : Int) (v3 : Int) (rec_ : St → Option β) (K : Exit → St → Option β) :
    ev lay (E63 N) (retMask Tryz.f63) (lp Tryz.f63 0).body (lp Tryz.f63 0).ex ((lp Tryz.f63 0).lv (retMask Tryz.f63)) (h63_0_0  v0 v1 v2 v3) (nextR (fun s' => rec_ (s'.tidy ((lp Tryz.f63 0).lv (retMask Tryz.f63)))) K) = j7 N  v0 v1 v2 v3 (fun v0 v1 v2 v3 => rec_ (h63_0_0  v0 v1 v2 v3)) (fun y0 => K (.exit 0) (x63_0_0_k0  y0)) := (vst63_0_0 N (j2 N) (j6 N) (j8 N) v0 v1 v2 v3 rec_ K).trans (jt7 N  v0 v1 v2 v3 (fun v0 v1 v2 v3 => rec_ (h63_0_0  v0 v1 v2 v3)) (fun y0 => K (.exit 0) (x63_0_0_k0  y0))).symm
theorem ro63_0_0 {β : Type} (N : Nat)  (K : Exit → St → Option β) : ∀ (F : Nat) (v0 : Int) (v1 : Int) (v2 : Int) (v3 : Int), (lp Tryz.f63 0).rounds lay (E63 N) (retMask Tryz.f63) F (h63_0_0  v0 v1 v2 v3) K = j8 N  F v0 v1 v2 v3 (fun y0 => K (.exit 0) (x63_0_0_k0  y0)) := by
  intro F
  induction F with
  | zero => intros; rfl
  | succ F ih =>
    intros
    rw [rounds_next]
    refine (st63_0_0 N  _ _ _ _ (fun s => (lp Tryz.f63 0).rounds lay (E63 N) (retMask Tryz.f63) F s K) K).trans ?_
    simp only [ih]
    rfl
theorem lk63_0 {β : Type} (N : Nat) : lookL (E63 (β := β) N).loops (lp Tryz.f63 0).id = LS63_0 N := by kernel_rfl
theorem rk63_0 {β : Type} (N : Nat) : RoundsOK lay (E63 (β := β) N) (retMask Tryz.f63) (lp Tryz.f63 0) := by
  intro s K r h
  rw [lk63_0] at h
  unfold LS63_0 VLS63_0 at h
  cases hb : shpSt (h63_0_0 0 0 0 0) s with
  | true =>
    rw [hb, cond_true] at h
    exact ⟨N, by rw [← shpSt_ref hb, fl63_0_0 s]; exact (ro63_0_0 N  K N (intS (oneA (vT (nx tund s.tmps 3)))) (intS (oneA (vT (nx tund s.tmps 4)))) (intS (nx .und (cellsB (nx .dead s.blks 0)) 0)) (intS (nx .und (cellsB (nx .dead s.blks 0)) 1))).trans h⟩
  | false =>
  rw [hb, cond_false] at h
  clear hb
  cases h
def jb9 {β : Type} (N : Nat) (jq2 : (a0 : Int) → (a1 : Int) → (k : Bool → Option β) → Option β) (jq8 : Nat → Int → Int → Int → Int → (Int → Option β) → Option β) (a0 : Int) (a1 : Int) (k : Int → Option β) : Option β :=
jq2 a0 a1 fun r3 =>
(cond (!r3)
(k (-1))
(jq8  N 0 0 a0 a1 (fun e5_0 =>
k e5_0)))
theorem jt9 {β : Type} (N : Nat) (a0 : Int) (a1 : Int) (k : Int → Option β) : j9 N a0 a1 k = jb9 N (j2 N) (j8 N) a0 a1 k := by
  unfold j9 jb9
  rfl
theorem ve63_0 {β : Type} (N : Nat) (jq2 : (a0 : Int) → (a1 : Int) → (k : Bool → Option β) → Option β) (jq6 : (a0 : Int) → (a1 : Int) → (a2 : Int) → (k : Int → Option β) → Option β) (jq8 : Nat → Int → Int → Int → Int → (Int → Option β) → Option β)  (a0 : Int) (a1 : Int) (K : TV → Option β) : evFn lay (VE63 N jq2 jq6 jq8) Tryz.f63 [.v (.agg [.int .i64 a0, .int .i64 a1])] K = jb9 N jq2 jq8 a0 a1 (fun z2 => K (.v (.one (.int .i64 z2)))) := by kernel_rfl
theorem e63_0 {β : Type} (N : Nat)  (a0 : Int) (a1 : Int) (K : TV → Option β) : evFn lay (E63 N) Tryz.f63 [.v (.agg [.int .i64 a0, .int .i64 a1])] K = j9 N a0 a1 (fun z2 => K (.v (.one (.int .i64 z2)))) := (ve63_0 N (j2 N) (j6 N) (j8 N) a0 a1 K).trans (jt9 N a0 a1 (fun z2 => K (.v (.one (.int .i64 z2))))).symm
theorem o63 {β : Type} (N : Nat) : SpecOK (β := β) inv Tryz.prog 63 (S63 N) := by
  refine spec_of lay_ok mixed (E := E63 N) (specs_loops (specs_cons (o13 N) (specs_cons (o122 N) specs_nil))) muts_nil gs_nil Tryz.func63 (by kernel_rfl) 1 (by kernel_rfl) ⟨trivial, rk63_0 N⟩ fun args K r h => ?_
  unfold S63 VS63 at h
  split at h
  · exact (e63_0 N _ _ _).trans h
  · cases h
def VS193 {β : Type} (N : Nat) (jq10 : (a0 : Int) → (a1 : Int) → (a2 : Int) → (k : Bool → Option β) → Option β) : Rv.Spec β := fun args K => match args with
  | [.v (.agg [.int .i64 a0, .int .i64 a1]), .v (.one (.int .i64 a2))] => jq10 a0 a1 a2 (fun z3 => K (.v (.one (.bool z3))))
  | _ => none
def S193 {β : Type} (N : Nat) : Rv.Spec β := VS193 N (j10 N)
def VE193 {β : Type} (N : Nat) (jq2 : (a0 : Int) → (a1 : Int) → (k : Bool → Option β) → Option β) (jq1 : (a0 : Int) → (a1 : Int) → (a2 : Int) → (k : Bool → Option β) → Option β) : Env β := ⟨[(13, VS13 N jq2), (62, VS62 N jq1)], [], [], [], ⟨[], [], []⟩⟩
def E193 {β : Type} (N : Nat) : Env β := VE193 N (j2 N) (j1 N)
def jb10 {β : Type} (N : Nat) (jq2 : (a0 : Int) → (a1 : Int) → (k : Bool → Option β) → Option β) (jq1 : (a0 : Int) → (a1 : Int) → (a2 : Int) → (k : Bool → Option β) → Option β) (a0 : Int) (a1 : Int) (a2 : Int) (k : Bool → Option β) : Option β :=
jq2 a0 a1 fun r4 =>
(cond r4
((gd ((decide (0 ≤ a0)))
(jq1 a2 0 ((w64 ((shlI .i64 1 a0) - 1))) fun r5 =>
k r5)))
(k false))
theorem jt10 {β : Type} (N : Nat) (a0 : Int) (a1 : Int) (a2 : Int) (k : Bool → Option β) : j10 N a0 a1 a2 k = jb10 N (j2 N) (j1 N) a0 a1 a2 k := by
  unfold j10 jb10
  rfl
theorem ve193_0 {β : Type} (N : Nat) (jq2 : (a0 : Int) → (a1 : Int) → (k : Bool → Option β) → Option β) (jq1 : (a0 : Int) → (a1 : Int) → (a2 : Int) → (k : Bool → Option β) → Option β)  (a0 : Int) (a1 : Int) (a2 : Int) (K : TV → Option β) : evFn lay (VE193 N jq2 jq1) Tryz.f193 [.v (.agg [.int .i64 a0, .int .i64 a1]), .v (.one (.int .i64 a2))] K = jb10 N jq2 jq1 a0 a1 a2 (fun z3 => K (.v (.one (.bool z3)))) := by kernel_rfl
theorem e193_0 {β : Type} (N : Nat)  (a0 : Int) (a1 : Int) (a2 : Int) (K : TV → Option β) : evFn lay (E193 N) Tryz.f193 [.v (.agg [.int .i64 a0, .int .i64 a1]), .v (.one (.int .i64 a2))] K = j10 N a0 a1 a2 (fun z3 => K (.v (.one (.bool z3)))) := (ve193_0 N (j2 N) (j1 N) a0 a1 a2 K).trans (jt10 N a0 a1 a2 (fun z3 => K (.v (.one (.bool z3))))).symm
theorem o193 {β : Type} (N : Nat) : SpecOK (β := β) inv Tryz.prog 193 (S193 N) := by
  refine spec_of lay_ok mixed (E := E193 N) (specs_loops (specs_cons (o13 N) (specs_cons (o62 N) specs_nil))) muts_nil gs_nil Tryz.func193 (by kernel_rfl) 0 (by kernel_rfl) trivial fun args K r h => ?_
  unfold S193 VS193 at h
  split at h
  · exact (e193_0 N _ _ _ _).trans h
  · cases h
def VS195 {β : Type} (N : Nat) (jq15 : (a0 : Int) → (a1 : Int) → (a2 : Int) → (k : List Int → Option β) → Option β) : Rv.Spec β := fun args K => match args with
  | [.v (.agg [.int .i64 a0, .int .i64 a1]), .v (.one (.int .i64 a2))] => jq15 a0 a1 a2 (fun z3 => K (.v (.one (.sl 3 (.ints .i64 z3)))))
  | _ => none
def S195 {β : Type} (N : Nat) : Rv.Spec β := VS195 N (j15 N)
def h195_0_0  (v0 : Int) (v1 : Int) (v2 : Int) (v3 : Int) (v4 : List Int) : St := ⟨tund :: .v (.one (.int .i64 v0)) :: .v (.one (.ptr 0 0)) :: tund :: tund :: .v (.one (.row 1)) :: .v (.one (.int .i64 v1)) :: tund :: tund :: tund :: tund :: tund :: tund :: tund :: tund :: tund :: tund :: tund :: tund :: tund :: tund :: tund :: tund :: tund :: tund :: tund :: tund :: tund :: tund :: tund :: tund :: tund :: tund :: tund :: tund :: tund :: tund :: tund :: tund :: tund :: tund :: tund :: tund :: tund :: tund :: tund :: tund :: tund :: tund :: tund :: tund :: tund :: tund :: tund :: tund :: tund :: [], [.cells 25 [.int .i64 v2, .int .i64 v3], .row 3 (.ints .i64 v4)]⟩
def x195_0_0_k0  (y0 : List Int) : St := ⟨tund :: tund :: tund :: tund :: tund :: .v (.one (.row 0)) :: tund :: tund :: tund :: tund :: tund :: tund :: tund :: tund :: tund :: tund :: tund :: tund :: tund :: tund :: tund :: tund :: tund :: tund :: tund :: tund :: tund :: tund :: tund :: tund :: tund :: tund :: tund :: tund :: tund :: tund :: tund :: tund :: tund :: tund :: tund :: tund :: tund :: tund :: tund :: tund :: tund :: tund :: tund :: tund :: tund :: tund :: tund :: tund :: tund :: tund :: [], [.row 3 (.ints .i64 y0)]⟩
def h195_1_0  (v0 : Int) (v1 : Int) (v2 : Bool) (v3 : Int) (v4 : Int) (v5 : Int) (v6 : List Int) : St := ⟨tund :: .v (.one (.int .i64 v0)) :: .v (.one (.ptr 0 0)) :: tund :: tund :: .v (.one (.row 1)) :: .v (.one (.int .i64 v1)) :: .v (.one (.bool v2)) :: .v (.one (.int .i64 v3)) :: tund :: tund :: tund :: tund :: tund :: tund :: tund :: tund :: tund :: tund :: tund :: tund :: tund :: tund :: tund :: tund :: tund :: tund :: tund :: tund :: tund :: tund :: tund :: tund :: tund :: tund :: tund :: tund :: tund :: tund :: tund :: tund :: tund :: tund :: tund :: tund :: tund :: tund :: tund :: tund :: tund :: tund :: tund :: tund :: tund :: tund :: tund :: [], [.cells 25 [.int .i64 v4, .int .i64 v5], .row 3 (.ints .i64 v6)]⟩
def x195_1_0_k0  (y0 : Int) (y1 : Int) (y2 : Bool) (y3 : Int) (y4 : Int) (y5 : List Int) : St := ⟨tund :: .v (.one (.int .i64 y0)) :: .v (.one (.ptr 0 0)) :: tund :: tund :: .v (.one (.row 1)) :: .v (.one (.int .i64 y1)) :: .v (.one (.bool y2)) :: tund :: tund :: tund :: tund :: tund :: tund :: tund :: tund :: tund :: tund :: tund :: tund :: tund :: tund :: tund :: tund :: tund :: tund :: tund :: tund :: tund :: tund :: tund :: tund :: tund :: tund :: tund :: tund :: tund :: tund :: tund :: tund :: tund :: tund :: tund :: tund :: tund :: tund :: tund :: tund :: tund :: tund :: tund :: tund :: tund :: tund :: tund :: tund :: [], [.cells 25 [.int .i64 y3, .int .i64 y4], .row 3 (.ints .i64 y5)]⟩
theorem fl195_0_0 (s : St) : refSt (h195_0_0 0 0 0 0 []) s = h195_0_0 (intS (oneA (vT (nx tund s.tmps 1)))) (intS (oneA (vT (nx tund s.tmps 6)))) (intS (nx .und (cellsB (nx .dead s.blks 0)) 0)) (intS (nx .und (cellsB (nx .dead s.blks 0)) 1)) (rInts (rowB_ (nx .dead s.blks 1))) := by kernel_rfl
def VLS195_0 {β : Type} (N : Nat) (jq14 : Nat → Int → Int → Int → Int → List Int → (List Int → Option β) → Option β) : LSpec β := fun s K => cond (shpSt (h195_0_0 0 0 0 0 []) s) ((fun (v0 : Int) (v1 : Int) (v2 : Int) (v3 : Int) (v4 : List Int) => jq14  N v0 v1 v2 v3 v4 (fun y0 => K (.exit 0) (x195_0_0_k0  y0))) (intS (oneA (vT (nx tund s.tmps 1)))) (intS (oneA (vT (nx tund s.tmps 6)))) (intS (nx .und (cellsB (nx .dead s.blks 0)) 0)) (intS (nx .und (cellsB (nx .dead s.blks 0)) 1)) (rInts (rowB_ (nx .dead s.blks 1)))) (none)
def LS195_0 {β : Type} (N : Nat) : LSpec β := VLS195_0 N (j14 N)
theorem fl195_1_0 (s : St) : refSt (h195_1_0 0 0 false 0 0 0 []) s = h195_1_0 (intS (oneA (vT (nx tund s.tmps 1)))) (intS (oneA (vT (nx tund s.tmps 6)))) (boolS (oneA (vT (nx tund s.tmps 7)))) (intS (oneA (vT (nx tund s.tmps 8)))) (intS (nx .und (cellsB (nx .dead s.blks 0)) 0)) (intS (nx .und (cellsB (nx .dead s.blks 0)) 1)) (rInts (rowB_ (nx .dead s.blks 1))) := by kernel_rfl
def VLS195_2 {β : Type} (N : Nat) (jq12 : Nat → Int → Int → Bool → Int → Int → Int → List Int → (Int → Int → Bool → Int → Int → List Int → Option β) → Option β) : LSpec β := fun s K => cond (shpSt (h195_1_0 0 0 false 0 0 0 []) s) ((fun (v0 : Int) (v1 : Int) (v2 : Bool) (v3 : Int) (v4 : Int) (v5 : Int) (v6 : List Int) => jq12  N v0 v1 v2 v3 v4 v5 v6 (fun y0 y1 y2 y3 y4 y5 => K (.exit 2) (x195_1_0_k0  y0 y1 y2 y3 y4 y5))) (intS (oneA (vT (nx tund s.tmps 1)))) (intS (oneA (vT (nx tund s.tmps 6)))) (boolS (oneA (vT (nx tund s.tmps 7)))) (intS (oneA (vT (nx tund s.tmps 8)))) (intS (nx .und (cellsB (nx .dead s.blks 0)) 0)) (intS (nx .und (cellsB (nx .dead s.blks 0)) 1)) (rInts (rowB_ (nx .dead s.blks 1)))) (none)
def LS195_2 {β : Type} (N : Nat) : LSpec β := VLS195_2 N (j12 N)
def VE195 {β : Type} (N : Nat) (jq14 : Nat → Int → Int → Int → Int → List Int → (List Int → Option β) → Option β) (jq12 : Nat → Int → Int → Bool → Int → Int → Int → List Int → (Int → Int → Bool → Int → Int → List Int → Option β) → Option β) : Env β := ⟨[], [], [(0, VLS195_0 N jq14), (2, VLS195_2 N jq12)], [], ⟨[], [], []⟩⟩
def E195 {β : Type} (N : Nat) : Env β := VE195 N (j14 N) (j12 N)
def jb13 {β : Type} (N : Nat) (jq12 : Nat → Int → Int → Bool → Int → Int → Int → List Int → (Int → Int → Bool → Int → Int → List Int → Option β) → Option β)  (v0 : Int) (v1 : Int) (v2 : Int) (v3 : Int) (v4 : List Int) (rec_ : Int → Int → Int → Int → List Int → Option β) (k0 : List Int → Option β) : Option β :=
(gd ((decide (0 ≤ v2)))
((cond ((decide (v1 < (shlI .i64 1 v2))))
((gd ((decide (0 ≤ v0)))
((gd ((decide (0 ≤ (bits .xor .i64 v0 v1))))
((cond (((bits .and .i64 (shrI .i64 v3 v0) 1) == (bits .and .i64 (shrI .i64 v3 (bits .xor .i64 v0 v1)) 1)))
(rec_ v0 ((w64 (v1 + 1))) v2 v3 v4)
(jq12  N v0 v1 true 0 v2 v3 v4 (fun e4_0 e4_1 e4_2 e4_3 e4_4 e4_5 =>
(cond e4_2
((gd ((decide ((e4_5.length + ((([] : List Int) ++ [e4_1])).length) * 8 ≤ 140737488355328)))
(rec_ e4_0 ((w64 (e4_1 + 1))) e4_3 e4_4 ((e4_5 ++ (([] : List Int) ++ [e4_1]))))))
(rec_ e4_0 ((w64 (e4_1 + 1))) e4_3 e4_4 e4_5))))))))))
(k0 v4))))
theorem jt13 {β : Type} (N : Nat)  (v0 : Int) (v1 : Int) (v2 : Int) (v3 : Int) (v4 : List Int) (rec_ : Int → Int → Int → Int → List Int → Option β) (k0 : List Int → Option β) : j13 N v0 v1 v2 v3 v4 rec_ k0 = jb13 N (j12 N) v0 v1 v2 v3 v4 rec_ k0 := by
  unfold j13 jb13
  rfl
theorem vst195_0_0 {β : Type} (N : Nat) (jq14 : Nat → Int → Int → Int → Int → List Int → (List Int → Option β) → Option β) (jq12 : Nat → Int → Int → Bool → Int → Int → Int → List Int → (Int → Int → Bool → Int → Int → List Int → Option β) → Option β)  (v0 : Int) (v1 : Int) (v2 : Int) (v3 : Int) (v4 : List Int) (rec_ : St → Option β) (K : Exit → St → Option β) :
    ev lay (VE195 N jq14 jq12) (retMask Tryz.f195) (lp Tryz.f195 0).body (lp Tryz.f195 0).ex ((lp Tryz.f195 0).lv (retMask Tryz.f195)) (h195_0_0  v0 v1 v2 v3 v4) (nextR (fun s' => rec_ (s'.tidy ((lp Tryz.f195 0).lv (retMask Tryz.f195)))) K) = jb13 N jq12  v0 v1 v2 v3 v4 (fun v0 v1 v2 v3 v4 => rec_ (h195_0_0  v0 v1 v2 v3 v4)) (fun y0 => K (.exit 0) (x195_0_0_k0  y0)) := by kernel_rfl
theorem st195_0_0 {β : Type} (N : Nat)  (v0 : Int) (v1 : Int) (v2 : Int) (v3 : Int) (v4 : List Int) (rec_ : St → Option β) (K : Exit → St → Option β) :
    ev lay (E195 N) (retMask Tryz.f195) (lp Tryz.f195 0).body (lp Tryz.f195 0).ex ((lp Tryz.f195 0).lv (retMask Tryz.f195)) (h195_0_0  v0 v1 v2 v3 v4) (nextR (fun s' => rec_ (s'.tidy ((lp Tryz.f195 0).lv (retMask Tryz.f195)))) K) = j13 N  v0 v1 v2 v3 v4 (fun v0 v1 v2 v3 v4 => rec_ (h195_0_0  v0 v1 v2 v3 v4)) (fun y0 => K (.exit 0) (x195_0_0_k0  y0)) := (vst195_0_0 N (j14 N) (j12 N) v0 v1 v2 v3 v4 rec_ K).trans (jt13 N  v0 v1 v2 v3 v4 (fun v0 v1 v2 v3 v4 => rec_ (h195_0_0  v0 v1 v2 v3 v4)) (fun y0 => K (.exit 0) (x195_0_0_k0  y0))).symm
theorem ro195_0_0 {β : Type} (N : Nat)  (K : Exit → St → Option β) : ∀ (F : Nat) (v0 : Int) (v1 : Int) (v2 : Int) (v3 : Int) (v4 : List Int), (lp Tryz.f195 0).rounds lay (E195 N) (retMask Tryz.f195) F (h195_0_0  v0 v1 v2 v3 v4) K = j14 N  F v0 v1 v2 v3 v4 (fun y0 => K (.exit 0) (x195_0_0_k0  y0)) := by
  intro F
  induction F with
  | zero => intros; rfl
  | succ F ih =>
    intros
    rw [rounds_next]
    refine (st195_0_0 N  _ _ _ _ _ (fun s => (lp Tryz.f195 0).rounds lay (E195 N) (retMask Tryz.f195) F s K) K).trans ?_
    simp only [ih]
    rfl
theorem lk195_0 {β : Type} (N : Nat) : lookL (E195 (β := β) N).loops (lp Tryz.f195 0).id = LS195_0 N := by kernel_rfl
theorem rk195_0 {β : Type} (N : Nat) : RoundsOK lay (E195 (β := β) N) (retMask Tryz.f195) (lp Tryz.f195 0) := by
  intro s K r h
  rw [lk195_0] at h
  unfold LS195_0 VLS195_0 at h
  cases hb : shpSt (h195_0_0 0 0 0 0 []) s with
  | true =>
    rw [hb, cond_true] at h
    exact ⟨N, by rw [← shpSt_ref hb, fl195_0_0 s]; exact (ro195_0_0 N  K N (intS (oneA (vT (nx tund s.tmps 1)))) (intS (oneA (vT (nx tund s.tmps 6)))) (intS (nx .und (cellsB (nx .dead s.blks 0)) 0)) (intS (nx .und (cellsB (nx .dead s.blks 0)) 1)) (rInts (rowB_ (nx .dead s.blks 1)))).trans h⟩
  | false =>
  rw [hb, cond_false] at h
  clear hb
  cases h
def jb11 {β : Type} (N : Nat)  (v0 : Int) (v1 : Int) (v2 : Bool) (v3 : Int) (v4 : Int) (v5 : Int) (v6 : List Int) (rec_ : Int → Int → Bool → Int → Int → Int → List Int → Option β) (k0 : Int → Int → Bool → Int → Int → List Int → Option β) : Option β :=
(cond ((decide (v3 < (v6.length : Int))))
((cond v2
((gd ((decide (0 ≤ v3)))
((gd ((decide (v3 < (v6.length : Int))))
((gd ((decide (0 ≤ v3)))
((gd ((decide (v3 < (v6.length : Int))))
(rec_ v0 v1 (((bits .and .i64 (rd 0 v6 v3) v1) != (rd 0 v6 v3))) ((w64 (v3 + 1))) v4 v5 v6)))))))))
(rec_ v0 v1 false ((w64 (v3 + 1))) v4 v5 v6)))
(k0 v0 v1 v2 v4 v5 v6))
theorem jt11 {β : Type} (N : Nat)  (v0 : Int) (v1 : Int) (v2 : Bool) (v3 : Int) (v4 : Int) (v5 : Int) (v6 : List Int) (rec_ : Int → Int → Bool → Int → Int → Int → List Int → Option β) (k0 : Int → Int → Bool → Int → Int → List Int → Option β) : j11 N v0 v1 v2 v3 v4 v5 v6 rec_ k0 = jb11 N v0 v1 v2 v3 v4 v5 v6 rec_ k0 := by
  unfold j11 jb11
  rfl
theorem vst195_1_0 {β : Type} (N : Nat) (jq14 : Nat → Int → Int → Int → Int → List Int → (List Int → Option β) → Option β) (jq12 : Nat → Int → Int → Bool → Int → Int → Int → List Int → (Int → Int → Bool → Int → Int → List Int → Option β) → Option β)  (v0 : Int) (v1 : Int) (v2 : Bool) (v3 : Int) (v4 : Int) (v5 : Int) (v6 : List Int) (rec_ : St → Option β) (K : Exit → St → Option β) :
    ev lay (VE195 N jq14 jq12) (retMask Tryz.f195) (lp Tryz.f195 1).body (lp Tryz.f195 1).ex ((lp Tryz.f195 1).lv (retMask Tryz.f195)) (h195_1_0  v0 v1 v2 v3 v4 v5 v6) (nextR (fun s' => rec_ (s'.tidy ((lp Tryz.f195 1).lv (retMask Tryz.f195)))) K) = jb11 N  v0 v1 v2 v3 v4 v5 v6 (fun v0 v1 v2 v3 v4 v5 v6 => rec_ (h195_1_0  v0 v1 v2 v3 v4 v5 v6)) (fun y0 y1 y2 y3 y4 y5 => K (.exit 2) (x195_1_0_k0  y0 y1 y2 y3 y4 y5)) := by kernel_rfl
theorem st195_1_0 {β : Type} (N : Nat)  (v0 : Int) (v1 : Int) (v2 : Bool) (v3 : Int) (v4 : Int) (v5 : Int) (v6 : List Int) (rec_ : St → Option β) (K : Exit → St → Option β) :
    ev lay (E195 N) (retMask Tryz.f195) (lp Tryz.f195 1).body (lp Tryz.f195 1).ex ((lp Tryz.f195 1).lv (retMask Tryz.f195)) (h195_1_0  v0 v1 v2 v3 v4 v5 v6) (nextR (fun s' => rec_ (s'.tidy ((lp Tryz.f195 1).lv (retMask Tryz.f195)))) K) = j11 N  v0 v1 v2 v3 v4 v5 v6 (fun v0 v1 v2 v3 v4 v5 v6 => rec_ (h195_1_0  v0 v1 v2 v3 v4 v5 v6)) (fun y0 y1 y2 y3 y4 y5 => K (.exit 2) (x195_1_0_k0  y0 y1 y2 y3 y4 y5)) := (vst195_1_0 N (j14 N) (j12 N) v0 v1 v2 v3 v4 v5 v6 rec_ K).trans (jt11 N  v0 v1 v2 v3 v4 v5 v6 (fun v0 v1 v2 v3 v4 v5 v6 => rec_ (h195_1_0  v0 v1 v2 v3 v4 v5 v6)) (fun y0 y1 y2 y3 y4 y5 => K (.exit 2) (x195_1_0_k0  y0 y1 y2 y3 y4 y5))).symm
theorem ro195_1_0 {β : Type} (N : Nat)  (K : Exit → St → Option β) : ∀ (F : Nat) (v0 : Int) (v1 : Int) (v2 : Bool) (v3 : Int) (v4 : Int) (v5 : Int) (v6 : List Int), (lp Tryz.f195 1).rounds lay (E195 N) (retMask Tryz.f195) F (h195_1_0  v0 v1 v2 v3 v4 v5 v6) K = j12 N  F v0 v1 v2 v3 v4 v5 v6 (fun y0 y1 y2 y3 y4 y5 => K (.exit 2) (x195_1_0_k0  y0 y1 y2 y3 y4 y5)) := by
  intro F
  induction F with
  | zero => intros; rfl
  | succ F ih =>
    intros
    rw [rounds_next]
    refine (st195_1_0 N  _ _ _ _ _ _ _ (fun s => (lp Tryz.f195 1).rounds lay (E195 N) (retMask Tryz.f195) F s K) K).trans ?_
    simp only [ih]
    rfl
theorem lk195_2 {β : Type} (N : Nat) : lookL (E195 (β := β) N).loops (lp Tryz.f195 1).id = LS195_2 N := by kernel_rfl
theorem rk195_2 {β : Type} (N : Nat) : RoundsOK lay (E195 (β := β) N) (retMask Tryz.f195) (lp Tryz.f195 1) := by
  intro s K r h
  rw [lk195_2] at h
  unfold LS195_2 VLS195_2 at h
  cases hb : shpSt (h195_1_0 0 0 false 0 0 0 []) s with
  | true =>
    rw [hb, cond_true] at h
    exact ⟨N, by rw [← shpSt_ref hb, fl195_1_0 s]; exact (ro195_1_0 N  K N (intS (oneA (vT (nx tund s.tmps 1)))) (intS (oneA (vT (nx tund s.tmps 6)))) (boolS (oneA (vT (nx tund s.tmps 7)))) (intS (oneA (vT (nx tund s.tmps 8)))) (intS (nx .und (cellsB (nx .dead s.blks 0)) 0)) (intS (nx .und (cellsB (nx .dead s.blks 0)) 1)) (rInts (rowB_ (nx .dead s.blks 1)))).trans h⟩
  | false =>
  rw [hb, cond_false] at h
  clear hb
  cases h
def jb15 {β : Type} (N : Nat) (jq14 : Nat → Int → Int → Int → Int → List Int → (List Int → Option β) → Option β) (a0 : Int) (a1 : Int) (a2 : Int) (k : List Int → Option β) : Option β :=
jq14  N a2 1 a0 a1 (([] : List Int)) (fun e5_0 =>
k e5_0)
theorem jt15 {β : Type} (N : Nat) (a0 : Int) (a1 : Int) (a2 : Int) (k : List Int → Option β) : j15 N a0 a1 a2 k = jb15 N (j14 N) a0 a1 a2 k := by
  unfold j15 jb15
  rfl
theorem ve195_0 {β : Type} (N : Nat) (jq14 : Nat → Int → Int → Int → Int → List Int → (List Int → Option β) → Option β) (jq12 : Nat → Int → Int → Bool → Int → Int → Int → List Int → (Int → Int → Bool → Int → Int → List Int → Option β) → Option β)  (a0 : Int) (a1 : Int) (a2 : Int) (K : TV → Option β) : evFn lay (VE195 N jq14 jq12) Tryz.f195 [.v (.agg [.int .i64 a0, .int .i64 a1]), .v (.one (.int .i64 a2))] K = jb15 N jq14 a0 a1 a2 (fun z3 => K (.v (.one (.sl 3 (.ints .i64 z3))))) := by kernel_rfl
theorem e195_0 {β : Type} (N : Nat)  (a0 : Int) (a1 : Int) (a2 : Int) (K : TV → Option β) : evFn lay (E195 N) Tryz.f195 [.v (.agg [.int .i64 a0, .int .i64 a1]), .v (.one (.int .i64 a2))] K = j15 N a0 a1 a2 (fun z3 => K (.v (.one (.sl 3 (.ints .i64 z3))))) := (ve195_0 N (j14 N) (j12 N) a0 a1 a2 K).trans (jt15 N a0 a1 a2 (fun z3 => K (.v (.one (.sl 3 (.ints .i64 z3)))))).symm
theorem o195 {β : Type} (N : Nat) : SpecOK (β := β) inv Tryz.prog 195 (S195 N) := by
  refine spec_of lay_ok mixed (E := E195 N) (specs_loops specs_nil) muts_nil gs_nil Tryz.func195 (by kernel_rfl) 2 (by kernel_rfl) ⟨⟨trivial, rk195_0 N⟩, rk195_2 N⟩ fun args K r h => ?_
  unfold S195 VS195 at h
  split at h
  · exact (e195_0 N _ _ _ _).trans h
  · cases h
def VSF194 {β : Type} (N : Nat) (jq19 : Nat → List Int → Int → Int → (Int → Option β) → Option β) (G : Nat) : Rv.Spec β := fun args K => match args with
  | [.v (.one (.sl 3 (.ints .i64 a0))), .v (.one (.int .i64 a1)), .v (.one (.int .i64 a2))] => jq19 G a0 a1 a2 (fun z3 => K (.v (.one (.int .i64 z3))))
  | _ => none
def SF194 {β : Type} (N : Nat) (G : Nat) : Rv.Spec β := VSF194 N (j19 N) G
def VS194 {β : Type} (N : Nat) (jq19 : Nat → List Int → Int → Int → (Int → Option β) → Option β) : Rv.Spec β := VSF194 N jq19 N
def S194 {β : Type} (N : Nat) : Rv.Spec β := SF194 N N
def h194_0_0  (v0 : List Int) (v1 : Int) (v2 : Int) (v3 : Int) : St := ⟨.v (.one (.sl 3 (.ints .i64 v0))) :: tund :: .v (.one (.int .i64 v1)) :: tund :: tund :: tund :: tund :: .v (.one (.int .i64 v2)) :: .v (.one (.int .i64 v3)) :: tund :: tund :: tund :: tund :: tund :: tund :: tund :: tund :: tund :: tund :: tund :: tund :: tund :: tund :: tund :: tund :: tund :: tund :: tund :: tund :: tund :: tund :: tund :: tund :: tund :: tund :: tund :: tund :: [], []⟩
def x194_0_0_k0  (y0 : Int) : St := ⟨tund :: tund :: tund :: tund :: tund :: tund :: tund :: .v (.one (.int .i64 y0)) :: tund :: tund :: tund :: tund :: tund :: tund :: tund :: tund :: tund :: tund :: tund :: tund :: tund :: tund :: tund :: tund :: tund :: tund :: tund :: tund :: tund :: tund :: tund :: tund :: tund :: tund :: tund :: tund :: tund :: [], []⟩
theorem fl194_0_0 (s : St) : refSt (h194_0_0 [] 0 0 0) s = h194_0_0 (rInts (rowV (oneA (vT (nx tund s.tmps 0))))) (intS (oneA (vT (nx tund s.tmps 2)))) (intS (oneA (vT (nx tund s.tmps 7)))) (intS (oneA (vT (nx tund s.tmps 8)))) := by kernel_rfl
def VLS194_0 {β : Type} (N : Nat) (jq17 : (self : List Int → Int → Int → (Int → Option β) → Option β) → Nat → List Int → Int → Int → Int → (Int → Option β) → Option β) (jq19 : Nat → List Int → Int → Int → (Int → Option β) → Option β) (G : Nat) : LSpec β := fun s K => cond (shpSt (h194_0_0 [] 0 0 0) s) ((fun (v0 : List Int) (v1 : Int) (v2 : Int) (v3 : Int) => jq17 (jq19 G)  N v0 v1 v2 v3 (fun y0 => K (.exit 0) (x194_0_0_k0  y0))) (rInts (rowV (oneA (vT (nx tund s.tmps 0))))) (intS (oneA (vT (nx tund s.tmps 2)))) (intS (oneA (vT (nx tund s.tmps 7)))) (intS (oneA (vT (nx tund s.tmps 8))))) (none)
def LS194_0 {β : Type} (N : Nat) (G : Nat) : LSpec β := VLS194_0 N (j17 N) (j19 N) G
def VE194 {β : Type} (N : Nat) (jq19 : Nat → List Int → Int → Int → (Int → Option β) → Option β) (jq17 : (self : List Int → Int → Int → (Int → Option β) → Option β) → Nat → List Int → Int → Int → Int → (Int → Option β) → Option β) (G : Nat) : Env β := ⟨[(194, VSF194 N jq19 G)], [], [(0, VLS194_0 N jq17 jq19 G)], [], ⟨[], [], []⟩⟩
def E194 {β : Type} (N : Nat) (G : Nat) : Env β := VE194 N (j19 N) (j17 N) G
def jb16 {β : Type} (N : Nat) (self : List Int → Int → Int → (Int → Option β) → Option β)  (v0 : List Int) (v1 : Int) (v2 : Int) (v3 : Int) (rec_ : List Int → Int → Int → Int → Option β) (k0 : Int → Option β) : Option β :=
(cond ((decide (v3 < (v0.length : Int))))
((gd ((decide (0 ≤ v3)))
((gd ((decide (v3 < (v0.length : Int))))
((cond (((bits .and .i64 (rd 0 v0 v3) v1) == 0))
((gd ((decide (0 ≤ v3)))
((gd ((decide (v3 < (v0.length : Int))))
(self v0 ((w64 (v3 + 1))) ((bits .or .i64 v1 (rd 0 v0 v3))) fun r4 =>
rec_ v0 v1 ((mxI v2 (w64 (1 + r4)))) ((w64 (v3 + 1))))))))
(rec_ v0 v1 v2 ((w64 (v3 + 1))))))))))
(k0 v2))
theorem jt16 {β : Type} (N : Nat) (self : List Int → Int → Int → (Int → Option β) → Option β)  (v0 : List Int) (v1 : Int) (v2 : Int) (v3 : Int) (rec_ : List Int → Int → Int → Int → Option β) (k0 : Int → Option β) : j16 N self v0 v1 v2 v3 rec_ k0 = jb16 N self v0 v1 v2 v3 rec_ k0 := by
  unfold j16 jb16
  rfl
theorem vst194_0_0 {β : Type} (N : Nat) (jq19 : Nat → List Int → Int → Int → (Int → Option β) → Option β) (jq17 : (self : List Int → Int → Int → (Int → Option β) → Option β) → Nat → List Int → Int → Int → Int → (Int → Option β) → Option β) (G : Nat)  (v0 : List Int) (v1 : Int) (v2 : Int) (v3 : Int) (rec_ : St → Option β) (K : Exit → St → Option β) :
    ev lay (VE194 N jq19 jq17 G) (retMask Tryz.f194) (lp Tryz.f194 0).body (lp Tryz.f194 0).ex ((lp Tryz.f194 0).lv (retMask Tryz.f194)) (h194_0_0  v0 v1 v2 v3) (nextR (fun s' => rec_ (s'.tidy ((lp Tryz.f194 0).lv (retMask Tryz.f194)))) K) = jb16 N (jq19 G)  v0 v1 v2 v3 (fun v0 v1 v2 v3 => rec_ (h194_0_0  v0 v1 v2 v3)) (fun y0 => K (.exit 0) (x194_0_0_k0  y0)) := by kernel_rfl
theorem st194_0_0 {β : Type} (N : Nat) (G : Nat)  (v0 : List Int) (v1 : Int) (v2 : Int) (v3 : Int) (rec_ : St → Option β) (K : Exit → St → Option β) :
    ev lay (E194 N G) (retMask Tryz.f194) (lp Tryz.f194 0).body (lp Tryz.f194 0).ex ((lp Tryz.f194 0).lv (retMask Tryz.f194)) (h194_0_0  v0 v1 v2 v3) (nextR (fun s' => rec_ (s'.tidy ((lp Tryz.f194 0).lv (retMask Tryz.f194)))) K) = j16 N (j19 N G)  v0 v1 v2 v3 (fun v0 v1 v2 v3 => rec_ (h194_0_0  v0 v1 v2 v3)) (fun y0 => K (.exit 0) (x194_0_0_k0  y0)) := (vst194_0_0 N (j19 N) (j17 N) G v0 v1 v2 v3 rec_ K).trans (jt16 N (j19 N G)  v0 v1 v2 v3 (fun v0 v1 v2 v3 => rec_ (h194_0_0  v0 v1 v2 v3)) (fun y0 => K (.exit 0) (x194_0_0_k0  y0))).symm
theorem ro194_0_0 {β : Type} (N : Nat) (G : Nat)  (K : Exit → St → Option β) : ∀ (F : Nat) (v0 : List Int) (v1 : Int) (v2 : Int) (v3 : Int), (lp Tryz.f194 0).rounds lay (E194 N G) (retMask Tryz.f194) F (h194_0_0  v0 v1 v2 v3) K = j17 N (j19 N G)  F v0 v1 v2 v3 (fun y0 => K (.exit 0) (x194_0_0_k0  y0)) := by
  intro F
  induction F with
  | zero => intros; rfl
  | succ F ih =>
    intros
    rw [rounds_next]
    refine (st194_0_0 N G  _ _ _ _ (fun s => (lp Tryz.f194 0).rounds lay (E194 N G) (retMask Tryz.f194) F s K) K).trans ?_
    simp only [ih]
    rfl
theorem lk194_0 {β : Type} (N : Nat) (G : Nat) : lookL (E194 (β := β) N G).loops (lp Tryz.f194 0).id = LS194_0 N G := by kernel_rfl
theorem rk194_0 {β : Type} (N : Nat) (G : Nat) : RoundsOK lay (E194 (β := β) N G) (retMask Tryz.f194) (lp Tryz.f194 0) := by
  intro s K r h
  rw [lk194_0] at h
  unfold LS194_0 VLS194_0 at h
  cases hb : shpSt (h194_0_0 [] 0 0 0) s with
  | true =>
    rw [hb, cond_true] at h
    exact ⟨N, by rw [← shpSt_ref hb, fl194_0_0 s]; exact (ro194_0_0 N G  K N (rInts (rowV (oneA (vT (nx tund s.tmps 0))))) (intS (oneA (vT (nx tund s.tmps 2)))) (intS (oneA (vT (nx tund s.tmps 7)))) (intS (oneA (vT (nx tund s.tmps 8))))).trans h⟩
  | false =>
  rw [hb, cond_false] at h
  clear hb
  cases h
def jb18 {β : Type} (N : Nat) (jq17 : (self : List Int → Int → Int → (Int → Option β) → Option β) → Nat → List Int → Int → Int → Int → (Int → Option β) → Option β) (self : List Int → Int → Int → (Int → Option β) → Option β) (a0 : List Int) (a1 : Int) (a2 : Int) (k : Int → Option β) : Option β :=
jq17 self  N a0 a2 0 a1 (fun e5_0 =>
k e5_0)
theorem jt18 {β : Type} (N : Nat) (self : List Int → Int → Int → (Int → Option β) → Option β) (a0 : List Int) (a1 : Int) (a2 : Int) (k : Int → Option β) : j18 N self a0 a1 a2 k = jb18 N (j17 N) self a0 a1 a2 k := by
  unfold j18 jb18
  rfl
theorem ve194_0 {β : Type} (N : Nat) (jq19 : Nat → List Int → Int → Int → (Int → Option β) → Option β) (jq17 : (self : List Int → Int → Int → (Int → Option β) → Option β) → Nat → List Int → Int → Int → Int → (Int → Option β) → Option β) (G : Nat)  (a0 : List Int) (a1 : Int) (a2 : Int) (K : TV → Option β) : evFn lay (VE194 N jq19 jq17 G) Tryz.f194 [.v (.one (.sl 3 (.ints .i64 a0))), .v (.one (.int .i64 a1)), .v (.one (.int .i64 a2))] K = jb18 N jq17 (jq19 G) a0 a1 a2 (fun z3 => K (.v (.one (.int .i64 z3)))) := by kernel_rfl
theorem e194_0 {β : Type} (N : Nat) (G : Nat)  (a0 : List Int) (a1 : Int) (a2 : Int) (K : TV → Option β) : evFn lay (E194 N G) Tryz.f194 [.v (.one (.sl 3 (.ints .i64 a0))), .v (.one (.int .i64 a1)), .v (.one (.int .i64 a2))] K = j19 N (G + 1) a0 a1 a2 (fun z3 => K (.v (.one (.int .i64 z3)))) := (ve194_0 N (j19 N) (j17 N) G a0 a1 a2 K).trans (jt18 N (j19 N G) a0 a1 a2 (fun z3 => K (.v (.one (.int .i64 z3))))).symm
theorem z194 {β : Type} (N : Nat) : ∀ args K r, SF194 (β := β) N 0 args K = some r → (none : Option β) = some r := by
  intro args K r h
  unfold SF194 VSF194 at h
  split at h <;> exact h
theorem of194 {β : Type} (N : Nat) : ∀ G, SpecOK (β := β) inv Tryz.prog 194 (SF194 N G) := by
  intro G
  induction G with
  | zero => exact s_zero Tryz.func194 (by kernel_rfl) (z194 N)
  | succ G ih =>
    refine spec_of lay_ok mixed (E := E194 N G) (specs_loops (specs_cons ih specs_nil)) muts_nil gs_nil Tryz.func194 (by kernel_rfl) 1 (by kernel_rfl) ⟨trivial, rk194_0 N G⟩ fun args K r h => ?_
    unfold SF194 VSF194 at h
    split at h
    · exact (e194_0 N G _ _ _ _).trans h
    · cases h
theorem o194 {β : Type} (N : Nat) : SpecOK (β := β) inv Tryz.prog 194 (S194 N) := of194 N N
def VS123 {β : Type} (N : Nat) (jq21 : (a0 : Int) → (a1 : Int) → (a2 : Int) → (k : Int → Option β) → Option β) : Rv.Spec β := fun args K => match args with
  | [.v (.agg [.int .i64 a0, .int .i64 a1]), .v (.one (.int .i64 a2))] => jq21 a0 a1 a2 (fun z3 => K (.v (.one (.int .i64 z3))))
  | _ => none
def S123 {β : Type} (N : Nat) : Rv.Spec β := VS123 N (j21 N)
def VE123 {β : Type} (N : Nat) (jq10 : (a0 : Int) → (a1 : Int) → (a2 : Int) → (k : Bool → Option β) → Option β) (jq15 : (a0 : Int) → (a1 : Int) → (a2 : Int) → (k : List Int → Option β) → Option β) (jq19 : Nat → List Int → Int → Int → (Int → Option β) → Option β) : Env β := ⟨[(193, VS193 N jq10), (195, VS195 N jq15), (194, VS194 N jq19)], [], [], [], ⟨[], [], []⟩⟩
def E123 {β : Type} (N : Nat) : Env β := VE123 N (j10 N) (j15 N) (j19 N)
def jb21 {β : Type} (N : Nat) (jq10 : (a0 : Int) → (a1 : Int) → (a2 : Int) → (k : Bool → Option β) → Option β) (jq15 : (a0 : Int) → (a1 : Int) → (a2 : Int) → (k : List Int → Option β) → Option β) (jq19 : Nat → List Int → Int → Int → (Int → Option β) → Option β) (a0 : Int) (a1 : Int) (a2 : Int) (k : Int → Option β) : Option β :=
jq10 a0 a1 a2 fun r4 =>
(cond (!r4)
(k (-1))
(jq15 a0 a1 a2 fun r5 =>
jq19 N r5 0 0 fun r6 =>
k r6))
theorem jt21 {β : Type} (N : Nat) (a0 : Int) (a1 : Int) (a2 : Int) (k : Int → Option β) : j21 N a0 a1 a2 k = jb21 N (j10 N) (j15 N) (j19 N) a0 a1 a2 k := by
  unfold j21 jb21
  rfl
theorem ve123_0 {β : Type} (N : Nat) (jq10 : (a0 : Int) → (a1 : Int) → (a2 : Int) → (k : Bool → Option β) → Option β) (jq15 : (a0 : Int) → (a1 : Int) → (a2 : Int) → (k : List Int → Option β) → Option β) (jq19 : Nat → List Int → Int → Int → (Int → Option β) → Option β)  (a0 : Int) (a1 : Int) (a2 : Int) (K : TV → Option β) : evFn lay (VE123 N jq10 jq15 jq19) Tryz.f123 [.v (.agg [.int .i64 a0, .int .i64 a1]), .v (.one (.int .i64 a2))] K = jb21 N jq10 jq15 jq19 a0 a1 a2 (fun z3 => K (.v (.one (.int .i64 z3)))) := by kernel_rfl
theorem e123_0 {β : Type} (N : Nat)  (a0 : Int) (a1 : Int) (a2 : Int) (K : TV → Option β) : evFn lay (E123 N) Tryz.f123 [.v (.agg [.int .i64 a0, .int .i64 a1]), .v (.one (.int .i64 a2))] K = j21 N a0 a1 a2 (fun z3 => K (.v (.one (.int .i64 z3)))) := (ve123_0 N (j10 N) (j15 N) (j19 N) a0 a1 a2 K).trans (jt21 N a0 a1 a2 (fun z3 => K (.v (.one (.int .i64 z3))))).symm
theorem o123 {β : Type} (N : Nat) : SpecOK (β := β) inv Tryz.prog 123 (S123 N) := by
  refine spec_of lay_ok mixed (E := E123 N) (specs_loops (specs_cons (o193 N) (specs_cons (o195 N) (specs_cons (o194 N) specs_nil)))) muts_nil gs_nil Tryz.func123 (by kernel_rfl) 0 (by kernel_rfl) trivial fun args K r h => ?_
  unfold S123 VS123 at h
  split at h
  · exact (e123_0 N _ _ _ _).trans h
  · cases h
def VS64 {β : Type} (N : Nat) (jq24 : (a0 : Int) → (a1 : Int) → (k : Int → Option β) → Option β) : Rv.Spec β := fun args K => match args with
  | [.v (.agg [.int .i64 a0, .int .i64 a1])] => jq24 a0 a1 (fun z2 => K (.v (.one (.int .i64 z2))))
  | _ => none
def S64 {β : Type} (N : Nat) : Rv.Spec β := VS64 N (j24 N)
def h64_0_0  (v0 : Int) (v1 : Int) (v2 : Int) (v3 : Int) : St := ⟨tund :: .v (.one (.ptr 0 0)) :: tund :: .v (.one (.int .i64 v0)) :: .v (.one (.int .i64 v1)) :: tund :: tund :: tund :: tund :: tund :: tund :: tund :: tund :: tund :: tund :: tund :: tund :: tund :: tund :: tund :: tund :: [], [.cells 25 [.int .i64 v2, .int .i64 v3]]⟩
def x64_0_0_k0  (y0 : Int) : St := ⟨tund :: tund :: tund :: .v (.one (.int .i64 y0)) :: tund :: tund :: tund :: tund :: tund :: tund :: tund :: tund :: tund :: tund :: tund :: tund :: tund :: tund :: tund :: tund :: tund :: [], []⟩
theorem fl64_0_0 (s : St) : refSt (h64_0_0 0 0 0 0) s = h64_0_0 (intS (oneA (vT (nx tund s.tmps 3)))) (intS (oneA (vT (nx tund s.tmps 4)))) (intS (nx .und (cellsB (nx .dead s.blks 0)) 0)) (intS (nx .und (cellsB (nx .dead s.blks 0)) 1)) := by kernel_rfl
def VLS64_0 {β : Type} (N : Nat) (jq23 : Nat → Int → Int → Int → Int → (Int → Option β) → Option β) : LSpec β := fun s K => cond (shpSt (h64_0_0 0 0 0 0) s) ((fun (v0 : Int) (v1 : Int) (v2 : Int) (v3 : Int) => jq23  N v0 v1 v2 v3 (fun y0 => K (.exit 0) (x64_0_0_k0  y0))) (intS (oneA (vT (nx tund s.tmps 3)))) (intS (oneA (vT (nx tund s.tmps 4)))) (intS (nx .und (cellsB (nx .dead s.blks 0)) 0)) (intS (nx .und (cellsB (nx .dead s.blks 0)) 1))) (none)
def LS64_0 {β : Type} (N : Nat) : LSpec β := VLS64_0 N (j23 N)
def VE64 {β : Type} (N : Nat) (jq2 : (a0 : Int) → (a1 : Int) → (k : Bool → Option β) → Option β) (jq21 : (a0 : Int) → (a1 : Int) → (a2 : Int) → (k : Int → Option β) → Option β) (jq23 : Nat → Int → Int → Int → Int → (Int → Option β) → Option β) : Env β := ⟨[(13, VS13 N jq2), (123, VS123 N jq21)], [], [(0, VLS64_0 N jq23)], [], ⟨[], [], []⟩⟩
def E64 {β : Type} (N : Nat) : Env β := VE64 N (j2 N) (j21 N) (j23 N)
def jb22 {β : Type} (N : Nat) (jq21 : (a0 : Int) → (a1 : Int) → (a2 : Int) → (k : Int → Option β) → Option β)  (v0 : Int) (v1 : Int) (v2 : Int) (v3 : Int) (rec_ : Int → Int → Int → Int → Option β) (k0 : Int → Option β) : Option β :=
(gd ((decide (0 ≤ v2)))
((cond ((decide (v1 < (shlI .i64 1 v2))))
(jq21 v2 v3 v1 fun r4 =>
rec_ ((mxI v0 r4)) ((w64 (v1 + 1))) v2 v3)
(k0 v0))))
theorem jt22 {β : Type} (N : Nat)  (v0 : Int) (v1 : Int) (v2 : Int) (v3 : Int) (rec_ : Int → Int → Int → Int → Option β) (k0 : Int → Option β) : j22 N v0 v1 v2 v3 rec_ k0 = jb22 N (j21 N) v0 v1 v2 v3 rec_ k0 := by
  unfold j22 jb22
  rfl
theorem vst64_0_0 {β : Type} (N : Nat) (jq2 : (a0 : Int) → (a1 : Int) → (k : Bool → Option β) → Option β) (jq21 : (a0 : Int) → (a1 : Int) → (a2 : Int) → (k : Int → Option β) → Option β) (jq23 : Nat → Int → Int → Int → Int → (Int → Option β) → Option β)  (v0 : Int) (v1 : Int) (v2 : Int) (v3 : Int) (rec_ : St → Option β) (K : Exit → St → Option β) :
    ev lay (VE64 N jq2 jq21 jq23) (retMask Tryz.f64) (lp Tryz.f64 0).body (lp Tryz.f64 0).ex ((lp Tryz.f64 0).lv (retMask Tryz.f64)) (h64_0_0  v0 v1 v2 v3) (nextR (fun s' => rec_ (s'.tidy ((lp Tryz.f64 0).lv (retMask Tryz.f64)))) K) = jb22 N jq21  v0 v1 v2 v3 (fun v0 v1 v2 v3 => rec_ (h64_0_0  v0 v1 v2 v3)) (fun y0 => K (.exit 0) (x64_0_0_k0  y0)) := by kernel_rfl
theorem st64_0_0 {β : Type} (N : Nat)  (v0 : Int) (v1 : Int) (v2 : Int) (v3 : Int) (rec_ : St → Option β) (K : Exit → St → Option β) :
    ev lay (E64 N) (retMask Tryz.f64) (lp Tryz.f64 0).body (lp Tryz.f64 0).ex ((lp Tryz.f64 0).lv (retMask Tryz.f64)) (h64_0_0  v0 v1 v2 v3) (nextR (fun s' => rec_ (s'.tidy ((lp Tryz.f64 0).lv (retMask Tryz.f64)))) K) = j22 N  v0 v1 v2 v3 (fun v0 v1 v2 v3 => rec_ (h64_0_0  v0 v1 v2 v3)) (fun y0 => K (.exit 0) (x64_0_0_k0  y0)) := (vst64_0_0 N (j2 N) (j21 N) (j23 N) v0 v1 v2 v3 rec_ K).trans (jt22 N  v0 v1 v2 v3 (fun v0 v1 v2 v3 => rec_ (h64_0_0  v0 v1 v2 v3)) (fun y0 => K (.exit 0) (x64_0_0_k0  y0))).symm
theorem ro64_0_0 {β : Type} (N : Nat)  (K : Exit → St → Option β) : ∀ (F : Nat) (v0 : Int) (v1 : Int) (v2 : Int) (v3 : Int), (lp Tryz.f64 0).rounds lay (E64 N) (retMask Tryz.f64) F (h64_0_0  v0 v1 v2 v3) K = j23 N  F v0 v1 v2 v3 (fun y0 => K (.exit 0) (x64_0_0_k0  y0)) := by
  intro F
  induction F with
  | zero => intros; rfl
  | succ F ih =>
    intros
    rw [rounds_next]
    refine (st64_0_0 N  _ _ _ _ (fun s => (lp Tryz.f64 0).rounds lay (E64 N) (retMask Tryz.f64) F s K) K).trans ?_
    simp only [ih]
    rfl
theorem lk64_0 {β : Type} (N : Nat) : lookL (E64 (β := β) N).loops (lp Tryz.f64 0).id = LS64_0 N := by kernel_rfl
theorem rk64_0 {β : Type} (N : Nat) : RoundsOK lay (E64 (β := β) N) (retMask Tryz.f64) (lp Tryz.f64 0) := by
  intro s K r h
  rw [lk64_0] at h
  unfold LS64_0 VLS64_0 at h
  cases hb : shpSt (h64_0_0 0 0 0 0) s with
  | true =>
    rw [hb, cond_true] at h
    exact ⟨N, by rw [← shpSt_ref hb, fl64_0_0 s]; exact (ro64_0_0 N  K N (intS (oneA (vT (nx tund s.tmps 3)))) (intS (oneA (vT (nx tund s.tmps 4)))) (intS (nx .und (cellsB (nx .dead s.blks 0)) 0)) (intS (nx .und (cellsB (nx .dead s.blks 0)) 1))).trans h⟩
  | false =>
  rw [hb, cond_false] at h
  clear hb
  cases h
def jb24 {β : Type} (N : Nat) (jq2 : (a0 : Int) → (a1 : Int) → (k : Bool → Option β) → Option β) (jq23 : Nat → Int → Int → Int → Int → (Int → Option β) → Option β) (a0 : Int) (a1 : Int) (k : Int → Option β) : Option β :=
jq2 a0 a1 fun r3 =>
(cond (!r3)
(k (-1))
(jq23  N 0 0 a0 a1 (fun e5_0 =>
k e5_0)))
theorem jt24 {β : Type} (N : Nat) (a0 : Int) (a1 : Int) (k : Int → Option β) : j24 N a0 a1 k = jb24 N (j2 N) (j23 N) a0 a1 k := by
  unfold j24 jb24
  rfl
theorem ve64_0 {β : Type} (N : Nat) (jq2 : (a0 : Int) → (a1 : Int) → (k : Bool → Option β) → Option β) (jq21 : (a0 : Int) → (a1 : Int) → (a2 : Int) → (k : Int → Option β) → Option β) (jq23 : Nat → Int → Int → Int → Int → (Int → Option β) → Option β)  (a0 : Int) (a1 : Int) (K : TV → Option β) : evFn lay (VE64 N jq2 jq21 jq23) Tryz.f64 [.v (.agg [.int .i64 a0, .int .i64 a1])] K = jb24 N jq2 jq23 a0 a1 (fun z2 => K (.v (.one (.int .i64 z2)))) := by kernel_rfl
theorem e64_0 {β : Type} (N : Nat)  (a0 : Int) (a1 : Int) (K : TV → Option β) : evFn lay (E64 N) Tryz.f64 [.v (.agg [.int .i64 a0, .int .i64 a1])] K = j24 N a0 a1 (fun z2 => K (.v (.one (.int .i64 z2)))) := (ve64_0 N (j2 N) (j21 N) (j23 N) a0 a1 K).trans (jt24 N a0 a1 (fun z2 => K (.v (.one (.int .i64 z2))))).symm
theorem o64 {β : Type} (N : Nat) : SpecOK (β := β) inv Tryz.prog 64 (S64 N) := by
  refine spec_of lay_ok mixed (E := E64 N) (specs_loops (specs_cons (o13 N) (specs_cons (o123 N) specs_nil))) muts_nil gs_nil Tryz.func64 (by kernel_rfl) 1 (by kernel_rfl) ⟨trivial, rk64_0 N⟩ fun args K r h => ?_
  unfold S64 VS64 at h
  split at h
  · exact (e64_0 N _ _ _).trans h
  · cases h
end Go.Proofs.YtignjkbhdaiegaaGreatDoor
