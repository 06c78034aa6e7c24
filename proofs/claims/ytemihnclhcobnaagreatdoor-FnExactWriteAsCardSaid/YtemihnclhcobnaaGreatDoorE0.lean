/- The functions that the claims reach answer as their texts do. -/
import Derived.Test.YtemihnclhcobnaaGreatDoorT0
import Derived.Test.YtemihnclhcobnaaGreatDoorProg
import Derived.KernelRfl
import Derived.Test.YtemihnclhcobnaaGreatDoorShelf
namespace Go.Proofs.YtemihnclhcobnaaGreatDoor
open Go.Rv
set_option maxRecDepth 100000
set_option maxHeartbeats 2000000
set_option linter.unusedVariables false
variable {β : Type}
variable (zq0 : Y0 β) (zq1 : Y1 β) (zq2 : Y2 β) (zq4 : Y4 β) (zq5 : Y3 β) (zq6 : Y3 β) (zq7 : Y3 β) (zq9 : Y6 β) (zq10 : Y5 β) (zq11 : Y7 β) (zq12 : Y8 β) (zq14 : Y10 β) (zq15 : Y9 β) (zq16 : Y11 β) (zq18 : Y12 β) (zq19 : Y1 β) (zq21 : Y14 β) (zq22 : Y13 β) (zq23 : Y15 β)
def lay : Lay := [(1, .func),
  (2, .int .i64),
  (3, .int .i64),
  (4, .bool),
  (5, .int .u8),
  (9, .string),
  (12, .int .u64),
  (21, .int .i32),
  (22, .struct [⟨0, 1, false⟩, ⟨1, 1, false⟩] [3, 3] 16 true),
  (23, .struct [⟨0, 1, false⟩, ⟨1, 1, false⟩] [3, 3] 16 true),
  (25, .struct [⟨0, 1, false⟩, ⟨1, 1, false⟩] [3, 3] 16 true),
  (40, .slice 3),
  (44, .slice 9),
  (45, .struct [⟨0, 1, false⟩] [44] 24 false),
  (46, .struct [⟨0, 1, false⟩] [44] 24 false),
  (55, .slice 93),
  (66, .int .u64),
  (68, .slice 5),
  (80, .pointer 46),
  (84, .map 3 4),
  (92, .struct [⟨0, 1, false⟩, ⟨1, 1, false⟩] [3, 3] 16 true),
  (93, .struct [⟨0, 1, false⟩, ⟨1, 1, false⟩] [3, 3] 16 true),
  (104, .pointer 193),
  (107, .pointer 166),
  (119, .pointer 173),
  (122, .struct [⟨0, 1, false⟩, ⟨1, 1, false⟩] [3, 3] 16 true),
  (123, .struct [⟨0, 1, false⟩, ⟨1, 1, false⟩] [3, 3] 16 true),
  (124, .slice 40),
  (136, .int .u64),
  (137, .pointer 139),
  (138, .struct [⟨0, 1, false⟩, ⟨1, 1, false⟩] [137, 68] 32 false),
  (139, .struct [⟨0, 1, false⟩, ⟨1, 1, false⟩] [137, 68] 32 false),
  (165, .struct [⟨0, 1, false⟩, ⟨1, 1, false⟩, ⟨2, 1, false⟩] [5, 107, 107] 24 false),
  (166, .struct [⟨0, 1, false⟩, ⟨1, 1, false⟩, ⟨2, 1, false⟩] [5, 107, 107] 24 false),
  (171, .map 123 3),
  (172, .struct [⟨0, 2, true⟩, ⟨2, 1, false⟩, ⟨3, 1, false⟩] [3, 3, 171, 171] 32 false),
  (173, .struct [⟨0, 2, true⟩, ⟨2, 1, false⟩, ⟨3, 1, false⟩] [3, 3, 171, 171] 32 false),
  (181, .pointer 5),
  (182, .slice 4),
  (192, .struct [⟨0, 1, false⟩, ⟨1, 1, false⟩, ⟨2, 1, false⟩] [5, 104, 104] 24 false),
  (193, .struct [⟨0, 1, false⟩, ⟨1, 1, false⟩, ⟨2, 1, false⟩] [5, 104, 104] 24 false),
  (194, .array 2 4),
  (202, .int .u32),
  (217, .struct [⟨0, 1, false⟩, ⟨1, 1, false⟩] [5, 5] 2 true),
  (218, .struct [⟨0, 1, false⟩, ⟨1, 1, false⟩] [5, 5] 2 true)]

theorem lay_ok : LayOK Tryz.prog lay := layOK_of (by decide +kernel)
theorem mixed : Tryz.prog.follows .mixedOrders = true := by kernel_rfl
def inv : World → Prop := tabInv Tryz.prog
def S104 (N : Nat) : Rv.Spec β := itoaSpec N
theorem o104 (N : Nat) : SpecOK (β := β) inv Tryz.prog 104 (S104 N) := itoa_ok Tryz.func104 (by kernel_rfl) Tryz.strconv_Itoa N
def S106 (N : Nat) : Rv.Spec β := joinSpec N
theorem o106 (N : Nat) : SpecOK (β := β) inv Tryz.prog 106 (S106 N) := join_ok Tryz.func106 (by kernel_rfl) Tryz.strings_Join_none Tryz.strings_Join N
def VS238 (N : Nat) : Rv.Spec β := fun args K => match args with
  | [.v (.one (.int .i64 a0)), .v (.one (.cref [.int .i64 c0] 0))] => zq0 a0 c0 (fun z1 => K (.v (.one (.bool z1))))
  | _ => none
def S238 (N : Nat) : Rv.Spec β := VS238 (zj0 N) N
def VE238 (N : Nat) : Env β := ⟨[], [], [], [], ⟨[], [], [], []⟩⟩
def E238 (N : Nat) : Env β := VE238 N
theorem ve238_0 (N : Nat) (a0 : Int) (c0 : Int) (K : TV → O β) : evFn lay (VE238 N) Tryz.f238 [.v (.one (.int .i64 a0)), .v (.one (.cref [.int .i64 c0] 0))] K = zb0 N a0 c0 (fun z1 => K (.v (.one (.bool z1)))) := by kernel_rfl
theorem o238 (N : Nat) : SpecOK (β := β) inv Tryz.prog 238 (S238 N) := by
  refine spec_of lay_ok mixed (E := E238 N) (specs_loops specs_nil) muts_nil gs_nil Tryz.func238 (by kernel_rfl) 0 (by kernel_rfl) trivial fun args K r h => ?_
  unfold S238 VS238 at h
  split at h
  · exact (ve238_0 N _ _ _).trans h
  · cases h
def VS100 (N : Nat) : Rv.Spec β := fun args K => match args with
  | [.v (.agg [.int .i64 a0, .int .i64 a1])] => zq1 a0 a1 (fun z2 => K (.v (.one (.int .i64 z2))))
  | _ => none
def S100 (N : Nat) : Rv.Spec β := VS100 (zj1 N) N
def VE100 (N : Nat) : Env β := ⟨[], [], [], [], ⟨[], [], [], []⟩⟩
def E100 (N : Nat) : Env β := VE100 N
theorem ve100_0 (N : Nat) (a0 : Int) (a1 : Int) (K : TV → O β) : evFn lay (VE100 N) Tryz.f100 [.v (.agg [.int .i64 a0, .int .i64 a1])] K = zb1 N a0 a1 (fun z2 => K (.v (.one (.int .i64 z2)))) := by kernel_rfl
theorem o100 (N : Nat) : SpecOK (β := β) inv Tryz.prog 100 (S100 N) := by
  refine spec_of lay_ok mixed (E := E100 N) (specs_loops specs_nil) muts_nil gs_nil Tryz.func100 (by kernel_rfl) 0 (by kernel_rfl) trivial fun args K r h => ?_
  unfold S100 VS100 at h
  split at h
  · exact (ve100_0 N _ _ _).trans h
  · cases h
def VS103 (N : Nat) : Rv.Spec β := fun args K => match args with
  | [.v (.agg [.int .i64 a0, .int .i64 a1]), .v (.one (.int .i64 a2))] => zq2 a0 a1 a2 (fun z3 => K (.v (.one (.int .i64 z3))))
  | _ => none
def S103 (N : Nat) : Rv.Spec β := VS103 (zj2 N) N
def VE103 (N : Nat) : Env β := ⟨[], [], [], [], ⟨[], [], [], []⟩⟩
def E103 (N : Nat) : Env β := VE103 N
theorem ve103_0 (N : Nat) (a0 : Int) (a1 : Int) (a2 : Int) (K : TV → O β) : evFn lay (VE103 N) Tryz.f103 [.v (.agg [.int .i64 a0, .int .i64 a1]), .v (.one (.int .i64 a2))] K = zb2 N a0 a1 a2 (fun z3 => K (.v (.one (.int .i64 z3)))) := by kernel_rfl
theorem o103 (N : Nat) : SpecOK (β := β) inv Tryz.prog 103 (S103 N) := by
  refine spec_of lay_ok mixed (E := E103 N) (specs_loops specs_nil) muts_nil gs_nil Tryz.func103 (by kernel_rfl) 0 (by kernel_rfl) trivial fun args K r h => ?_
  unfold S103 VS103 at h
  split at h
  · exact (ve103_0 N _ _ _ _).trans h
  · cases h
def VS189 (N : Nat) : Rv.Spec β := fun args K => match args with
  | [.v (.one (.int .i64 a0)), .v (.one (.cref [.int .i64 c0, .int .i64 c1] 0))] => zq5 a0 c0 c1 (fun z1 => K (.v (.one (.bool z1))))
  | _ => none
def S189 (N : Nat) : Rv.Spec β := VS189 (zj5 N) N
def h189_0_0 (v0 : Int) (v1 : Int) (v2 : Int) (v3 : Int) (v4 : Int) (v5 : Int) : St := ⟨.v (.one (.int .i64 v0)) :: .v (.one (.cref [.int .i64 v1, .int .i64 v2] 0)) :: tund :: tund :: .v (.one (.int .i64 v3)) :: tund :: tund :: .v (.one (.int .i64 v4)) :: .v (.one (.int .i64 v5)) :: tn 14 [], []⟩
def x189_0_0_k0 (y0 : Int) : St := ⟨tn 4 (.v (.one (.int .i64 y0)) :: tn 18 []), []⟩
def p189_0_0 {γ : Type} (f : Int → Int → Int → Int → Int → Int → γ) (s : St) : γ := f (intS (oneA (vT (nx tund s.tmps 0)))) (intF (nx .no (crefS (oneA (vT (nx tund s.tmps 1)))) 0)) (intF (nx .no (crefS (oneA (vT (nx tund s.tmps 1)))) 1)) (intS (oneA (vT (nx tund s.tmps 4)))) (intS (oneA (vT (nx tund s.tmps 7)))) (intS (oneA (vT (nx tund s.tmps 8))))
theorem fl189_0_0 (s : St) : refSt (h189_0_0 0 0 0 0 0 0) s = p189_0_0 h189_0_0 s := by kernel_rfl
def VLS189_0 (N : Nat) : LSpec β := fun s K => cond (shpSt (h189_0_0 0 0 0 0 0 0) s) (p189_0_0 (fun v0 v1 v2 v3 v4 v5 => zq4 N v0 v1 v2 v3 v4 v5 (fun y0 => K (.exit 0) (x189_0_0_k0 y0))) s) (none)
def LS189_0 (N : Nat) : LSpec β := VLS189_0 (zj4 N) N
def VE189 (N : Nat) : Env β := ⟨[(100, VS100 zq1 N), (103, VS103 zq2 N)], [], [(0, VLS189_0 zq4 N)], [], ⟨[], [], [], []⟩⟩
def E189 (N : Nat) : Env β := VE189 (zj1 N) (zj2 N) (zj4 N) N
theorem vst189_0_0 (N : Nat) (v0 : Int) (v1 : Int) (v2 : Int) (v3 : Int) (v4 : Int) (v5 : Int) (rec_ : St → O β) (K : Exit → St → O β) :
    stB lay (VE189 zq1 zq2 zq4 N) Tryz.f189 0 (h189_0_0 v0 v1 v2 v3 v4 v5) rec_ K = zb3 zq2 N v0 v1 v2 v3 v4 v5 (fun v0 v1 v2 v3 v4 v5 => rec_ (h189_0_0 v0 v1 v2 v3 v4 v5)) (fun y0 => K (.exit 0) (x189_0_0_k0 y0)) := by kernel_rfl
theorem ro189_0_0 (N : Nat) (K : Exit → St → O β) : ∀ (F : Nat) (v0 : Int) (v1 : Int) (v2 : Int) (v3 : Int) (v4 : Int) (v5 : Int), (lp Tryz.f189 0).rounds lay (E189 N) (retMask Tryz.f189) F (h189_0_0 v0 v1 v2 v3 v4 v5) K = zj4 N F v0 v1 v2 v3 v4 v5 (fun y0 => K (.exit 0) (x189_0_0_k0 y0)) := by
  intro F
  induction F with
  | zero => intros; rfl
  | succ F ih =>
    intros
    rw [rounds_next]
    refine (vst189_0_0 (zj1 N) (zj2 N) (zj4 N) N _ _ _ _ _ _ (fun s => (lp Tryz.f189 0).rounds lay (E189 N) (retMask Tryz.f189) F s K) K).trans ?_
    simp only [ih]
    rfl
theorem lk189_0 (N : Nat) : lookL (E189 (β := β) N).loops (lp Tryz.f189 0).id = LS189_0 N := by kernel_rfl
theorem rk189_0 (N : Nat) : RoundsOK lay (E189 (β := β) N) (retMask Tryz.f189) (lp Tryz.f189 0) := by
  intro s K r h
  rw [lk189_0] at h
  unfold LS189_0 VLS189_0 at h
  cases hb : shpSt (h189_0_0 0 0 0 0 0 0) s with
  | true =>
    rw [hb, cond_true] at h
    exact ⟨N, by rw [← shpSt_ref hb, fl189_0_0 s]; unfold p189_0_0 at h ⊢; exact (ro189_0_0 N K N _ _ _ _ _ _).trans h⟩
  | false =>
  rw [hb, cond_false] at h
  clear hb
  cases h
theorem ve189_0 (N : Nat) (a0 : Int) (c0 : Int) (c1 : Int) (K : TV → O β) : evFn lay (VE189 zq1 zq2 zq4 N) Tryz.f189 [.v (.one (.int .i64 a0)), .v (.one (.cref [.int .i64 c0, .int .i64 c1] 0))] K = zb5 zq1 zq4 N a0 c0 c1 (fun z1 => K (.v (.one (.bool z1)))) := by kernel_rfl
theorem o189 (N : Nat) : SpecOK (β := β) inv Tryz.prog 189 (S189 N) := by
  refine spec_of lay_ok mixed (E := E189 N) (specs_loops (specs_cons (o100 N) (specs_cons (o103 N) specs_nil))) muts_nil gs_nil Tryz.func189 (by kernel_rfl) 1 (by kernel_rfl) ⟨trivial, rk189_0 N⟩ fun args K r h => ?_
  unfold S189 VS189 at h
  split at h
  · exact (ve189_0 (zj1 N) (zj2 N) (zj4 N) N _ _ _ _).trans h
  · cases h
def VS195 (N : Nat) : Rv.Spec β := fun args K => match args with
  | [.v (.agg [.int .i64 a0, .int .i64 a1]), .v (.one (.int .i64 a2))] => zq6 a0 a1 a2 (fun z3 => K (.v (.one (.bool z3))))
  | _ => none
def S195 (N : Nat) : Rv.Spec β := VS195 (zj6 N) N
def VE195 (N : Nat) : Env β := ⟨[], [], [], [], ⟨[], [], [], []⟩⟩
def E195 (N : Nat) : Env β := VE195 N
theorem ve195_0 (N : Nat) (a0 : Int) (a1 : Int) (a2 : Int) (K : TV → O β) : evFn lay (VE195 N) Tryz.f195 [.v (.agg [.int .i64 a0, .int .i64 a1]), .v (.one (.int .i64 a2))] K = zb6 N a0 a1 a2 (fun z3 => K (.v (.one (.bool z3)))) := by kernel_rfl
theorem o195 (N : Nat) : SpecOK (β := β) inv Tryz.prog 195 (S195 N) := by
  refine spec_of lay_ok mixed (E := E195 N) (specs_loops specs_nil) muts_nil gs_nil Tryz.func195 (by kernel_rfl) 0 (by kernel_rfl) trivial fun args K r h => ?_
  unfold S195 VS195 at h
  split at h
  · exact (ve195_0 N _ _ _ _).trans h
  · cases h
def VS194 (N : Nat) : Rv.Spec β := fun args K => match args with
  | [.v (.agg [.int .i64 a0, .int .i64 a1]), .v (.one (.cref [.int .i64 c0] 0))] => zq7 a0 a1 c0 (fun z2 => K (.v (.one (.bool z2))))
  | _ => none
def S194 (N : Nat) : Rv.Spec β := VS194 (zj7 N) N
def VE194 (N : Nat) : Env β := ⟨[(195, VS195 zq6 N)], [], [], [], ⟨[], [], [], []⟩⟩
def E194 (N : Nat) : Env β := VE194 (zj6 N) N
theorem ve194_0 (N : Nat) (a0 : Int) (a1 : Int) (c0 : Int) (K : TV → O β) : evFn lay (VE194 zq6 N) Tryz.f194 [.v (.agg [.int .i64 a0, .int .i64 a1]), .v (.one (.cref [.int .i64 c0] 0))] K = zb7 zq6 N a0 a1 c0 (fun z2 => K (.v (.one (.bool z2)))) := by kernel_rfl
theorem o194 (N : Nat) : SpecOK (β := β) inv Tryz.prog 194 (S194 N) := by
  refine spec_of lay_ok mixed (E := E194 N) (specs_loops (specs_cons (o195 N) specs_nil)) muts_nil gs_nil Tryz.func194 (by kernel_rfl) 0 (by kernel_rfl) trivial fun args K r h => ?_
  unfold S194 VS194 at h
  split at h
  · exact (ve194_0 (zj6 N) N _ _ _ _).trans h
  · cases h
def VS232 (N : Nat) : Rv.Spec β := fun args K => match args with
  | [.v (.one (.sl 93 (.pairs a0))), .v (.one (.dfn 194 [([.int .i64 q0], 0)]))] => zq10 a0 (fun x0 x1 k => zq7 x0 x1 q0 k) (fun z2 => K (.v (.one (.int .i64 z2))))
  | _ => none
def S232 (N : Nat) : Rv.Spec β := VS232 (zj7 N) (zj10 N) N
def h232_0_0 (q0 : Int) (v0 : List (Int × Int)) (v1 : Int) (v2 : Int) : St := ⟨.v (.one (.sl 93 (.pairs v0))) :: .v (.one (.dfn 194 [([.int .i64 q0], 0)])) :: tn 5 (.v (.one (.int .i64 v1)) :: .v (.one (.int .i64 v2)) :: tn 10 []), []⟩
def x232_0_0_k0 (q0 : Int) (y0 : Int) : St := ⟨tn 4 (.v (.one (.int .i64 y0)) :: tn 14 []), []⟩
def x232_0_0_k1 (q0 : Int) : St := ⟨tn 19 [], []⟩
def p232_0_0 {γ : Type} (f : Int → (List (Int × Int)) → Int → Int → γ) (s : St) : γ := f (intF (nx .no (nx ([], 0) (dfnS (oneA (vT (nx tund s.tmps 1)))) 0).1 0)) (rPairs (rowV (oneA (vT (nx tund s.tmps 0))))) (intS (oneA (vT (nx tund s.tmps 7)))) (intS (oneA (vT (nx tund s.tmps 8))))
theorem fl232_0_0 (s : St) : refSt (h232_0_0 0 [] 0 0) s = p232_0_0 h232_0_0 s := by kernel_rfl
def VLS232_0 (N : Nat) : LSpec β := fun s K => cond (shpSt (h232_0_0 0 [] 0 0) s) (p232_0_0 (fun q0 v0 v1 v2 => zq9 (fun x0 x1 k => zq7 x0 x1 q0 k) N v0 v1 v2 (fun y0 => K .ret (x232_0_0_k0 q0 y0)) (K (.exit 0) (x232_0_0_k1 q0 ))) s) (none)
def LS232_0 (N : Nat) : LSpec β := VLS232_0 (zj7 N) (zj9 N) N
def VE232 (N : Nat) : Env β := ⟨[(194, VS194 zq7 N)], [], [(0, VLS232_0 zq7 zq9 N)], [], ⟨[], [], [], []⟩⟩
def E232 (N : Nat) : Env β := VE232 (zj7 N) (zj9 N) N
theorem vst232_0_0 (N : Nat) (q0 : Int) (v0 : List (Int × Int)) (v1 : Int) (v2 : Int) (rec_ : St → O β) (K : Exit → St → O β) :
    stB lay (VE232 zq7 zq9 N) Tryz.f232 0 (h232_0_0 q0 v0 v1 v2) rec_ K = zb8 N (fun x0 x1 k => zq7 x0 x1 q0 k) v0 v1 v2 (fun v0 v1 v2 => rec_ (h232_0_0 q0 v0 v1 v2)) (fun y0 => K .ret (x232_0_0_k0 q0 y0)) (K (.exit 0) (x232_0_0_k1 q0 )) := by kernel_rfl
theorem ro232_0_0 (N : Nat) (q0 : Int) (K : Exit → St → O β) : ∀ (F : Nat) (v0 : List (Int × Int)) (v1 : Int) (v2 : Int), (lp Tryz.f232 0).rounds lay (E232 N) (retMask Tryz.f232) F (h232_0_0 q0 v0 v1 v2) K = zj9 N (fun x0 x1 k => zj7 N x0 x1 q0 k) F v0 v1 v2 (fun y0 => K .ret (x232_0_0_k0 q0 y0)) (K (.exit 0) (x232_0_0_k1 q0 )) := by
  intro F
  induction F with
  | zero => intros; rfl
  | succ F ih =>
    intros
    rw [rounds_next]
    refine (vst232_0_0 (zj7 N) (zj9 N) N q0 _ _ _ (fun s => (lp Tryz.f232 0).rounds lay (E232 N) (retMask Tryz.f232) F s K) K).trans ?_
    simp only [ih]
    rfl
theorem lk232_0 (N : Nat) : lookL (E232 (β := β) N).loops (lp Tryz.f232 0).id = LS232_0 N := by kernel_rfl
theorem rk232_0 (N : Nat) : RoundsOK lay (E232 (β := β) N) (retMask Tryz.f232) (lp Tryz.f232 0) := by
  intro s K r h
  rw [lk232_0] at h
  unfold LS232_0 VLS232_0 at h
  cases hb : shpSt (h232_0_0 0 [] 0 0) s with
  | true =>
    rw [hb, cond_true] at h
    exact ⟨N, by rw [← shpSt_ref hb, fl232_0_0 s]; unfold p232_0_0 at h ⊢; exact (ro232_0_0 N _ K N _ _ _).trans h⟩
  | false =>
  rw [hb, cond_false] at h
  clear hb
  cases h
theorem ve232_0 (N : Nat) (q0 : Int) (a0 : List (Int × Int)) (K : TV → O β) : evFn lay (VE232 zq7 zq9 N) Tryz.f232 [.v (.one (.sl 93 (.pairs a0))), .v (.one (.dfn 194 [([.int .i64 q0], 0)]))] K = zb10 zq9 N a0 (fun x0 x1 k => zq7 x0 x1 q0 k) (fun z2 => K (.v (.one (.int .i64 z2)))) := by kernel_rfl
theorem o232 (N : Nat) : SpecOK (β := β) inv Tryz.prog 232 (S232 N) := by
  refine spec_of lay_ok mixed (E := E232 N) (specs_loops (specs_cons (o194 N) specs_nil)) muts_nil gs_nil Tryz.func232 (by kernel_rfl) 1 (by kernel_rfl) ⟨trivial, rk232_0 N⟩ fun args K r h => ?_
  unfold S232 VS232 at h
  split at h
  · exact (ve232_0 (zj7 N) (zj9 N) N _ _ _).trans h
  · cases h
def VS190 (N : Nat) : Rv.Spec β := fun args K => match args with
  | [.v (.one (.sl 93 (.pairs a0))), .v (.one (.dfn 194 [([.int .i64 q0], 0)]))] => zq11 a0 (fun x0 x1 k => zq7 x0 x1 q0 k) (fun z2 => K (.v (.one (.bool z2))))
  | _ => none
def S190 (N : Nat) : Rv.Spec β := VS190 (zj7 N) (zj11 N) N
def VE190 (N : Nat) : Env β := ⟨[(232, VS232 zq7 zq10 N), (194, VS194 zq7 N)], [], [], [], ⟨[], [], [], []⟩⟩
def E190 (N : Nat) : Env β := VE190 (zj7 N) (zj10 N) N
theorem ve190_0 (N : Nat) (q0 : Int) (a0 : List (Int × Int)) (K : TV → O β) : evFn lay (VE190 zq7 zq10 N) Tryz.f190 [.v (.one (.sl 93 (.pairs a0))), .v (.one (.dfn 194 [([.int .i64 q0], 0)]))] K = zb11 zq10 N a0 (fun x0 x1 k => zq7 x0 x1 q0 k) (fun z2 => K (.v (.one (.bool z2)))) := by kernel_rfl
theorem o190 (N : Nat) : SpecOK (β := β) inv Tryz.prog 190 (S190 N) := by
  refine spec_of lay_ok mixed (E := E190 N) (specs_loops (specs_cons (o232 N) (specs_cons (o194 N) specs_nil))) muts_nil gs_nil Tryz.func190 (by kernel_rfl) 0 (by kernel_rfl) trivial fun args K r h => ?_
  unfold S190 VS190 at h
  split at h
  · exact (ve190_0 (zj7 N) (zj10 N) N _ _ _).trans h
  · cases h
def VS193 (N : Nat) : Rv.Spec β := fun args K => match args with
  | [.v (.one (.int .i64 a0)), .v (.one (.cref [.sl 93 (.pairs c0)] 0))] => zq12 a0 c0 (fun z1 => K (.v (.one (.bool z1))))
  | _ => none
def S193 (N : Nat) : Rv.Spec β := VS193 (zj12 N) N
def VE193 (N : Nat) : Env β := ⟨[(190, VS190 zq7 zq11 N), (194, VS194 zq7 N)], [], [], [], ⟨[], [], [], []⟩⟩
def E193 (N : Nat) : Env β := VE193 (zj7 N) (zj11 N) N
theorem ve193_0 (N : Nat) (a0 : Int) (c0 : List (Int × Int)) (K : TV → O β) : evFn lay (VE193 zq7 zq11 N) Tryz.f193 [.v (.one (.int .i64 a0)), .v (.one (.cref [.sl 93 (.pairs c0)] 0))] K = zb12 zq7 zq11 N a0 c0 (fun z1 => K (.v (.one (.bool z1)))) := by kernel_rfl
theorem o193 (N : Nat) : SpecOK (β := β) inv Tryz.prog 193 (S193 N) := by
  refine spec_of lay_ok mixed (E := E193 N) (specs_loops (specs_cons (o190 N) (specs_cons (o194 N) specs_nil))) muts_nil gs_nil Tryz.func193 (by kernel_rfl) 0 (by kernel_rfl) trivial fun args K r h => ?_
  unfold S193 VS193 at h
  split at h
  · exact (ve193_0 (zj7 N) (zj11 N) N _ _ _).trans h
  · cases h
def VS129 (N : Nat) : Rv.Spec β := fun args K => match args with
  | [.v (.one (.int .i64 a0)), .v (.one (.dfn 238 [([.int .i64 q0], 0)]))] => zq15 a0 (fun x0 k => zq0 x0 q0 k) (fun z2 z3 => K (.v (.agg [.int .i64 z2, .int .i64 z3])))
  | [.v (.one (.int .i64 a0)), .v (.one (.dfn 189 [([.int .i64 q0, .int .i64 q1], 0)]))] => zq15 a0 (fun x0 k => zq5 x0 q0 q1 k) (fun z2 z3 => K (.v (.agg [.int .i64 z2, .int .i64 z3])))
  | [.v (.one (.int .i64 a0)), .v (.one (.dfn 193 [([.sl 93 (.pairs q0)], 0)]))] => zq15 a0 (fun x0 k => zq12 x0 q0 k) (fun z2 z3 => K (.v (.agg [.int .i64 z2, .int .i64 z3])))
  | _ => none
def S129 (N : Nat) : Rv.Spec β := VS129 (zj0 N) (zj5 N) (zj12 N) (zj15 N) N
def h129_0_0 (q0 : Int) (v0 : Int) (v1 : Int) (v2 : Int) (v3 : Int) (v4 : Int) (v5 : Int) : St := ⟨tund :: .v (.one (.dfn 238 [([.int .i64 q0], 0)])) :: tund :: tund :: .v (.one (.ptr 0 0)) :: .v (.one (.ptr 1 0)) :: tn 4 (.v (.one (.int .i64 v0)) :: .v (.one (.int .i64 v1)) :: tn 13 []), [.cells 25 [.int .i64 v2, .int .i64 v3], .cells 25 [.int .i64 v4, .int .i64 v5]]⟩
def x129_0_0_k0 (q0 : Int) (y0 : Int) (y1 : Int) (y2 : Int) (y3 : Int) : St := ⟨tn 4 (.v (.one (.ptr 0 0)) :: .v (.one (.ptr 1 0)) :: tn 19 []), [.cells 25 [.int .i64 y0, .int .i64 y1], .cells 25 [.int .i64 y2, .int .i64 y3]]⟩
def h129_0_1 (q0 : Int) (q1 : Int) (v0 : Int) (v1 : Int) (v2 : Int) (v3 : Int) (v4 : Int) (v5 : Int) : St := ⟨tund :: .v (.one (.dfn 189 [([.int .i64 q0, .int .i64 q1], 0)])) :: tund :: tund :: .v (.one (.ptr 0 0)) :: .v (.one (.ptr 1 0)) :: tn 4 (.v (.one (.int .i64 v0)) :: .v (.one (.int .i64 v1)) :: tn 13 []), [.cells 25 [.int .i64 v2, .int .i64 v3], .cells 25 [.int .i64 v4, .int .i64 v5]]⟩
def x129_0_1_k0 (q0 : Int) (q1 : Int) (y0 : Int) (y1 : Int) (y2 : Int) (y3 : Int) : St := ⟨tn 4 (.v (.one (.ptr 0 0)) :: .v (.one (.ptr 1 0)) :: tn 19 []), [.cells 25 [.int .i64 y0, .int .i64 y1], .cells 25 [.int .i64 y2, .int .i64 y3]]⟩
def h129_0_2 (q0 : List (Int × Int)) (v0 : Int) (v1 : Int) (v2 : Int) (v3 : Int) (v4 : Int) (v5 : Int) : St := ⟨tund :: .v (.one (.dfn 193 [([.sl 93 (.pairs q0)], 0)])) :: tund :: tund :: .v (.one (.ptr 0 0)) :: .v (.one (.ptr 1 0)) :: tn 4 (.v (.one (.int .i64 v0)) :: .v (.one (.int .i64 v1)) :: tn 13 []), [.cells 25 [.int .i64 v2, .int .i64 v3], .cells 25 [.int .i64 v4, .int .i64 v5]]⟩
def x129_0_2_k0 (q0 : List (Int × Int)) (y0 : Int) (y1 : Int) (y2 : Int) (y3 : Int) : St := ⟨tn 4 (.v (.one (.ptr 0 0)) :: .v (.one (.ptr 1 0)) :: tn 19 []), [.cells 25 [.int .i64 y0, .int .i64 y1], .cells 25 [.int .i64 y2, .int .i64 y3]]⟩
def p129_0_0 {γ : Type} (f : Int → Int → Int → Int → Int → Int → Int → γ) (s : St) : γ := f (intF (nx .no (nx ([], 0) (dfnS (oneA (vT (nx tund s.tmps 1)))) 0).1 0)) (intS (oneA (vT (nx tund s.tmps 10)))) (intS (oneA (vT (nx tund s.tmps 11)))) (intS (nx .und (cellsB (nx .dead s.blks 0)) 0)) (intS (nx .und (cellsB (nx .dead s.blks 0)) 1)) (intS (nx .und (cellsB (nx .dead s.blks 1)) 0)) (intS (nx .und (cellsB (nx .dead s.blks 1)) 1))
theorem fl129_0_0 (s : St) : refSt (h129_0_0 0 0 0 0 0 0 0) s = p129_0_0 h129_0_0 s := by kernel_rfl
def p129_0_1 {γ : Type} (f : Int → Int → Int → Int → Int → Int → Int → Int → γ) (s : St) : γ := f (intF (nx .no (nx ([], 0) (dfnS (oneA (vT (nx tund s.tmps 1)))) 0).1 0)) (intF (nx .no (nx ([], 0) (dfnS (oneA (vT (nx tund s.tmps 1)))) 0).1 1)) (intS (oneA (vT (nx tund s.tmps 10)))) (intS (oneA (vT (nx tund s.tmps 11)))) (intS (nx .und (cellsB (nx .dead s.blks 0)) 0)) (intS (nx .und (cellsB (nx .dead s.blks 0)) 1)) (intS (nx .und (cellsB (nx .dead s.blks 1)) 0)) (intS (nx .und (cellsB (nx .dead s.blks 1)) 1))
theorem fl129_0_1 (s : St) : refSt (h129_0_1 0 0 0 0 0 0 0 0) s = p129_0_1 h129_0_1 s := by kernel_rfl
def p129_0_2 {γ : Type} (f : (List (Int × Int)) → Int → Int → Int → Int → Int → Int → γ) (s : St) : γ := f (rPairs (rowF (nx .no (nx ([], 0) (dfnS (oneA (vT (nx tund s.tmps 1)))) 0).1 0))) (intS (oneA (vT (nx tund s.tmps 10)))) (intS (oneA (vT (nx tund s.tmps 11)))) (intS (nx .und (cellsB (nx .dead s.blks 0)) 0)) (intS (nx .und (cellsB (nx .dead s.blks 0)) 1)) (intS (nx .und (cellsB (nx .dead s.blks 1)) 0)) (intS (nx .und (cellsB (nx .dead s.blks 1)) 1))
theorem fl129_0_2 (s : St) : refSt (h129_0_2 [] 0 0 0 0 0 0) s = p129_0_2 h129_0_2 s := by kernel_rfl
def VLS129_0 (N : Nat) : LSpec β := fun s K => cond (shpSt (h129_0_0 0 0 0 0 0 0 0) s) (p129_0_0 (fun q0 v0 v1 v2 v3 v4 v5 => zq14 (fun x0 k => zq0 x0 q0 k) N v0 v1 v2 v3 v4 v5 (fun y0 y1 y2 y3 => K (.exit 0) (x129_0_0_k0 q0 y0 y1 y2 y3))) s) (cond (shpSt (h129_0_1 0 0 0 0 0 0 0 0) s) (p129_0_1 (fun q0 q1 v0 v1 v2 v3 v4 v5 => zq14 (fun x0 k => zq5 x0 q0 q1 k) N v0 v1 v2 v3 v4 v5 (fun y0 y1 y2 y3 => K (.exit 0) (x129_0_1_k0 q0 q1 y0 y1 y2 y3))) s) (cond (shpSt (h129_0_2 [] 0 0 0 0 0 0) s) (p129_0_2 (fun q0 v0 v1 v2 v3 v4 v5 => zq14 (fun x0 k => zq12 x0 q0 k) N v0 v1 v2 v3 v4 v5 (fun y0 y1 y2 y3 => K (.exit 0) (x129_0_2_k0 q0 y0 y1 y2 y3))) s) (none)))
def LS129_0 (N : Nat) : LSpec β := VLS129_0 (zj0 N) (zj5 N) (zj12 N) (zj14 N) N
def VE129 (N : Nat) : Env β := ⟨[(238, VS238 zq0 N), (189, VS189 zq5 N), (193, VS193 zq12 N)], [], [(0, VLS129_0 zq0 zq5 zq12 zq14 N)], [], ⟨[], [], [], []⟩⟩
def E129 (N : Nat) : Env β := VE129 (zj0 N) (zj5 N) (zj12 N) (zj14 N) N
theorem vst129_0_0 (N : Nat) (q0 : Int) (v0 : Int) (v1 : Int) (v2 : Int) (v3 : Int) (v4 : Int) (v5 : Int) (rec_ : St → O β) (K : Exit → St → O β) :
    stB lay (VE129 zq0 zq5 zq12 zq14 N) Tryz.f129 0 (h129_0_0 q0 v0 v1 v2 v3 v4 v5) rec_ K = zb13 N (fun x0 k => zq0 x0 q0 k) v0 v1 v2 v3 v4 v5 (fun v0 v1 v2 v3 v4 v5 => rec_ (h129_0_0 q0 v0 v1 v2 v3 v4 v5)) (fun y0 y1 y2 y3 => K (.exit 0) (x129_0_0_k0 q0 y0 y1 y2 y3)) := by kernel_rfl
theorem ro129_0_0 (N : Nat) (q0 : Int) (K : Exit → St → O β) : ∀ (F : Nat) (v0 : Int) (v1 : Int) (v2 : Int) (v3 : Int) (v4 : Int) (v5 : Int), (lp Tryz.f129 0).rounds lay (E129 N) (retMask Tryz.f129) F (h129_0_0 q0 v0 v1 v2 v3 v4 v5) K = zj14 N (fun x0 k => zj0 N x0 q0 k) F v0 v1 v2 v3 v4 v5 (fun y0 y1 y2 y3 => K (.exit 0) (x129_0_0_k0 q0 y0 y1 y2 y3)) := by
  intro F
  induction F with
  | zero => intros; rfl
  | succ F ih =>
    intros
    rw [rounds_next]
    refine (vst129_0_0 (zj0 N) (zj5 N) (zj12 N) (zj14 N) N q0 _ _ _ _ _ _ (fun s => (lp Tryz.f129 0).rounds lay (E129 N) (retMask Tryz.f129) F s K) K).trans ?_
    simp only [ih]
    rfl
theorem vst129_0_1 (N : Nat) (q0 : Int) (q1 : Int) (v0 : Int) (v1 : Int) (v2 : Int) (v3 : Int) (v4 : Int) (v5 : Int) (rec_ : St → O β) (K : Exit → St → O β) :
    stB lay (VE129 zq0 zq5 zq12 zq14 N) Tryz.f129 0 (h129_0_1 q0 q1 v0 v1 v2 v3 v4 v5) rec_ K = zb13 N (fun x0 k => zq5 x0 q0 q1 k) v0 v1 v2 v3 v4 v5 (fun v0 v1 v2 v3 v4 v5 => rec_ (h129_0_1 q0 q1 v0 v1 v2 v3 v4 v5)) (fun y0 y1 y2 y3 => K (.exit 0) (x129_0_1_k0 q0 q1 y0 y1 y2 y3)) := by kernel_rfl
theorem ro129_0_1 (N : Nat) (q0 : Int) (q1 : Int) (K : Exit → St → O β) : ∀ (F : Nat) (v0 : Int) (v1 : Int) (v2 : Int) (v3 : Int) (v4 : Int) (v5 : Int), (lp Tryz.f129 0).rounds lay (E129 N) (retMask Tryz.f129) F (h129_0_1 q0 q1 v0 v1 v2 v3 v4 v5) K = zj14 N (fun x0 k => zj5 N x0 q0 q1 k) F v0 v1 v2 v3 v4 v5 (fun y0 y1 y2 y3 => K (.exit 0) (x129_0_1_k0 q0 q1 y0 y1 y2 y3)) := by
  intro F
  induction F with
  | zero => intros; rfl
  | succ F ih =>
    intros
    rw [rounds_next]
    refine (vst129_0_1 (zj0 N) (zj5 N) (zj12 N) (zj14 N) N q0 q1 _ _ _ _ _ _ (fun s => (lp Tryz.f129 0).rounds lay (E129 N) (retMask Tryz.f129) F s K) K).trans ?_
    simp only [ih]
    rfl
theorem vst129_0_2 (N : Nat) (q0 : List (Int × Int)) (v0 : Int) (v1 : Int) (v2 : Int) (v3 : Int) (v4 : Int) (v5 : Int) (rec_ : St → O β) (K : Exit → St → O β) :
    stB lay (VE129 zq0 zq5 zq12 zq14 N) Tryz.f129 0 (h129_0_2 q0 v0 v1 v2 v3 v4 v5) rec_ K = zb13 N (fun x0 k => zq12 x0 q0 k) v0 v1 v2 v3 v4 v5 (fun v0 v1 v2 v3 v4 v5 => rec_ (h129_0_2 q0 v0 v1 v2 v3 v4 v5)) (fun y0 y1 y2 y3 => K (.exit 0) (x129_0_2_k0 q0 y0 y1 y2 y3)) := by kernel_rfl
theorem ro129_0_2 (N : Nat) (q0 : List (Int × Int)) (K : Exit → St → O β) : ∀ (F : Nat) (v0 : Int) (v1 : Int) (v2 : Int) (v3 : Int) (v4 : Int) (v5 : Int), (lp Tryz.f129 0).rounds lay (E129 N) (retMask Tryz.f129) F (h129_0_2 q0 v0 v1 v2 v3 v4 v5) K = zj14 N (fun x0 k => zj12 N x0 q0 k) F v0 v1 v2 v3 v4 v5 (fun y0 y1 y2 y3 => K (.exit 0) (x129_0_2_k0 q0 y0 y1 y2 y3)) := by
  intro F
  induction F with
  | zero => intros; rfl
  | succ F ih =>
    intros
    rw [rounds_next]
    refine (vst129_0_2 (zj0 N) (zj5 N) (zj12 N) (zj14 N) N q0 _ _ _ _ _ _ (fun s => (lp Tryz.f129 0).rounds lay (E129 N) (retMask Tryz.f129) F s K) K).trans ?_
    simp only [ih]
    rfl
theorem lk129_0 (N : Nat) : lookL (E129 (β := β) N).loops (lp Tryz.f129 0).id = LS129_0 N := by kernel_rfl
theorem rk129_0 (N : Nat) : RoundsOK lay (E129 (β := β) N) (retMask Tryz.f129) (lp Tryz.f129 0) := by
  intro s K r h
  rw [lk129_0] at h
  unfold LS129_0 VLS129_0 at h
  cases hb : shpSt (h129_0_0 0 0 0 0 0 0 0) s with
  | true =>
    rw [hb, cond_true] at h
    exact ⟨N, by rw [← shpSt_ref hb, fl129_0_0 s]; unfold p129_0_0 at h ⊢; exact (ro129_0_0 N _ K N _ _ _ _ _ _).trans h⟩
  | false =>
  rw [hb, cond_false] at h
  clear hb
  cases hb : shpSt (h129_0_1 0 0 0 0 0 0 0 0) s with
  | true =>
    rw [hb, cond_true] at h
    exact ⟨N, by rw [← shpSt_ref hb, fl129_0_1 s]; unfold p129_0_1 at h ⊢; exact (ro129_0_1 N _ _ K N _ _ _ _ _ _).trans h⟩
  | false =>
  rw [hb, cond_false] at h
  clear hb
  cases hb : shpSt (h129_0_2 [] 0 0 0 0 0 0) s with
  | true =>
    rw [hb, cond_true] at h
    exact ⟨N, by rw [← shpSt_ref hb, fl129_0_2 s]; unfold p129_0_2 at h ⊢; exact (ro129_0_2 N _ K N _ _ _ _ _ _).trans h⟩
  | false =>
  rw [hb, cond_false] at h
  clear hb
  cases h
theorem ve129_0 (N : Nat) (q0 : Int) (a0 : Int) (K : TV → O β) : evFn lay (VE129 zq0 zq5 zq12 zq14 N) Tryz.f129 [.v (.one (.int .i64 a0)), .v (.one (.dfn 238 [([.int .i64 q0], 0)]))] K = zb15 zq14 N a0 (fun x0 k => zq0 x0 q0 k) (fun z2 z3 => K (.v (.agg [.int .i64 z2, .int .i64 z3]))) := by kernel_rfl
theorem ve129_1 (N : Nat) (q0 : Int) (q1 : Int) (a0 : Int) (K : TV → O β) : evFn lay (VE129 zq0 zq5 zq12 zq14 N) Tryz.f129 [.v (.one (.int .i64 a0)), .v (.one (.dfn 189 [([.int .i64 q0, .int .i64 q1], 0)]))] K = zb15 zq14 N a0 (fun x0 k => zq5 x0 q0 q1 k) (fun z2 z3 => K (.v (.agg [.int .i64 z2, .int .i64 z3]))) := by kernel_rfl
theorem ve129_2 (N : Nat) (q0 : List (Int × Int)) (a0 : Int) (K : TV → O β) : evFn lay (VE129 zq0 zq5 zq12 zq14 N) Tryz.f129 [.v (.one (.int .i64 a0)), .v (.one (.dfn 193 [([.sl 93 (.pairs q0)], 0)]))] K = zb15 zq14 N a0 (fun x0 k => zq12 x0 q0 k) (fun z2 z3 => K (.v (.agg [.int .i64 z2, .int .i64 z3]))) := by kernel_rfl
theorem o129 (N : Nat) : SpecOK (β := β) inv Tryz.prog 129 (S129 N) := by
  refine spec_of lay_ok mixed (E := E129 N) (specs_loops (specs_cons (o238 N) (specs_cons (o189 N) (specs_cons (o193 N) specs_nil)))) muts_nil gs_nil Tryz.func129 (by kernel_rfl) 1 (by kernel_rfl) ⟨trivial, rk129_0 N⟩ fun args K r h => ?_
  unfold S129 VS129 at h
  split at h
  · exact (ve129_0 (zj0 N) (zj5 N) (zj12 N) (zj14 N) N _ _ _).trans h
  · exact (ve129_1 (zj0 N) (zj5 N) (zj12 N) (zj14 N) N _ _ _ _).trans h
  · exact (ve129_2 (zj0 N) (zj5 N) (zj12 N) (zj14 N) N _ _ _).trans h
  · cases h
def VS212 (N : Nat) : Rv.Spec β := fun args K => match args with
  | [.v (.one (.int .i64 a0)), .v (.one (.int .i64 a1))] => zq16 a0 a1 (fun z2 z3 => K (.v (.agg [.int .i64 z2, .int .i64 z3])))
  | _ => none
def S212 (N : Nat) : Rv.Spec β := VS212 (zj16 N) N
def VE212 (N : Nat) : Env β := ⟨[(129, VS129 zq0 zq5 zq12 zq15 N), (238, VS238 zq0 N)], [], [], [], ⟨[], [], [], []⟩⟩
def E212 (N : Nat) : Env β := VE212 (zj0 N) (zj5 N) (zj12 N) (zj15 N) N
theorem ve212_0 (N : Nat) (a0 : Int) (a1 : Int) (K : TV → O β) : evFn lay (VE212 zq0 zq5 zq12 zq15 N) Tryz.f212 [.v (.one (.int .i64 a0)), .v (.one (.int .i64 a1))] K = zb16 zq0 zq15 N a0 a1 (fun z2 z3 => K (.v (.agg [.int .i64 z2, .int .i64 z3]))) := by kernel_rfl
theorem o212 (N : Nat) : SpecOK (β := β) inv Tryz.prog 212 (S212 N) := by
  refine spec_of lay_ok mixed (E := E212 N) (specs_loops (specs_cons (o129 N) (specs_cons (o238 N) specs_nil))) muts_nil gs_nil Tryz.func212 (by kernel_rfl) 0 (by kernel_rfl) trivial fun args K r h => ?_
  unfold S212 VS212 at h
  split at h
  · exact (ve212_0 (zj0 N) (zj5 N) (zj12 N) (zj15 N) N _ _ _).trans h
  · cases h
def VS207 (N : Nat) : Rv.Spec β := fun args K => match args with
  | [.v (.one (.int .i64 a0)), .v (.one (.int .i64 a1))] => zq19 a0 a1 (fun z2 => K (.v (.one (.int .i64 z2))))
  | _ => none
def S207 (N : Nat) : Rv.Spec β := VS207 (zj19 N) N
def h207_0_0 (v0 : Int) (v1 : Int) (v2 : Int) (v3 : Int) : St := ⟨.v (.one (.int .i64 v0)) :: .v (.one (.int .i64 v1)) :: tn 3 (.v (.one (.int .i64 v2)) :: .v (.one (.int .i64 v3)) :: tn 16 []), []⟩
def x207_0_0_k0 (y0 : Int) : St := ⟨tn 5 (.v (.one (.int .i64 y0)) :: tn 17 []), []⟩
def p207_0_0 {γ : Type} (f : Int → Int → Int → Int → γ) (s : St) : γ := f (intS (oneA (vT (nx tund s.tmps 0)))) (intS (oneA (vT (nx tund s.tmps 1)))) (intS (oneA (vT (nx tund s.tmps 5)))) (intS (oneA (vT (nx tund s.tmps 6))))
theorem fl207_0_0 (s : St) : refSt (h207_0_0 0 0 0 0) s = p207_0_0 h207_0_0 s := by kernel_rfl
def VLS207_0 (N : Nat) : LSpec β := fun s K => cond (shpSt (h207_0_0 0 0 0 0) s) (p207_0_0 (fun v0 v1 v2 v3 => zq18 N v0 v1 v2 v3 (fun y0 => K (.exit 0) (x207_0_0_k0 y0))) s) (none)
def LS207_0 (N : Nat) : LSpec β := VLS207_0 (zj18 N) N
def VE207 (N : Nat) : Env β := ⟨[], [], [(0, VLS207_0 zq18 N)], [], ⟨[], [], [], []⟩⟩
def E207 (N : Nat) : Env β := VE207 (zj18 N) N
theorem vst207_0_0 (N : Nat) (v0 : Int) (v1 : Int) (v2 : Int) (v3 : Int) (rec_ : St → O β) (K : Exit → St → O β) :
    stB lay (VE207 zq18 N) Tryz.f207 0 (h207_0_0 v0 v1 v2 v3) rec_ K = zb17 N v0 v1 v2 v3 (fun v0 v1 v2 v3 => rec_ (h207_0_0 v0 v1 v2 v3)) (fun y0 => K (.exit 0) (x207_0_0_k0 y0)) := by kernel_rfl
theorem ro207_0_0 (N : Nat) (K : Exit → St → O β) : ∀ (F : Nat) (v0 : Int) (v1 : Int) (v2 : Int) (v3 : Int), (lp Tryz.f207 0).rounds lay (E207 N) (retMask Tryz.f207) F (h207_0_0 v0 v1 v2 v3) K = zj18 N F v0 v1 v2 v3 (fun y0 => K (.exit 0) (x207_0_0_k0 y0)) := by
  intro F
  induction F with
  | zero => intros; rfl
  | succ F ih =>
    intros
    rw [rounds_next]
    refine (vst207_0_0 (zj18 N) N _ _ _ _ (fun s => (lp Tryz.f207 0).rounds lay (E207 N) (retMask Tryz.f207) F s K) K).trans ?_
    simp only [ih]
    rfl
theorem lk207_0 (N : Nat) : lookL (E207 (β := β) N).loops (lp Tryz.f207 0).id = LS207_0 N := by kernel_rfl
theorem rk207_0 (N : Nat) : RoundsOK lay (E207 (β := β) N) (retMask Tryz.f207) (lp Tryz.f207 0) := by
  intro s K r h
  rw [lk207_0] at h
  unfold LS207_0 VLS207_0 at h
  cases hb : shpSt (h207_0_0 0 0 0 0) s with
  | true =>
    rw [hb, cond_true] at h
    exact ⟨N, by rw [← shpSt_ref hb, fl207_0_0 s]; unfold p207_0_0 at h ⊢; exact (ro207_0_0 N K N _ _ _ _).trans h⟩
  | false =>
  rw [hb, cond_false] at h
  clear hb
  cases h
theorem ve207_0 (N : Nat) (a0 : Int) (a1 : Int) (K : TV → O β) : evFn lay (VE207 zq18 N) Tryz.f207 [.v (.one (.int .i64 a0)), .v (.one (.int .i64 a1))] K = zb19 zq18 N a0 a1 (fun z2 => K (.v (.one (.int .i64 z2)))) := by kernel_rfl
theorem o207 (N : Nat) : SpecOK (β := β) inv Tryz.prog 207 (S207 N) := by
  refine spec_of lay_ok mixed (E := E207 N) (specs_loops specs_nil) muts_nil gs_nil Tryz.func207 (by kernel_rfl) 1 (by kernel_rfl) ⟨trivial, rk207_0 N⟩ fun args K r h => ?_
  unfold S207 VS207 at h
  split at h
  · exact (ve207_0 (zj18 N) N _ _ _).trans h
  · cases h
def VS239 (N : Nat) : Rv.Spec β := fun args K => match args with
  | [.v (.one (.sl 3 (.ints .i64 a0))), .v (.one (.int .i64 a1))] => zq22 a0 a1 (fun z2 => K (.v (.one (.int .i64 z2))))
  | _ => none
def S239 (N : Nat) : Rv.Spec β := VS239 (zj22 N) N
def h239_0_0 (v0 : List Int) (v1 : Int) (v2 : Int) (v3 : Int) : St := ⟨.v (.one (.sl 3 (.ints .i64 v0))) :: .v (.one (.int .i64 v1)) :: tn 5 (.v (.one (.int .i64 v2)) :: .v (.one (.int .i64 v3)) :: tn 10 []), []⟩
def x239_0_0_k0 (y0 : Int) : St := ⟨tn 4 (.v (.one (.int .i64 y0)) :: tn 14 []), []⟩
def x239_0_0_k1 : St := ⟨tn 19 [], []⟩
def p239_0_0 {γ : Type} (f : List Int → Int → Int → Int → γ) (s : St) : γ := f (rInts (rowV (oneA (vT (nx tund s.tmps 0))))) (intS (oneA (vT (nx tund s.tmps 1)))) (intS (oneA (vT (nx tund s.tmps 7)))) (intS (oneA (vT (nx tund s.tmps 8))))
theorem fl239_0_0 (s : St) : refSt (h239_0_0 [] 0 0 0) s = p239_0_0 h239_0_0 s := by kernel_rfl
def VLS239_0 (N : Nat) : LSpec β := fun s K => cond (shpSt (h239_0_0 [] 0 0 0) s) (p239_0_0 (fun v0 v1 v2 v3 => zq21 N v0 v1 v2 v3 (fun y0 => K .ret (x239_0_0_k0 y0)) (K (.exit 0) (x239_0_0_k1 ))) s) (none)
def LS239_0 (N : Nat) : LSpec β := VLS239_0 (zj21 N) N
def VE239 (N : Nat) : Env β := ⟨[], [], [(0, VLS239_0 zq21 N)], [], ⟨[], [], [], []⟩⟩
def E239 (N : Nat) : Env β := VE239 (zj21 N) N
theorem vst239_0_0 (N : Nat) (v0 : List Int) (v1 : Int) (v2 : Int) (v3 : Int) (rec_ : St → O β) (K : Exit → St → O β) :
    stB lay (VE239 zq21 N) Tryz.f239 0 (h239_0_0 v0 v1 v2 v3) rec_ K = zb20 N v0 v1 v2 v3 (fun v0 v1 v2 v3 => rec_ (h239_0_0 v0 v1 v2 v3)) (fun y0 => K .ret (x239_0_0_k0 y0)) (K (.exit 0) (x239_0_0_k1 )) := by kernel_rfl
theorem ro239_0_0 (N : Nat) (K : Exit → St → O β) : ∀ (F : Nat) (v0 : List Int) (v1 : Int) (v2 : Int) (v3 : Int), (lp Tryz.f239 0).rounds lay (E239 N) (retMask Tryz.f239) F (h239_0_0 v0 v1 v2 v3) K = zj21 N F v0 v1 v2 v3 (fun y0 => K .ret (x239_0_0_k0 y0)) (K (.exit 0) (x239_0_0_k1 )) := by
  intro F
  induction F with
  | zero => intros; rfl
  | succ F ih =>
    intros
    rw [rounds_next]
    refine (vst239_0_0 (zj21 N) N _ _ _ _ (fun s => (lp Tryz.f239 0).rounds lay (E239 N) (retMask Tryz.f239) F s K) K).trans ?_
    simp only [ih]
    rfl
theorem lk239_0 (N : Nat) : lookL (E239 (β := β) N).loops (lp Tryz.f239 0).id = LS239_0 N := by kernel_rfl
theorem rk239_0 (N : Nat) : RoundsOK lay (E239 (β := β) N) (retMask Tryz.f239) (lp Tryz.f239 0) := by
  intro s K r h
  rw [lk239_0] at h
  unfold LS239_0 VLS239_0 at h
  cases hb : shpSt (h239_0_0 [] 0 0 0) s with
  | true =>
    rw [hb, cond_true] at h
    exact ⟨N, by rw [← shpSt_ref hb, fl239_0_0 s]; unfold p239_0_0 at h ⊢; exact (ro239_0_0 N K N _ _ _ _).trans h⟩
  | false =>
  rw [hb, cond_false] at h
  clear hb
  cases h
theorem ve239_0 (N : Nat) (a0 : List Int) (a1 : Int) (K : TV → O β) : evFn lay (VE239 zq21 N) Tryz.f239 [.v (.one (.sl 3 (.ints .i64 a0))), .v (.one (.int .i64 a1))] K = zb22 zq21 N a0 a1 (fun z2 => K (.v (.one (.int .i64 z2)))) := by kernel_rfl
theorem o239 (N : Nat) : SpecOK (β := β) inv Tryz.prog 239 (S239 N) := by
  refine spec_of lay_ok mixed (E := E239 N) (specs_loops specs_nil) muts_nil gs_nil Tryz.func239 (by kernel_rfl) 1 (by kernel_rfl) ⟨trivial, rk239_0 N⟩ fun args K r h => ?_
  unfold S239 VS239 at h
  split at h
  · exact (ve239_0 (zj21 N) N _ _ _).trans h
  · cases h
def VS214 (N : Nat) : Rv.Spec β := fun args K => match args with
  | [.v (.one (.sl 3 (.ints .i64 a0))), .v (.one (.int .i64 a1))] => zq23 a0 a1 (fun z2 => K (.v (.one (.bool z2))))
  | _ => none
def S214 (N : Nat) : Rv.Spec β := VS214 (zj23 N) N
def VE214 (N : Nat) : Env β := ⟨[(239, VS239 zq22 N)], [], [], [], ⟨[], [], [], []⟩⟩
def E214 (N : Nat) : Env β := VE214 (zj22 N) N
theorem ve214_0 (N : Nat) (a0 : List Int) (a1 : Int) (K : TV → O β) : evFn lay (VE214 zq22 N) Tryz.f214 [.v (.one (.sl 3 (.ints .i64 a0))), .v (.one (.int .i64 a1))] K = zb23 zq22 N a0 a1 (fun z2 => K (.v (.one (.bool z2)))) := by kernel_rfl
theorem o214 (N : Nat) : SpecOK (β := β) inv Tryz.prog 214 (S214 N) := by
  refine spec_of lay_ok mixed (E := E214 N) (specs_loops (specs_cons (o239 N) specs_nil)) muts_nil gs_nil Tryz.func214 (by kernel_rfl) 0 (by kernel_rfl) trivial fun args K r h => ?_
  unfold S214 VS214 at h
  split at h
  · exact (ve214_0 (zj22 N) N _ _ _).trans h
  · cases h
end Go.Proofs.YtemihnclhcobnaaGreatDoor
