/- The functions that the claims reach answer as their texts do. -/
import Derived.Test.YtemihnclhcobnaaGreatDoorE6
namespace Go.Proofs.YtemihnclhcobnaaGreatDoor
open Go.Rv
set_option maxRecDepth 100000
set_option maxHeartbeats 2000000
set_option linter.unusedVariables false
variable {β : Type}
variable (zq103 : Y29 β) (zq104 : Y2 β) (zq106 : Y3 β) (zq110 : Y10 β) (zq116 : Y1 β) (zq121 : Y54 β) (zq122 : Y8 β) (zq123 : Y29 β) (zq124 : Y12 β) (zq126 : Y54 β) (zq127 : Y14 β) (zq129 : Y55 β) (zq130 : Y16 β) (zq131 : Y1 β) (zq133 : Y57 β) (zq135 : Y56 β) (zq137 : Y58 β) (zq139 : Y61 β) (zq140 : Y60 β)
def VS40 (N : Nat) : Rv.Spec β := fun args K => match args with
  | [.v (.agg [.int .i64 a0, .int .i64 a1])] => zq122 a0 a1 (fun z2 => K (.v (.one (.str z2))))
  | _ => none
def S40 (N : Nat) : Rv.Spec β := VS40 (zj122 N) N
def h40_0_0 (v0 : Int) (v1 : Int) (v2 : Int) (v3 : Int) (v4 : List Int) : St := ⟨tund :: .v (.one (.ptr 0 0)) :: tund :: .v (.one (.row 1)) :: tn 8 (.v (.one (.int .i64 v0)) :: .v (.one (.int .i64 v1)) :: tn 13 []), [.cells 25 [.int .i64 v2, .int .i64 v3], .row 5 (.ints .u8 v4)]⟩
def x40_0_0_k0 (y0 : List Int) : St := ⟨tn 3 (.v (.one (.row 0)) :: tn 23 []), [.row 5 (.ints .u8 y0)]⟩
def p40_0_0 {γ : Type} (f : Int → Int → Int → Int → List Int → γ) (s : St) : γ := f (intS (oneA (vT (nx tund s.tmps 12)))) (intS (oneA (vT (nx tund s.tmps 13)))) (intS (nx .und (cellsB (nx .dead s.blks 0)) 0)) (intS (nx .und (cellsB (nx .dead s.blks 0)) 1)) (rInts (rowB_ (nx .dead s.blks 1)))
theorem fl40_0_0 (s : St) : refSt (h40_0_0 0 0 0 0 []) s = p40_0_0 h40_0_0 s := by kernel_rfl
def VLS40_0 (N : Nat) : LSpec β := fun s K => cond (shpSt (h40_0_0 0 0 0 0 []) s) (p40_0_0 (fun v0 v1 v2 v3 v4 => zq121 N v0 v1 v2 v3 v4 (fun y0 => K (.exit 0) (x40_0_0_k0 y0))) s) (none)
def LS40_0 (N : Nat) : LSpec β := VLS40_0 (zj121 N) N
def VE40 (N : Nat) : Env β := ⟨[(37, VS37 zq104 N), (100, VS100 zq103 N), (103, VS103 zq106 N)], [], [(0, VLS40_0 zq121 N)], [], ⟨[], [], [157], [222]⟩⟩
def E40 (N : Nat) : Env β := VE40 (zj103 N) (zj104 N) (zj106 N) (zj121 N) N
theorem vst40_0_0 (N : Nat) (v0 : Int) (v1 : Int) (v2 : Int) (v3 : Int) (v4 : List Int) (rec_ : St → O β) (K : Exit → St → O β) :
    stB lay (VE40 zq103 zq104 zq106 zq121 N) Tryz.f40 0 (h40_0_0 v0 v1 v2 v3 v4) rec_ K = zb120 zq106 N v0 v1 v2 v3 v4 (fun v0 v1 v2 v3 v4 => rec_ (h40_0_0 v0 v1 v2 v3 v4)) (fun y0 => K (.exit 0) (x40_0_0_k0 y0)) := by kernel_rfl
theorem ro40_0_0 (N : Nat) (K : Exit → St → O β) : ∀ (F : Nat) (v0 : Int) (v1 : Int) (v2 : Int) (v3 : Int) (v4 : List Int), (lp Tryz.f40 0).rounds lay (E40 N) (retMask Tryz.f40) F (h40_0_0 v0 v1 v2 v3 v4) K = zj121 N F v0 v1 v2 v3 v4 (fun y0 => K (.exit 0) (x40_0_0_k0 y0)) := by
  intro F
  induction F with
  | zero => intros; rfl
  | succ F ih =>
    intros
    rw [rounds_next]
    refine (vst40_0_0 (zj103 N) (zj104 N) (zj106 N) (zj121 N) N _ _ _ _ _ (fun s => (lp Tryz.f40 0).rounds lay (E40 N) (retMask Tryz.f40) F s K) K).trans ?_
    simp only [ih]
    rfl
theorem lk40_0 (N : Nat) : lookL (E40 (β := β) N).loops (lp Tryz.f40 0).id = LS40_0 N := by kernel_rfl
theorem rk40_0 (N : Nat) : RoundsOK lay (E40 (β := β) N) (retMask Tryz.f40) (lp Tryz.f40 0) := by
  intro s K r h
  rw [lk40_0] at h
  unfold LS40_0 VLS40_0 at h
  cases hb : shpSt (h40_0_0 0 0 0 0 []) s with
  | true =>
    rw [hb, cond_true] at h
    exact ⟨N, by rw [← shpSt_ref hb, fl40_0_0 s]; unfold p40_0_0 at h ⊢; exact (ro40_0_0 N K N _ _ _ _ _).trans h⟩
  | false =>
  rw [hb, cond_false] at h
  clear hb
  cases h
theorem ve40_0 (N : Nat) (a0 : Int) (a1 : Int) (K : TV → O β) : evFn lay (VE40 zq103 zq104 zq106 zq121 N) Tryz.f40 [.v (.agg [.int .i64 a0, .int .i64 a1])] K = zb122 zq103 zq104 zq121 N a0 a1 (fun z2 => K (.v (.one (.str z2)))) := by kernel_rfl
theorem o40 (N : Nat) : SpecOK (β := β) inv Tryz.prog 40 (S40 N) := by
  refine spec_of lay_ok mixed (E := E40 N) (specs_loops (specs_cons (o37 N) (specs_cons (o100 N) (specs_cons (o103 N) specs_nil)))) muts_nil gs_nil Tryz.func40 (by kernel_rfl) 1 (by kernel_rfl) ⟨trivial, rk40_0 N⟩ fun args K r h => ?_
  unfold S40 VS40 at h
  split at h
  · exact (ve40_0 (zj103 N) (zj104 N) (zj106 N) (zj121 N) N _ _ _).trans h
  · cases h
def VS42 (N : Nat) : Rv.Spec β := fun args K => match args with
  | [.v (.agg [.int .i64 a0, .int .i64 a1])] => zq123 a0 a1 (fun z2 => K (.v (.one (.int .i64 z2))))
  | _ => none
def S42 (N : Nat) : Rv.Spec β := VS42 (zj123 N) N
def VE42 (N : Nat) : Env β := ⟨[(37, VS37 zq104 N), (105, VS105 zq110 N)], [], [], [], ⟨[], [], [157], [222]⟩⟩
def E42 (N : Nat) : Env β := VE42 (zj104 N) (zj110 N) N
theorem ve42_0 (N : Nat) (a0 : Int) (a1 : Int) (K : TV → O β) : evFn lay (VE42 zq104 zq110 N) Tryz.f42 [.v (.agg [.int .i64 a0, .int .i64 a1])] K = zb123 zq104 zq110 N a0 a1 (fun z2 => K (.v (.one (.int .i64 z2)))) := by kernel_rfl
theorem o42 (N : Nat) : SpecOK (β := β) inv Tryz.prog 42 (S42 N) := by
  refine spec_of lay_ok mixed (E := E42 N) (specs_loops (specs_cons (o37 N) (specs_cons (o105 N) specs_nil))) muts_nil gs_nil Tryz.func42 (by kernel_rfl) 0 (by kernel_rfl) trivial fun args K r h => ?_
  unfold S42 VS42 at h
  split at h
  · exact (ve42_0 (zj104 N) (zj110 N) N _ _ _).trans h
  · cases h
def VS41 (N : Nat) : Rv.Spec β := fun args K => match args with
  | [.v (.one (.int .i64 a0))] => zq124 a0 (fun z1 => K (.v (.one (.str z1))))
  | _ => none
def S41 (N : Nat) : Rv.Spec β := VS41 (zj124 N) N
def VE41 (N : Nat) : Env β := ⟨[(104, S104 N)], [], [], [], ⟨[], [], [157], [222]⟩⟩
def E41 (N : Nat) : Env β := VE41 N
theorem ve41_0 (N : Nat) (a0 : Int) (K : TV → O β) : evFn lay (VE41 N) Tryz.f41 [.v (.one (.int .i64 a0))] K = zb124 N a0 (fun z1 => K (.v (.one (.str z1)))) := by kernel_rfl
theorem o41 (N : Nat) : SpecOK (β := β) inv Tryz.prog 41 (S41 N) := by
  refine spec_of lay_ok mixed (E := E41 N) (specs_loops (specs_cons (o104 N) specs_nil)) muts_nil gs_nil Tryz.func41 (by kernel_rfl) 0 (by kernel_rfl) trivial fun args K r h => ?_
  unfold S41 VS41 at h
  split at h
  · exact (ve41_0 N _ _).trans h
  · cases h
def VS44 (N : Nat) : Rv.Spec β := fun args K => match args with
  | [.v (.agg [.int .i64 a0, .int .i64 a1])] => zq127 a0 a1 (fun z2 => K (.v (.one (.sl 3 (.ints .i64 z2)))))
  | _ => none
def S44 (N : Nat) : Rv.Spec β := VS44 (zj127 N) N
def h44_0_0 (v0 : Int) (v1 : Int) (v2 : Int) (v3 : Int) (v4 : List Int) : St := ⟨tund :: .v (.one (.ptr 0 0)) :: tund :: .v (.one (.row 1)) :: tn 5 (.v (.one (.int .i64 v0)) :: .v (.one (.int .i64 v1)) :: tn 11 []), [.cells 25 [.int .i64 v2, .int .i64 v3], .row 3 (.ints .i64 v4)]⟩
def x44_0_0_k0 (y0 : List Int) : St := ⟨tn 3 (.v (.one (.row 0)) :: tn 18 []), [.row 3 (.ints .i64 y0)]⟩
def p44_0_0 {γ : Type} (f : Int → Int → Int → Int → List Int → γ) (s : St) : γ := f (intS (oneA (vT (nx tund s.tmps 9)))) (intS (oneA (vT (nx tund s.tmps 10)))) (intS (nx .und (cellsB (nx .dead s.blks 0)) 0)) (intS (nx .und (cellsB (nx .dead s.blks 0)) 1)) (rInts (rowB_ (nx .dead s.blks 1)))
theorem fl44_0_0 (s : St) : refSt (h44_0_0 0 0 0 0 []) s = p44_0_0 h44_0_0 s := by kernel_rfl
def VLS44_0 (N : Nat) : LSpec β := fun s K => cond (shpSt (h44_0_0 0 0 0 0 []) s) (p44_0_0 (fun v0 v1 v2 v3 v4 => zq126 N v0 v1 v2 v3 v4 (fun y0 => K (.exit 0) (x44_0_0_k0 y0))) s) (none)
def LS44_0 (N : Nat) : LSpec β := VLS44_0 (zj126 N) N
def VE44 (N : Nat) : Env β := ⟨[(37, VS37 zq104 N), (101, VS101 zq116 N)], [], [(0, VLS44_0 zq126 N)], [], ⟨[], [], [157], [222]⟩⟩
def E44 (N : Nat) : Env β := VE44 (zj104 N) (zj116 N) (zj126 N) N
theorem vst44_0_0 (N : Nat) (v0 : Int) (v1 : Int) (v2 : Int) (v3 : Int) (v4 : List Int) (rec_ : St → O β) (K : Exit → St → O β) :
    stB lay (VE44 zq104 zq116 zq126 N) Tryz.f44 0 (h44_0_0 v0 v1 v2 v3 v4) rec_ K = zb125 zq116 N v0 v1 v2 v3 v4 (fun v0 v1 v2 v3 v4 => rec_ (h44_0_0 v0 v1 v2 v3 v4)) (fun y0 => K (.exit 0) (x44_0_0_k0 y0)) := by kernel_rfl
theorem ro44_0_0 (N : Nat) (K : Exit → St → O β) : ∀ (F : Nat) (v0 : Int) (v1 : Int) (v2 : Int) (v3 : Int) (v4 : List Int), (lp Tryz.f44 0).rounds lay (E44 N) (retMask Tryz.f44) F (h44_0_0 v0 v1 v2 v3 v4) K = zj126 N F v0 v1 v2 v3 v4 (fun y0 => K (.exit 0) (x44_0_0_k0 y0)) := by
  intro F
  induction F with
  | zero => intros; rfl
  | succ F ih =>
    intros
    rw [rounds_next]
    refine (vst44_0_0 (zj104 N) (zj116 N) (zj126 N) N _ _ _ _ _ (fun s => (lp Tryz.f44 0).rounds lay (E44 N) (retMask Tryz.f44) F s K) K).trans ?_
    simp only [ih]
    rfl
theorem lk44_0 (N : Nat) : lookL (E44 (β := β) N).loops (lp Tryz.f44 0).id = LS44_0 N := by kernel_rfl
theorem rk44_0 (N : Nat) : RoundsOK lay (E44 (β := β) N) (retMask Tryz.f44) (lp Tryz.f44 0) := by
  intro s K r h
  rw [lk44_0] at h
  unfold LS44_0 VLS44_0 at h
  cases hb : shpSt (h44_0_0 0 0 0 0 []) s with
  | true =>
    rw [hb, cond_true] at h
    exact ⟨N, by rw [← shpSt_ref hb, fl44_0_0 s]; unfold p44_0_0 at h ⊢; exact (ro44_0_0 N K N _ _ _ _ _).trans h⟩
  | false =>
  rw [hb, cond_false] at h
  clear hb
  cases h
theorem ve44_0 (N : Nat) (a0 : Int) (a1 : Int) (K : TV → O β) : evFn lay (VE44 zq104 zq116 zq126 N) Tryz.f44 [.v (.agg [.int .i64 a0, .int .i64 a1])] K = zb127 zq104 zq126 N a0 a1 (fun z2 => K (.v (.one (.sl 3 (.ints .i64 z2))))) := by kernel_rfl
theorem o44 (N : Nat) : SpecOK (β := β) inv Tryz.prog 44 (S44 N) := by
  refine spec_of lay_ok mixed (E := E44 N) (specs_loops (specs_cons (o37 N) (specs_cons (o101 N) specs_nil))) muts_nil gs_nil Tryz.func44 (by kernel_rfl) 1 (by kernel_rfl) ⟨trivial, rk44_0 N⟩ fun args K r h => ?_
  unfold S44 VS44 at h
  split at h
  · exact (ve44_0 (zj104 N) (zj116 N) (zj126 N) N _ _ _).trans h
  · cases h
def VS43 (N : Nat) : Rv.Spec β := fun args K => match args with
  | [.v (.one (.sl 3 (.ints .i64 a0)))] => zq130 a0 (fun z1 => K (.v (.one (.str z1))))
  | _ => none
def S43 (N : Nat) : Rv.Spec β := VS43 (zj130 N) N
def h43_0_0 (v0 : List Int) (v1 : Int) (v2 : Int) (v3 : List ByteArray) : St := ⟨tn 3 (.v (.one (.row 0)) :: tn 8 (.v (.one (.sl 3 (.ints .i64 v0))) :: .v (.one (.int .i64 v1)) :: .v (.one (.int .i64 v2)) :: tn 12 [])), [.row 9 (.strs v3)]⟩
def x43_0_0_k0 (y0 : List ByteArray) : St := ⟨tn 3 (.v (.one (.row 0)) :: tn 23 []), [.row 9 (.strs y0)]⟩
def p43_0_0 {γ : Type} (f : List Int → Int → Int → List ByteArray → γ) (s : St) : γ := f (rInts (rowV (oneA (vT (nx tund s.tmps 12))))) (intS (oneA (vT (nx tund s.tmps 13)))) (intS (oneA (vT (nx tund s.tmps 14)))) (rStrs (rowB_ (nx .dead s.blks 0)))
theorem fl43_0_0 (s : St) : refSt (h43_0_0 [] 0 0 []) s = p43_0_0 h43_0_0 s := by kernel_rfl
def VLS43_0 (N : Nat) : LSpec β := fun s K => cond (shpSt (h43_0_0 [] 0 0 []) s) (p43_0_0 (fun v0 v1 v2 v3 => zq129 N v0 v1 v2 v3 (fun y0 => K (.exit 0) (x43_0_0_k0 y0))) s) (none)
def LS43_0 (N : Nat) : LSpec β := VLS43_0 (zj129 N) N
def VE43 (N : Nat) : Env β := ⟨[(41, VS41 zq124 N), (106, S106 N)], [], [(0, VLS43_0 zq129 N)], [], ⟨[], [], [157], [222]⟩⟩
def E43 (N : Nat) : Env β := VE43 (zj124 N) (zj129 N) N
theorem vst43_0_0 (N : Nat) (v0 : List Int) (v1 : Int) (v2 : Int) (v3 : List ByteArray) (rec_ : St → O β) (K : Exit → St → O β) :
    stB lay (VE43 zq124 zq129 N) Tryz.f43 0 (h43_0_0 v0 v1 v2 v3) rec_ K = zb128 zq124 N v0 v1 v2 v3 (fun v0 v1 v2 v3 => rec_ (h43_0_0 v0 v1 v2 v3)) (fun y0 => K (.exit 0) (x43_0_0_k0 y0)) := by kernel_rfl
theorem ro43_0_0 (N : Nat) (K : Exit → St → O β) : ∀ (F : Nat) (v0 : List Int) (v1 : Int) (v2 : Int) (v3 : List ByteArray), (lp Tryz.f43 0).rounds lay (E43 N) (retMask Tryz.f43) F (h43_0_0 v0 v1 v2 v3) K = zj129 N F v0 v1 v2 v3 (fun y0 => K (.exit 0) (x43_0_0_k0 y0)) := by
  intro F
  induction F with
  | zero => intros; rfl
  | succ F ih =>
    intros
    rw [rounds_next]
    refine (vst43_0_0 (zj124 N) (zj129 N) N _ _ _ _ (fun s => (lp Tryz.f43 0).rounds lay (E43 N) (retMask Tryz.f43) F s K) K).trans ?_
    simp only [ih]
    rfl
theorem lk43_0 (N : Nat) : lookL (E43 (β := β) N).loops (lp Tryz.f43 0).id = LS43_0 N := by kernel_rfl
theorem rk43_0 (N : Nat) : RoundsOK lay (E43 (β := β) N) (retMask Tryz.f43) (lp Tryz.f43 0) := by
  intro s K r h
  rw [lk43_0] at h
  unfold LS43_0 VLS43_0 at h
  cases hb : shpSt (h43_0_0 [] 0 0 []) s with
  | true =>
    rw [hb, cond_true] at h
    exact ⟨N, by rw [← shpSt_ref hb, fl43_0_0 s]; unfold p43_0_0 at h ⊢; exact (ro43_0_0 N K N _ _ _ _).trans h⟩
  | false =>
  rw [hb, cond_false] at h
  clear hb
  cases h
theorem ve43_0 (N : Nat) (a0 : List Int) (K : TV → O β) : evFn lay (VE43 zq124 zq129 N) Tryz.f43 [.v (.one (.sl 3 (.ints .i64 a0)))] K = zb130 zq129 N a0 (fun z1 => K (.v (.one (.str z1)))) := by kernel_rfl
theorem o43 (N : Nat) : SpecOK (β := β) inv Tryz.prog 43 (S43 N) := by
  refine spec_of lay_ok mixed (E := E43 N) (specs_loops (specs_cons (o41 N) (specs_cons (o106 N) specs_nil))) muts_nil gs_nil Tryz.func43 (by kernel_rfl) 1 (by kernel_rfl) ⟨trivial, rk43_0 N⟩ fun args K r h => ?_
  unfold S43 VS43 at h
  split at h
  · exact (ve43_0 (zj124 N) (zj129 N) N _ _).trans h
  · cases h
def VS45 (N : Nat) : Rv.Spec β := fun args K => match args with
  | [.v (.agg [.int .i64 a0, .int .i64 a1]), .v (.one (.int .i64 a2))] => zq131 a0 a1 a2 (fun z3 => K (.v (.one (.bool z3))))
  | _ => none
def S45 (N : Nat) : Rv.Spec β := VS45 (zj131 N) N
def VE45 (N : Nat) : Env β := ⟨[(37, VS37 zq104 N)], [], [], [], ⟨[], [], [157], [222]⟩⟩
def E45 (N : Nat) : Env β := VE45 (zj104 N) N
theorem ve45_0 (N : Nat) (a0 : Int) (a1 : Int) (a2 : Int) (K : TV → O β) : evFn lay (VE45 zq104 N) Tryz.f45 [.v (.agg [.int .i64 a0, .int .i64 a1]), .v (.one (.int .i64 a2))] K = zb131 zq104 N a0 a1 a2 (fun z3 => K (.v (.one (.bool z3)))) := by kernel_rfl
theorem o45 (N : Nat) : SpecOK (β := β) inv Tryz.prog 45 (S45 N) := by
  refine spec_of lay_ok mixed (E := E45 N) (specs_loops (specs_cons (o37 N) specs_nil)) muts_nil gs_nil Tryz.func45 (by kernel_rfl) 0 (by kernel_rfl) trivial fun args K r h => ?_
  unfold S45 VS45 at h
  split at h
  · exact (ve45_0 (zj104 N) N _ _ _ _).trans h
  · cases h
def VSF222 (N : Nat) (G : Nat) : GSpec β := fun args bl K => match args, bl with
  | [.v (.one (.ptr 0 0)), .v (.one (.ptr 1 0)), .v (.one (.ptr 2 0)), .v (.one (.ptr 3 0)), .v (.one (.ptr 4 0))], [.pcells 0 40 [.row 5], .pcells 1 3 [.int .i64 a0], .pcells 2 124 [.row 6], .pcells 3 182 [.row 7], .pcells 4 1 [.fn 222 [(0, 0), (1, 0), (2, 0), (3, 0), (4, 0)]], .row 3 (.ints .i64 a1), .row 40 (.lists 3 a2), .row 4 (.bools a3)] => zq135 G a0 a1 a2 a3 (fun y0 y1 y2 y3 => K (.tup []) [.pcells 0 40 [.row 5], .pcells 1 3 [.int .i64 y0], .pcells 2 124 [.row 6], .pcells 3 182 [.row 7], .pcells 4 1 [.fn 222 [(0, 0), (1, 0), (2, 0), (3, 0), (4, 0)]], .row 3 (.ints .i64 y1), .row 40 (.lists 3 y2), .row 4 (.bools y3)])
  | _, _ => none
def SF222 (N : Nat) (G : Nat) : GSpec β := VSF222 (zj135 N) N G
def VS222 (N : Nat) : GSpec β := VSF222 zq135 N N
def S222 (N : Nat) : GSpec β := SF222 N N
def h222_0_0 (v0 : Int) (v1 : Int) (v2 : Int) (v3 : List Int) (v4 : List (List Int)) (v5 : List Bool) : St := ⟨.v (.one (.ptr 0 0)) :: tund :: tund :: .v (.one (.ptr 3 0)) :: .v (.one (.ptr 4 0)) :: tn 11 (.v (.one (.int .i64 v0)) :: .v (.one (.int .i64 v1)) :: tn 25 []), [.pcells 0 40 [.row 5], .pcells 1 3 [.int .i64 v2], .pcells 2 124 [.row 6], .pcells 3 182 [.row 7], .pcells 4 1 [.fn 222 [(0, 0), (1, 0), (2, 0), (3, 0), (4, 0)]], .row 3 (.ints .i64 v3), .row 40 (.lists 3 v4), .row 4 (.bools v5)]⟩
def x222_0_0_k0 (y0 : Int) (y1 : List Int) (y2 : List (List Int)) (y3 : List Bool) : St := ⟨tn 43 [], [.pcells 0 40 [.row 5], .pcells 1 3 [.int .i64 y0], .pcells 2 124 [.row 6], .pcells 3 182 [.row 7], .pcells 4 1 [.fn 222 [(0, 0), (1, 0), (2, 0), (3, 0), (4, 0)]], .row 3 (.ints .i64 y1), .row 40 (.lists 3 y2), .row 4 (.bools y3)]⟩
def p222_0_0 {γ : Type} (f : Int → Int → Int → List Int → List (List Int) → List Bool → γ) (s : St) : γ := f (intS (oneA (vT (nx tund s.tmps 16)))) (intS (oneA (vT (nx tund s.tmps 17)))) (intS (nx .und (cellsB (nx .dead s.blks 1)) 0)) (rInts (rowB_ (nx .dead s.blks 5))) (rLists (rowB_ (nx .dead s.blks 6))) (rBools (rowB_ (nx .dead s.blks 7)))
theorem fl222_0_0 (s : St) : refSt (h222_0_0 0 0 0 [] [] []) s = p222_0_0 h222_0_0 s := by kernel_rfl
def VLS222_0 (N : Nat) (G : Nat) : LSpec β := fun s K => cond (shpSt (h222_0_0 0 0 0 [] [] []) s) (p222_0_0 (fun v0 v1 v2 v3 v4 v5 => zq133 (zq135 G) N v0 v1 v2 v3 v4 v5 (fun y0 y1 y2 y3 => K (.exit 0) (x222_0_0_k0 y0 y1 y2 y3))) s) (none)
def LS222_0 (N : Nat) (G : Nat) : LSpec β := VLS222_0 (zj133 N) (zj135 N) N G
def VE222 (N : Nat) (G : Nat) : Env β := ⟨[], [], [(0, VLS222_0 zq133 zq135 N G)], [(222, VSF222 zq135 N G)], ⟨[], [], [157], [222]⟩⟩
def E222 (N : Nat) (G : Nat) : Env β := VE222 (zj133 N) (zj135 N) N G
theorem vst222_0_0 (N : Nat) (G : Nat) (v0 : Int) (v1 : Int) (v2 : Int) (v3 : List Int) (v4 : List (List Int)) (v5 : List Bool) (rec_ : St → O β) (K : Exit → St → O β) :
    stB lay (VE222 zq133 zq135 N G) Tryz.f222 0 (h222_0_0 v0 v1 v2 v3 v4 v5) rec_ K = zb132 N (zq135 G) v0 v1 v2 v3 v4 v5 (fun v0 v1 v2 v3 v4 v5 => rec_ (h222_0_0 v0 v1 v2 v3 v4 v5)) (fun y0 y1 y2 y3 => K (.exit 0) (x222_0_0_k0 y0 y1 y2 y3)) := by kernel_rfl
theorem ro222_0_0 (N : Nat) (G : Nat) (K : Exit → St → O β) : ∀ (F : Nat) (v0 : Int) (v1 : Int) (v2 : Int) (v3 : List Int) (v4 : List (List Int)) (v5 : List Bool), (lp Tryz.f222 0).rounds lay (E222 N G) (retMask Tryz.f222) F (h222_0_0 v0 v1 v2 v3 v4 v5) K = zj133 N (zj135 N G) F v0 v1 v2 v3 v4 v5 (fun y0 y1 y2 y3 => K (.exit 0) (x222_0_0_k0 y0 y1 y2 y3)) := by
  intro F
  induction F with
  | zero => intros; rfl
  | succ F ih =>
    intros
    rw [rounds_next]
    refine (vst222_0_0 (zj133 N) (zj135 N) N G _ _ _ _ _ _ (fun s => (lp Tryz.f222 0).rounds lay (E222 N G) (retMask Tryz.f222) F s K) K).trans ?_
    simp only [ih]
    rfl
theorem lk222_0 (N : Nat) (G : Nat) : lookL (E222 (β := β) N G).loops (lp Tryz.f222 0).id = LS222_0 N G := by kernel_rfl
theorem rk222_0 (N : Nat) (G : Nat) : RoundsOK lay (E222 (β := β) N G) (retMask Tryz.f222) (lp Tryz.f222 0) := by
  intro s K r h
  rw [lk222_0] at h
  unfold LS222_0 VLS222_0 at h
  cases hb : shpSt (h222_0_0 0 0 0 [] [] []) s with
  | true =>
    rw [hb, cond_true] at h
    exact ⟨N, by rw [← shpSt_ref hb, fl222_0_0 s]; unfold p222_0_0 at h ⊢; exact (ro222_0_0 N _ K N _ _ _ _ _ _).trans h⟩
  | false =>
  rw [hb, cond_false] at h
  clear hb
  cases h
theorem ve222_0 (N : Nat) (G : Nat) (a0 : Int) (a1 : List Int) (a2 : List (List Int)) (a3 : List Bool) (K : TV → List Blk → O β) : evFnG lay (VE222 zq133 zq135 N G) Tryz.f222 [.v (.one (.ptr 0 0)), .v (.one (.ptr 1 0)), .v (.one (.ptr 2 0)), .v (.one (.ptr 3 0)), .v (.one (.ptr 4 0))] [.pcells 0 40 [.row 5], .pcells 1 3 [.int .i64 a0], .pcells 2 124 [.row 6], .pcells 3 182 [.row 7], .pcells 4 1 [.fn 222 [(0, 0), (1, 0), (2, 0), (3, 0), (4, 0)]], .row 3 (.ints .i64 a1), .row 40 (.lists 3 a2), .row 4 (.bools a3)] K = zb134 zq133 N (zq135 G) a0 a1 a2 a3 (fun y0 y1 y2 y3 => K (.tup []) [.pcells 0 40 [.row 5], .pcells 1 3 [.int .i64 y0], .pcells 2 124 [.row 6], .pcells 3 182 [.row 7], .pcells 4 1 [.fn 222 [(0, 0), (1, 0), (2, 0), (3, 0), (4, 0)]], .row 3 (.ints .i64 y1), .row 40 (.lists 3 y2), .row 4 (.bools y3)]) := by kernel_rfl
theorem z222 (N : Nat) : ∀ args bl K r, SF222 (β := β) N 0 args bl K = some r → (none : O β) = some r := by
  intro args bl K r h
  unfold SF222 VSF222 at h
  split at h <;> exact h
theorem of222 (N : Nat) : ∀ G, GOK (β := β) inv Tryz.prog 222 (SF222 N G) := by
  intro G
  induction G with
  | zero => exact g_zero Tryz.func222 (by kernel_rfl) (z222 N)
  | succ G ih =>
    refine g_of lay_ok mixed (E := E222 N G) (specs_loops specs_nil) muts_nil (gs_cons ih gs_nil) Tryz.func222 (by kernel_rfl) 1 (by kernel_rfl) ⟨trivial, rk222_0 N G⟩ fun args bl K r h => ?_
    unfold SF222 VSF222 at h
    split at h
    · exact (ve222_0 (zj133 N) (zj135 N) N G _ _ _ _ _).trans h
    · cases h
theorem o222 (N : Nat) : GOK (β := β) inv Tryz.prog 222 (S222 N) := of222 N N
def VS171 (N : Nat) : Rv.Spec β := fun args K => match args with
  | [.v (.one (.int .i64 a0))] => zq137 a0 (fun z1 => K (.v (.one (.sl 40 (.lists 3 z1)))))
  | _ => none
def S171 (N : Nat) : Rv.Spec β := VS171 (zj137 N) N
def VE171 (N : Nat) : Env β := ⟨[], [], [], [(222, VS222 zq135 N)], ⟨[], [], [157], [222]⟩⟩
def E171 (N : Nat) : Env β := VE171 (zj135 N) N
theorem ve171_0 (N : Nat) (a0 : Int) (K : TV → O β) : evFn lay (VE171 zq135 N) Tryz.f171 [.v (.one (.int .i64 a0))] K = zb137 (zq135 N) N a0 (fun z1 => K (.v (.one (.sl 40 (.lists 3 z1))))) := by kernel_rfl
theorem o171 (N : Nat) : SpecOK (β := β) inv Tryz.prog 171 (S171 N) := by
  refine spec_of lay_ok mixed (E := E171 N) (specs_loops specs_nil) muts_nil (gs_cons (o222 N) gs_nil) Tryz.func171 (by kernel_rfl) 0 (by kernel_rfl) trivial fun args K r h => ?_
  unfold S171 VS171 at h
  split at h
  · exact (ve171_0 (zj135 N) N _ _).trans h
  · cases h
def VS223 (N : Nat) : Rv.Spec β := fun args K => match args with
  | [.v (.one (.int .i64 a0)), .v (.one (.sl 3 (.ints .i64 a1)))] => zq140 a0 a1 (fun z2 => K (.v (.one (.int .i64 z2))))
  | _ => none
def S223 (N : Nat) : Rv.Spec β := VS223 (zj140 N) N
def h223_0_0 (v0 : Int) (v1 : Int) (v2 : List Int) (v3 : Int) (v4 : Int) : St := ⟨.v (.one (.int .i64 v0)) :: tn 4 (.v (.one (.int .i64 v1)) :: tund :: tund :: .v (.one (.sl 3 (.ints .i64 v2))) :: .v (.one (.int .i64 v3)) :: .v (.one (.int .i64 v4)) :: tn 14 []), []⟩
def x223_0_0_k0 (y0 : Int) : St := ⟨tn 5 (.v (.one (.int .i64 y0)) :: tn 19 []), []⟩
def p223_0_0 {γ : Type} (f : Int → Int → List Int → Int → Int → γ) (s : St) : γ := f (intS (oneA (vT (nx tund s.tmps 0)))) (intS (oneA (vT (nx tund s.tmps 5)))) (rInts (rowV (oneA (vT (nx tund s.tmps 8))))) (intS (oneA (vT (nx tund s.tmps 9)))) (intS (oneA (vT (nx tund s.tmps 10))))
theorem fl223_0_0 (s : St) : refSt (h223_0_0 0 0 [] 0 0) s = p223_0_0 h223_0_0 s := by kernel_rfl
def VLS223_0 (N : Nat) : LSpec β := fun s K => cond (shpSt (h223_0_0 0 0 [] 0 0) s) (p223_0_0 (fun v0 v1 v2 v3 v4 => zq139 N v0 v1 v2 v3 v4 (fun y0 => K (.exit 0) (x223_0_0_k0 y0))) s) (none)
def LS223_0 (N : Nat) : LSpec β := VLS223_0 (zj139 N) N
def VE223 (N : Nat) : Env β := ⟨[], [], [(0, VLS223_0 zq139 N)], [], ⟨[], [], [157], [222]⟩⟩
def E223 (N : Nat) : Env β := VE223 (zj139 N) N
theorem vst223_0_0 (N : Nat) (v0 : Int) (v1 : Int) (v2 : List Int) (v3 : Int) (v4 : Int) (rec_ : St → O β) (K : Exit → St → O β) :
    stB lay (VE223 zq139 N) Tryz.f223 0 (h223_0_0 v0 v1 v2 v3 v4) rec_ K = zb138 N v0 v1 v2 v3 v4 (fun v0 v1 v2 v3 v4 => rec_ (h223_0_0 v0 v1 v2 v3 v4)) (fun y0 => K (.exit 0) (x223_0_0_k0 y0)) := by kernel_rfl
theorem ro223_0_0 (N : Nat) (K : Exit → St → O β) : ∀ (F : Nat) (v0 : Int) (v1 : Int) (v2 : List Int) (v3 : Int) (v4 : Int), (lp Tryz.f223 0).rounds lay (E223 N) (retMask Tryz.f223) F (h223_0_0 v0 v1 v2 v3 v4) K = zj139 N F v0 v1 v2 v3 v4 (fun y0 => K (.exit 0) (x223_0_0_k0 y0)) := by
  intro F
  induction F with
  | zero => intros; rfl
  | succ F ih =>
    intros
    rw [rounds_next]
    refine (vst223_0_0 (zj139 N) N _ _ _ _ _ (fun s => (lp Tryz.f223 0).rounds lay (E223 N) (retMask Tryz.f223) F s K) K).trans ?_
    simp only [ih]
    rfl
theorem lk223_0 (N : Nat) : lookL (E223 (β := β) N).loops (lp Tryz.f223 0).id = LS223_0 N := by kernel_rfl
theorem rk223_0 (N : Nat) : RoundsOK lay (E223 (β := β) N) (retMask Tryz.f223) (lp Tryz.f223 0) := by
  intro s K r h
  rw [lk223_0] at h
  unfold LS223_0 VLS223_0 at h
  cases hb : shpSt (h223_0_0 0 0 [] 0 0) s with
  | true =>
    rw [hb, cond_true] at h
    exact ⟨N, by rw [← shpSt_ref hb, fl223_0_0 s]; unfold p223_0_0 at h ⊢; exact (ro223_0_0 N K N _ _ _ _ _).trans h⟩
  | false =>
  rw [hb, cond_false] at h
  clear hb
  cases h
theorem ve223_0 (N : Nat) (a0 : Int) (a1 : List Int) (K : TV → O β) : evFn lay (VE223 zq139 N) Tryz.f223 [.v (.one (.int .i64 a0)), .v (.one (.sl 3 (.ints .i64 a1)))] K = zb140 zq139 N a0 a1 (fun z2 => K (.v (.one (.int .i64 z2)))) := by kernel_rfl
theorem o223 (N : Nat) : SpecOK (β := β) inv Tryz.prog 223 (S223 N) := by
  refine spec_of lay_ok mixed (E := E223 N) (specs_loops specs_nil) muts_nil gs_nil Tryz.func223 (by kernel_rfl) 1 (by kernel_rfl) ⟨trivial, rk223_0 N⟩ fun args K r h => ?_
  unfold S223 VS223 at h
  split at h
  · exact (ve223_0 (zj139 N) N _ _ _).trans h
  · cases h
end Go.Proofs.YtemihnclhcobnaaGreatDoor
