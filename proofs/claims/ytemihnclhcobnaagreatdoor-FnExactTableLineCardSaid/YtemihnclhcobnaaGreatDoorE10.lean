/- The functions that the claims reach answer as their texts do. -/
import Derived.Test.YtemihnclhcobnaaGreatDoorE9
namespace Go.Proofs.YtemihnclhcobnaaGreatDoor
open Go.Rv
set_option maxRecDepth 100000
set_option maxHeartbeats 2000000
set_option linter.unusedVariables false
variable {β : Type}
variable (zq103 : Y29 β) (zq104 : Y2 β) (zq106 : Y3 β) (zq107 : Y51 β) (zq108 : Y34 β) (zq110 : Y10 β) (zq111 : Y1 β) (zq114 : Y52 β) (zq115 : Y4 β) (zq164 : Y3 β) (zq166 : Y70 β) (zq167 : Y69 β) (zq168 : Y69 β) (zq169 : Y2 β) (zq171 : Y72 β) (zq173 : Y73 β) (zq174 : Y71 β) (zq175 : Y2 β) (zq176 : Y24 β) (zq178 : Y75 β) (zq180 : Y74 β) (zq181 : Y37 β) (zq182 : Y2 β)
def VS225 (N : Nat) : Rv.Spec β := fun args K => match args with
  | [.v (.agg [.int .i64 a0, .int .i64 a1]), .v (.one (.int .i64 a2))] => zq164 a0 a1 a2 (fun z3 => K (.v (.one (.int .i64 z3))))
  | _ => none
def S225 (N : Nat) : Rv.Spec β := VS225 (zj164 N) N
def VE225 (N : Nat) : Env β := ⟨[(102, VS102 zq115 N)], [], [], [], ⟨[], [], [157], [222]⟩⟩
def E225 (N : Nat) : Env β := VE225 (zj115 N) N
theorem ve225_0 (N : Nat) (a0 : Int) (a1 : Int) (a2 : Int) (K : TV → O β) : evFn lay (VE225 zq115 N) Tryz.f225 [.v (.agg [.int .i64 a0, .int .i64 a1]), .v (.one (.int .i64 a2))] K = zb164 zq115 N a0 a1 a2 (fun z3 => K (.v (.one (.int .i64 z3)))) := by kernel_rfl
theorem o225 (N : Nat) : SpecOK (β := β) inv Tryz.prog 225 (S225 N) := by
  refine spec_of lay_ok mixed (E := E225 N) (specs_loops (specs_cons (o102 N) specs_nil)) muts_nil gs_nil Tryz.func225 (by kernel_rfl) 0 (by kernel_rfl) trivial fun args K r h => ?_
  unfold S225 VS225 at h
  split at h
  · exact (ve225_0 (zj115 N) N _ _ _ _).trans h
  · cases h
def VS175 (N : Nat) : Rv.Spec β := fun args K => match args with
  | [.v (.agg [.int .i64 a0, .int .i64 a1])] => zq167 a0 a1 (fun z2 z3 => K (.tup [.one (.int .i64 z2), .one (.bool z3)]))
  | _ => none
def S175 (N : Nat) : Rv.Spec β := VS175 (zj167 N) N
def h175_0_0 (v0 : Int) (v1 : Int) (v2 : Int) (v3 : Int) (v4 : Int) : St := ⟨tund :: .v (.one (.ptr 0 0)) :: tund :: tund :: .v (.one (.int .i64 v0)) :: tund :: tund :: .v (.one (.int .i64 v1)) :: .v (.one (.int .i64 v2)) :: tn 15 [], [.cells 25 [.int .i64 v3, .int .i64 v4]]⟩
def x175_0_0_k0 (y0 : Int) (y1 : Bool) : St := ⟨tund :: tund :: .v (.one (.int .i64 y0)) :: .v (.one (.bool y1)) :: tn 20 [], []⟩
def x175_0_0_k1 (y0 : Int) : St := ⟨tn 4 (.v (.one (.int .i64 y0)) :: tn 19 []), []⟩
def p175_0_0 {γ : Type} (f : Int → Int → Int → Int → Int → γ) (s : St) : γ := f (intS (oneA (vT (nx tund s.tmps 4)))) (intS (oneA (vT (nx tund s.tmps 7)))) (intS (oneA (vT (nx tund s.tmps 8)))) (intS (nx .und (cellsB (nx .dead s.blks 0)) 0)) (intS (nx .und (cellsB (nx .dead s.blks 0)) 1))
theorem fl175_0_0 (s : St) : refSt (h175_0_0 0 0 0 0 0) s = p175_0_0 h175_0_0 s := by kernel_rfl
def VLS175_0 (N : Nat) : LSpec β := fun s K => cond (shpSt (h175_0_0 0 0 0 0 0) s) (p175_0_0 (fun v0 v1 v2 v3 v4 => zq166 N v0 v1 v2 v3 v4 (fun y0 y1 => K .ret (x175_0_0_k0 y0 y1)) (fun y0 => K (.exit 0) (x175_0_0_k1 y0))) s) (none)
def LS175_0 (N : Nat) : LSpec β := VLS175_0 (zj166 N) N
def VE175 (N : Nat) : Env β := ⟨[(225, VS225 zq164 N)], [], [(0, VLS175_0 zq166 N)], [], ⟨[], [], [157], [222]⟩⟩
def E175 (N : Nat) : Env β := VE175 (zj164 N) (zj166 N) N
theorem vst175_0_0 (N : Nat) (v0 : Int) (v1 : Int) (v2 : Int) (v3 : Int) (v4 : Int) (rec_ : St → O β) (K : Exit → St → O β) :
    stB lay (VE175 zq164 zq166 N) Tryz.f175 0 (h175_0_0 v0 v1 v2 v3 v4) rec_ K = zb165 zq164 N v0 v1 v2 v3 v4 (fun v0 v1 v2 v3 v4 => rec_ (h175_0_0 v0 v1 v2 v3 v4)) (fun y0 y1 => K .ret (x175_0_0_k0 y0 y1)) (fun y0 => K (.exit 0) (x175_0_0_k1 y0)) := by kernel_rfl
theorem ro175_0_0 (N : Nat) (K : Exit → St → O β) : ∀ (F : Nat) (v0 : Int) (v1 : Int) (v2 : Int) (v3 : Int) (v4 : Int), (lp Tryz.f175 0).rounds lay (E175 N) (retMask Tryz.f175) F (h175_0_0 v0 v1 v2 v3 v4) K = zj166 N F v0 v1 v2 v3 v4 (fun y0 y1 => K .ret (x175_0_0_k0 y0 y1)) (fun y0 => K (.exit 0) (x175_0_0_k1 y0)) := by
  intro F
  induction F with
  | zero => intros; rfl
  | succ F ih =>
    intros
    rw [rounds_next]
    refine (vst175_0_0 (zj164 N) (zj166 N) N _ _ _ _ _ (fun s => (lp Tryz.f175 0).rounds lay (E175 N) (retMask Tryz.f175) F s K) K).trans ?_
    simp only [ih]
    rfl
theorem lk175_0 (N : Nat) : lookL (E175 (β := β) N).loops (lp Tryz.f175 0).id = LS175_0 N := by kernel_rfl
theorem rk175_0 (N : Nat) : RoundsOK lay (E175 (β := β) N) (retMask Tryz.f175) (lp Tryz.f175 0) := by
  intro s K r h
  rw [lk175_0] at h
  unfold LS175_0 VLS175_0 at h
  cases hb : shpSt (h175_0_0 0 0 0 0 0) s with
  | true =>
    rw [hb, cond_true] at h
    exact ⟨N, by rw [← shpSt_ref hb, fl175_0_0 s]; unfold p175_0_0 at h ⊢; exact (ro175_0_0 N K N _ _ _ _ _).trans h⟩
  | false =>
  rw [hb, cond_false] at h
  clear hb
  cases h
theorem ve175_0 (N : Nat) (a0 : Int) (a1 : Int) (K : TV → O β) : evFn lay (VE175 zq164 zq166 N) Tryz.f175 [.v (.agg [.int .i64 a0, .int .i64 a1])] K = zb167 zq166 N a0 a1 (fun z2 z3 => K (.tup [.one (.int .i64 z2), .one (.bool z3)])) := by kernel_rfl
theorem o175 (N : Nat) : SpecOK (β := β) inv Tryz.prog 175 (S175 N) := by
  refine spec_of lay_ok mixed (E := E175 N) (specs_loops (specs_cons (o225 N) specs_nil)) muts_nil gs_nil Tryz.func175 (by kernel_rfl) 1 (by kernel_rfl) ⟨trivial, rk175_0 N⟩ fun args K r h => ?_
  unfold S175 VS175 at h
  split at h
  · exact (ve175_0 (zj164 N) (zj166 N) N _ _ _).trans h
  · cases h
def VS111 (N : Nat) : Rv.Spec β := fun args K => match args with
  | [.v (.agg [.int .i64 a0, .int .i64 a1])] => zq168 a0 a1 (fun z2 z3 => K (.tup [.one (.int .i64 z2), .one (.bool z3)]))
  | _ => none
def S111 (N : Nat) : Rv.Spec β := VS111 (zj168 N) N
def VE111 (N : Nat) : Env β := ⟨[(37, VS37 zq104 N), (175, VS175 zq167 N)], [], [], [], ⟨[], [], [157], [222]⟩⟩
def E111 (N : Nat) : Env β := VE111 (zj104 N) (zj167 N) N
theorem ve111_0 (N : Nat) (a0 : Int) (a1 : Int) (K : TV → O β) : evFn lay (VE111 zq104 zq167 N) Tryz.f111 [.v (.agg [.int .i64 a0, .int .i64 a1])] K = zb168 zq104 zq167 N a0 a1 (fun z2 z3 => K (.tup [.one (.int .i64 z2), .one (.bool z3)])) := by kernel_rfl
theorem o111 (N : Nat) : SpecOK (β := β) inv Tryz.prog 111 (S111 N) := by
  refine spec_of lay_ok mixed (E := E111 N) (specs_loops (specs_cons (o37 N) (specs_cons (o175 N) specs_nil))) muts_nil gs_nil Tryz.func111 (by kernel_rfl) 0 (by kernel_rfl) trivial fun args K r h => ?_
  unfold S111 VS111 at h
  split at h
  · exact (ve111_0 (zj104 N) (zj167 N) N _ _ _).trans h
  · cases h
def VS50 (N : Nat) : Rv.Spec β := fun args K => match args with
  | [.v (.agg [.int .i64 a0, .int .i64 a1])] => zq169 a0 a1 (fun z2 => K (.v (.one (.bool z2))))
  | _ => none
def S50 (N : Nat) : Rv.Spec β := VS50 (zj169 N) N
def VE50 (N : Nat) : Env β := ⟨[(111, VS111 zq168 N)], [], [], [], ⟨[], [], [157], [222]⟩⟩
def E50 (N : Nat) : Env β := VE50 (zj168 N) N
theorem ve50_0 (N : Nat) (a0 : Int) (a1 : Int) (K : TV → O β) : evFn lay (VE50 zq168 N) Tryz.f50 [.v (.agg [.int .i64 a0, .int .i64 a1])] K = zb169 zq168 N a0 a1 (fun z2 => K (.v (.one (.bool z2)))) := by kernel_rfl
theorem o50 (N : Nat) : SpecOK (β := β) inv Tryz.prog 50 (S50 N) := by
  refine spec_of lay_ok mixed (E := E50 N) (specs_loops (specs_cons (o111 N) specs_nil)) muts_nil gs_nil Tryz.func50 (by kernel_rfl) 0 (by kernel_rfl) trivial fun args K r h => ?_
  unfold S50 VS50 at h
  split at h
  · exact (ve50_0 (zj168 N) N _ _ _).trans h
  · cases h
def VS112 (N : Nat) : Rv.Spec β := fun args K => match args with
  | [.v (.agg [.int .i64 a0, .int .i64 a1])] => zq174 a0 a1 (fun z2 z3 => K (.tup [.one (.sl 3 (.ints .i64 z2)), .one (.bool z3)]))
  | _ => none
def S112 (N : Nat) : Rv.Spec β := VS112 (zj174 N) N
def h112_0_0 (v0 : Int) (v1 : Int) (v2 : Int) (v3 : Int) (v4 : List Int) : St := ⟨tund :: .v (.one (.ptr 0 0)) :: tund :: tund :: .v (.one (.row 1)) :: tn 7 (.v (.one (.int .i64 v0)) :: .v (.one (.int .i64 v1)) :: tn 27 []), [.cells 25 [.int .i64 v2, .int .i64 v3], .row 3 (.ints .i64 v4)]⟩
def x112_0_0_k0 (y0 : Int) (y1 : Int) (y2 : List Int) : St := ⟨tund :: .v (.one (.ptr 0 0)) :: tund :: tund :: .v (.one (.row 1)) :: tn 36 [], [.cells 25 [.int .i64 y0, .int .i64 y1], .row 3 (.ints .i64 y2)]⟩
def h112_1_0 (v0 : Int) (v1 : Int) (v2 : Int) (v3 : Int) (v4 : List Int) : St := ⟨tund :: .v (.one (.ptr 0 0)) :: tund :: tund :: .v (.one (.row 1)) :: tn 21 (.v (.one (.int .i64 v0)) :: .v (.one (.int .i64 v1)) :: tn 13 []), [.cells 25 [.int .i64 v2, .int .i64 v3], .row 3 (.ints .i64 v4)]⟩
def x112_1_0_k0 (y0 : Bool) (y1 : List Int) : St := ⟨tund :: tund :: .v (.one (.row 0)) :: .v (.one (.bool y0)) :: tn 37 [], [.row 3 (.ints .i64 y1)]⟩
def x112_1_0_k1 (y0 : List Int) : St := ⟨tn 4 (.v (.one (.row 0)) :: tn 36 []), [.row 3 (.ints .i64 y0)]⟩
def p112_0_0 {γ : Type} (f : Int → Int → Int → Int → List Int → γ) (s : St) : γ := f (intS (oneA (vT (nx tund s.tmps 12)))) (intS (oneA (vT (nx tund s.tmps 13)))) (intS (nx .und (cellsB (nx .dead s.blks 0)) 0)) (intS (nx .und (cellsB (nx .dead s.blks 0)) 1)) (rInts (rowB_ (nx .dead s.blks 1)))
theorem fl112_0_0 (s : St) : refSt (h112_0_0 0 0 0 0 []) s = p112_0_0 h112_0_0 s := by kernel_rfl
def VLS112_0 (N : Nat) : LSpec β := fun s K => cond (shpSt (h112_0_0 0 0 0 0 []) s) (p112_0_0 (fun v0 v1 v2 v3 v4 => zq171 N v0 v1 v2 v3 v4 (fun y0 y1 y2 => K (.exit 0) (x112_0_0_k0 y0 y1 y2))) s) (none)
def LS112_0 (N : Nat) : LSpec β := VLS112_0 (zj171 N) N
def p112_1_0 {γ : Type} (f : Int → Int → Int → Int → List Int → γ) (s : St) : γ := f (intS (oneA (vT (nx tund s.tmps 26)))) (intS (oneA (vT (nx tund s.tmps 27)))) (intS (nx .und (cellsB (nx .dead s.blks 0)) 0)) (intS (nx .und (cellsB (nx .dead s.blks 0)) 1)) (rInts (rowB_ (nx .dead s.blks 1)))
theorem fl112_1_0 (s : St) : refSt (h112_1_0 0 0 0 0 []) s = p112_1_0 h112_1_0 s := by kernel_rfl
def VLS112_2 (N : Nat) : LSpec β := fun s K => cond (shpSt (h112_1_0 0 0 0 0 []) s) ((fun (v0 : Int) (v1 : Int) (v2 : Int) (v3 : Int) (v4 : List Int) => zq173 N v0 v1 v2 v3 v4 (fun y0 y1 => K .ret (x112_1_0_k0 y0 y1)) (fun y0 => K (.exit 2) (x112_1_0_k1 y0))) (intS (oneA (vT (nx tund s.tmps 26)))) (intS (oneA (vT (nx tund s.tmps 27)))) (intS (nx .und (cellsB (nx .dead s.blks 0)) 0)) (intS (nx .und (cellsB (nx .dead s.blks 0)) 1)) (rInts (rowB_ (nx .dead s.blks 1)))) (none)
def LS112_2 (N : Nat) : LSpec β := VLS112_2 (zj173 N) N
def VE112 (N : Nat) : Env β := ⟨[(103, VS103 zq106 N), (100, VS100 zq103 N), (105, VS105 zq110 N)], [], [(0, VLS112_0 zq171 N), (2, VLS112_2 zq173 N)], [], ⟨[], [], [157], [222]⟩⟩
def E112 (N : Nat) : Env β := VE112 (zj103 N) (zj106 N) (zj110 N) (zj171 N) (zj173 N) N
theorem vst112_0_0 (N : Nat) (v0 : Int) (v1 : Int) (v2 : Int) (v3 : Int) (v4 : List Int) (rec_ : St → O β) (K : Exit → St → O β) :
    stB lay (VE112 zq103 zq106 zq110 zq171 zq173 N) Tryz.f112 0 (h112_0_0 v0 v1 v2 v3 v4) rec_ K = zb170 zq106 N v0 v1 v2 v3 v4 (fun v0 v1 v2 v3 v4 => rec_ (h112_0_0 v0 v1 v2 v3 v4)) (fun y0 y1 y2 => K (.exit 0) (x112_0_0_k0 y0 y1 y2)) := by kernel_rfl
theorem ro112_0_0 (N : Nat) (K : Exit → St → O β) : ∀ (F : Nat) (v0 : Int) (v1 : Int) (v2 : Int) (v3 : Int) (v4 : List Int), (lp Tryz.f112 0).rounds lay (E112 N) (retMask Tryz.f112) F (h112_0_0 v0 v1 v2 v3 v4) K = zj171 N F v0 v1 v2 v3 v4 (fun y0 y1 y2 => K (.exit 0) (x112_0_0_k0 y0 y1 y2)) := by
  intro F
  induction F with
  | zero => intros; rfl
  | succ F ih =>
    intros
    rw [rounds_next]
    refine (vst112_0_0 (zj103 N) (zj106 N) (zj110 N) (zj171 N) (zj173 N) N _ _ _ _ _ (fun s => (lp Tryz.f112 0).rounds lay (E112 N) (retMask Tryz.f112) F s K) K).trans ?_
    simp only [ih]
    rfl
theorem lk112_0 (N : Nat) : lookL (E112 (β := β) N).loops (lp Tryz.f112 0).id = LS112_0 N := by kernel_rfl
theorem rk112_0 (N : Nat) : RoundsOK lay (E112 (β := β) N) (retMask Tryz.f112) (lp Tryz.f112 0) := by
  intro s K r h
  rw [lk112_0] at h
  unfold LS112_0 VLS112_0 at h
  cases hb : shpSt (h112_0_0 0 0 0 0 []) s with
  | true =>
    rw [hb, cond_true] at h
    exact ⟨N, by rw [← shpSt_ref hb, fl112_0_0 s]; unfold p112_0_0 at h ⊢; exact (ro112_0_0 N K N _ _ _ _ _).trans h⟩
  | false =>
  rw [hb, cond_false] at h
  clear hb
  cases h
theorem vst112_1_0 (N : Nat) (v0 : Int) (v1 : Int) (v2 : Int) (v3 : Int) (v4 : List Int) (rec_ : St → O β) (K : Exit → St → O β) :
    stB lay (VE112 zq103 zq106 zq110 zq171 zq173 N) Tryz.f112 1 (h112_1_0 v0 v1 v2 v3 v4) rec_ K = zb172 zq106 zq110 N v0 v1 v2 v3 v4 (fun v0 v1 v2 v3 v4 => rec_ (h112_1_0 v0 v1 v2 v3 v4)) (fun y0 y1 => K .ret (x112_1_0_k0 y0 y1)) (fun y0 => K (.exit 2) (x112_1_0_k1 y0)) := by kernel_rfl
theorem ro112_1_0 (N : Nat) (K : Exit → St → O β) : ∀ (F : Nat) (v0 : Int) (v1 : Int) (v2 : Int) (v3 : Int) (v4 : List Int), (lp Tryz.f112 1).rounds lay (E112 N) (retMask Tryz.f112) F (h112_1_0 v0 v1 v2 v3 v4) K = zj173 N F v0 v1 v2 v3 v4 (fun y0 y1 => K .ret (x112_1_0_k0 y0 y1)) (fun y0 => K (.exit 2) (x112_1_0_k1 y0)) := by
  intro F
  induction F with
  | zero => intros; rfl
  | succ F ih =>
    intros
    rw [rounds_next]
    refine (vst112_1_0 (zj103 N) (zj106 N) (zj110 N) (zj171 N) (zj173 N) N _ _ _ _ _ (fun s => (lp Tryz.f112 1).rounds lay (E112 N) (retMask Tryz.f112) F s K) K).trans ?_
    simp only [ih]
    rfl
theorem lk112_2 (N : Nat) : lookL (E112 (β := β) N).loops (lp Tryz.f112 1).id = LS112_2 N := by kernel_rfl
theorem rk112_2 (N : Nat) : RoundsOK lay (E112 (β := β) N) (retMask Tryz.f112) (lp Tryz.f112 1) := by
  intro s K r h
  rw [lk112_2] at h
  unfold LS112_2 VLS112_2 at h
  cases hb : shpSt (h112_1_0 0 0 0 0 []) s with
  | true =>
    rw [hb, cond_true] at h
    exact ⟨N, by rw [← shpSt_ref hb, fl112_1_0 s]; exact (ro112_1_0 N K N (intS (oneA (vT (nx tund s.tmps 26)))) (intS (oneA (vT (nx tund s.tmps 27)))) (intS (nx .und (cellsB (nx .dead s.blks 0)) 0)) (intS (nx .und (cellsB (nx .dead s.blks 0)) 1)) (rInts (rowB_ (nx .dead s.blks 1)))).trans h⟩
  | false =>
  rw [hb, cond_false] at h
  clear hb
  cases h
theorem ve112_0 (N : Nat) (a0 : Int) (a1 : Int) (K : TV → O β) : evFn lay (VE112 zq103 zq106 zq110 zq171 zq173 N) Tryz.f112 [.v (.agg [.int .i64 a0, .int .i64 a1])] K = zb174 zq103 zq171 zq173 N a0 a1 (fun z2 z3 => K (.tup [.one (.sl 3 (.ints .i64 z2)), .one (.bool z3)])) := by kernel_rfl
theorem o112 (N : Nat) : SpecOK (β := β) inv Tryz.prog 112 (S112 N) := by
  refine spec_of lay_ok mixed (E := E112 N) (specs_loops (specs_cons (o103 N) (specs_cons (o100 N) (specs_cons (o105 N) specs_nil)))) muts_nil gs_nil Tryz.func112 (by kernel_rfl) 2 (by kernel_rfl) ⟨⟨trivial, rk112_0 N⟩, rk112_2 N⟩ fun args K r h => ?_
  unfold S112 VS112 at h
  split at h
  · exact (ve112_0 (zj103 N) (zj106 N) (zj110 N) (zj171 N) (zj173 N) N _ _ _).trans h
  · cases h
def VS51 (N : Nat) : Rv.Spec β := fun args K => match args with
  | [.v (.agg [.int .i64 a0, .int .i64 a1])] => zq175 a0 a1 (fun z2 => K (.v (.one (.bool z2))))
  | _ => none
def S51 (N : Nat) : Rv.Spec β := VS51 (zj175 N) N
def VE51 (N : Nat) : Env β := ⟨[(37, VS37 zq104 N), (112, VS112 zq174 N)], [], [], [], ⟨[], [], [157], [222]⟩⟩
def E51 (N : Nat) : Env β := VE51 (zj104 N) (zj174 N) N
theorem ve51_0 (N : Nat) (a0 : Int) (a1 : Int) (K : TV → O β) : evFn lay (VE51 zq104 zq174 N) Tryz.f51 [.v (.agg [.int .i64 a0, .int .i64 a1])] K = zb175 zq104 zq174 N a0 a1 (fun z2 => K (.v (.one (.bool z2)))) := by kernel_rfl
theorem o51 (N : Nat) : SpecOK (β := β) inv Tryz.prog 51 (S51 N) := by
  refine spec_of lay_ok mixed (E := E51 N) (specs_loops (specs_cons (o37 N) (specs_cons (o112 N) specs_nil))) muts_nil gs_nil Tryz.func51 (by kernel_rfl) 0 (by kernel_rfl) trivial fun args K r h => ?_
  unfold S51 VS51 at h
  split at h
  · exact (ve51_0 (zj104 N) (zj174 N) N _ _ _).trans h
  · cases h
def VS176 (N : Nat) : Rv.Spec β := fun args K => match args with
  | [.v (.one (.int .i64 a0)), .v (.one (.int .i64 a1)), .v (.one (.int .i64 a2))] => zq176 a0 a1 a2 (fun z3 z4 => K (.v (.agg [.int .i64 z3, .int .i64 z4])))
  | _ => none
def S176 (N : Nat) : Rv.Spec β := VS176 (zj176 N) N
def VE176 (N : Nat) : Env β := ⟨[(129, VS129 zq107 zq108 zq111 zq114 N), (226, VS226 zq111 N)], [], [], [], ⟨[], [], [157], [222]⟩⟩
def E176 (N : Nat) : Env β := VE176 (zj107 N) (zj108 N) (zj111 N) (zj114 N) N
theorem ve176_0 (N : Nat) (a0 : Int) (a1 : Int) (a2 : Int) (K : TV → O β) : evFn lay (VE176 zq107 zq108 zq111 zq114 N) Tryz.f176 [.v (.one (.int .i64 a0)), .v (.one (.int .i64 a1)), .v (.one (.int .i64 a2))] K = zb176 zq111 zq114 N a0 a1 a2 (fun z3 z4 => K (.v (.agg [.int .i64 z3, .int .i64 z4]))) := by kernel_rfl
theorem o176 (N : Nat) : SpecOK (β := β) inv Tryz.prog 176 (S176 N) := by
  refine spec_of lay_ok mixed (E := E176 N) (specs_loops (specs_cons (o129 N) (specs_cons (o226 N) specs_nil))) muts_nil gs_nil Tryz.func176 (by kernel_rfl) 0 (by kernel_rfl) trivial fun args K r h => ?_
  unfold S176 VS176 at h
  split at h
  · exact (ve176_0 (zj107 N) (zj108 N) (zj111 N) (zj114 N) N _ _ _ _).trans h
  · cases h
def VS113 (N : Nat) : Rv.Spec β := fun args K => match args with
  | [.v (.agg [.int .i64 a0, .int .i64 a1])] => zq181 a0 a1 (fun z2 z3 z4 z5 => K (.tup [.one (.int .i64 z2), .one (.int .i64 z3), .one (.int .i64 z4), .one (.bool z5)]))
  | _ => none
def S113 (N : Nat) : Rv.Spec β := VS113 (zj181 N) N
def h113_0_0 (v0 : Int) (v1 : Int) (v2 : Int) (v3 : Int) (v4 : Int) (v5 : Int) (v6 : Int) : St := ⟨tund :: .v (.one (.ptr 0 0)) :: tn 4 (.v (.one (.int .i64 v0)) :: .v (.one (.int .i64 v1)) :: .v (.one (.int .i64 v2)) :: tn 10 (.v (.one (.int .i64 v3)) :: .v (.one (.int .i64 v4)) :: tn 26 [])), [.cells 25 [.int .i64 v5, .int .i64 v6]]⟩
def x113_0_0_k0 (y0 : Int) (y1 : Int) (y2 : Int) : St := ⟨tn 6 (.v (.one (.int .i64 y0)) :: .v (.one (.int .i64 y1)) :: .v (.one (.int .i64 y2)) :: tn 38 []), []⟩
def h113_1_0 (v0 : Int) (v1 : Int) (v2 : Int) (v3 : Int) (v4 : Int) (v5 : Int) (v6 : Int) (v7 : Int) (v8 : Int) : St := ⟨tund :: .v (.one (.ptr 0 0)) :: tn 4 (.v (.one (.int .i64 v0)) :: .v (.one (.int .i64 v1)) :: .v (.one (.int .i64 v2)) :: .v (.one (.int .i64 v3)) :: tn 9 (.v (.one (.int .i64 v4)) :: .v (.one (.int .i64 v5)) :: tund :: tund :: .v (.one (.int .i64 v6)) :: tn 23 [])), [.cells 25 [.int .i64 v7, .int .i64 v8]]⟩
def x113_1_0_k0 (y0 : Int) (y1 : Int) (y2 : Int) (y3 : Int) (y4 : Int) (y5 : Int) (y6 : Int) : St := ⟨tund :: .v (.one (.ptr 0 0)) :: tn 4 (.v (.one (.int .i64 y0)) :: .v (.one (.int .i64 y1)) :: .v (.one (.int .i64 y2)) :: tn 10 (.v (.one (.int .i64 y3)) :: .v (.one (.int .i64 y4)) :: tn 26 [])), [.cells 25 [.int .i64 y5, .int .i64 y6]]⟩
def p113_0_0 {γ : Type} (f : Int → Int → Int → Int → Int → Int → Int → γ) (s : St) : γ := f (intS (oneA (vT (nx tund s.tmps 6)))) (intS (oneA (vT (nx tund s.tmps 7)))) (intS (oneA (vT (nx tund s.tmps 8)))) (intS (oneA (vT (nx tund s.tmps 19)))) (intS (oneA (vT (nx tund s.tmps 20)))) (intS (nx .und (cellsB (nx .dead s.blks 0)) 0)) (intS (nx .und (cellsB (nx .dead s.blks 0)) 1))
theorem fl113_0_0 (s : St) : refSt (h113_0_0 0 0 0 0 0 0 0) s = p113_0_0 h113_0_0 s := by kernel_rfl
def VLS113_0 (N : Nat) : LSpec β := fun s K => cond (shpSt (h113_0_0 0 0 0 0 0 0 0) s) (p113_0_0 (fun v0 v1 v2 v3 v4 v5 v6 => zq180 N v0 v1 v2 v3 v4 v5 v6 (fun y0 y1 y2 => K (.exit 0) (x113_0_0_k0 y0 y1 y2))) s) (none)
def LS113_0 (N : Nat) : LSpec β := VLS113_0 (zj180 N) N
def p113_1_0 {γ : Type} (f : Int → Int → Int → Int → Int → Int → Int → Int → Int → γ) (s : St) : γ := f (intS (oneA (vT (nx tund s.tmps 6)))) (intS (oneA (vT (nx tund s.tmps 7)))) (intS (oneA (vT (nx tund s.tmps 8)))) (intS (oneA (vT (nx tund s.tmps 9)))) (intS (oneA (vT (nx tund s.tmps 19)))) (intS (oneA (vT (nx tund s.tmps 20)))) (intS (oneA (vT (nx tund s.tmps 23)))) (intS (nx .und (cellsB (nx .dead s.blks 0)) 0)) (intS (nx .und (cellsB (nx .dead s.blks 0)) 1))
theorem fl113_1_0 (s : St) : refSt (h113_1_0 0 0 0 0 0 0 0 0 0) s = p113_1_0 h113_1_0 s := by kernel_rfl
def VLS113_2 (N : Nat) : LSpec β := fun s K => cond (shpSt (h113_1_0 0 0 0 0 0 0 0 0 0) s) ((fun (v0 : Int) (v1 : Int) (v2 : Int) (v3 : Int) (v4 : Int) (v5 : Int) (v6 : Int) (v7 : Int) (v8 : Int) => zq178 N v0 v1 v2 v3 v4 v5 v6 v7 v8 (fun y0 y1 y2 y3 y4 y5 y6 => K (.exit 2) (x113_1_0_k0 y0 y1 y2 y3 y4 y5 y6))) (intS (oneA (vT (nx tund s.tmps 6)))) (intS (oneA (vT (nx tund s.tmps 7)))) (intS (oneA (vT (nx tund s.tmps 8)))) (intS (oneA (vT (nx tund s.tmps 9)))) (intS (oneA (vT (nx tund s.tmps 19)))) (intS (oneA (vT (nx tund s.tmps 20)))) (intS (oneA (vT (nx tund s.tmps 23)))) (intS (nx .und (cellsB (nx .dead s.blks 0)) 0)) (intS (nx .und (cellsB (nx .dead s.blks 0)) 1))) (none)
def LS113_2 (N : Nat) : LSpec β := VLS113_2 (zj178 N) N
def VE113 (N : Nat) : Env β := ⟨[(37, VS37 zq104 N), (100, VS100 zq103 N), (176, VS176 zq176 N), (105, VS105 zq110 N)], [], [(0, VLS113_0 zq180 N), (2, VLS113_2 zq178 N)], [], ⟨[], [], [157], [222]⟩⟩
def E113 (N : Nat) : Env β := VE113 (zj103 N) (zj104 N) (zj110 N) (zj176 N) (zj178 N) (zj180 N) N
theorem vst113_0_0 (N : Nat) (v0 : Int) (v1 : Int) (v2 : Int) (v3 : Int) (v4 : Int) (v5 : Int) (v6 : Int) (rec_ : St → O β) (K : Exit → St → O β) :
    stB lay (VE113 zq103 zq104 zq110 zq176 zq178 zq180 N) Tryz.f113 0 (h113_0_0 v0 v1 v2 v3 v4 v5 v6) rec_ K = zb179 zq178 N v0 v1 v2 v3 v4 v5 v6 (fun v0 v1 v2 v3 v4 v5 v6 => rec_ (h113_0_0 v0 v1 v2 v3 v4 v5 v6)) (fun y0 y1 y2 => K (.exit 0) (x113_0_0_k0 y0 y1 y2)) := by kernel_rfl
theorem ro113_0_0 (N : Nat) (K : Exit → St → O β) : ∀ (F : Nat) (v0 : Int) (v1 : Int) (v2 : Int) (v3 : Int) (v4 : Int) (v5 : Int) (v6 : Int), (lp Tryz.f113 0).rounds lay (E113 N) (retMask Tryz.f113) F (h113_0_0 v0 v1 v2 v3 v4 v5 v6) K = zj180 N F v0 v1 v2 v3 v4 v5 v6 (fun y0 y1 y2 => K (.exit 0) (x113_0_0_k0 y0 y1 y2)) := by
  intro F
  induction F with
  | zero => intros; rfl
  | succ F ih =>
    intros
    rw [rounds_next]
    refine (vst113_0_0 (zj103 N) (zj104 N) (zj110 N) (zj176 N) (zj178 N) (zj180 N) N _ _ _ _ _ _ _ (fun s => (lp Tryz.f113 0).rounds lay (E113 N) (retMask Tryz.f113) F s K) K).trans ?_
    simp only [ih]
    rfl
theorem lk113_0 (N : Nat) : lookL (E113 (β := β) N).loops (lp Tryz.f113 0).id = LS113_0 N := by kernel_rfl
theorem rk113_0 (N : Nat) : RoundsOK lay (E113 (β := β) N) (retMask Tryz.f113) (lp Tryz.f113 0) := by
  intro s K r h
  rw [lk113_0] at h
  unfold LS113_0 VLS113_0 at h
  cases hb : shpSt (h113_0_0 0 0 0 0 0 0 0) s with
  | true =>
    rw [hb, cond_true] at h
    exact ⟨N, by rw [← shpSt_ref hb, fl113_0_0 s]; unfold p113_0_0 at h ⊢; exact (ro113_0_0 N K N _ _ _ _ _ _ _).trans h⟩
  | false =>
  rw [hb, cond_false] at h
  clear hb
  cases h
theorem vst113_1_0 (N : Nat) (v0 : Int) (v1 : Int) (v2 : Int) (v3 : Int) (v4 : Int) (v5 : Int) (v6 : Int) (v7 : Int) (v8 : Int) (rec_ : St → O β) (K : Exit → St → O β) :
    stB lay (VE113 zq103 zq104 zq110 zq176 zq178 zq180 N) Tryz.f113 1 (h113_1_0 v0 v1 v2 v3 v4 v5 v6 v7 v8) rec_ K = zb177 zq110 zq176 N v0 v1 v2 v3 v4 v5 v6 v7 v8 (fun v0 v1 v2 v3 v4 v5 v6 v7 v8 => rec_ (h113_1_0 v0 v1 v2 v3 v4 v5 v6 v7 v8)) (fun y0 y1 y2 y3 y4 y5 y6 => K (.exit 2) (x113_1_0_k0 y0 y1 y2 y3 y4 y5 y6)) := by kernel_rfl
theorem ro113_1_0 (N : Nat) (K : Exit → St → O β) : ∀ (F : Nat) (v0 : Int) (v1 : Int) (v2 : Int) (v3 : Int) (v4 : Int) (v5 : Int) (v6 : Int) (v7 : Int) (v8 : Int), (lp Tryz.f113 1).rounds lay (E113 N) (retMask Tryz.f113) F (h113_1_0 v0 v1 v2 v3 v4 v5 v6 v7 v8) K = zj178 N F v0 v1 v2 v3 v4 v5 v6 v7 v8 (fun y0 y1 y2 y3 y4 y5 y6 => K (.exit 2) (x113_1_0_k0 y0 y1 y2 y3 y4 y5 y6)) := by
  intro F
  induction F with
  | zero => intros; rfl
  | succ F ih =>
    intros
    rw [rounds_next]
    refine (vst113_1_0 (zj103 N) (zj104 N) (zj110 N) (zj176 N) (zj178 N) (zj180 N) N _ _ _ _ _ _ _ _ _ (fun s => (lp Tryz.f113 1).rounds lay (E113 N) (retMask Tryz.f113) F s K) K).trans ?_
    simp only [ih]
    rfl
theorem lk113_2 (N : Nat) : lookL (E113 (β := β) N).loops (lp Tryz.f113 1).id = LS113_2 N := by kernel_rfl
theorem rk113_2 (N : Nat) : RoundsOK lay (E113 (β := β) N) (retMask Tryz.f113) (lp Tryz.f113 1) := by
  intro s K r h
  rw [lk113_2] at h
  unfold LS113_2 VLS113_2 at h
  cases hb : shpSt (h113_1_0 0 0 0 0 0 0 0 0 0) s with
  | true =>
    rw [hb, cond_true] at h
    exact ⟨N, by rw [← shpSt_ref hb, fl113_1_0 s]; exact (ro113_1_0 N K N (intS (oneA (vT (nx tund s.tmps 6)))) (intS (oneA (vT (nx tund s.tmps 7)))) (intS (oneA (vT (nx tund s.tmps 8)))) (intS (oneA (vT (nx tund s.tmps 9)))) (intS (oneA (vT (nx tund s.tmps 19)))) (intS (oneA (vT (nx tund s.tmps 20)))) (intS (oneA (vT (nx tund s.tmps 23)))) (intS (nx .und (cellsB (nx .dead s.blks 0)) 0)) (intS (nx .und (cellsB (nx .dead s.blks 0)) 1))).trans h⟩
  | false =>
  rw [hb, cond_false] at h
  clear hb
  cases h
theorem ve113_0 (N : Nat) (a0 : Int) (a1 : Int) (K : TV → O β) : evFn lay (VE113 zq103 zq104 zq110 zq176 zq178 zq180 N) Tryz.f113 [.v (.agg [.int .i64 a0, .int .i64 a1])] K = zb181 zq103 zq104 zq180 N a0 a1 (fun z2 z3 z4 z5 => K (.tup [.one (.int .i64 z2), .one (.int .i64 z3), .one (.int .i64 z4), .one (.bool z5)])) := by kernel_rfl
theorem o113 (N : Nat) : SpecOK (β := β) inv Tryz.prog 113 (S113 N) := by
  refine spec_of lay_ok mixed (E := E113 N) (specs_loops (specs_cons (o37 N) (specs_cons (o100 N) (specs_cons (o176 N) (specs_cons (o105 N) specs_nil))))) muts_nil gs_nil Tryz.func113 (by kernel_rfl) 2 (by kernel_rfl) ⟨⟨trivial, rk113_0 N⟩, rk113_2 N⟩ fun args K r h => ?_
  unfold S113 VS113 at h
  split at h
  · exact (ve113_0 (zj103 N) (zj104 N) (zj110 N) (zj176 N) (zj178 N) (zj180 N) N _ _ _).trans h
  · cases h
def VS52 (N : Nat) : Rv.Spec β := fun args K => match args with
  | [.v (.agg [.int .i64 a0, .int .i64 a1])] => zq182 a0 a1 (fun z2 => K (.v (.one (.bool z2))))
  | _ => none
def S52 (N : Nat) : Rv.Spec β := VS52 (zj182 N) N
def VE52 (N : Nat) : Env β := ⟨[(113, VS113 zq181 N)], [], [], [], ⟨[], [], [157], [222]⟩⟩
def E52 (N : Nat) : Env β := VE52 (zj181 N) N
theorem ve52_0 (N : Nat) (a0 : Int) (a1 : Int) (K : TV → O β) : evFn lay (VE52 zq181 N) Tryz.f52 [.v (.agg [.int .i64 a0, .int .i64 a1])] K = zb182 zq181 N a0 a1 (fun z2 => K (.v (.one (.bool z2)))) := by kernel_rfl
theorem o52 (N : Nat) : SpecOK (β := β) inv Tryz.prog 52 (S52 N) := by
  refine spec_of lay_ok mixed (E := E52 N) (specs_loops (specs_cons (o113 N) specs_nil)) muts_nil gs_nil Tryz.func52 (by kernel_rfl) 0 (by kernel_rfl) trivial fun args K r h => ?_
  unfold S52 VS52 at h
  split at h
  · exact (ve52_0 (zj181 N) N _ _ _).trans h
  · cases h
end Go.Proofs.YtemihnclhcobnaaGreatDoor
