/- The functions that the claims reach answer as their texts do. -/
import Derived.Test.YtfdggelojmofmaaE2
namespace Go.Proofs.Ytfdggelojmofmaa
open Go.Rv
set_option maxRecDepth 100000
set_option maxHeartbeats 2000000
set_option linter.unusedVariables false
def VS188 {β : Type} (N : Nat) (q_slices_IndexFunc_Sint_int : (a0 : List Int) → (a1 : (Int → (Bool → Option β) → Option β)) → (k : Int → Option β) → Option β) (q_impl_Table_depends : (a0 : Int) → (a1 : Int) → (a2 : Int) → (k : Bool → Option β) → Option β) : Rv.Spec β := fun args K => match args with
  | [.v (.one (.sl 3 (.ints .i64 a0))), .v (.one (.bfn 85 [.int .i64 q0, .int .i64 q1]))] => q_slices_IndexFunc_Sint_int a0 (fun x0 k => q_impl_Table_depends q0 q1 x0 k) (fun z2 => K (.v (.one (.int .i64 z2))))
  | _ => none
def S188 {β : Type} (N : Nat) : Rv.Spec β := VS188 N (slices_IndexFunc_Sint_int N) (impl_Table_depends N)
def h188_0_0 (q0 : Int) (q1 : Int) (v0 : List Int) (v1 : Int) (v2 : Int) : St := ⟨.v (.one (.sl 3 (.ints .i64 v0))) :: .v (.one (.bfn 85 [.int .i64 q0, .int .i64 q1])) :: .v (.one .und) :: .v (.one .und) :: .v (.one .und) :: .v (.one .und) :: .v (.one .und) :: .v (.one (.int .i64 v1)) :: .v (.one (.int .i64 v2)) :: .v (.one .und) :: .v (.one .und) :: .v (.one .und) :: .v (.one .und) :: .v (.one .und) :: .v (.one .und) :: .v (.one .und) :: .v (.one .und) :: .v (.one .und) :: .v (.one .und) :: [], []⟩
def x188_0_0_k0 (q0 : Int) (q1 : Int) (y0 : Int) : St := ⟨.v (.one .und) :: .v (.one .und) :: .v (.one .und) :: .v (.one .und) :: .v (.one (.int .i64 y0)) :: .v (.one .und) :: .v (.one .und) :: .v (.one .und) :: .v (.one .und) :: .v (.one .und) :: .v (.one .und) :: .v (.one .und) :: .v (.one .und) :: .v (.one .und) :: .v (.one .und) :: .v (.one .und) :: .v (.one .und) :: .v (.one .und) :: .v (.one .und) :: [], []⟩
def x188_0_0_k1 (q0 : Int) (q1 : Int)  : St := ⟨.v (.one .und) :: .v (.one .und) :: .v (.one .und) :: .v (.one .und) :: .v (.one .und) :: .v (.one .und) :: .v (.one .und) :: .v (.one .und) :: .v (.one .und) :: .v (.one .und) :: .v (.one .und) :: .v (.one .und) :: .v (.one .und) :: .v (.one .und) :: .v (.one .und) :: .v (.one .und) :: .v (.one .und) :: .v (.one .und) :: .v (.one .und) :: [], []⟩
theorem fl188_0_0 (s : St) : refSt (h188_0_0 0 0 [] 0 0) s = h188_0_0 (intF (nx .no (bfnS (oneA (vT (nx tund s.tmps 1)))) 0)) (intF (nx .no (bfnS (oneA (vT (nx tund s.tmps 1)))) 1)) (rInts (rowV (oneA (vT (nx tund s.tmps 0))))) (intS (oneA (vT (nx tund s.tmps 7)))) (intS (oneA (vT (nx tund s.tmps 8)))) := by kernel_rfl
def VLS188_0 {β : Type} (N : Nat) (q_slices_IndexFunc_Sint_int_l0 : (a1 : (Int → (Bool → Option β) → Option β)) → Nat → List Int → Int → Int → (Int → Option β) → (Option β) → Option β) (q_impl_Table_depends : (a0 : Int) → (a1 : Int) → (a2 : Int) → (k : Bool → Option β) → Option β) : LSpec β := fun s K => cond (shpSt (h188_0_0 0 0 [] 0 0) s) ((fun (q0 : Int) (q1 : Int) (v0 : List Int) (v1 : Int) (v2 : Int) => q_slices_IndexFunc_Sint_int_l0 (fun x0 k => q_impl_Table_depends q0 q1 x0 k) N v0 v1 v2 (fun y0 => K .ret (x188_0_0_k0 q0 q1 y0)) (K (.exit 0) (x188_0_0_k1 q0 q1 ))) (intF (nx .no (bfnS (oneA (vT (nx tund s.tmps 1)))) 0)) (intF (nx .no (bfnS (oneA (vT (nx tund s.tmps 1)))) 1)) (rInts (rowV (oneA (vT (nx tund s.tmps 0))))) (intS (oneA (vT (nx tund s.tmps 7)))) (intS (oneA (vT (nx tund s.tmps 8))))) (none)
def LS188_0 {β : Type} (N : Nat) : LSpec β := VLS188_0 N (slices_IndexFunc_Sint_int_l0 N) (impl_Table_depends N)
def VE188 {β : Type} (N : Nat) (q_impl_Table_depends : (a0 : Int) → (a1 : Int) → (a2 : Int) → (k : Bool → Option β) → Option β) (q_slices_IndexFunc_Sint_int_l0 : (a1 : (Int → (Bool → Option β) → Option β)) → Nat → List Int → Int → Int → (Int → Option β) → (Option β) → Option β) : Env β := ⟨[(85, VS85 N q_impl_Table_depends)], [], [(0, VLS188_0 N q_slices_IndexFunc_Sint_int_l0 q_impl_Table_depends)], [], ⟨[], [], [106], [147, 148, 186]⟩⟩
def E188 {β : Type} (N : Nat) : Env β := VE188 N (impl_Table_depends N) (slices_IndexFunc_Sint_int_l0 N)
def BV_slices_IndexFunc_Sint_int_l0b {β : Type} (N : Nat) (a1 : (Int → (Bool → Option β) → Option β)) (v0 : List Int) (v1 : Int) (v2 : Int) (rec_ : List Int → Int → Int → Option β) (k0 : Int → Option β) (k1 : Option β) : Option β :=
(cond ((decide (v2 < v1)))
((gd ((decide (0 ≤ v2)))
((gd ((decide (v2 < (v0.length : Int))))
(a1 ((rd 0 v0 v2)) fun r3 =>
(cond r3
(k0 v2)
(rec_ v0 v1 ((w64 (v2 + 1))))))))))
(k1 ))
theorem t_slices_IndexFunc_Sint_int_l0b {β : Type} (N : Nat) (a1 : (Int → (Bool → Option β) → Option β)) (v0 : List Int) (v1 : Int) (v2 : Int) (rec_ : List Int → Int → Int → Option β) (k0 : Int → Option β) (k1 : Option β) : slices_IndexFunc_Sint_int_l0b N a1 v0 v1 v2 rec_ k0 k1 = BV_slices_IndexFunc_Sint_int_l0b N a1 v0 v1 v2 rec_ k0 k1 := by
  unfold slices_IndexFunc_Sint_int_l0b BV_slices_IndexFunc_Sint_int_l0b
  rfl
theorem vst188_0_0 {β : Type} (N : Nat) (q_impl_Table_depends : (a0 : Int) → (a1 : Int) → (a2 : Int) → (k : Bool → Option β) → Option β) (q_slices_IndexFunc_Sint_int_l0 : (a1 : (Int → (Bool → Option β) → Option β)) → Nat → List Int → Int → Int → (Int → Option β) → (Option β) → Option β) (q0 : Int) (q1 : Int) (v0 : List Int) (v1 : Int) (v2 : Int) (rec_ : St → Option β) (K : Exit → St → Option β) :
    ev lay (VE188 N q_impl_Table_depends q_slices_IndexFunc_Sint_int_l0) (retMask Try.f188) (lp Try.f188 0).body (lp Try.f188 0).ex ((lp Try.f188 0).lv (retMask Try.f188)) (h188_0_0 q0 q1 v0 v1 v2) (nextR (fun s' => rec_ (s'.tidy ((lp Try.f188 0).lv (retMask Try.f188)))) K) = BV_slices_IndexFunc_Sint_int_l0b N (fun x0 k => q_impl_Table_depends q0 q1 x0 k) v0 v1 v2 (fun v0 v1 v2 => rec_ (h188_0_0 q0 q1 v0 v1 v2)) (fun y0 => K .ret (x188_0_0_k0 q0 q1 y0)) (K (.exit 0) (x188_0_0_k1 q0 q1 )) := by kernel_rfl
theorem st188_0_0 {β : Type} (N : Nat) (q0 : Int) (q1 : Int) (v0 : List Int) (v1 : Int) (v2 : Int) (rec_ : St → Option β) (K : Exit → St → Option β) :
    ev lay (E188 N) (retMask Try.f188) (lp Try.f188 0).body (lp Try.f188 0).ex ((lp Try.f188 0).lv (retMask Try.f188)) (h188_0_0 q0 q1 v0 v1 v2) (nextR (fun s' => rec_ (s'.tidy ((lp Try.f188 0).lv (retMask Try.f188)))) K) = slices_IndexFunc_Sint_int_l0b N (fun x0 k => impl_Table_depends N q0 q1 x0 k) v0 v1 v2 (fun v0 v1 v2 => rec_ (h188_0_0 q0 q1 v0 v1 v2)) (fun y0 => K .ret (x188_0_0_k0 q0 q1 y0)) (K (.exit 0) (x188_0_0_k1 q0 q1 )) := (vst188_0_0 N (impl_Table_depends N) (slices_IndexFunc_Sint_int_l0 N) q0 q1 v0 v1 v2 rec_ K).trans (t_slices_IndexFunc_Sint_int_l0b N (fun x0 k => impl_Table_depends N q0 q1 x0 k) v0 v1 v2 (fun v0 v1 v2 => rec_ (h188_0_0 q0 q1 v0 v1 v2)) (fun y0 => K .ret (x188_0_0_k0 q0 q1 y0)) (K (.exit 0) (x188_0_0_k1 q0 q1 ))).symm
theorem ro188_0_0 {β : Type} (N : Nat) (q0 : Int) (q1 : Int) (K : Exit → St → Option β) : ∀ (F : Nat) (v0 : List Int) (v1 : Int) (v2 : Int), (lp Try.f188 0).rounds lay (E188 N) (retMask Try.f188) F (h188_0_0 q0 q1 v0 v1 v2) K = slices_IndexFunc_Sint_int_l0 N (fun x0 k => impl_Table_depends N q0 q1 x0 k) F v0 v1 v2 (fun y0 => K .ret (x188_0_0_k0 q0 q1 y0)) (K (.exit 0) (x188_0_0_k1 q0 q1 )) := by
  intro F
  induction F with
  | zero => intros; rfl
  | succ F ih =>
    intros
    rw [rounds_next]
    refine (st188_0_0 N q0 q1 _ _ _ (fun s => (lp Try.f188 0).rounds lay (E188 N) (retMask Try.f188) F s K) K).trans ?_
    simp only [ih]
    rfl
theorem lk188_0 {β : Type} (N : Nat) : lookL (E188 (β := β) N).loops (lp Try.f188 0).id = LS188_0 N := by kernel_rfl
theorem rk188_0 {β : Type} (N : Nat) : RoundsOK lay (E188 (β := β) N) (retMask Try.f188) (lp Try.f188 0) := by
  intro s K r h
  rw [lk188_0] at h
  unfold LS188_0 VLS188_0 at h
  cases hb : shpSt (h188_0_0 0 0 [] 0 0) s with
  | true =>
    rw [hb, cond_true] at h
    exact ⟨N, by rw [← shpSt_ref hb, fl188_0_0 s]; exact (ro188_0_0 N (intF (nx .no (bfnS (oneA (vT (nx tund s.tmps 1)))) 0)) (intF (nx .no (bfnS (oneA (vT (nx tund s.tmps 1)))) 1)) K N (rInts (rowV (oneA (vT (nx tund s.tmps 0))))) (intS (oneA (vT (nx tund s.tmps 7)))) (intS (oneA (vT (nx tund s.tmps 8))))).trans h⟩
  | false =>
  rw [hb, cond_false] at h
  clear hb
  cases h
def BV_slices_IndexFunc_Sint_int {β : Type} (N : Nat) (q_slices_IndexFunc_Sint_int_l0 : (a1 : (Int → (Bool → Option β) → Option β)) → Nat → List Int → Int → Int → (Int → Option β) → (Option β) → Option β) (a0 : List Int) (a1 : (Int → (Bool → Option β) → Option β)) (k : Int → Option β) : Option β :=
q_slices_IndexFunc_Sint_int_l0 a1 N a0 ((a0.length : Int)) 0 (fun e4_0 =>
k e4_0) (k (-1))
theorem t_slices_IndexFunc_Sint_int {β : Type} (N : Nat) (a0 : List Int) (a1 : (Int → (Bool → Option β) → Option β)) (k : Int → Option β) : slices_IndexFunc_Sint_int N a0 a1 k = BV_slices_IndexFunc_Sint_int N (slices_IndexFunc_Sint_int_l0 N) a0 a1 k := by
  unfold slices_IndexFunc_Sint_int BV_slices_IndexFunc_Sint_int
  rfl
theorem ve188_0 {β : Type} (N : Nat) (q_impl_Table_depends : (a0 : Int) → (a1 : Int) → (a2 : Int) → (k : Bool → Option β) → Option β) (q_slices_IndexFunc_Sint_int_l0 : (a1 : (Int → (Bool → Option β) → Option β)) → Nat → List Int → Int → Int → (Int → Option β) → (Option β) → Option β) (q0 : Int) (q1 : Int) (a0 : List Int) (K : TV → Option β) : evFn lay (VE188 N q_impl_Table_depends q_slices_IndexFunc_Sint_int_l0) Try.f188 [.v (.one (.sl 3 (.ints .i64 a0))), .v (.one (.bfn 85 [.int .i64 q0, .int .i64 q1]))] K = BV_slices_IndexFunc_Sint_int N q_slices_IndexFunc_Sint_int_l0 a0 (fun x0 k => q_impl_Table_depends q0 q1 x0 k) (fun z2 => K (.v (.one (.int .i64 z2)))) := by kernel_rfl
theorem e188_0 {β : Type} (N : Nat) (q0 : Int) (q1 : Int) (a0 : List Int) (K : TV → Option β) : evFn lay (E188 N) Try.f188 [.v (.one (.sl 3 (.ints .i64 a0))), .v (.one (.bfn 85 [.int .i64 q0, .int .i64 q1]))] K = slices_IndexFunc_Sint_int N a0 (fun x0 k => impl_Table_depends N q0 q1 x0 k) (fun z2 => K (.v (.one (.int .i64 z2)))) := (ve188_0 N (impl_Table_depends N) (slices_IndexFunc_Sint_int_l0 N) q0 q1 a0 K).trans (t_slices_IndexFunc_Sint_int N a0 (fun x0 k => impl_Table_depends N q0 q1 x0 k) (fun z2 => K (.v (.one (.int .i64 z2))))).symm
theorem o188 {β : Type} (N : Nat) : SpecOK (β := β) inv Try.prog 188 (S188 N) := by
  refine spec_of lay_ok mixed (E := E188 N) (specs_loops (specs_cons (o85 N) specs_nil)) muts_nil gs_nil Try.func188 (by kernel_rfl) 1 (by kernel_rfl) ⟨trivial, rk188_0 N⟩ fun args K r h => ?_
  unfold S188 VS188 at h
  split at h
  · exact (e188_0 N _ _ _ _).trans h
  · cases h
def VS189 {β : Type} (N : Nat) (q_impl_Table_stuck : (a0 : Int) → (a1 : Int) → (a2 : Int) → (a3 : Int) → (k : Int → Int → Option β) → Option β) : Rv.Spec β := fun args K => match args with
  | [.v (.agg [.int .i64 a0, .int .i64 a1]), .v (.one (.int .i64 a2)), .v (.one (.int .i64 a3))] => q_impl_Table_stuck a0 a1 a2 a3 (fun z4 z5 => K (.v (.agg [.int .i64 z4, .int .i64 z5])))
  | _ => none
def S189 {β : Type} (N : Nat) : Rv.Spec β := VS189 N (impl_Table_stuck N)
def VE189 {β : Type} (N : Nat) (q_impl_makeTable : (a0 : Int) → (a1 : (Int → (Bool → Option β) → Option β)) → (k : Int → Int → Option β) → Option β) (q_impl_Table_restrict_1 : (a0 : Int) → (c0 : Int) → (c1 : Int) → (c2 : Int) → (c3 : Int) → (k : Bool → Option β) → Option β) (q_impl_Table_stuck_1 : (a0 : Int) → (c0 : Int) → (c1 : Int) → (c2 : Int) → (c3 : Int) → (k : Bool → Option β) → Option β) : Env β := ⟨[(115, VS115 N q_impl_makeTable q_impl_Table_restrict_1 q_impl_Table_stuck_1), (208, VS208 N q_impl_Table_stuck_1)], [], [], [], ⟨[], [], [106], [147, 148, 186]⟩⟩
def E189 {β : Type} (N : Nat) : Env β := VE189 N (impl_makeTable N) (impl_Table_restrict_1 N) (impl_Table_stuck_1 N)
def BV_impl_Table_stuck {β : Type} (N : Nat) (q_impl_makeTable : (a0 : Int) → (a1 : (Int → (Bool → Option β) → Option β)) → (k : Int → Int → Option β) → Option β) (q_impl_Table_stuck_1 : (a0 : Int) → (c0 : Int) → (c1 : Int) → (c2 : Int) → (c3 : Int) → (k : Bool → Option β) → Option β) (a0 : Int) (a1 : Int) (a2 : Int) (a3 : Int) (k : Int → Int → Option β) : Option β :=
q_impl_makeTable a0 (fun x0 k => q_impl_Table_stuck_1 x0 a0 a1 a2 a3 k) fun r6 r7 =>
k r6 r7
theorem t_impl_Table_stuck {β : Type} (N : Nat) (a0 : Int) (a1 : Int) (a2 : Int) (a3 : Int) (k : Int → Int → Option β) : impl_Table_stuck N a0 a1 a2 a3 k = BV_impl_Table_stuck N (impl_makeTable N) (impl_Table_stuck_1 N) a0 a1 a2 a3 k := by
  unfold impl_Table_stuck BV_impl_Table_stuck
  rfl
theorem ve189_0 {β : Type} (N : Nat) (q_impl_makeTable : (a0 : Int) → (a1 : (Int → (Bool → Option β) → Option β)) → (k : Int → Int → Option β) → Option β) (q_impl_Table_restrict_1 : (a0 : Int) → (c0 : Int) → (c1 : Int) → (c2 : Int) → (c3 : Int) → (k : Bool → Option β) → Option β) (q_impl_Table_stuck_1 : (a0 : Int) → (c0 : Int) → (c1 : Int) → (c2 : Int) → (c3 : Int) → (k : Bool → Option β) → Option β)  (a0 : Int) (a1 : Int) (a2 : Int) (a3 : Int) (K : TV → Option β) : evFn lay (VE189 N q_impl_makeTable q_impl_Table_restrict_1 q_impl_Table_stuck_1) Try.f189 [.v (.agg [.int .i64 a0, .int .i64 a1]), .v (.one (.int .i64 a2)), .v (.one (.int .i64 a3))] K = BV_impl_Table_stuck N q_impl_makeTable q_impl_Table_stuck_1 a0 a1 a2 a3 (fun z4 z5 => K (.v (.agg [.int .i64 z4, .int .i64 z5]))) := by kernel_rfl
theorem e189_0 {β : Type} (N : Nat)  (a0 : Int) (a1 : Int) (a2 : Int) (a3 : Int) (K : TV → Option β) : evFn lay (E189 N) Try.f189 [.v (.agg [.int .i64 a0, .int .i64 a1]), .v (.one (.int .i64 a2)), .v (.one (.int .i64 a3))] K = impl_Table_stuck N a0 a1 a2 a3 (fun z4 z5 => K (.v (.agg [.int .i64 z4, .int .i64 z5]))) := (ve189_0 N (impl_makeTable N) (impl_Table_restrict_1 N) (impl_Table_stuck_1 N) a0 a1 a2 a3 K).trans (t_impl_Table_stuck N a0 a1 a2 a3 (fun z4 z5 => K (.v (.agg [.int .i64 z4, .int .i64 z5])))).symm
theorem o189 {β : Type} (N : Nat) : SpecOK (β := β) inv Try.prog 189 (S189 N) := by
  refine spec_of lay_ok mixed (E := E189 N) (specs_loops (specs_cons (o115 N) (specs_cons (o208 N) specs_nil))) muts_nil gs_nil Try.func189 (by kernel_rfl) 0 (by kernel_rfl) trivial fun args K r h => ?_
  unfold S189 VS189 at h
  split at h
  · exact (e189_0 N _ _ _ _ _).trans h
  · cases h
def VSF148 {β : Type} (N : Nat) (q_impl_diagram_walk_g0_f : Nat → Int → Int → List Int → List (Int × Int × Int) → Mp → (Int → List Int → Mp → List (Int × Int × Int) → Option β) → Option β) (G : Nat) : GSpec β := fun args bl K => match args, bl with
  | [.v (.one (.ptr 0 0)), .v (.agg [.int .i64 a0, .int .i64 a1])], [.pcells 0 129 [.sl 3 (.ints .i64 a2), .row 1, .mp 2], .row 160 (.trips a3), .pmp 2 ⟨true, false⟩ a4] => q_impl_diagram_walk_g0_f G a0 a1 a2 a3 a4 (fun y0 y1 y2 y3 => K (.v (.one (.int .i64 y0))) [.pcells 0 129 [.sl 3 (.ints .i64 y1), .row 2, .mp 1], .pmp 2 ⟨true, false⟩ y2, .row 160 (.trips y3)])
  | _, _ => none
def SF148 {β : Type} (N : Nat) (G : Nat) : GSpec β := VSF148 N (impl_diagram_walk_g0_f N) G
def VS148 {β : Type} (N : Nat) (q_impl_diagram_walk_g0_f : Nat → Int → Int → List Int → List (Int × Int × Int) → Mp → (Int → List Int → Mp → List (Int × Int × Int) → Option β) → Option β) : GSpec β := VSF148 N q_impl_diagram_walk_g0_f N
def S148 {β : Type} (N : Nat) : GSpec β := SF148 N N
def VE148 {β : Type} (N : Nat) (q_impl_Table_isSame : (a0 : Int) → (a1 : Int) → (k : Bool → Option β) → Option β) (q_impl_Table_at : (a0 : Int) → (a1 : Int) → (a2 : Int) → (k : Int → Option β) → Option β) (q_slices_IndexFunc_Sint_int : (a0 : List Int) → (a1 : (Int → (Bool → Option β) → Option β)) → (k : Int → Option β) → Option β) (q_impl_Table_depends : (a0 : Int) → (a1 : Int) → (a2 : Int) → (k : Bool → Option β) → Option β) (q_impl_Table_stuck : (a0 : Int) → (a1 : Int) → (a2 : Int) → (a3 : Int) → (k : Int → Int → Option β) → Option β) (q_impl_diagram_walk_g0_f : Nat → Int → Int → List Int → List (Int × Int × Int) → Mp → (Int → List Int → Mp → List (Int × Int × Int) → Option β) → Option β) (G : Nat) : Env β := ⟨[(187, VS187 N q_impl_Table_isSame), (97, VS97 N q_impl_Table_at), (188, VS188 N q_slices_IndexFunc_Sint_int q_impl_Table_depends), (85, VS85 N q_impl_Table_depends), (189, VS189 N q_impl_Table_stuck)], [], [], [(148, VSF148 N q_impl_diagram_walk_g0_f G)], ⟨[], [], [106], [147, 148, 186]⟩⟩
def E148 {β : Type} (N : Nat) (G : Nat) : Env β := VE148 N (impl_Table_isSame N) (impl_Table_at N) (slices_IndexFunc_Sint_int N) (impl_Table_depends N) (impl_Table_stuck N) (impl_diagram_walk_g0_f N) G
def BV_impl_diagram_walk_g0_b {β : Type} (N : Nat) (q_impl_Table_isSame : (a0 : Int) → (a1 : Int) → (k : Bool → Option β) → Option β) (q_impl_Table_at : (a0 : Int) → (a1 : Int) → (a2 : Int) → (k : Int → Option β) → Option β) (q_slices_IndexFunc_Sint_int : (a0 : List Int) → (a1 : (Int → (Bool → Option β) → Option β)) → (k : Int → Option β) → Option β) (q_impl_Table_depends : (a0 : Int) → (a1 : Int) → (a2 : Int) → (k : Bool → Option β) → Option β) (q_impl_Table_stuck : (a0 : Int) → (a1 : Int) → (a2 : Int) → (a3 : Int) → (k : Int → Int → Option β) → Option β) (self : Int → Int → List Int → List (Int × Int × Int) → Mp → (Int → List Int → Mp → List (Int × Int × Int) → Option β) → Option β) (a0 : Int) (a1 : Int) (a2 : List Int) (a3 : List (Int × Int × Int)) (a4 : Mp) (k0 : Int → List Int → Mp → List (Int × Int × Int) → Option β) : Option β :=
q_impl_Table_isSame a0 a1 fun r4 =>
(cond r4
(q_impl_Table_at a0 a1 0 fun r5 =>
k0 ((w64 ((-2) + r5))) a2 a4 a3)
((cond ((hasM ⟨true, false⟩ a4 a0 a1))
(k0 ((getM ⟨true, false⟩ a4 a0 a1)) a2 a4 a3)
(q_slices_IndexFunc_Sint_int a2 (fun x0 k => q_impl_Table_depends a0 a1 x0 k) fun r6 =>
(gd ((decide (0 ≤ r6)))
((gd ((decide (r6 < (a2.length : Int))))
(q_impl_Table_stuck a0 a1 ((rd 0 a2 r6)) 0 fun r7 r8 =>
self r7 r8 a2 a3 a4 (fun r9_0 r9_1 r9_2 r9_3 =>
q_impl_Table_stuck a0 a1 ((rd 0 a2 r6)) 1 fun r10 r11 =>
self r10 r11 r9_1 r9_3 r9_2 (fun r12_0 r12_1 r12_2 r12_3 =>
(gd ((decide ((r12_3.length + ((([] : List (Int × Int × Int)) ++ [((rd 0 a2 r6), r9_0, r12_0)])).length) * 24 ≤ 140737488355328)))
(k0 ((w64 ((((r12_3 ++ (([] : List (Int × Int × Int)) ++ [((rd 0 a2 r6), r9_0, r12_0)]))).length : Int) - 1))) r12_1 ((putM ⟨true, false⟩ r12_2 a0 a1 ((w64 ((((r12_3 ++ (([] : List (Int × Int × Int)) ++ [((rd 0 a2 r6), r9_0, r12_0)]))).length : Int) - 1))))) ((r12_3 ++ (([] : List (Int × Int × Int)) ++ [((rd 0 a2 r6), r9_0, r12_0)])))))))))))))))
theorem t_impl_diagram_walk_g0_b {β : Type} (N : Nat) (self : Int → Int → List Int → List (Int × Int × Int) → Mp → (Int → List Int → Mp → List (Int × Int × Int) → Option β) → Option β) (a0 : Int) (a1 : Int) (a2 : List Int) (a3 : List (Int × Int × Int)) (a4 : Mp) (k0 : Int → List Int → Mp → List (Int × Int × Int) → Option β) : impl_diagram_walk_g0_b N self a0 a1 a2 a3 a4 k0 = BV_impl_diagram_walk_g0_b N (impl_Table_isSame N) (impl_Table_at N) (slices_IndexFunc_Sint_int N) (impl_Table_depends N) (impl_Table_stuck N) self a0 a1 a2 a3 a4 k0 := by
  unfold impl_diagram_walk_g0_b BV_impl_diagram_walk_g0_b
  rfl
theorem ve148_0 {β : Type} (N : Nat) (q_impl_Table_isSame : (a0 : Int) → (a1 : Int) → (k : Bool → Option β) → Option β) (q_impl_Table_at : (a0 : Int) → (a1 : Int) → (a2 : Int) → (k : Int → Option β) → Option β) (q_slices_IndexFunc_Sint_int : (a0 : List Int) → (a1 : (Int → (Bool → Option β) → Option β)) → (k : Int → Option β) → Option β) (q_impl_Table_depends : (a0 : Int) → (a1 : Int) → (a2 : Int) → (k : Bool → Option β) → Option β) (q_impl_Table_stuck : (a0 : Int) → (a1 : Int) → (a2 : Int) → (a3 : Int) → (k : Int → Int → Option β) → Option β) (q_impl_diagram_walk_g0_f : Nat → Int → Int → List Int → List (Int × Int × Int) → Mp → (Int → List Int → Mp → List (Int × Int × Int) → Option β) → Option β) (G : Nat) (a0 : Int) (a1 : Int) (a2 : List Int) (a3 : List (Int × Int × Int)) (a4 : Mp) (K : TV → List Blk → Option β) : evFnG lay (VE148 N q_impl_Table_isSame q_impl_Table_at q_slices_IndexFunc_Sint_int q_impl_Table_depends q_impl_Table_stuck q_impl_diagram_walk_g0_f G) Try.f148 [.v (.one (.ptr 0 0)), .v (.agg [.int .i64 a0, .int .i64 a1])] [.pcells 0 129 [.sl 3 (.ints .i64 a2), .row 1, .mp 2], .row 160 (.trips a3), .pmp 2 ⟨true, false⟩ a4] K = BV_impl_diagram_walk_g0_b N q_impl_Table_isSame q_impl_Table_at q_slices_IndexFunc_Sint_int q_impl_Table_depends q_impl_Table_stuck (q_impl_diagram_walk_g0_f G) a0 a1 a2 a3 a4 (fun y0 y1 y2 y3 => K (.v (.one (.int .i64 y0))) [.pcells 0 129 [.sl 3 (.ints .i64 y1), .row 2, .mp 1], .pmp 2 ⟨true, false⟩ y2, .row 160 (.trips y3)]) := by kernel_rfl
theorem e148_0 {β : Type} (N : Nat) (G : Nat) (a0 : Int) (a1 : Int) (a2 : List Int) (a3 : List (Int × Int × Int)) (a4 : Mp) (K : TV → List Blk → Option β) : evFnG lay (E148 N G) Try.f148 [.v (.one (.ptr 0 0)), .v (.agg [.int .i64 a0, .int .i64 a1])] [.pcells 0 129 [.sl 3 (.ints .i64 a2), .row 1, .mp 2], .row 160 (.trips a3), .pmp 2 ⟨true, false⟩ a4] K = impl_diagram_walk_g0_f N (G + 1) a0 a1 a2 a3 a4 (fun y0 y1 y2 y3 => K (.v (.one (.int .i64 y0))) [.pcells 0 129 [.sl 3 (.ints .i64 y1), .row 2, .mp 1], .pmp 2 ⟨true, false⟩ y2, .row 160 (.trips y3)]) := (ve148_0 N (impl_Table_isSame N) (impl_Table_at N) (slices_IndexFunc_Sint_int N) (impl_Table_depends N) (impl_Table_stuck N) (impl_diagram_walk_g0_f N) G a0 a1 a2 a3 a4 K).trans (t_impl_diagram_walk_g0_b N (impl_diagram_walk_g0_f N G) a0 a1 a2 a3 a4 (fun y0 y1 y2 y3 => K (.v (.one (.int .i64 y0))) [.pcells 0 129 [.sl 3 (.ints .i64 y1), .row 2, .mp 1], .pmp 2 ⟨true, false⟩ y2, .row 160 (.trips y3)])).symm
theorem z148 {β : Type} (N : Nat) : ∀ args bl K r, SF148 (β := β) N 0 args bl K = some r → (none : Option β) = some r := by
  intro args bl K r h
  unfold SF148 VSF148 at h
  split at h <;> exact h
theorem of148 {β : Type} (N : Nat) : ∀ G, GOK (β := β) inv Try.prog 148 (SF148 N G) := by
  intro G
  induction G with
  | zero => exact g_zero Try.func148 (by kernel_rfl) (z148 N)
  | succ G ih =>
    refine g_of lay_ok mixed (E := E148 N G) (specs_loops (specs_cons (o187 N) (specs_cons (o97 N) (specs_cons (o188 N) (specs_cons (o85 N) (specs_cons (o189 N) specs_nil)))))) muts_nil (gs_cons ih gs_nil) Try.func148 (by kernel_rfl) 0 (by kernel_rfl) trivial fun args bl K r h => ?_
    unfold SF148 VSF148 at h
    split at h
    · exact (e148_0 N G _ _ _ _ _ _).trans h
    · cases h
theorem o148 {β : Type} (N : Nat) : GOK (β := β) inv Try.prog 148 (S148 N) := of148 N N
def VS109 {β : Type} (N : Nat) (q_impl_Table_diagram : (a0 : Int) → (a1 : Int) → (a2 : List Int) → (k : List (Int × Int × Int) → Option β) → Option β) : Rv.Spec β := fun args K => match args with
  | [.v (.agg [.int .i64 a0, .int .i64 a1]), .v (.one (.sl 3 (.ints .i64 a2)))] => q_impl_Table_diagram a0 a1 a2 (fun z3 => K (.v (.one (.sl 160 (.trips z3)))))
  | _ => none
def S109 {β : Type} (N : Nat) : Rv.Spec β := VS109 N (impl_Table_diagram N)
def VE109 {β : Type} (N : Nat) (q_impl_diagram_walk_g0_f : Nat → Int → Int → List Int → List (Int × Int × Int) → Mp → (Int → List Int → Mp → List (Int × Int × Int) → Option β) → Option β) : Env β := ⟨[], [], [], [(148, VS148 N q_impl_diagram_walk_g0_f)], ⟨[], [], [106], [147, 148, 186]⟩⟩
def E109 {β : Type} (N : Nat) : Env β := VE109 N (impl_diagram_walk_g0_f N)
def BV_impl_Table_diagram {β : Type} (N : Nat) (q_impl_diagram_walk_g0_f : Nat → Int → Int → List Int → List (Int × Int × Int) → Mp → (Int → List Int → Mp → List (Int × Int × Int) → Option β) → Option β) (a0 : Int) (a1 : Int) (a2 : List Int) (k : List (Int × Int × Int) → Option β) : Option β :=
q_impl_diagram_walk_g0_f N a0 a1 a2 (([] : List (Int × Int × Int))) (([] : Mp)) (fun r4_0 r4_1 r4_2 r4_3 =>
k r4_3)
theorem t_impl_Table_diagram {β : Type} (N : Nat) (a0 : Int) (a1 : Int) (a2 : List Int) (k : List (Int × Int × Int) → Option β) : impl_Table_diagram N a0 a1 a2 k = BV_impl_Table_diagram N (impl_diagram_walk_g0_f N) a0 a1 a2 k := by
  unfold impl_Table_diagram BV_impl_Table_diagram
  rfl
theorem ve109_0 {β : Type} (N : Nat) (q_impl_diagram_walk_g0_f : Nat → Int → Int → List Int → List (Int × Int × Int) → Mp → (Int → List Int → Mp → List (Int × Int × Int) → Option β) → Option β)  (a0 : Int) (a1 : Int) (a2 : List Int) (K : TV → Option β) : evFn lay (VE109 N q_impl_diagram_walk_g0_f) Try.f109 [.v (.agg [.int .i64 a0, .int .i64 a1]), .v (.one (.sl 3 (.ints .i64 a2)))] K = BV_impl_Table_diagram N q_impl_diagram_walk_g0_f a0 a1 a2 (fun z3 => K (.v (.one (.sl 160 (.trips z3))))) := by kernel_rfl
theorem e109_0 {β : Type} (N : Nat)  (a0 : Int) (a1 : Int) (a2 : List Int) (K : TV → Option β) : evFn lay (E109 N) Try.f109 [.v (.agg [.int .i64 a0, .int .i64 a1]), .v (.one (.sl 3 (.ints .i64 a2)))] K = impl_Table_diagram N a0 a1 a2 (fun z3 => K (.v (.one (.sl 160 (.trips z3))))) := (ve109_0 N (impl_diagram_walk_g0_f N) a0 a1 a2 K).trans (t_impl_Table_diagram N a0 a1 a2 (fun z3 => K (.v (.one (.sl 160 (.trips z3)))))).symm
theorem o109 {β : Type} (N : Nat) : SpecOK (β := β) inv Try.prog 109 (S109 N) := by
  refine spec_of lay_ok mixed (E := E109 N) (specs_loops specs_nil) muts_nil (gs_cons (o148 N) gs_nil) Try.func109 (by kernel_rfl) 0 (by kernel_rfl) trivial fun args K r h => ?_
  unfold S109 VS109 at h
  split at h
  · exact (e109_0 N _ _ _ _).trans h
  · cases h
def VS67 {β : Type} (N : Nat) (q_impl_LeastOrder : (a0 : Int) → (a1 : Int) → (k : List Int → Int → Bool → Option β) → Option β) : Rv.Spec β := fun args K => match args with
  | [.v (.agg [.int .i64 a0, .int .i64 a1])] => q_impl_LeastOrder a0 a1 (fun z2 z3 z4 => K (.tup [.one (.sl 3 (.ints .i64 z2)), .one (.int .i64 z3), .one (.bool z4)]))
  | _ => none
def S67 {β : Type} (N : Nat) : Rv.Spec β := VS67 N (impl_LeastOrder N)
def h67_0_0  (v0 : List Int) (v1 : Int) (v2 : Int) (v3 : Int) (v4 : Int) (v5 : Int) (v6 : List (List Int)) : St := ⟨.v (.one .und) :: .v (.one (.ptr 0 0)) :: .v (.one .und) :: .v (.one .und) :: .v (.one .und) :: .v (.one (.fsl 3 (.ints .i64 v0))) :: .v (.one (.int .i64 v1)) :: .v (.one .und) :: .v (.one .und) :: .v (.one .und) :: .v (.one .und) :: .v (.one .und) :: .v (.one .und) :: .v (.one .und) :: .v (.one .und) :: .v (.one (.row 1)) :: .v (.one (.int .i64 v2)) :: .v (.one (.int .i64 v3)) :: .v (.one .und) :: .v (.one .und) :: .v (.one .und) :: .v (.one .und) :: .v (.one .und) :: .v (.one .und) :: .v (.one .und) :: .v (.one .und) :: .v (.one .und) :: .v (.one .und) :: .v (.one .und) :: .v (.one .und) :: .v (.one .und) :: .v (.one .und) :: .v (.one .und) :: .v (.one .und) :: .v (.one .und) :: .v (.one .und) :: .v (.one .und) :: [], [.cells 27 [.int .i64 v4, .int .i64 v5], .row 28 (.lists 3 v6)]⟩
def x67_0_0_k0  (y0 : List Int) (y1 : Int) : St := ⟨.v (.one .und) :: .v (.one .und) :: .v (.one .und) :: .v (.one .und) :: .v (.one .und) :: .v (.one (.fsl 3 (.ints .i64 y0))) :: .v (.one (.int .i64 y1)) :: .v (.one .und) :: .v (.one .und) :: .v (.one .und) :: .v (.one .und) :: .v (.one .und) :: .v (.one .und) :: .v (.one .und) :: .v (.one .und) :: .v (.one .und) :: .v (.one .und) :: .v (.one .und) :: .v (.one .und) :: .v (.one .und) :: .v (.one .und) :: .v (.one .und) :: .v (.one .und) :: .v (.one .und) :: .v (.one .und) :: .v (.one .und) :: .v (.one .und) :: .v (.one .und) :: .v (.one .und) :: .v (.one .und) :: .v (.one .und) :: .v (.one .und) :: .v (.one .und) :: .v (.one .und) :: .v (.one .und) :: .v (.one .und) :: .v (.one .und) :: [], []⟩
theorem fl67_0_0 (s : St) : refSt (h67_0_0 [] 0 0 0 0 0 []) s = h67_0_0 (rInts (rowV (oneA (vT (nx tund s.tmps 5))))) (intS (oneA (vT (nx tund s.tmps 6)))) (intS (oneA (vT (nx tund s.tmps 16)))) (intS (oneA (vT (nx tund s.tmps 17)))) (intS (nx .und (cellsB (nx .dead s.blks 0)) 0)) (intS (nx .und (cellsB (nx .dead s.blks 0)) 1)) (rLists (rowB_ (nx .dead s.blks 1))) := by kernel_rfl
def VLS67_0 {β : Type} (N : Nat) (q_impl_LeastOrder_l0 : Nat → List Int → Int → Int → Int → Int → Int → List (List Int) → (List Int → Int → Option β) → Option β) : LSpec β := fun s K => cond (shpSt (h67_0_0 [] 0 0 0 0 0 []) s) ((fun (v0 : List Int) (v1 : Int) (v2 : Int) (v3 : Int) (v4 : Int) (v5 : Int) (v6 : List (List Int)) => q_impl_LeastOrder_l0  N v0 v1 v2 v3 v4 v5 v6 (fun y0 y1 => K (.exit 0) (x67_0_0_k0  y0 y1))) (rInts (rowV (oneA (vT (nx tund s.tmps 5))))) (intS (oneA (vT (nx tund s.tmps 6)))) (intS (oneA (vT (nx tund s.tmps 16)))) (intS (oneA (vT (nx tund s.tmps 17)))) (intS (nx .und (cellsB (nx .dead s.blks 0)) 0)) (intS (nx .und (cellsB (nx .dead s.blks 0)) 1)) (rLists (rowB_ (nx .dead s.blks 1)))) (none)
def LS67_0 {β : Type} (N : Nat) : LSpec β := VLS67_0 N (impl_LeastOrder_l0 N)
def VE67 {β : Type} (N : Nat) (q_impl_isSmall : (a0 : Int) → (a1 : Int) → (a2 : Int) → (k : Bool → Option β) → Option β) (q_impl_permutations : (a0 : Int) → (k : List (List Int) → Option β) → Option β) (q_impl_Table_diagram : (a0 : Int) → (a1 : Int) → (a2 : List Int) → (k : List (Int × Int × Int) → Option β) → Option β) (q_impl_LeastOrder_l0 : Nat → List Int → Int → Int → Int → Int → Int → List (List Int) → (List Int → Int → Option β) → Option β) : Env β := ⟨[(51, VS51 N q_impl_isSmall), (108, VS108 N q_impl_permutations), (109, VS109 N q_impl_Table_diagram)], [], [(0, VLS67_0 N q_impl_LeastOrder_l0)], [], ⟨[], [5], [106], [147, 148, 186]⟩⟩
def E67 {β : Type} (N : Nat) : Env β := VE67 N (impl_isSmall N) (impl_permutations N) (impl_Table_diagram N) (impl_LeastOrder_l0 N)
def BV_impl_LeastOrder_l0b {β : Type} (N : Nat) (q_impl_Table_diagram : (a0 : Int) → (a1 : Int) → (a2 : List Int) → (k : List (Int × Int × Int) → Option β) → Option β)  (v0 : List Int) (v1 : Int) (v2 : Int) (v3 : Int) (v4 : Int) (v5 : Int) (v6 : List (List Int)) (rec_ : List Int → Int → Int → Int → Int → Int → List (List Int) → Option β) (k0 : List Int → Int → Option β) : Option β :=
(cond ((decide (v3 < v2)))
((gd ((decide (0 ≤ v3)))
((gd ((decide (v3 < (v6.length : Int))))
(q_impl_Table_diagram v4 v5 ((rd [] v6 v3)) fun r7 =>
(cond ((decide (v1 < 0)))
(rec_ ((rd [] v6 v3)) ((r7.length : Int)) v2 ((w64 (v3 + 1))) v4 v5 v6)
((cond ((decide ((r7.length : Int) < v1)))
(rec_ ((rd [] v6 v3)) ((r7.length : Int)) v2 ((w64 (v3 + 1))) v4 v5 v6)
(rec_ v0 v1 v2 ((w64 (v3 + 1))) v4 v5 v6)))))))))
(k0 v0 v1))
theorem t_impl_LeastOrder_l0b {β : Type} (N : Nat)  (v0 : List Int) (v1 : Int) (v2 : Int) (v3 : Int) (v4 : Int) (v5 : Int) (v6 : List (List Int)) (rec_ : List Int → Int → Int → Int → Int → Int → List (List Int) → Option β) (k0 : List Int → Int → Option β) : impl_LeastOrder_l0b N v0 v1 v2 v3 v4 v5 v6 rec_ k0 = BV_impl_LeastOrder_l0b N (impl_Table_diagram N) v0 v1 v2 v3 v4 v5 v6 rec_ k0 := by
  unfold impl_LeastOrder_l0b BV_impl_LeastOrder_l0b
  rfl
theorem vst67_0_0 {β : Type} (N : Nat) (q_impl_isSmall : (a0 : Int) → (a1 : Int) → (a2 : Int) → (k : Bool → Option β) → Option β) (q_impl_permutations : (a0 : Int) → (k : List (List Int) → Option β) → Option β) (q_impl_Table_diagram : (a0 : Int) → (a1 : Int) → (a2 : List Int) → (k : List (Int × Int × Int) → Option β) → Option β) (q_impl_LeastOrder_l0 : Nat → List Int → Int → Int → Int → Int → Int → List (List Int) → (List Int → Int → Option β) → Option β)  (v0 : List Int) (v1 : Int) (v2 : Int) (v3 : Int) (v4 : Int) (v5 : Int) (v6 : List (List Int)) (rec_ : St → Option β) (K : Exit → St → Option β) :
    ev lay (VE67 N q_impl_isSmall q_impl_permutations q_impl_Table_diagram q_impl_LeastOrder_l0) (retMask Try.f67) (lp Try.f67 0).body (lp Try.f67 0).ex ((lp Try.f67 0).lv (retMask Try.f67)) (h67_0_0  v0 v1 v2 v3 v4 v5 v6) (nextR (fun s' => rec_ (s'.tidy ((lp Try.f67 0).lv (retMask Try.f67)))) K) = BV_impl_LeastOrder_l0b N q_impl_Table_diagram  v0 v1 v2 v3 v4 v5 v6 (fun v0 v1 v2 v3 v4 v5 v6 => rec_ (h67_0_0  v0 v1 v2 v3 v4 v5 v6)) (fun y0 y1 => K (.exit 0) (x67_0_0_k0  y0 y1)) := by kernel_rfl
theorem st67_0_0 {β : Type} (N : Nat)  (v0 : List Int) (v1 : Int) (v2 : Int) (v3 : Int) (v4 : Int) (v5 : Int) (v6 : List (List Int)) (rec_ : St → Option β) (K : Exit → St → Option β) :
    ev lay (E67 N) (retMask Try.f67) (lp Try.f67 0).body (lp Try.f67 0).ex ((lp Try.f67 0).lv (retMask Try.f67)) (h67_0_0  v0 v1 v2 v3 v4 v5 v6) (nextR (fun s' => rec_ (s'.tidy ((lp Try.f67 0).lv (retMask Try.f67)))) K) = impl_LeastOrder_l0b N  v0 v1 v2 v3 v4 v5 v6 (fun v0 v1 v2 v3 v4 v5 v6 => rec_ (h67_0_0  v0 v1 v2 v3 v4 v5 v6)) (fun y0 y1 => K (.exit 0) (x67_0_0_k0  y0 y1)) := (vst67_0_0 N (impl_isSmall N) (impl_permutations N) (impl_Table_diagram N) (impl_LeastOrder_l0 N) v0 v1 v2 v3 v4 v5 v6 rec_ K).trans (t_impl_LeastOrder_l0b N  v0 v1 v2 v3 v4 v5 v6 (fun v0 v1 v2 v3 v4 v5 v6 => rec_ (h67_0_0  v0 v1 v2 v3 v4 v5 v6)) (fun y0 y1 => K (.exit 0) (x67_0_0_k0  y0 y1))).symm
theorem ro67_0_0 {β : Type} (N : Nat)  (K : Exit → St → Option β) : ∀ (F : Nat) (v0 : List Int) (v1 : Int) (v2 : Int) (v3 : Int) (v4 : Int) (v5 : Int) (v6 : List (List Int)), (lp Try.f67 0).rounds lay (E67 N) (retMask Try.f67) F (h67_0_0  v0 v1 v2 v3 v4 v5 v6) K = impl_LeastOrder_l0 N  F v0 v1 v2 v3 v4 v5 v6 (fun y0 y1 => K (.exit 0) (x67_0_0_k0  y0 y1)) := by
  intro F
  induction F with
  | zero => intros; rfl
  | succ F ih =>
    intros
    rw [rounds_next]
    refine (st67_0_0 N  _ _ _ _ _ _ _ (fun s => (lp Try.f67 0).rounds lay (E67 N) (retMask Try.f67) F s K) K).trans ?_
    simp only [ih]
    rfl
theorem lk67_0 {β : Type} (N : Nat) : lookL (E67 (β := β) N).loops (lp Try.f67 0).id = LS67_0 N := by kernel_rfl
theorem rk67_0 {β : Type} (N : Nat) : RoundsOK lay (E67 (β := β) N) (retMask Try.f67) (lp Try.f67 0) := by
  intro s K r h
  rw [lk67_0] at h
  unfold LS67_0 VLS67_0 at h
  cases hb : shpSt (h67_0_0 [] 0 0 0 0 0 []) s with
  | true =>
    rw [hb, cond_true] at h
    exact ⟨N, by rw [← shpSt_ref hb, fl67_0_0 s]; exact (ro67_0_0 N  K N (rInts (rowV (oneA (vT (nx tund s.tmps 5))))) (intS (oneA (vT (nx tund s.tmps 6)))) (intS (oneA (vT (nx tund s.tmps 16)))) (intS (oneA (vT (nx tund s.tmps 17)))) (intS (nx .und (cellsB (nx .dead s.blks 0)) 0)) (intS (nx .und (cellsB (nx .dead s.blks 0)) 1)) (rLists (rowB_ (nx .dead s.blks 1)))).trans h⟩
  | false =>
  rw [hb, cond_false] at h
  clear hb
  cases h
def BV_impl_LeastOrder {β : Type} (N : Nat) (q_impl_isSmall : (a0 : Int) → (a1 : Int) → (a2 : Int) → (k : Bool → Option β) → Option β) (q_impl_permutations : (a0 : Int) → (k : List (List Int) → Option β) → Option β) (q_impl_LeastOrder_l0 : Nat → List Int → Int → Int → Int → Int → Int → List (List Int) → (List Int → Int → Option β) → Option β) (a0 : Int) (a1 : Int) (k : List Int → Int → Bool → Option β) : Option β :=
q_impl_isSmall a0 a1 4 fun r5 =>
(cond (!r5)
(k (([] : List Int)) 0 false)
(q_impl_permutations a0 fun r6 =>
q_impl_LeastOrder_l0  N (([] : List Int)) (-1) ((r6.length : Int)) 0 a0 a1 r6 (fun e8_0 e8_1 =>
k e8_0 e8_1 true)))
theorem t_impl_LeastOrder {β : Type} (N : Nat) (a0 : Int) (a1 : Int) (k : List Int → Int → Bool → Option β) : impl_LeastOrder N a0 a1 k = BV_impl_LeastOrder N (impl_isSmall N) (impl_permutations N) (impl_LeastOrder_l0 N) a0 a1 k := by
  unfold impl_LeastOrder BV_impl_LeastOrder
  rfl
theorem ve67_0 {β : Type} (N : Nat) (q_impl_isSmall : (a0 : Int) → (a1 : Int) → (a2 : Int) → (k : Bool → Option β) → Option β) (q_impl_permutations : (a0 : Int) → (k : List (List Int) → Option β) → Option β) (q_impl_Table_diagram : (a0 : Int) → (a1 : Int) → (a2 : List Int) → (k : List (Int × Int × Int) → Option β) → Option β) (q_impl_LeastOrder_l0 : Nat → List Int → Int → Int → Int → Int → Int → List (List Int) → (List Int → Int → Option β) → Option β)  (a0 : Int) (a1 : Int) (K : TV → Option β) : evFn lay (VE67 N q_impl_isSmall q_impl_permutations q_impl_Table_diagram q_impl_LeastOrder_l0) Try.f67 [.v (.agg [.int .i64 a0, .int .i64 a1])] (thawK K) = BV_impl_LeastOrder N q_impl_isSmall q_impl_permutations q_impl_LeastOrder_l0 a0 a1 (fun z2 z3 z4 => K (.tup [.one (.sl 3 (.ints .i64 z2)), .one (.int .i64 z3), .one (.bool z4)])) := by kernel_rfl
theorem e67_0 {β : Type} (N : Nat)  (a0 : Int) (a1 : Int) (K : TV → Option β) : evFn lay (E67 N) Try.f67 [.v (.agg [.int .i64 a0, .int .i64 a1])] (thawK K) = impl_LeastOrder N a0 a1 (fun z2 z3 z4 => K (.tup [.one (.sl 3 (.ints .i64 z2)), .one (.int .i64 z3), .one (.bool z4)])) := (ve67_0 N (impl_isSmall N) (impl_permutations N) (impl_Table_diagram N) (impl_LeastOrder_l0 N) a0 a1 K).trans (t_impl_LeastOrder N a0 a1 (fun z2 z3 z4 => K (.tup [.one (.sl 3 (.ints .i64 z2)), .one (.int .i64 z3), .one (.bool z4)]))).symm
theorem o67 {β : Type} (N : Nat) : SpecOK (β := β) inv Try.prog 67 (S67 N) := by
  refine spec_of_thaw lay_ok mixed (E := E67 N) (specs_loops (specs_cons (o51 N) (specs_cons (o108 N) (specs_cons (o109 N) specs_nil)))) muts_nil gs_nil Try.func67 (by kernel_rfl) 1 (by kernel_rfl) ⟨trivial, rk67_0 N⟩ fun args K r h => ?_
  unfold S67 VS67 at h
  split at h
  · exact ⟨rfl, (e67_0 N _ _ _).trans h⟩
  · cases h
def VS22 {β : Type} (N : Nat) (q_impl_ClaimOfOrder : (a0 : Int) → (a1 : Int) → (k : Int → Int → Int → Int → Int → ByteArray → List Int → Bool → Option β) → Option β) : Rv.Spec β := fun args K => match args with
  | [.v (.agg [.int .i64 a0, .int .i64 a1])] => q_impl_ClaimOfOrder a0 a1 (fun z2 z3 z4 z5 z6 z7 z8 z9 => K (.tup [.agg [.int .i64 z2, .int .i64 z3, .int .i64 z4, .int .i64 z5, .int .i64 z6, .str z7, .sl 3 (.ints .i64 z8)], .one (.bool z9)]))
  | _ => none
def S22 {β : Type} (N : Nat) : Rv.Spec β := VS22 N (impl_ClaimOfOrder N)
def VE22 {β : Type} (N : Nat) (q_impl_LeastOrder : (a0 : Int) → (a1 : Int) → (k : List Int → Int → Bool → Option β) → Option β) : Env β := ⟨[(67, VS67 N q_impl_LeastOrder)], [], [], [], ⟨[], [], [106], [147, 148, 186]⟩⟩
def E22 {β : Type} (N : Nat) : Env β := VE22 N (impl_LeastOrder N)
def BV_impl_ClaimOfOrder {β : Type} (N : Nat) (q_impl_LeastOrder : (a0 : Int) → (a1 : Int) → (k : List Int → Int → Bool → Option β) → Option β) (a0 : Int) (a1 : Int) (k : Int → Int → Int → Int → Int → ByteArray → List Int → Bool → Option β) : Option β :=
q_impl_LeastOrder a0 a1 fun r10 r11 r12 =>
(cond (!r12)
(k 0 0 0 0 0 ByteArray.empty (([] : List Int)) false)
(k 6 a0 a1 r11 0 ByteArray.empty r10 true))
theorem t_impl_ClaimOfOrder {β : Type} (N : Nat) (a0 : Int) (a1 : Int) (k : Int → Int → Int → Int → Int → ByteArray → List Int → Bool → Option β) : impl_ClaimOfOrder N a0 a1 k = BV_impl_ClaimOfOrder N (impl_LeastOrder N) a0 a1 k := by
  unfold impl_ClaimOfOrder BV_impl_ClaimOfOrder
  rfl
theorem ve22_0 {β : Type} (N : Nat) (q_impl_LeastOrder : (a0 : Int) → (a1 : Int) → (k : List Int → Int → Bool → Option β) → Option β)  (a0 : Int) (a1 : Int) (K : TV → Option β) : evFn lay (VE22 N q_impl_LeastOrder) Try.f22 [.v (.agg [.int .i64 a0, .int .i64 a1])] K = BV_impl_ClaimOfOrder N q_impl_LeastOrder a0 a1 (fun z2 z3 z4 z5 z6 z7 z8 z9 => K (.tup [.agg [.int .i64 z2, .int .i64 z3, .int .i64 z4, .int .i64 z5, .int .i64 z6, .str z7, .sl 3 (.ints .i64 z8)], .one (.bool z9)])) := by kernel_rfl
theorem e22_0 {β : Type} (N : Nat)  (a0 : Int) (a1 : Int) (K : TV → Option β) : evFn lay (E22 N) Try.f22 [.v (.agg [.int .i64 a0, .int .i64 a1])] K = impl_ClaimOfOrder N a0 a1 (fun z2 z3 z4 z5 z6 z7 z8 z9 => K (.tup [.agg [.int .i64 z2, .int .i64 z3, .int .i64 z4, .int .i64 z5, .int .i64 z6, .str z7, .sl 3 (.ints .i64 z8)], .one (.bool z9)])) := (ve22_0 N (impl_LeastOrder N) a0 a1 K).trans (t_impl_ClaimOfOrder N a0 a1 (fun z2 z3 z4 z5 z6 z7 z8 z9 => K (.tup [.agg [.int .i64 z2, .int .i64 z3, .int .i64 z4, .int .i64 z5, .int .i64 z6, .str z7, .sl 3 (.ints .i64 z8)], .one (.bool z9)]))).symm
theorem o22 {β : Type} (N : Nat) : SpecOK (β := β) inv Try.prog 22 (S22 N) := by
  refine spec_of lay_ok mixed (E := E22 N) (specs_loops (specs_cons (o67 N) specs_nil)) muts_nil gs_nil Try.func22 (by kernel_rfl) 0 (by kernel_rfl) trivial fun args K r h => ?_
  unfold S22 VS22 at h
  split at h
  · exact (e22_0 N _ _ _).trans h
  · cases h
def VS54 {β : Type} (N : Nat) (q_laws_eqTable : (a0 : Int) → (a1 : Int) → (a2 : Int) → (a3 : Int) → (k : Bool → Option β) → Option β) : Rv.Spec β := fun args K => match args with
  | [.v (.agg [.int .i64 a0, .int .i64 a1]), .v (.agg [.int .i64 a2, .int .i64 a3])] => q_laws_eqTable a0 a1 a2 a3 (fun z4 => K (.v (.one (.bool z4))))
  | _ => none
def S54 {β : Type} (N : Nat) : Rv.Spec β := VS54 N (laws_eqTable N)
def VE54 {β : Type} (N : Nat) : Env β := ⟨[], [], [], [], ⟨[], [], [106], [147, 148, 186]⟩⟩
def E54 {β : Type} (N : Nat) : Env β := VE54 N
def BV_laws_eqTable {β : Type} (N : Nat) (a0 : Int) (a1 : Int) (a2 : Int) (a3 : Int) (k : Bool → Option β) : Option β :=
(cond ((a0 != a2))
(k false)
((cond ((a1 != a3))
(k false)
(k true))))
theorem t_laws_eqTable {β : Type} (N : Nat) (a0 : Int) (a1 : Int) (a2 : Int) (a3 : Int) (k : Bool → Option β) : laws_eqTable N a0 a1 a2 a3 k = BV_laws_eqTable N a0 a1 a2 a3 k := by
  unfold laws_eqTable BV_laws_eqTable
  rfl
theorem ve54_0 {β : Type} (N : Nat)  (a0 : Int) (a1 : Int) (a2 : Int) (a3 : Int) (K : TV → Option β) : evFn lay (VE54 N) Try.f54 [.v (.agg [.int .i64 a0, .int .i64 a1]), .v (.agg [.int .i64 a2, .int .i64 a3])] K = BV_laws_eqTable N a0 a1 a2 a3 (fun z4 => K (.v (.one (.bool z4)))) := by kernel_rfl
theorem e54_0 {β : Type} (N : Nat)  (a0 : Int) (a1 : Int) (a2 : Int) (a3 : Int) (K : TV → Option β) : evFn lay (E54 N) Try.f54 [.v (.agg [.int .i64 a0, .int .i64 a1]), .v (.agg [.int .i64 a2, .int .i64 a3])] K = laws_eqTable N a0 a1 a2 a3 (fun z4 => K (.v (.one (.bool z4)))) := (ve54_0 N a0 a1 a2 a3 K).trans (t_laws_eqTable N a0 a1 a2 a3 (fun z4 => K (.v (.one (.bool z4))))).symm
theorem o54 {β : Type} (N : Nat) : SpecOK (β := β) inv Try.prog 54 (S54 N) := by
  refine spec_of lay_ok mixed (E := E54 N) (specs_loops specs_nil) muts_nil gs_nil Try.func54 (by kernel_rfl) 0 (by kernel_rfl) trivial fun args K r h => ?_
  unfold S54 VS54 at h
  split at h
  · exact (e54_0 N _ _ _ _ _).trans h
  · cases h
def VS55 {β : Type} (N : Nat) (q_laws_eqIntS : (a0 : List Int) → (a1 : List Int) → (k : Bool → Option β) → Option β) : Rv.Spec β := fun args K => match args with
  | [.v (.one (.sl 3 (.ints .i64 a0))), .v (.one (.sl 3 (.ints .i64 a1)))] => q_laws_eqIntS a0 a1 (fun z2 => K (.v (.one (.bool z2))))
  | _ => none
def S55 {β : Type} (N : Nat) : Rv.Spec β := VS55 N (laws_eqIntS N)
def h55_0_0  (v0 : List Int) (v1 : List Int) (v2 : Int) : St := ⟨.v (.one (.sl 3 (.ints .i64 v0))) :: .v (.one (.sl 3 (.ints .i64 v1))) :: .v (.one .und) :: .v (.one .und) :: .v (.one .und) :: .v (.one (.int .i64 v2)) :: .v (.one .und) :: .v (.one .und) :: .v (.one .und) :: .v (.one .und) :: .v (.one .und) :: .v (.one .und) :: .v (.one .und) :: .v (.one .und) :: .v (.one .und) :: .v (.one .und) :: .v (.one .und) :: .v (.one .und) :: .v (.one .und) :: .v (.one .und) :: .v (.one .und) :: .v (.one .und) :: .v (.one .und) :: .v (.one .und) :: .v (.one .und) :: .v (.one .und) :: [], []⟩
def x55_0_0_k0  (y0 : Bool) : St := ⟨.v (.one .und) :: .v (.one .und) :: .v (.one .und) :: .v (.one .und) :: .v (.one (.bool y0)) :: .v (.one .und) :: .v (.one .und) :: .v (.one .und) :: .v (.one .und) :: .v (.one .und) :: .v (.one .und) :: .v (.one .und) :: .v (.one .und) :: .v (.one .und) :: .v (.one .und) :: .v (.one .und) :: .v (.one .und) :: .v (.one .und) :: .v (.one .und) :: .v (.one .und) :: .v (.one .und) :: .v (.one .und) :: .v (.one .und) :: .v (.one .und) :: .v (.one .und) :: .v (.one .und) :: [], []⟩
def x55_0_0_k1   : St := ⟨.v (.one .und) :: .v (.one .und) :: .v (.one .und) :: .v (.one .und) :: .v (.one .und) :: .v (.one .und) :: .v (.one .und) :: .v (.one .und) :: .v (.one .und) :: .v (.one .und) :: .v (.one .und) :: .v (.one .und) :: .v (.one .und) :: .v (.one .und) :: .v (.one .und) :: .v (.one .und) :: .v (.one .und) :: .v (.one .und) :: .v (.one .und) :: .v (.one .und) :: .v (.one .und) :: .v (.one .und) :: .v (.one .und) :: .v (.one .und) :: .v (.one .und) :: .v (.one .und) :: [], []⟩
theorem fl55_0_0 (s : St) : refSt (h55_0_0 [] [] 0) s = h55_0_0 (rInts (rowV (oneA (vT (nx tund s.tmps 0))))) (rInts (rowV (oneA (vT (nx tund s.tmps 1))))) (intS (oneA (vT (nx tund s.tmps 5)))) := by kernel_rfl
def VLS55_0 {β : Type} (N : Nat) (q_laws_eqIntS_l0 : Nat → List Int → List Int → Int → (Bool → Option β) → (Option β) → Option β) : LSpec β := fun s K => cond (shpSt (h55_0_0 [] [] 0) s) ((fun (v0 : List Int) (v1 : List Int) (v2 : Int) => q_laws_eqIntS_l0  N v0 v1 v2 (fun y0 => K .ret (x55_0_0_k0  y0)) (K (.exit 0) (x55_0_0_k1  ))) (rInts (rowV (oneA (vT (nx tund s.tmps 0))))) (rInts (rowV (oneA (vT (nx tund s.tmps 1))))) (intS (oneA (vT (nx tund s.tmps 5))))) (none)
def LS55_0 {β : Type} (N : Nat) : LSpec β := VLS55_0 N (laws_eqIntS_l0 N)
def VE55 {β : Type} (N : Nat) (q_laws_eqIntS_l0 : Nat → List Int → List Int → Int → (Bool → Option β) → (Option β) → Option β) : Env β := ⟨[], [], [(0, VLS55_0 N q_laws_eqIntS_l0)], [], ⟨[], [], [106], [147, 148, 186]⟩⟩
def E55 {β : Type} (N : Nat) : Env β := VE55 N (laws_eqIntS_l0 N)
def BV_laws_eqIntS_l0b {β : Type} (N : Nat)  (v0 : List Int) (v1 : List Int) (v2 : Int) (rec_ : List Int → List Int → Int → Option β) (k0 : Bool → Option β) (k1 : Option β) : Option β :=
(cond ((decide (v2 < (v0.length : Int))))
((gd ((decide (0 ≤ v2)))
((gd ((decide (v2 < (v0.length : Int))))
((gd ((decide (0 ≤ v2)))
((gd ((decide (v2 < (v1.length : Int))))
((cond (((rd 0 v0 v2) != (rd 0 v1 v2)))
(k0 false)
(rec_ v0 v1 ((w64 (v2 + 1))))))))))))))
(k1 ))
theorem t_laws_eqIntS_l0b {β : Type} (N : Nat)  (v0 : List Int) (v1 : List Int) (v2 : Int) (rec_ : List Int → List Int → Int → Option β) (k0 : Bool → Option β) (k1 : Option β) : laws_eqIntS_l0b N v0 v1 v2 rec_ k0 k1 = BV_laws_eqIntS_l0b N v0 v1 v2 rec_ k0 k1 := by
  unfold laws_eqIntS_l0b BV_laws_eqIntS_l0b
  rfl
theorem vst55_0_0 {β : Type} (N : Nat) (q_laws_eqIntS_l0 : Nat → List Int → List Int → Int → (Bool → Option β) → (Option β) → Option β)  (v0 : List Int) (v1 : List Int) (v2 : Int) (rec_ : St → Option β) (K : Exit → St → Option β) :
    ev lay (VE55 N q_laws_eqIntS_l0) (retMask Try.f55) (lp Try.f55 0).body (lp Try.f55 0).ex ((lp Try.f55 0).lv (retMask Try.f55)) (h55_0_0  v0 v1 v2) (nextR (fun s' => rec_ (s'.tidy ((lp Try.f55 0).lv (retMask Try.f55)))) K) = BV_laws_eqIntS_l0b N  v0 v1 v2 (fun v0 v1 v2 => rec_ (h55_0_0  v0 v1 v2)) (fun y0 => K .ret (x55_0_0_k0  y0)) (K (.exit 0) (x55_0_0_k1  )) := by kernel_rfl
theorem st55_0_0 {β : Type} (N : Nat)  (v0 : List Int) (v1 : List Int) (v2 : Int) (rec_ : St → Option β) (K : Exit → St → Option β) :
    ev lay (E55 N) (retMask Try.f55) (lp Try.f55 0).body (lp Try.f55 0).ex ((lp Try.f55 0).lv (retMask Try.f55)) (h55_0_0  v0 v1 v2) (nextR (fun s' => rec_ (s'.tidy ((lp Try.f55 0).lv (retMask Try.f55)))) K) = laws_eqIntS_l0b N  v0 v1 v2 (fun v0 v1 v2 => rec_ (h55_0_0  v0 v1 v2)) (fun y0 => K .ret (x55_0_0_k0  y0)) (K (.exit 0) (x55_0_0_k1  )) := (vst55_0_0 N (laws_eqIntS_l0 N) v0 v1 v2 rec_ K).trans (t_laws_eqIntS_l0b N  v0 v1 v2 (fun v0 v1 v2 => rec_ (h55_0_0  v0 v1 v2)) (fun y0 => K .ret (x55_0_0_k0  y0)) (K (.exit 0) (x55_0_0_k1  ))).symm
theorem ro55_0_0 {β : Type} (N : Nat)  (K : Exit → St → Option β) : ∀ (F : Nat) (v0 : List Int) (v1 : List Int) (v2 : Int), (lp Try.f55 0).rounds lay (E55 N) (retMask Try.f55) F (h55_0_0  v0 v1 v2) K = laws_eqIntS_l0 N  F v0 v1 v2 (fun y0 => K .ret (x55_0_0_k0  y0)) (K (.exit 0) (x55_0_0_k1  )) := by
  intro F
  induction F with
  | zero => intros; rfl
  | succ F ih =>
    intros
    rw [rounds_next]
    refine (st55_0_0 N  _ _ _ (fun s => (lp Try.f55 0).rounds lay (E55 N) (retMask Try.f55) F s K) K).trans ?_
    simp only [ih]
    rfl
theorem lk55_0 {β : Type} (N : Nat) : lookL (E55 (β := β) N).loops (lp Try.f55 0).id = LS55_0 N := by kernel_rfl
theorem rk55_0 {β : Type} (N : Nat) : RoundsOK lay (E55 (β := β) N) (retMask Try.f55) (lp Try.f55 0) := by
  intro s K r h
  rw [lk55_0] at h
  unfold LS55_0 VLS55_0 at h
  cases hb : shpSt (h55_0_0 [] [] 0) s with
  | true =>
    rw [hb, cond_true] at h
    exact ⟨N, by rw [← shpSt_ref hb, fl55_0_0 s]; exact (ro55_0_0 N  K N (rInts (rowV (oneA (vT (nx tund s.tmps 0))))) (rInts (rowV (oneA (vT (nx tund s.tmps 1))))) (intS (oneA (vT (nx tund s.tmps 5))))).trans h⟩
  | false =>
  rw [hb, cond_false] at h
  clear hb
  cases h
def BV_laws_eqIntS {β : Type} (N : Nat) (q_laws_eqIntS_l0 : Nat → List Int → List Int → Int → (Bool → Option β) → (Option β) → Option β) (a0 : List Int) (a1 : List Int) (k : Bool → Option β) : Option β :=
(cond (((a0.length : Int) != (a1.length : Int)))
(k false)
(q_laws_eqIntS_l0  N a0 a1 0 (fun e3_0 =>
k e3_0) (k true)))
theorem t_laws_eqIntS {β : Type} (N : Nat) (a0 : List Int) (a1 : List Int) (k : Bool → Option β) : laws_eqIntS N a0 a1 k = BV_laws_eqIntS N (laws_eqIntS_l0 N) a0 a1 k := by
  unfold laws_eqIntS BV_laws_eqIntS
  rfl
theorem ve55_0 {β : Type} (N : Nat) (q_laws_eqIntS_l0 : Nat → List Int → List Int → Int → (Bool → Option β) → (Option β) → Option β)  (a0 : List Int) (a1 : List Int) (K : TV → Option β) : evFn lay (VE55 N q_laws_eqIntS_l0) Try.f55 [.v (.one (.sl 3 (.ints .i64 a0))), .v (.one (.sl 3 (.ints .i64 a1)))] K = BV_laws_eqIntS N q_laws_eqIntS_l0 a0 a1 (fun z2 => K (.v (.one (.bool z2)))) := by kernel_rfl
theorem e55_0 {β : Type} (N : Nat)  (a0 : List Int) (a1 : List Int) (K : TV → Option β) : evFn lay (E55 N) Try.f55 [.v (.one (.sl 3 (.ints .i64 a0))), .v (.one (.sl 3 (.ints .i64 a1)))] K = laws_eqIntS N a0 a1 (fun z2 => K (.v (.one (.bool z2)))) := (ve55_0 N (laws_eqIntS_l0 N) a0 a1 K).trans (t_laws_eqIntS N a0 a1 (fun z2 => K (.v (.one (.bool z2))))).symm
theorem o55 {β : Type} (N : Nat) : SpecOK (β := β) inv Try.prog 55 (S55 N) := by
  refine spec_of lay_ok mixed (E := E55 N) (specs_loops specs_nil) muts_nil gs_nil Try.func55 (by kernel_rfl) 1 (by kernel_rfl) ⟨trivial, rk55_0 N⟩ fun args K r h => ?_
  unfold S55 VS55 at h
  split at h
  · exact (e55_0 N _ _ _).trans h
  · cases h
def VS13 {β : Type} (N : Nat) (q_laws_eqClaim : (a0 : Int) → (a1 : Int) → (a2 : Int) → (a3 : Int) → (a4 : Int) → (a5 : ByteArray) → (a6 : List Int) → (a7 : Int) → (a8 : Int) → (a9 : Int) → (a10 : Int) → (a11 : Int) → (a12 : ByteArray) → (a13 : List Int) → (k : Bool → Option β) → Option β) : Rv.Spec β := fun args K => match args with
  | [.v (.agg [.int .i64 a0, .int .i64 a1, .int .i64 a2, .int .i64 a3, .int .i64 a4, .str a5, .sl 3 (.ints .i64 a6)]), .v (.agg [.int .i64 a7, .int .i64 a8, .int .i64 a9, .int .i64 a10, .int .i64 a11, .str a12, .sl 3 (.ints .i64 a13)])] => q_laws_eqClaim a0 a1 a2 a3 a4 a5 a6 a7 a8 a9 a10 a11 a12 a13 (fun z14 => K (.v (.one (.bool z14))))
  | _ => none
def S13 {β : Type} (N : Nat) : Rv.Spec β := VS13 N (laws_eqClaim N)
def VE13 {β : Type} (N : Nat) (q_laws_eqTable : (a0 : Int) → (a1 : Int) → (a2 : Int) → (a3 : Int) → (k : Bool → Option β) → Option β) (q_laws_eqIntS : (a0 : List Int) → (a1 : List Int) → (k : Bool → Option β) → Option β) : Env β := ⟨[(54, VS54 N q_laws_eqTable), (55, VS55 N q_laws_eqIntS)], [], [], [], ⟨[], [], [106], [147, 148, 186]⟩⟩
def E13 {β : Type} (N : Nat) : Env β := VE13 N (laws_eqTable N) (laws_eqIntS N)
def BV_laws_eqClaim {β : Type} (N : Nat) (q_laws_eqTable : (a0 : Int) → (a1 : Int) → (a2 : Int) → (a3 : Int) → (k : Bool → Option β) → Option β) (q_laws_eqIntS : (a0 : List Int) → (a1 : List Int) → (k : Bool → Option β) → Option β) (a0 : Int) (a1 : Int) (a2 : Int) (a3 : Int) (a4 : Int) (a5 : ByteArray) (a6 : List Int) (a7 : Int) (a8 : Int) (a9 : Int) (a10 : Int) (a11 : Int) (a12 : ByteArray) (a13 : List Int) (k : Bool → Option β) : Option β :=
(cond ((a0 != a7))
(k false)
(q_laws_eqTable a1 a2 a8 a9 fun r15 =>
(cond (!r15)
(k false)
((cond ((a3 != a10))
(k false)
((cond ((a4 != a11))
(k false)
((cond ((!(a5.toList == a12.toList)))
(k false)
(q_laws_eqIntS a6 a13 fun r16 =>
(cond (!r16)
(k false)
(k true))))))))))))
theorem t_laws_eqClaim {β : Type} (N : Nat) (a0 : Int) (a1 : Int) (a2 : Int) (a3 : Int) (a4 : Int) (a5 : ByteArray) (a6 : List Int) (a7 : Int) (a8 : Int) (a9 : Int) (a10 : Int) (a11 : Int) (a12 : ByteArray) (a13 : List Int) (k : Bool → Option β) : laws_eqClaim N a0 a1 a2 a3 a4 a5 a6 a7 a8 a9 a10 a11 a12 a13 k = BV_laws_eqClaim N (laws_eqTable N) (laws_eqIntS N) a0 a1 a2 a3 a4 a5 a6 a7 a8 a9 a10 a11 a12 a13 k := by
  unfold laws_eqClaim BV_laws_eqClaim
  rfl
theorem ve13_0 {β : Type} (N : Nat) (q_laws_eqTable : (a0 : Int) → (a1 : Int) → (a2 : Int) → (a3 : Int) → (k : Bool → Option β) → Option β) (q_laws_eqIntS : (a0 : List Int) → (a1 : List Int) → (k : Bool → Option β) → Option β)  (a0 : Int) (a1 : Int) (a2 : Int) (a3 : Int) (a4 : Int) (a5 : ByteArray) (a6 : List Int) (a7 : Int) (a8 : Int) (a9 : Int) (a10 : Int) (a11 : Int) (a12 : ByteArray) (a13 : List Int) (K : TV → Option β) : evFn lay (VE13 N q_laws_eqTable q_laws_eqIntS) Try.f13 [.v (.agg [.int .i64 a0, .int .i64 a1, .int .i64 a2, .int .i64 a3, .int .i64 a4, .str a5, .sl 3 (.ints .i64 a6)]), .v (.agg [.int .i64 a7, .int .i64 a8, .int .i64 a9, .int .i64 a10, .int .i64 a11, .str a12, .sl 3 (.ints .i64 a13)])] K = BV_laws_eqClaim N q_laws_eqTable q_laws_eqIntS a0 a1 a2 a3 a4 a5 a6 a7 a8 a9 a10 a11 a12 a13 (fun z14 => K (.v (.one (.bool z14)))) := by kernel_rfl
theorem e13_0 {β : Type} (N : Nat)  (a0 : Int) (a1 : Int) (a2 : Int) (a3 : Int) (a4 : Int) (a5 : ByteArray) (a6 : List Int) (a7 : Int) (a8 : Int) (a9 : Int) (a10 : Int) (a11 : Int) (a12 : ByteArray) (a13 : List Int) (K : TV → Option β) : evFn lay (E13 N) Try.f13 [.v (.agg [.int .i64 a0, .int .i64 a1, .int .i64 a2, .int .i64 a3, .int .i64 a4, .str a5, .sl 3 (.ints .i64 a6)]), .v (.agg [.int .i64 a7, .int .i64 a8, .int .i64 a9, .int .i64 a10, .int .i64 a11, .str a12, .sl 3 (.ints .i64 a13)])] K = laws_eqClaim N a0 a1 a2 a3 a4 a5 a6 a7 a8 a9 a10 a11 a12 a13 (fun z14 => K (.v (.one (.bool z14)))) := (ve13_0 N (laws_eqTable N) (laws_eqIntS N) a0 a1 a2 a3 a4 a5 a6 a7 a8 a9 a10 a11 a12 a13 K).trans (t_laws_eqClaim N a0 a1 a2 a3 a4 a5 a6 a7 a8 a9 a10 a11 a12 a13 (fun z14 => K (.v (.one (.bool z14))))).symm
theorem o13 {β : Type} (N : Nat) : SpecOK (β := β) inv Try.prog 13 (S13 N) := by
  refine spec_of lay_ok mixed (E := E13 N) (specs_loops (specs_cons (o54 N) (specs_cons (o55 N) specs_nil))) muts_nil gs_nil Try.func13 (by kernel_rfl) 0 (by kernel_rfl) trivial fun args K r h => ?_
  unfold S13 VS13 at h
  split at h
  · exact (e13_0 N _ _ _ _ _ _ _ _ _ _ _ _ _ _ _).trans h
  · cases h
def VS57 {β : Type} (N : Nat) (q_laws_heldIntS : (a0 : List Int) → (a1 : Int) → (k : Int → Option β) → Option β) : Rv.Spec β := fun args K => match args with
  | [.v (.one (.sl 3 (.ints .i64 a0))), .v (.one (.int .i64 a1))] => q_laws_heldIntS a0 a1 (fun z2 => K (.v (.one (.int .i64 z2))))
  | _ => none
def S57 {β : Type} (N : Nat) : Rv.Spec β := VS57 N (laws_heldIntS N)
def h57_0_0  (v0 : List Int) (v1 : Int) (v2 : Int) : St := ⟨.v (.one (.sl 3 (.ints .i64 v0))) :: .v (.one (.int .i64 v1)) :: .v (.one .und) :: .v (.one .und) :: .v (.one .und) :: .v (.one (.int .i64 v2)) :: .v (.one .und) :: .v (.one .und) :: .v (.one .und) :: .v (.one .und) :: .v (.one .und) :: .v (.one .und) :: .v (.one .und) :: .v (.one .und) :: .v (.one .und) :: .v (.one .und) :: .v (.one .und) :: .v (.one .und) :: .v (.one .und) :: .v (.one .und) :: .v (.one .und) :: [], []⟩
def x57_0_0_k0  (y0 : Int) : St := ⟨.v (.one .und) :: .v (.one .und) :: .v (.one .und) :: .v (.one .und) :: .v (.one (.int .i64 y0)) :: .v (.one .und) :: .v (.one .und) :: .v (.one .und) :: .v (.one .und) :: .v (.one .und) :: .v (.one .und) :: .v (.one .und) :: .v (.one .und) :: .v (.one .und) :: .v (.one .und) :: .v (.one .und) :: .v (.one .und) :: .v (.one .und) :: .v (.one .und) :: .v (.one .und) :: .v (.one .und) :: [], []⟩
def x57_0_0_k1  (y0 : Int) : St := ⟨.v (.one .und) :: .v (.one (.int .i64 y0)) :: .v (.one .und) :: .v (.one .und) :: .v (.one .und) :: .v (.one .und) :: .v (.one .und) :: .v (.one .und) :: .v (.one .und) :: .v (.one .und) :: .v (.one .und) :: .v (.one .und) :: .v (.one .und) :: .v (.one .und) :: .v (.one .und) :: .v (.one .und) :: .v (.one .und) :: .v (.one .und) :: .v (.one .und) :: .v (.one .und) :: .v (.one .und) :: [], []⟩
theorem fl57_0_0 (s : St) : refSt (h57_0_0 [] 0 0) s = h57_0_0 (rInts (rowV (oneA (vT (nx tund s.tmps 0))))) (intS (oneA (vT (nx tund s.tmps 1)))) (intS (oneA (vT (nx tund s.tmps 5)))) := by kernel_rfl
def VLS57_0 {β : Type} (N : Nat) (q_laws_heldIntS_l0 : Nat → List Int → Int → Int → (Int → Option β) → (Int → Option β) → Option β) : LSpec β := fun s K => cond (shpSt (h57_0_0 [] 0 0) s) ((fun (v0 : List Int) (v1 : Int) (v2 : Int) => q_laws_heldIntS_l0  N v0 v1 v2 (fun y0 => K .ret (x57_0_0_k0  y0)) (fun y0 => K (.exit 0) (x57_0_0_k1  y0))) (rInts (rowV (oneA (vT (nx tund s.tmps 0))))) (intS (oneA (vT (nx tund s.tmps 1)))) (intS (oneA (vT (nx tund s.tmps 5))))) (none)
def LS57_0 {β : Type} (N : Nat) : LSpec β := VLS57_0 N (laws_heldIntS_l0 N)
def VE57 {β : Type} (N : Nat) (q_laws_heldIntS_l0 : Nat → List Int → Int → Int → (Int → Option β) → (Int → Option β) → Option β) : Env β := ⟨[], [], [(0, VLS57_0 N q_laws_heldIntS_l0)], [], ⟨[], [], [106], [147, 148, 186]⟩⟩
def E57 {β : Type} (N : Nat) : Env β := VE57 N (laws_heldIntS_l0 N)
def BV_laws_heldIntS_l0b {β : Type} (N : Nat)  (v0 : List Int) (v1 : Int) (v2 : Int) (rec_ : List Int → Int → Int → Option β) (k0 : Int → Option β) (k1 : Int → Option β) : Option β :=
(cond ((decide (v2 < (v0.length : Int))))
((gd ((decide (0 ≤ v2)))
((gd ((decide (v2 < (v0.length : Int))))
((cond (((rd 0 v0 v2) != v1))
(k0 (-1))
(rec_ v0 ((w64 (v1 + 1))) ((w64 (v2 + 1))))))))))
(k1 v1))
theorem t_laws_heldIntS_l0b {β : Type} (N : Nat)  (v0 : List Int) (v1 : Int) (v2 : Int) (rec_ : List Int → Int → Int → Option β) (k0 : Int → Option β) (k1 : Int → Option β) : laws_heldIntS_l0b N v0 v1 v2 rec_ k0 k1 = BV_laws_heldIntS_l0b N v0 v1 v2 rec_ k0 k1 := by
  unfold laws_heldIntS_l0b BV_laws_heldIntS_l0b
  rfl
theorem vst57_0_0 {β : Type} (N : Nat) (q_laws_heldIntS_l0 : Nat → List Int → Int → Int → (Int → Option β) → (Int → Option β) → Option β)  (v0 : List Int) (v1 : Int) (v2 : Int) (rec_ : St → Option β) (K : Exit → St → Option β) :
    ev lay (VE57 N q_laws_heldIntS_l0) (retMask Try.f57) (lp Try.f57 0).body (lp Try.f57 0).ex ((lp Try.f57 0).lv (retMask Try.f57)) (h57_0_0  v0 v1 v2) (nextR (fun s' => rec_ (s'.tidy ((lp Try.f57 0).lv (retMask Try.f57)))) K) = BV_laws_heldIntS_l0b N  v0 v1 v2 (fun v0 v1 v2 => rec_ (h57_0_0  v0 v1 v2)) (fun y0 => K .ret (x57_0_0_k0  y0)) (fun y0 => K (.exit 0) (x57_0_0_k1  y0)) := by kernel_rfl
theorem st57_0_0 {β : Type} (N : Nat)  (v0 : List Int) (v1 : Int) (v2 : Int) (rec_ : St → Option β) (K : Exit → St → Option β) :
    ev lay (E57 N) (retMask Try.f57) (lp Try.f57 0).body (lp Try.f57 0).ex ((lp Try.f57 0).lv (retMask Try.f57)) (h57_0_0  v0 v1 v2) (nextR (fun s' => rec_ (s'.tidy ((lp Try.f57 0).lv (retMask Try.f57)))) K) = laws_heldIntS_l0b N  v0 v1 v2 (fun v0 v1 v2 => rec_ (h57_0_0  v0 v1 v2)) (fun y0 => K .ret (x57_0_0_k0  y0)) (fun y0 => K (.exit 0) (x57_0_0_k1  y0)) := (vst57_0_0 N (laws_heldIntS_l0 N) v0 v1 v2 rec_ K).trans (t_laws_heldIntS_l0b N  v0 v1 v2 (fun v0 v1 v2 => rec_ (h57_0_0  v0 v1 v2)) (fun y0 => K .ret (x57_0_0_k0  y0)) (fun y0 => K (.exit 0) (x57_0_0_k1  y0))).symm
theorem ro57_0_0 {β : Type} (N : Nat)  (K : Exit → St → Option β) : ∀ (F : Nat) (v0 : List Int) (v1 : Int) (v2 : Int), (lp Try.f57 0).rounds lay (E57 N) (retMask Try.f57) F (h57_0_0  v0 v1 v2) K = laws_heldIntS_l0 N  F v0 v1 v2 (fun y0 => K .ret (x57_0_0_k0  y0)) (fun y0 => K (.exit 0) (x57_0_0_k1  y0)) := by
  intro F
  induction F with
  | zero => intros; rfl
  | succ F ih =>
    intros
    rw [rounds_next]
    refine (st57_0_0 N  _ _ _ (fun s => (lp Try.f57 0).rounds lay (E57 N) (retMask Try.f57) F s K) K).trans ?_
    simp only [ih]
    rfl
theorem lk57_0 {β : Type} (N : Nat) : lookL (E57 (β := β) N).loops (lp Try.f57 0).id = LS57_0 N := by kernel_rfl
theorem rk57_0 {β : Type} (N : Nat) : RoundsOK lay (E57 (β := β) N) (retMask Try.f57) (lp Try.f57 0) := by
  intro s K r h
  rw [lk57_0] at h
  unfold LS57_0 VLS57_0 at h
  cases hb : shpSt (h57_0_0 [] 0 0) s with
  | true =>
    rw [hb, cond_true] at h
    exact ⟨N, by rw [← shpSt_ref hb, fl57_0_0 s]; exact (ro57_0_0 N  K N (rInts (rowV (oneA (vT (nx tund s.tmps 0))))) (intS (oneA (vT (nx tund s.tmps 1)))) (intS (oneA (vT (nx tund s.tmps 5))))).trans h⟩
  | false =>
  rw [hb, cond_false] at h
  clear hb
  cases h
def BV_laws_heldIntS {β : Type} (N : Nat) (q_laws_heldIntS_l0 : Nat → List Int → Int → Int → (Int → Option β) → (Int → Option β) → Option β) (a0 : List Int) (a1 : Int) (k : Int → Option β) : Option β :=
q_laws_heldIntS_l0  N a0 a1 0 (fun e3_0 =>
k e3_0) (fun e4_0 =>
k e4_0)
theorem t_laws_heldIntS {β : Type} (N : Nat) (a0 : List Int) (a1 : Int) (k : Int → Option β) : laws_heldIntS N a0 a1 k = BV_laws_heldIntS N (laws_heldIntS_l0 N) a0 a1 k := by
  unfold laws_heldIntS BV_laws_heldIntS
  rfl
theorem ve57_0 {β : Type} (N : Nat) (q_laws_heldIntS_l0 : Nat → List Int → Int → Int → (Int → Option β) → (Int → Option β) → Option β)  (a0 : List Int) (a1 : Int) (K : TV → Option β) : evFn lay (VE57 N q_laws_heldIntS_l0) Try.f57 [.v (.one (.sl 3 (.ints .i64 a0))), .v (.one (.int .i64 a1))] K = BV_laws_heldIntS N q_laws_heldIntS_l0 a0 a1 (fun z2 => K (.v (.one (.int .i64 z2)))) := by kernel_rfl
theorem e57_0 {β : Type} (N : Nat)  (a0 : List Int) (a1 : Int) (K : TV → Option β) : evFn lay (E57 N) Try.f57 [.v (.one (.sl 3 (.ints .i64 a0))), .v (.one (.int .i64 a1))] K = laws_heldIntS N a0 a1 (fun z2 => K (.v (.one (.int .i64 z2)))) := (ve57_0 N (laws_heldIntS_l0 N) a0 a1 K).trans (t_laws_heldIntS N a0 a1 (fun z2 => K (.v (.one (.int .i64 z2))))).symm
theorem o57 {β : Type} (N : Nat) : SpecOK (β := β) inv Try.prog 57 (S57 N) := by
  refine spec_of lay_ok mixed (E := E57 N) (specs_loops specs_nil) muts_nil gs_nil Try.func57 (by kernel_rfl) 1 (by kernel_rfl) ⟨trivial, rk57_0 N⟩ fun args K r h => ?_
  unfold S57 VS57 at h
  split at h
  · exact (e57_0 N _ _ _).trans h
  · cases h
def VS15 {β : Type} (N : Nat) (q_laws_heldClaim : (a0 : Int) → (a1 : Int) → (a2 : Int) → (a3 : Int) → (a4 : Int) → (a5 : ByteArray) → (a6 : List Int) → (a7 : Int) → (k : Int → Option β) → Option β) : Rv.Spec β := fun args K => match args with
  | [.v (.agg [.int .i64 a0, .int .i64 a1, .int .i64 a2, .int .i64 a3, .int .i64 a4, .str a5, .sl 3 (.ints .i64 a6)]), .v (.one (.int .i64 a7))] => q_laws_heldClaim a0 a1 a2 a3 a4 a5 a6 a7 (fun z8 => K (.v (.one (.int .i64 z8))))
  | _ => none
def S15 {β : Type} (N : Nat) : Rv.Spec β := VS15 N (laws_heldClaim N)
def VE15 {β : Type} (N : Nat) (q_laws_heldIntS : (a0 : List Int) → (a1 : Int) → (k : Int → Option β) → Option β) : Env β := ⟨[(57, VS57 N q_laws_heldIntS)], [], [], [], ⟨[], [], [106], [147, 148, 186]⟩⟩
def E15 {β : Type} (N : Nat) : Env β := VE15 N (laws_heldIntS N)
def BV_laws_heldClaim {β : Type} (N : Nat) (q_laws_heldIntS : (a0 : List Int) → (a1 : Int) → (k : Int → Option β) → Option β) (a0 : Int) (a1 : Int) (a2 : Int) (a3 : Int) (a4 : Int) (a5 : ByteArray) (a6 : List Int) (a7 : Int) (k : Int → Option β) : Option β :=
q_laws_heldIntS a6 a7 fun r9 =>
(cond ((decide (r9 < 0)))
(k (-1))
(k r9))
theorem t_laws_heldClaim {β : Type} (N : Nat) (a0 : Int) (a1 : Int) (a2 : Int) (a3 : Int) (a4 : Int) (a5 : ByteArray) (a6 : List Int) (a7 : Int) (k : Int → Option β) : laws_heldClaim N a0 a1 a2 a3 a4 a5 a6 a7 k = BV_laws_heldClaim N (laws_heldIntS N) a0 a1 a2 a3 a4 a5 a6 a7 k := by
  unfold laws_heldClaim BV_laws_heldClaim
  rfl
theorem ve15_0 {β : Type} (N : Nat) (q_laws_heldIntS : (a0 : List Int) → (a1 : Int) → (k : Int → Option β) → Option β)  (a0 : Int) (a1 : Int) (a2 : Int) (a3 : Int) (a4 : Int) (a5 : ByteArray) (a6 : List Int) (a7 : Int) (K : TV → Option β) : evFn lay (VE15 N q_laws_heldIntS) Try.f15 [.v (.agg [.int .i64 a0, .int .i64 a1, .int .i64 a2, .int .i64 a3, .int .i64 a4, .str a5, .sl 3 (.ints .i64 a6)]), .v (.one (.int .i64 a7))] K = BV_laws_heldClaim N q_laws_heldIntS a0 a1 a2 a3 a4 a5 a6 a7 (fun z8 => K (.v (.one (.int .i64 z8)))) := by kernel_rfl
theorem e15_0 {β : Type} (N : Nat)  (a0 : Int) (a1 : Int) (a2 : Int) (a3 : Int) (a4 : Int) (a5 : ByteArray) (a6 : List Int) (a7 : Int) (K : TV → Option β) : evFn lay (E15 N) Try.f15 [.v (.agg [.int .i64 a0, .int .i64 a1, .int .i64 a2, .int .i64 a3, .int .i64 a4, .str a5, .sl 3 (.ints .i64 a6)]), .v (.one (.int .i64 a7))] K = laws_heldClaim N a0 a1 a2 a3 a4 a5 a6 a7 (fun z8 => K (.v (.one (.int .i64 z8)))) := (ve15_0 N (laws_heldIntS N) a0 a1 a2 a3 a4 a5 a6 a7 K).trans (t_laws_heldClaim N a0 a1 a2 a3 a4 a5 a6 a7 (fun z8 => K (.v (.one (.int .i64 z8))))).symm
theorem o15 {β : Type} (N : Nat) : SpecOK (β := β) inv Try.prog 15 (S15 N) := by
  refine spec_of lay_ok mixed (E := E15 N) (specs_loops (specs_cons (o57 N) specs_nil)) muts_nil gs_nil Try.func15 (by kernel_rfl) 0 (by kernel_rfl) trivial fun args K r h => ?_
  unfold S15 VS15 at h
  split at h
  · exact (e15_0 N _ _ _ _ _ _ _ _ _).trans h
  · cases h
end Go.Proofs.Ytfdggelojmofmaa
