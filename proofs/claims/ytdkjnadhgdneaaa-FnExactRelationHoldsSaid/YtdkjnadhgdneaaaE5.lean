/- The functions that the claims reach answer as their texts do. -/
import Derived.Test.YtdkjnadhgdneaaaE4
namespace Go.Proofs.Ytdkjnadhgdneaaa
open Go.Rv
set_option maxRecDepth 100000
set_option maxHeartbeats 2000000
set_option linter.unusedVariables false
def VS107 {β : Type} (N : Nat) (q_impl_CertificateOf : (a0 : Int) → (a1 : Int) → (a2 : Int) → (k : Int → Option β) → Option β) : Rv.Spec β := fun args K => match args with
  | [.v (.agg [.int .i64 a0, .int .i64 a1]), .v (.one (.int .i64 a2))] => q_impl_CertificateOf a0 a1 a2 (fun z3 => K (.v (.one (.int .i64 z3))))
  | _ => none
def S107 {β : Type} (N : Nat) : Rv.Spec β := VS107 N (impl_CertificateOf N)
def h107_0_0  (v0 : Int) (v1 : Int) (v2 : Int) (v3 : Int) (v4 : Int) (v5 : Int) : St := ⟨.v (.one .und) :: .v (.one (.int .i64 v0)) :: .v (.one (.ptr 0 0)) :: .v (.one .und) :: .v (.one .und) :: .v (.one (.int .i64 v1)) :: .v (.one .und) :: .v (.one .und) :: .v (.one .und) :: .v (.one .und) :: .v (.one .und) :: .v (.one .und) :: .v (.one .und) :: .v (.one .und) :: .v (.one .und) :: .v (.one .und) :: .v (.one (.int .i64 v2)) :: .v (.one (.int .i64 v3)) :: .v (.one .und) :: .v (.one .und) :: .v (.one .und) :: .v (.one .und) :: .v (.one .und) :: .v (.one .und) :: .v (.one .und) :: .v (.one .und) :: .v (.one .und) :: .v (.one .und) :: .v (.one .und) :: .v (.one .und) :: .v (.one .und) :: .v (.one .und) :: .v (.one .und) :: [], [.cells 25 [.int .i64 v4, .int .i64 v5]]⟩
def x107_0_0_k0  (y0 : Int) : St := ⟨.v (.one .und) :: .v (.one .und) :: .v (.one .und) :: .v (.one .und) :: .v (.one .und) :: .v (.one (.int .i64 y0)) :: .v (.one .und) :: .v (.one .und) :: .v (.one .und) :: .v (.one .und) :: .v (.one .und) :: .v (.one .und) :: .v (.one .und) :: .v (.one .und) :: .v (.one .und) :: .v (.one .und) :: .v (.one .und) :: .v (.one .und) :: .v (.one .und) :: .v (.one .und) :: .v (.one .und) :: .v (.one .und) :: .v (.one .und) :: .v (.one .und) :: .v (.one .und) :: .v (.one .und) :: .v (.one .und) :: .v (.one .und) :: .v (.one .und) :: .v (.one .und) :: .v (.one .und) :: .v (.one .und) :: .v (.one .und) :: [], []⟩
theorem fl107_0_0 (s : St) : refSt (h107_0_0 0 0 0 0 0 0) s = h107_0_0 (intS (oneA (vT (nx tund s.tmps 1)))) (intS (oneA (vT (nx tund s.tmps 5)))) (intS (oneA (vT (nx tund s.tmps 16)))) (intS (oneA (vT (nx tund s.tmps 17)))) (intS (nx .und (cellsB (nx .dead s.blks 0)) 0)) (intS (nx .und (cellsB (nx .dead s.blks 0)) 1)) := by kernel_rfl
def VLS107_0 {β : Type} (N : Nat) (q_impl_CertificateOf_l0 : Nat → Int → Int → Int → Int → Int → Int → (Int → Option β) → Option β) : LSpec β := fun s K => cond (shpSt (h107_0_0 0 0 0 0 0 0) s) ((fun (v0 : Int) (v1 : Int) (v2 : Int) (v3 : Int) (v4 : Int) (v5 : Int) => q_impl_CertificateOf_l0  N v0 v1 v2 v3 v4 v5 (fun y0 => K (.exit 0) (x107_0_0_k0  y0))) (intS (oneA (vT (nx tund s.tmps 1)))) (intS (oneA (vT (nx tund s.tmps 5)))) (intS (oneA (vT (nx tund s.tmps 16)))) (intS (oneA (vT (nx tund s.tmps 17)))) (intS (nx .und (cellsB (nx .dead s.blks 0)) 0)) (intS (nx .und (cellsB (nx .dead s.blks 0)) 1))) (none)
def LS107_0 {β : Type} (N : Nat) : LSpec β := VLS107_0 N (impl_CertificateOf_l0 N)
def VE107 {β : Type} (N : Nat) (q_impl_IsTable : (a0 : Int) → (a1 : Int) → (k : Bool → Option β) → Option β) (q_impl_isBit : (a0 : Int) → (k : Bool → Option β) → Option β) (q_impl_Table_size : (a0 : Int) → (a1 : Int) → (k : Int → Option β) → Option β) (q_impl_Table_at : (a0 : Int) → (a1 : Int) → (a2 : Int) → (k : Int → Option β) → Option β) (q_impl_Table_certificate : (a0 : Int) → (a1 : Int) → (a2 : Int) → (k : Int → Option β) → Option β) (q_impl_ones : (a0 : Int) → (k : Int → Option β) → Option β) (q_impl_CertificateOf_l0 : Nat → Int → Int → Int → Int → Int → Int → (Int → Option β) → Option β) : Env β := ⟨[(61, VS61 N q_impl_IsTable), (75, VS75 N q_impl_isBit), (82, VS82 N q_impl_Table_size), (120, VS120 N q_impl_Table_at), (136, VS136 N q_impl_Table_certificate), (64, VS64 N q_impl_ones)], [], [(0, VLS107_0 N q_impl_CertificateOf_l0)], []⟩
def E107 {β : Type} (N : Nat) : Env β := VE107 N (impl_IsTable N) (impl_isBit N) (impl_Table_size N) (impl_Table_at N) (impl_Table_certificate N) (impl_ones N) (impl_CertificateOf_l0 N)
def BV_impl_CertificateOf_l0b {β : Type} (N : Nat) (q_impl_Table_at : (a0 : Int) → (a1 : Int) → (a2 : Int) → (k : Int → Option β) → Option β) (q_impl_Table_certificate : (a0 : Int) → (a1 : Int) → (a2 : Int) → (k : Int → Option β) → Option β) (q_impl_ones : (a0 : Int) → (k : Int → Option β) → Option β)  (v0 : Int) (v1 : Int) (v2 : Int) (v3 : Int) (v4 : Int) (v5 : Int) (rec_ : Int → Int → Int → Int → Int → Int → Option β) (k0 : Int → Option β) : Option β :=
(cond ((decide (v3 < v2)))
(q_impl_Table_at v4 v5 v3 fun r7 =>
(cond ((r7 == v0))
(q_impl_Table_certificate v4 v5 v3 fun r8 =>
q_impl_ones r8 fun r9 =>
rec_ v0 ((mxI v1 r9)) v2 ((w64 (v3 + 1))) v4 v5)
(rec_ v0 v1 v2 ((w64 (v3 + 1))) v4 v5)))
(k0 v1))
theorem t_impl_CertificateOf_l0b {β : Type} (N : Nat)  (v0 : Int) (v1 : Int) (v2 : Int) (v3 : Int) (v4 : Int) (v5 : Int) (rec_ : Int → Int → Int → Int → Int → Int → Option β) (k0 : Int → Option β) : impl_CertificateOf_l0b N v0 v1 v2 v3 v4 v5 rec_ k0 = BV_impl_CertificateOf_l0b N (impl_Table_at N) (impl_Table_certificate N) (impl_ones N) v0 v1 v2 v3 v4 v5 rec_ k0 := by
  unfold impl_CertificateOf_l0b BV_impl_CertificateOf_l0b
  rfl
theorem vst107_0_0 {β : Type} (N : Nat) (q_impl_IsTable : (a0 : Int) → (a1 : Int) → (k : Bool → Option β) → Option β) (q_impl_isBit : (a0 : Int) → (k : Bool → Option β) → Option β) (q_impl_Table_size : (a0 : Int) → (a1 : Int) → (k : Int → Option β) → Option β) (q_impl_Table_at : (a0 : Int) → (a1 : Int) → (a2 : Int) → (k : Int → Option β) → Option β) (q_impl_Table_certificate : (a0 : Int) → (a1 : Int) → (a2 : Int) → (k : Int → Option β) → Option β) (q_impl_ones : (a0 : Int) → (k : Int → Option β) → Option β) (q_impl_CertificateOf_l0 : Nat → Int → Int → Int → Int → Int → Int → (Int → Option β) → Option β)  (v0 : Int) (v1 : Int) (v2 : Int) (v3 : Int) (v4 : Int) (v5 : Int) (rec_ : St → Option β) (K : Exit → St → Option β) :
    ev lay (VE107 N q_impl_IsTable q_impl_isBit q_impl_Table_size q_impl_Table_at q_impl_Table_certificate q_impl_ones q_impl_CertificateOf_l0) (retMask Try.f107) (lp Try.f107 0).body (lp Try.f107 0).ex ((lp Try.f107 0).lv (retMask Try.f107)) (h107_0_0  v0 v1 v2 v3 v4 v5) (nextR (fun s' => rec_ (s'.tidy ((lp Try.f107 0).lv (retMask Try.f107)))) K) = BV_impl_CertificateOf_l0b N q_impl_Table_at q_impl_Table_certificate q_impl_ones  v0 v1 v2 v3 v4 v5 (fun v0 v1 v2 v3 v4 v5 => rec_ (h107_0_0  v0 v1 v2 v3 v4 v5)) (fun y0 => K (.exit 0) (x107_0_0_k0  y0)) := by kernel_rfl
theorem st107_0_0 {β : Type} (N : Nat)  (v0 : Int) (v1 : Int) (v2 : Int) (v3 : Int) (v4 : Int) (v5 : Int) (rec_ : St → Option β) (K : Exit → St → Option β) :
    ev lay (E107 N) (retMask Try.f107) (lp Try.f107 0).body (lp Try.f107 0).ex ((lp Try.f107 0).lv (retMask Try.f107)) (h107_0_0  v0 v1 v2 v3 v4 v5) (nextR (fun s' => rec_ (s'.tidy ((lp Try.f107 0).lv (retMask Try.f107)))) K) = impl_CertificateOf_l0b N  v0 v1 v2 v3 v4 v5 (fun v0 v1 v2 v3 v4 v5 => rec_ (h107_0_0  v0 v1 v2 v3 v4 v5)) (fun y0 => K (.exit 0) (x107_0_0_k0  y0)) := (vst107_0_0 N (impl_IsTable N) (impl_isBit N) (impl_Table_size N) (impl_Table_at N) (impl_Table_certificate N) (impl_ones N) (impl_CertificateOf_l0 N) v0 v1 v2 v3 v4 v5 rec_ K).trans (t_impl_CertificateOf_l0b N  v0 v1 v2 v3 v4 v5 (fun v0 v1 v2 v3 v4 v5 => rec_ (h107_0_0  v0 v1 v2 v3 v4 v5)) (fun y0 => K (.exit 0) (x107_0_0_k0  y0))).symm
theorem ro107_0_0 {β : Type} (N : Nat)  (K : Exit → St → Option β) : ∀ (F : Nat) (v0 : Int) (v1 : Int) (v2 : Int) (v3 : Int) (v4 : Int) (v5 : Int), (lp Try.f107 0).rounds lay (E107 N) (retMask Try.f107) F (h107_0_0  v0 v1 v2 v3 v4 v5) K = impl_CertificateOf_l0 N  F v0 v1 v2 v3 v4 v5 (fun y0 => K (.exit 0) (x107_0_0_k0  y0)) := by
  intro F
  induction F with
  | zero => intros; rfl
  | succ F ih =>
    intros
    rw [rounds_next]
    refine (st107_0_0 N  _ _ _ _ _ _ (fun s => (lp Try.f107 0).rounds lay (E107 N) (retMask Try.f107) F s K) K).trans ?_
    simp only [ih]
    rfl
theorem lk107_0 {β : Type} (N : Nat) : lookL (E107 (β := β) N).loops (lp Try.f107 0).id = LS107_0 N := by kernel_rfl
theorem rk107_0 {β : Type} (N : Nat) : RoundsOK lay (E107 (β := β) N) (retMask Try.f107) (lp Try.f107 0) := by
  intro s K r h
  rw [lk107_0] at h
  unfold LS107_0 VLS107_0 at h
  cases hb : shpSt (h107_0_0 0 0 0 0 0 0) s with
  | true =>
    rw [hb, cond_true] at h
    exact ⟨N, by rw [← shpSt_ref hb, fl107_0_0 s]; exact (ro107_0_0 N  K N (intS (oneA (vT (nx tund s.tmps 1)))) (intS (oneA (vT (nx tund s.tmps 5)))) (intS (oneA (vT (nx tund s.tmps 16)))) (intS (oneA (vT (nx tund s.tmps 17)))) (intS (nx .und (cellsB (nx .dead s.blks 0)) 0)) (intS (nx .und (cellsB (nx .dead s.blks 0)) 1))).trans h⟩
  | false =>
  rw [hb, cond_false] at h
  clear hb
  cases h
def BV_impl_CertificateOf {β : Type} (N : Nat) (q_impl_IsTable : (a0 : Int) → (a1 : Int) → (k : Bool → Option β) → Option β) (q_impl_isBit : (a0 : Int) → (k : Bool → Option β) → Option β) (q_impl_Table_size : (a0 : Int) → (a1 : Int) → (k : Int → Option β) → Option β) (q_impl_CertificateOf_l0 : Nat → Int → Int → Int → Int → Int → Int → (Int → Option β) → Option β) (a0 : Int) (a1 : Int) (a2 : Int) (k : Int → Option β) : Option β :=
q_impl_IsTable a0 a1 fun r4 =>
(cond (!r4)
(k (-1))
(q_impl_isBit a2 fun r5 =>
(cond (!r5)
(k (-1))
(q_impl_Table_size a0 a1 fun r6 =>
q_impl_CertificateOf_l0  N a2 0 r6 0 a0 a1 (fun e10_0 =>
k e10_0)))))
theorem t_impl_CertificateOf {β : Type} (N : Nat) (a0 : Int) (a1 : Int) (a2 : Int) (k : Int → Option β) : impl_CertificateOf N a0 a1 a2 k = BV_impl_CertificateOf N (impl_IsTable N) (impl_isBit N) (impl_Table_size N) (impl_CertificateOf_l0 N) a0 a1 a2 k := by
  unfold impl_CertificateOf BV_impl_CertificateOf
  rfl
theorem ve107_0 {β : Type} (N : Nat) (q_impl_IsTable : (a0 : Int) → (a1 : Int) → (k : Bool → Option β) → Option β) (q_impl_isBit : (a0 : Int) → (k : Bool → Option β) → Option β) (q_impl_Table_size : (a0 : Int) → (a1 : Int) → (k : Int → Option β) → Option β) (q_impl_Table_at : (a0 : Int) → (a1 : Int) → (a2 : Int) → (k : Int → Option β) → Option β) (q_impl_Table_certificate : (a0 : Int) → (a1 : Int) → (a2 : Int) → (k : Int → Option β) → Option β) (q_impl_ones : (a0 : Int) → (k : Int → Option β) → Option β) (q_impl_CertificateOf_l0 : Nat → Int → Int → Int → Int → Int → Int → (Int → Option β) → Option β)  (a0 : Int) (a1 : Int) (a2 : Int) (K : TV → Option β) : evFn lay (VE107 N q_impl_IsTable q_impl_isBit q_impl_Table_size q_impl_Table_at q_impl_Table_certificate q_impl_ones q_impl_CertificateOf_l0) Try.f107 [.v (.agg [.int .i64 a0, .int .i64 a1]), .v (.one (.int .i64 a2))] K = BV_impl_CertificateOf N q_impl_IsTable q_impl_isBit q_impl_Table_size q_impl_CertificateOf_l0 a0 a1 a2 (fun z3 => K (.v (.one (.int .i64 z3)))) := by kernel_rfl
theorem e107_0 {β : Type} (N : Nat)  (a0 : Int) (a1 : Int) (a2 : Int) (K : TV → Option β) : evFn lay (E107 N) Try.f107 [.v (.agg [.int .i64 a0, .int .i64 a1]), .v (.one (.int .i64 a2))] K = impl_CertificateOf N a0 a1 a2 (fun z3 => K (.v (.one (.int .i64 z3)))) := (ve107_0 N (impl_IsTable N) (impl_isBit N) (impl_Table_size N) (impl_Table_at N) (impl_Table_certificate N) (impl_ones N) (impl_CertificateOf_l0 N) a0 a1 a2 K).trans (t_impl_CertificateOf N a0 a1 a2 (fun z3 => K (.v (.one (.int .i64 z3))))).symm
theorem o107 {β : Type} (N : Nat) : SpecOK (β := β) Try.prog 107 (S107 N) := by
  refine spec_of lay_ok mixed (E := E107 N) (specs_loops (specs_cons (o61 N) (specs_cons (o75 N) (specs_cons (o82 N) (specs_cons (o120 N) (specs_cons (o136 N) (specs_cons (o64 N) specs_nil))))))) muts_nil gs_nil Try.func107 (by kernel_rfl) 1 (by kernel_rfl) ⟨trivial, rk107_0 N⟩ fun args K r h => ?_
  unfold S107 VS107 at h
  split at h
  · exact (e107_0 N _ _ _ _).trans h
  · cases h
def VS145 {β : Type} (N : Nat) (q_impl_Table_asking_g0 : (a0 : Int) → (a1 : Int) → (k0 : Int → Int → Mp → Mp → Option β) → Option β) : GSpec β := fun args bl K => match args, bl with
  | [.v (.agg [.int .i64 a0, .int .i64 a1])], [] => q_impl_Table_asking_g0 a0 a1 (fun y0 y1 y2 y3 => K (.v (.one (.ptr 0 0))) [.cells 117 [.int .i64 y0, .int .i64 y1, .mp 1, .mp 2], .mp ⟨true, false⟩ y2, .mp ⟨true, false⟩ y3])
  | _, _ => none
def S145 {β : Type} (N : Nat) : GSpec β := VS145 N (impl_Table_asking_g0 N)
def VE145 {β : Type} (N : Nat) : Env β := ⟨[], [], [], []⟩
def E145 {β : Type} (N : Nat) : Env β := VE145 N
def BV_impl_Table_asking_g0 {β : Type} (N : Nat) (a0 : Int) (a1 : Int) (k0 : Int → Int → Mp → Mp → Option β) : Option β :=
k0 a0 a1 (([] : Mp)) (([] : Mp))
theorem t_impl_Table_asking_g0 {β : Type} (N : Nat) (a0 : Int) (a1 : Int) (k0 : Int → Int → Mp → Mp → Option β) : impl_Table_asking_g0 N a0 a1 k0 = BV_impl_Table_asking_g0 N a0 a1 k0 := by
  unfold impl_Table_asking_g0 BV_impl_Table_asking_g0
  rfl
theorem ve145_0 {β : Type} (N : Nat) (a0 : Int) (a1 : Int) (K : TV → List Blk → Option β) : evFnG lay (VE145 N) Try.f145 [.v (.agg [.int .i64 a0, .int .i64 a1])] [] K = BV_impl_Table_asking_g0 N a0 a1 (fun y0 y1 y2 y3 => K (.v (.one (.ptr 0 0))) [.cells 117 [.int .i64 y0, .int .i64 y1, .mp 1, .mp 2], .mp ⟨true, false⟩ y2, .mp ⟨true, false⟩ y3]) := by kernel_rfl
theorem e145_0 {β : Type} (N : Nat) (a0 : Int) (a1 : Int) (K : TV → List Blk → Option β) : evFnG lay (E145 N) Try.f145 [.v (.agg [.int .i64 a0, .int .i64 a1])] [] K = impl_Table_asking_g0 N a0 a1 (fun y0 y1 y2 y3 => K (.v (.one (.ptr 0 0))) [.cells 117 [.int .i64 y0, .int .i64 y1, .mp 1, .mp 2], .mp ⟨true, false⟩ y2, .mp ⟨true, false⟩ y3]) := (ve145_0 N a0 a1 K).trans (t_impl_Table_asking_g0 N a0 a1 (fun y0 y1 y2 y3 => K (.v (.one (.ptr 0 0))) [.cells 117 [.int .i64 y0, .int .i64 y1, .mp 1, .mp 2], .mp ⟨true, false⟩ y2, .mp ⟨true, false⟩ y3])).symm
theorem o145 {β : Type} (N : Nat) : GOK (β := β) Try.prog 145 (S145 N) := by
  refine g_of lay_ok mixed (E := E145 N) (specs_loops specs_nil) muts_nil gs_nil Try.func145 (by kernel_rfl) 0 (by kernel_rfl) trivial fun args bl K r h => ?_
  unfold S145 VS145 at h
  split at h
  · exact (e145_0 N _ _ _).trans h
  · cases h
def VS157 {β : Type} (N : Nat) (q_impl_known_with : (a0 : Int) → (a1 : Int) → (a2 : Int) → (a3 : Int) → (k : Int → Int → Option β) → Option β) : Rv.Spec β := fun args K => match args with
  | [.v (.agg [.int .i64 a0, .int .i64 a1]), .v (.one (.int .i64 a2)), .v (.one (.int .i64 a3))] => q_impl_known_with a0 a1 a2 a3 (fun z4 z5 => K (.v (.agg [.int .i64 z4, .int .i64 z5])))
  | _ => none
def S157 {β : Type} (N : Nat) : Rv.Spec β := VS157 N (impl_known_with N)
def VE157 {β : Type} (N : Nat) : Env β := ⟨[], [], [], []⟩
def E157 {β : Type} (N : Nat) : Env β := VE157 N
def BV_impl_known_with {β : Type} (N : Nat) (a0 : Int) (a1 : Int) (a2 : Int) (a3 : Int) (k : Int → Int → Option β) : Option β :=
(gd ((decide (0 ≤ a2)))
((gd ((decide (0 ≤ a2)))
(k ((bits .or .i64 a0 (shlI .i64 1 a2))) ((bits .or .i64 a1 (shlI .i64 a3 a2)))))))
theorem t_impl_known_with {β : Type} (N : Nat) (a0 : Int) (a1 : Int) (a2 : Int) (a3 : Int) (k : Int → Int → Option β) : impl_known_with N a0 a1 a2 a3 k = BV_impl_known_with N a0 a1 a2 a3 k := by
  unfold impl_known_with BV_impl_known_with
  rfl
theorem ve157_0 {β : Type} (N : Nat)  (a0 : Int) (a1 : Int) (a2 : Int) (a3 : Int) (K : TV → Option β) : evFn lay (VE157 N) Try.f157 [.v (.agg [.int .i64 a0, .int .i64 a1]), .v (.one (.int .i64 a2)), .v (.one (.int .i64 a3))] K = BV_impl_known_with N a0 a1 a2 a3 (fun z4 z5 => K (.v (.agg [.int .i64 z4, .int .i64 z5]))) := by kernel_rfl
theorem e157_0 {β : Type} (N : Nat)  (a0 : Int) (a1 : Int) (a2 : Int) (a3 : Int) (K : TV → Option β) : evFn lay (E157 N) Try.f157 [.v (.agg [.int .i64 a0, .int .i64 a1]), .v (.one (.int .i64 a2)), .v (.one (.int .i64 a3))] K = impl_known_with N a0 a1 a2 a3 (fun z4 z5 => K (.v (.agg [.int .i64 z4, .int .i64 z5]))) := (ve157_0 N a0 a1 a2 a3 K).trans (t_impl_known_with N a0 a1 a2 a3 (fun z4 z5 => K (.v (.agg [.int .i64 z4, .int .i64 z5])))).symm
theorem o157 {β : Type} (N : Nat) : SpecOK (β := β) Try.prog 157 (S157 N) := by
  refine spec_of lay_ok mixed (E := E157 N) (specs_loops specs_nil) muts_nil gs_nil Try.func157 (by kernel_rfl) 0 (by kernel_rfl) trivial fun args K r h => ?_
  unfold S157 VS157 at h
  split at h
  · exact (e157_0 N _ _ _ _ _).trans h
  · cases h
def VSF146 {β : Type} (N : Nat) (q_impl_asker_left_g0_f : Nat → Int → Int → Int → Int → Mp → Mp → (Int → Int → Int → Mp → Mp → Option β) → Option β) (G : Nat) : GSpec β := fun args bl K => match args, bl with
  | [.v (.one (.ptr 0 0)), .v (.agg [.int .i64 a0, .int .i64 a1])], [.pcells 0 117 [.int .i64 a2, .int .i64 a3, .mp 1, .mp 2], .pmp 1 ⟨true, false⟩ a4, .pmp 2 ⟨true, false⟩ a5] => q_impl_asker_left_g0_f G a0 a1 a2 a3 a4 a5 (fun y0 y1 y2 y3 y4 => K (.v (.one (.int .i64 y0))) [.pcells 0 117 [.int .i64 y1, .int .i64 y2, .mp 1, .mp 2], .pmp 1 ⟨true, false⟩ y3, .pmp 2 ⟨true, false⟩ y4])
  | _, _ => none
def SF146 {β : Type} (N : Nat) (G : Nat) : GSpec β := VSF146 N (impl_asker_left_g0_f N) G
def VS146 {β : Type} (N : Nat) (q_impl_asker_left_g0_f : Nat → Int → Int → Int → Int → Mp → Mp → (Int → Int → Int → Mp → Mp → Option β) → Option β) : GSpec β := VSF146 N q_impl_asker_left_g0_f N
def S146 {β : Type} (N : Nat) : GSpec β := SF146 N N
def h146_0_0  (v0 : Int) (v1 : Int) (v2 : Int) (v3 : Int) (v4 : Int) (v5 : Mp) (v6 : Mp) (v7 : Int) (v8 : Int) : St := ⟨.v (.one (.ptr 0 0)) :: .v (.one .und) :: .v (.one .und) :: .v (.one (.ptr 3 0)) :: .v (.one .und) :: .v (.one .und) :: .v (.one .und) :: .v (.one (.int .i64 v0)) :: .v (.one .und) :: .v (.one .und) :: .v (.one .und) :: .v (.one .und) :: .v (.one .und) :: .v (.one .und) :: .v (.one .und) :: .v (.one .und) :: .v (.one .und) :: .v (.one .und) :: .v (.one .und) :: .v (.one .und) :: .v (.one .und) :: .v (.one .und) :: .v (.one .und) :: .v (.one .und) :: .v (.one .und) :: .v (.one .und) :: .v (.one .und) :: .v (.one .und) :: .v (.one .und) :: .v (.one .und) :: .v (.one .und) :: .v (.one .und) :: .v (.one .und) :: .v (.one .und) :: .v (.one .und) :: .v (.one .und) :: .v (.one .und) :: .v (.one .und) :: .v (.one .und) :: .v (.one (.int .i64 v1)) :: .v (.one (.int .i64 v2)) :: .v (.one .und) :: .v (.one .und) :: .v (.one .und) :: .v (.one .und) :: .v (.one .und) :: .v (.one .und) :: .v (.one .und) :: .v (.one .und) :: .v (.one .und) :: .v (.one .und) :: .v (.one .und) :: .v (.one .und) :: .v (.one .und) :: .v (.one .und) :: .v (.one .und) :: .v (.one .und) :: .v (.one .und) :: .v (.one .und) :: .v (.one .und) :: .v (.one .und) :: .v (.one .und) :: .v (.one .und) :: .v (.one .und) :: .v (.one .und) :: .v (.one .und) :: .v (.one .und) :: .v (.one .und) :: .v (.one .und) :: .v (.one .und) :: .v (.one .und) :: [], [.pcells 0 117 [.int .i64 v3, .int .i64 v4, .mp 1, .mp 2], .pmp 1 ⟨true, false⟩ v5, .pmp 2 ⟨true, false⟩ v6, .cells 112 [.int .i64 v7, .int .i64 v8]]⟩
def x146_0_0_k0  (y0 : Int) (y1 : Int) (y2 : Int) (y3 : Mp) (y4 : Mp) (y5 : Int) (y6 : Int) : St := ⟨.v (.one (.ptr 0 0)) :: .v (.one .und) :: .v (.one .und) :: .v (.one (.ptr 3 0)) :: .v (.one .und) :: .v (.one .und) :: .v (.one .und) :: .v (.one (.int .i64 y0)) :: .v (.one .und) :: .v (.one .und) :: .v (.one .und) :: .v (.one .und) :: .v (.one .und) :: .v (.one .und) :: .v (.one .und) :: .v (.one .und) :: .v (.one .und) :: .v (.one .und) :: .v (.one .und) :: .v (.one .und) :: .v (.one .und) :: .v (.one .und) :: .v (.one .und) :: .v (.one .und) :: .v (.one .und) :: .v (.one .und) :: .v (.one .und) :: .v (.one .und) :: .v (.one .und) :: .v (.one .und) :: .v (.one .und) :: .v (.one .und) :: .v (.one .und) :: .v (.one .und) :: .v (.one .und) :: .v (.one .und) :: .v (.one .und) :: .v (.one .und) :: .v (.one .und) :: .v (.one .und) :: .v (.one .und) :: .v (.one .und) :: .v (.one .und) :: .v (.one .und) :: .v (.one .und) :: .v (.one .und) :: .v (.one .und) :: .v (.one .und) :: .v (.one .und) :: .v (.one .und) :: .v (.one .und) :: .v (.one .und) :: .v (.one .und) :: .v (.one .und) :: .v (.one .und) :: .v (.one .und) :: .v (.one .und) :: .v (.one .und) :: .v (.one .und) :: .v (.one .und) :: .v (.one .und) :: .v (.one .und) :: .v (.one .und) :: .v (.one .und) :: .v (.one .und) :: .v (.one .und) :: .v (.one .und) :: .v (.one .und) :: .v (.one .und) :: .v (.one .und) :: .v (.one .und) :: [], [.pcells 0 117 [.int .i64 y1, .int .i64 y2, .mp 1, .mp 2], .pmp 1 ⟨true, false⟩ y3, .pmp 2 ⟨true, false⟩ y4, .cells 112 [.int .i64 y5, .int .i64 y6]]⟩
theorem fl146_0_0 (s : St) : refSt (h146_0_0 0 0 0 0 0 [] [] 0 0) s = h146_0_0 (intS (oneA (vT (nx tund s.tmps 7)))) (intS (oneA (vT (nx tund s.tmps 39)))) (intS (oneA (vT (nx tund s.tmps 40)))) (intS (nx .und (cellsB (nx .dead s.blks 0)) 0)) (intS (nx .und (cellsB (nx .dead s.blks 0)) 1)) (mpB (nx .dead s.blks 1)) (mpB (nx .dead s.blks 2)) (intS (nx .und (cellsB (nx .dead s.blks 3)) 0)) (intS (nx .und (cellsB (nx .dead s.blks 3)) 1)) := by kernel_rfl
def VLS146_0 {β : Type} (N : Nat) (q_impl_asker_left_l0 : (self : Int → Int → Int → Int → Mp → Mp → (Int → Int → Int → Mp → Mp → Option β) → Option β) → Nat → Int → Int → Int → Int → Int → Mp → Mp → Int → Int → (Int → Int → Int → Mp → Mp → Int → Int → Option β) → Option β) (q_impl_asker_left_g0_f : Nat → Int → Int → Int → Int → Mp → Mp → (Int → Int → Int → Mp → Mp → Option β) → Option β) (G : Nat) : LSpec β := fun s K => cond (shpSt (h146_0_0 0 0 0 0 0 [] [] 0 0) s) ((fun (v0 : Int) (v1 : Int) (v2 : Int) (v3 : Int) (v4 : Int) (v5 : Mp) (v6 : Mp) (v7 : Int) (v8 : Int) => q_impl_asker_left_l0 (q_impl_asker_left_g0_f G)  N v0 v1 v2 v3 v4 v5 v6 v7 v8 (fun y0 y1 y2 y3 y4 y5 y6 => K (.exit 0) (x146_0_0_k0  y0 y1 y2 y3 y4 y5 y6))) (intS (oneA (vT (nx tund s.tmps 7)))) (intS (oneA (vT (nx tund s.tmps 39)))) (intS (oneA (vT (nx tund s.tmps 40)))) (intS (nx .und (cellsB (nx .dead s.blks 0)) 0)) (intS (nx .und (cellsB (nx .dead s.blks 0)) 1)) (mpB (nx .dead s.blks 1)) (mpB (nx .dead s.blks 2)) (intS (nx .und (cellsB (nx .dead s.blks 3)) 0)) (intS (nx .und (cellsB (nx .dead s.blks 3)) 1))) (none)
def LS146_0 {β : Type} (N : Nat) (G : Nat) : LSpec β := VLS146_0 N (impl_asker_left_l0 N) (impl_asker_left_g0_f N) G
def VE146 {β : Type} (N : Nat) (q_impl_Table_cube : (a0 : Int) → (a1 : Int) → (a2 : Int) → (a3 : Int) → (k : Int → Option β) → Option β) (q_impl_known_with : (a0 : Int) → (a1 : Int) → (a2 : Int) → (a3 : Int) → (k : Int → Int → Option β) → Option β) (q_impl_asker_left_l0 : (self : Int → Int → Int → Int → Mp → Mp → (Int → Int → Int → Mp → Mp → Option β) → Option β) → Nat → Int → Int → Int → Int → Int → Mp → Mp → Int → Int → (Int → Int → Int → Mp → Mp → Int → Int → Option β) → Option β) (q_impl_asker_left_g0_f : Nat → Int → Int → Int → Int → Mp → Mp → (Int → Int → Int → Mp → Mp → Option β) → Option β) (G : Nat) : Env β := ⟨[(156, VS156 N q_impl_Table_cube), (157, VS157 N q_impl_known_with)], [], [(0, VLS146_0 N q_impl_asker_left_l0 q_impl_asker_left_g0_f G)], [(146, VSF146 N q_impl_asker_left_g0_f G)]⟩
def E146 {β : Type} (N : Nat) (G : Nat) : Env β := VE146 N (impl_Table_cube N) (impl_known_with N) (impl_asker_left_l0 N) (impl_asker_left_g0_f N) G
def BV_impl_asker_left_l0b {β : Type} (N : Nat) (q_impl_known_with : (a0 : Int) → (a1 : Int) → (a2 : Int) → (a3 : Int) → (k : Int → Int → Option β) → Option β) (self : Int → Int → Int → Int → Mp → Mp → (Int → Int → Int → Mp → Mp → Option β) → Option β)  (v0 : Int) (v1 : Int) (v2 : Int) (v3 : Int) (v4 : Int) (v5 : Mp) (v6 : Mp) (v7 : Int) (v8 : Int) (rec_ : Int → Int → Int → Int → Int → Mp → Mp → Int → Int → Option β) (k0 : Int → Int → Int → Mp → Mp → Int → Int → Option β) : Option β :=
(cond ((decide (v2 < v1)))
((gd ((decide (0 ≤ v2)))
((cond (((bits .and .i64 (shrI .i64 v7 v2) 1) == 0))
(q_impl_known_with v7 v8 v2 0 fun r6 r7 =>
self r6 r7 v3 v4 v5 v6 (fun r8_0 r8_1 r8_2 r8_3 r8_4 =>
q_impl_known_with v7 v8 v2 1 fun r9 r10 =>
self r9 r10 r8_1 r8_2 r8_3 r8_4 (fun r11_0 r11_1 r11_2 r11_3 r11_4 =>
rec_ ((mnI v0 (w64 (1 + (mxI r8_0 r11_0))))) v1 ((w64 (v2 + 1))) r11_1 r11_2 r11_3 r11_4 v7 v8)))
(rec_ v0 v1 ((w64 (v2 + 1))) v3 v4 v5 v6 v7 v8)))))
(k0 v0 v3 v4 v5 v6 v7 v8))
theorem t_impl_asker_left_l0b {β : Type} (N : Nat) (self : Int → Int → Int → Int → Mp → Mp → (Int → Int → Int → Mp → Mp → Option β) → Option β)  (v0 : Int) (v1 : Int) (v2 : Int) (v3 : Int) (v4 : Int) (v5 : Mp) (v6 : Mp) (v7 : Int) (v8 : Int) (rec_ : Int → Int → Int → Int → Int → Mp → Mp → Int → Int → Option β) (k0 : Int → Int → Int → Mp → Mp → Int → Int → Option β) : impl_asker_left_l0b N self v0 v1 v2 v3 v4 v5 v6 v7 v8 rec_ k0 = BV_impl_asker_left_l0b N (impl_known_with N) self v0 v1 v2 v3 v4 v5 v6 v7 v8 rec_ k0 := by
  unfold impl_asker_left_l0b BV_impl_asker_left_l0b
  rfl
theorem vst146_0_0 {β : Type} (N : Nat) (q_impl_Table_cube : (a0 : Int) → (a1 : Int) → (a2 : Int) → (a3 : Int) → (k : Int → Option β) → Option β) (q_impl_known_with : (a0 : Int) → (a1 : Int) → (a2 : Int) → (a3 : Int) → (k : Int → Int → Option β) → Option β) (q_impl_asker_left_l0 : (self : Int → Int → Int → Int → Mp → Mp → (Int → Int → Int → Mp → Mp → Option β) → Option β) → Nat → Int → Int → Int → Int → Int → Mp → Mp → Int → Int → (Int → Int → Int → Mp → Mp → Int → Int → Option β) → Option β) (q_impl_asker_left_g0_f : Nat → Int → Int → Int → Int → Mp → Mp → (Int → Int → Int → Mp → Mp → Option β) → Option β) (G : Nat)  (v0 : Int) (v1 : Int) (v2 : Int) (v3 : Int) (v4 : Int) (v5 : Mp) (v6 : Mp) (v7 : Int) (v8 : Int) (rec_ : St → Option β) (K : Exit → St → Option β) :
    ev lay (VE146 N q_impl_Table_cube q_impl_known_with q_impl_asker_left_l0 q_impl_asker_left_g0_f G) (retMask Try.f146) (lp Try.f146 0).body (lp Try.f146 0).ex ((lp Try.f146 0).lv (retMask Try.f146)) (h146_0_0  v0 v1 v2 v3 v4 v5 v6 v7 v8) (nextR (fun s' => rec_ (s'.tidy ((lp Try.f146 0).lv (retMask Try.f146)))) K) = BV_impl_asker_left_l0b N q_impl_known_with (q_impl_asker_left_g0_f G)  v0 v1 v2 v3 v4 v5 v6 v7 v8 (fun v0 v1 v2 v3 v4 v5 v6 v7 v8 => rec_ (h146_0_0  v0 v1 v2 v3 v4 v5 v6 v7 v8)) (fun y0 y1 y2 y3 y4 y5 y6 => K (.exit 0) (x146_0_0_k0  y0 y1 y2 y3 y4 y5 y6)) := by kernel_rfl
theorem st146_0_0 {β : Type} (N : Nat) (G : Nat)  (v0 : Int) (v1 : Int) (v2 : Int) (v3 : Int) (v4 : Int) (v5 : Mp) (v6 : Mp) (v7 : Int) (v8 : Int) (rec_ : St → Option β) (K : Exit → St → Option β) :
    ev lay (E146 N G) (retMask Try.f146) (lp Try.f146 0).body (lp Try.f146 0).ex ((lp Try.f146 0).lv (retMask Try.f146)) (h146_0_0  v0 v1 v2 v3 v4 v5 v6 v7 v8) (nextR (fun s' => rec_ (s'.tidy ((lp Try.f146 0).lv (retMask Try.f146)))) K) = impl_asker_left_l0b N (impl_asker_left_g0_f N G)  v0 v1 v2 v3 v4 v5 v6 v7 v8 (fun v0 v1 v2 v3 v4 v5 v6 v7 v8 => rec_ (h146_0_0  v0 v1 v2 v3 v4 v5 v6 v7 v8)) (fun y0 y1 y2 y3 y4 y5 y6 => K (.exit 0) (x146_0_0_k0  y0 y1 y2 y3 y4 y5 y6)) := (vst146_0_0 N (impl_Table_cube N) (impl_known_with N) (impl_asker_left_l0 N) (impl_asker_left_g0_f N) G v0 v1 v2 v3 v4 v5 v6 v7 v8 rec_ K).trans (t_impl_asker_left_l0b N (impl_asker_left_g0_f N G)  v0 v1 v2 v3 v4 v5 v6 v7 v8 (fun v0 v1 v2 v3 v4 v5 v6 v7 v8 => rec_ (h146_0_0  v0 v1 v2 v3 v4 v5 v6 v7 v8)) (fun y0 y1 y2 y3 y4 y5 y6 => K (.exit 0) (x146_0_0_k0  y0 y1 y2 y3 y4 y5 y6))).symm
theorem ro146_0_0 {β : Type} (N : Nat) (G : Nat)  (K : Exit → St → Option β) : ∀ (F : Nat) (v0 : Int) (v1 : Int) (v2 : Int) (v3 : Int) (v4 : Int) (v5 : Mp) (v6 : Mp) (v7 : Int) (v8 : Int), (lp Try.f146 0).rounds lay (E146 N G) (retMask Try.f146) F (h146_0_0  v0 v1 v2 v3 v4 v5 v6 v7 v8) K = impl_asker_left_l0 N (impl_asker_left_g0_f N G)  F v0 v1 v2 v3 v4 v5 v6 v7 v8 (fun y0 y1 y2 y3 y4 y5 y6 => K (.exit 0) (x146_0_0_k0  y0 y1 y2 y3 y4 y5 y6)) := by
  intro F
  induction F with
  | zero => intros; rfl
  | succ F ih =>
    intros
    rw [rounds_next]
    refine (st146_0_0 N G  _ _ _ _ _ _ _ _ _ (fun s => (lp Try.f146 0).rounds lay (E146 N G) (retMask Try.f146) F s K) K).trans ?_
    simp only [ih]
    rfl
theorem lk146_0 {β : Type} (N : Nat) (G : Nat) : lookL (E146 (β := β) N G).loops (lp Try.f146 0).id = LS146_0 N G := by kernel_rfl
theorem rk146_0 {β : Type} (N : Nat) (G : Nat) : RoundsOK lay (E146 (β := β) N G) (retMask Try.f146) (lp Try.f146 0) := by
  intro s K r h
  rw [lk146_0] at h
  unfold LS146_0 VLS146_0 at h
  cases hb : shpSt (h146_0_0 0 0 0 0 0 [] [] 0 0) s with
  | true =>
    rw [hb, cond_true] at h
    exact ⟨N, by rw [← shpSt_ref hb, fl146_0_0 s]; exact (ro146_0_0 N G  K N (intS (oneA (vT (nx tund s.tmps 7)))) (intS (oneA (vT (nx tund s.tmps 39)))) (intS (oneA (vT (nx tund s.tmps 40)))) (intS (nx .und (cellsB (nx .dead s.blks 0)) 0)) (intS (nx .und (cellsB (nx .dead s.blks 0)) 1)) (mpB (nx .dead s.blks 1)) (mpB (nx .dead s.blks 2)) (intS (nx .und (cellsB (nx .dead s.blks 3)) 0)) (intS (nx .und (cellsB (nx .dead s.blks 3)) 1))).trans h⟩
  | false =>
  rw [hb, cond_false] at h
  clear hb
  cases h
def BV_impl_asker_left_g0_b {β : Type} (N : Nat) (q_impl_Table_cube : (a0 : Int) → (a1 : Int) → (a2 : Int) → (a3 : Int) → (k : Int → Option β) → Option β) (q_impl_asker_left_l0 : (self : Int → Int → Int → Int → Mp → Mp → (Int → Int → Int → Mp → Mp → Option β) → Option β) → Nat → Int → Int → Int → Int → Int → Mp → Mp → Int → Int → (Int → Int → Int → Mp → Mp → Int → Int → Option β) → Option β) (self : Int → Int → Int → Int → Mp → Mp → (Int → Int → Int → Mp → Mp → Option β) → Option β) (a0 : Int) (a1 : Int) (a2 : Int) (a3 : Int) (a4 : Mp) (a5 : Mp) (k0 : Int → Int → Int → Mp → Mp → Option β) : Option β :=
(cond ((hasM ⟨true, false⟩ a4 a0 a1))
(k0 ((getM ⟨true, false⟩ a4 a0 a1)) a2 a3 a4 a5)
(q_impl_Table_cube a2 a3 a0 a1 fun r5 =>
(cond ((r5 == 2))
(q_impl_asker_left_l0 self  N a2 a2 0 a2 a3 a4 a5 a0 a1 (fun e12_0 e12_1 e12_2 e12_3 e12_4 e12_5 e12_6 =>
k0 e12_0 e12_1 e12_2 ((putM ⟨true, false⟩ e12_3 e12_5 e12_6 e12_0)) e12_4))
(k0 0 a2 a3 ((putM ⟨true, false⟩ a4 a0 a1 0)) a5))))
theorem t_impl_asker_left_g0_b {β : Type} (N : Nat) (self : Int → Int → Int → Int → Mp → Mp → (Int → Int → Int → Mp → Mp → Option β) → Option β) (a0 : Int) (a1 : Int) (a2 : Int) (a3 : Int) (a4 : Mp) (a5 : Mp) (k0 : Int → Int → Int → Mp → Mp → Option β) : impl_asker_left_g0_b N self a0 a1 a2 a3 a4 a5 k0 = BV_impl_asker_left_g0_b N (impl_Table_cube N) (impl_asker_left_l0 N) self a0 a1 a2 a3 a4 a5 k0 := by
  unfold impl_asker_left_g0_b BV_impl_asker_left_g0_b
  rfl
theorem ve146_0 {β : Type} (N : Nat) (q_impl_Table_cube : (a0 : Int) → (a1 : Int) → (a2 : Int) → (a3 : Int) → (k : Int → Option β) → Option β) (q_impl_known_with : (a0 : Int) → (a1 : Int) → (a2 : Int) → (a3 : Int) → (k : Int → Int → Option β) → Option β) (q_impl_asker_left_l0 : (self : Int → Int → Int → Int → Mp → Mp → (Int → Int → Int → Mp → Mp → Option β) → Option β) → Nat → Int → Int → Int → Int → Int → Mp → Mp → Int → Int → (Int → Int → Int → Mp → Mp → Int → Int → Option β) → Option β) (q_impl_asker_left_g0_f : Nat → Int → Int → Int → Int → Mp → Mp → (Int → Int → Int → Mp → Mp → Option β) → Option β) (G : Nat) (a0 : Int) (a1 : Int) (a2 : Int) (a3 : Int) (a4 : Mp) (a5 : Mp) (K : TV → List Blk → Option β) : evFnG lay (VE146 N q_impl_Table_cube q_impl_known_with q_impl_asker_left_l0 q_impl_asker_left_g0_f G) Try.f146 [.v (.one (.ptr 0 0)), .v (.agg [.int .i64 a0, .int .i64 a1])] [.pcells 0 117 [.int .i64 a2, .int .i64 a3, .mp 1, .mp 2], .pmp 1 ⟨true, false⟩ a4, .pmp 2 ⟨true, false⟩ a5] K = BV_impl_asker_left_g0_b N q_impl_Table_cube q_impl_asker_left_l0 (q_impl_asker_left_g0_f G) a0 a1 a2 a3 a4 a5 (fun y0 y1 y2 y3 y4 => K (.v (.one (.int .i64 y0))) [.pcells 0 117 [.int .i64 y1, .int .i64 y2, .mp 1, .mp 2], .pmp 1 ⟨true, false⟩ y3, .pmp 2 ⟨true, false⟩ y4]) := by kernel_rfl
theorem e146_0 {β : Type} (N : Nat) (G : Nat) (a0 : Int) (a1 : Int) (a2 : Int) (a3 : Int) (a4 : Mp) (a5 : Mp) (K : TV → List Blk → Option β) : evFnG lay (E146 N G) Try.f146 [.v (.one (.ptr 0 0)), .v (.agg [.int .i64 a0, .int .i64 a1])] [.pcells 0 117 [.int .i64 a2, .int .i64 a3, .mp 1, .mp 2], .pmp 1 ⟨true, false⟩ a4, .pmp 2 ⟨true, false⟩ a5] K = impl_asker_left_g0_f N (G + 1) a0 a1 a2 a3 a4 a5 (fun y0 y1 y2 y3 y4 => K (.v (.one (.int .i64 y0))) [.pcells 0 117 [.int .i64 y1, .int .i64 y2, .mp 1, .mp 2], .pmp 1 ⟨true, false⟩ y3, .pmp 2 ⟨true, false⟩ y4]) := (ve146_0 N (impl_Table_cube N) (impl_known_with N) (impl_asker_left_l0 N) (impl_asker_left_g0_f N) G a0 a1 a2 a3 a4 a5 K).trans (t_impl_asker_left_g0_b N (impl_asker_left_g0_f N G) a0 a1 a2 a3 a4 a5 (fun y0 y1 y2 y3 y4 => K (.v (.one (.int .i64 y0))) [.pcells 0 117 [.int .i64 y1, .int .i64 y2, .mp 1, .mp 2], .pmp 1 ⟨true, false⟩ y3, .pmp 2 ⟨true, false⟩ y4])).symm
theorem z146 {β : Type} (N : Nat) : ∀ args bl K r, SF146 (β := β) N 0 args bl K = some r → (none : Option β) = some r := by
  intro args bl K r h
  unfold SF146 VSF146 at h
  split at h <;> exact h
theorem of146 {β : Type} (N : Nat) : ∀ G, GOK (β := β) Try.prog 146 (SF146 N G) := by
  intro G
  induction G with
  | zero => exact g_zero Try.func146 (by kernel_rfl) (z146 N)
  | succ G ih =>
    refine g_of lay_ok mixed (E := E146 N G) (specs_loops (specs_cons (o156 N) (specs_cons (o157 N) specs_nil))) muts_nil (gs_cons ih gs_nil) Try.func146 (by kernel_rfl) 1 (by kernel_rfl) ⟨trivial, rk146_0 N G⟩ fun args bl K r h => ?_
    unfold SF146 VSF146 at h
    split at h
    · exact (e146_0 N G _ _ _ _ _ _ _).trans h
    · cases h
theorem o146 {β : Type} (N : Nat) : GOK (β := β) Try.prog 146 (S146 N) := of146 N N
def VS131 {β : Type} (N : Nat) (q_impl_LeastDepth : (a0 : Int) → (a1 : Int) → (k : Int → Option β) → Option β) : Rv.Spec β := fun args K => match args with
  | [.v (.agg [.int .i64 a0, .int .i64 a1])] => q_impl_LeastDepth a0 a1 (fun z2 => K (.v (.one (.int .i64 z2))))
  | _ => none
def S131 {β : Type} (N : Nat) : Rv.Spec β := VS131 N (impl_LeastDepth N)
def VE131 {β : Type} (N : Nat) (q_impl_isSmall : (a0 : Int) → (a1 : Int) → (a2 : Int) → (k : Bool → Option β) → Option β) (q_impl_Table_asking_g0 : (a0 : Int) → (a1 : Int) → (k0 : Int → Int → Mp → Mp → Option β) → Option β) (q_impl_asker_left_g0_f : Nat → Int → Int → Int → Int → Mp → Mp → (Int → Int → Int → Mp → Mp → Option β) → Option β) : Env β := ⟨[(81, VS81 N q_impl_isSmall)], [], [], [(145, VS145 N q_impl_Table_asking_g0), (146, VS146 N q_impl_asker_left_g0_f)]⟩
def E131 {β : Type} (N : Nat) : Env β := VE131 N (impl_isSmall N) (impl_Table_asking_g0 N) (impl_asker_left_g0_f N)
def BV_impl_LeastDepth {β : Type} (N : Nat) (q_impl_isSmall : (a0 : Int) → (a1 : Int) → (a2 : Int) → (k : Bool → Option β) → Option β) (q_impl_Table_asking_g0 : (a0 : Int) → (a1 : Int) → (k0 : Int → Int → Mp → Mp → Option β) → Option β) (q_impl_asker_left_g0_f : Nat → Int → Int → Int → Int → Mp → Mp → (Int → Int → Int → Mp → Mp → Option β) → Option β) (a0 : Int) (a1 : Int) (k : Int → Option β) : Option β :=
q_impl_isSmall a0 a1 4 fun r3 =>
(cond (!r3)
(k (-1))
(q_impl_Table_asking_g0 a0 a1 (fun r4_0 r4_1 r4_2 r4_3 =>
q_impl_asker_left_g0_f N 0 0 r4_0 r4_1 r4_2 r4_3 (fun r5_0 r5_1 r5_2 r5_3 r5_4 =>
k r5_0))))
theorem t_impl_LeastDepth {β : Type} (N : Nat) (a0 : Int) (a1 : Int) (k : Int → Option β) : impl_LeastDepth N a0 a1 k = BV_impl_LeastDepth N (impl_isSmall N) (impl_Table_asking_g0 N) (impl_asker_left_g0_f N) a0 a1 k := by
  unfold impl_LeastDepth BV_impl_LeastDepth
  rfl
theorem ve131_0 {β : Type} (N : Nat) (q_impl_isSmall : (a0 : Int) → (a1 : Int) → (a2 : Int) → (k : Bool → Option β) → Option β) (q_impl_Table_asking_g0 : (a0 : Int) → (a1 : Int) → (k0 : Int → Int → Mp → Mp → Option β) → Option β) (q_impl_asker_left_g0_f : Nat → Int → Int → Int → Int → Mp → Mp → (Int → Int → Int → Mp → Mp → Option β) → Option β)  (a0 : Int) (a1 : Int) (K : TV → Option β) : evFn lay (VE131 N q_impl_isSmall q_impl_Table_asking_g0 q_impl_asker_left_g0_f) Try.f131 [.v (.agg [.int .i64 a0, .int .i64 a1])] K = BV_impl_LeastDepth N q_impl_isSmall q_impl_Table_asking_g0 q_impl_asker_left_g0_f a0 a1 (fun z2 => K (.v (.one (.int .i64 z2)))) := by kernel_rfl
theorem e131_0 {β : Type} (N : Nat)  (a0 : Int) (a1 : Int) (K : TV → Option β) : evFn lay (E131 N) Try.f131 [.v (.agg [.int .i64 a0, .int .i64 a1])] K = impl_LeastDepth N a0 a1 (fun z2 => K (.v (.one (.int .i64 z2)))) := (ve131_0 N (impl_isSmall N) (impl_Table_asking_g0 N) (impl_asker_left_g0_f N) a0 a1 K).trans (t_impl_LeastDepth N a0 a1 (fun z2 => K (.v (.one (.int .i64 z2))))).symm
theorem o131 {β : Type} (N : Nat) : SpecOK (β := β) Try.prog 131 (S131 N) := by
  refine spec_of lay_ok mixed (E := E131 N) (specs_loops (specs_cons (o81 N) specs_nil)) muts_nil (gs_cons (o145 N) (gs_cons (o146 N) gs_nil)) Try.func131 (by kernel_rfl) 0 (by kernel_rfl) trivial fun args K r h => ?_
  unfold S131 VS131 at h
  split at h
  · exact (e131_0 N _ _ _).trans h
  · cases h
def VS147 {β : Type} (N : Nat) (q_impl_Table_coefficients : (a0 : Int) → (a1 : Int) → (k : List Int → Option β) → Option β) : Rv.Spec β := fun args K => match args with
  | [.v (.agg [.int .i64 a0, .int .i64 a1])] => q_impl_Table_coefficients a0 a1 (fun z2 => K (.v (.one (.sl 3 (.ints .i64 z2)))))
  | _ => none
def S147 {β : Type} (N : Nat) : Rv.Spec β := VS147 N (impl_Table_coefficients N)
def h147_0_0  (v0 : Int) (v1 : Int) (v2 : Int) (v3 : Int) (v4 : List Int) : St := ⟨.v (.one .und) :: .v (.one (.ptr 0 0)) :: .v (.one .und) :: .v (.one (.row 1)) :: .v (.one .und) :: .v (.one .und) :: .v (.one .und) :: .v (.one .und) :: .v (.one .und) :: .v (.one .und) :: .v (.one (.int .i64 v0)) :: .v (.one (.int .i64 v1)) :: .v (.one .und) :: .v (.one .und) :: .v (.one .und) :: .v (.one .und) :: .v (.one .und) :: .v (.one .und) :: .v (.one .und) :: .v (.one .und) :: .v (.one .und) :: .v (.one .und) :: .v (.one .und) :: .v (.one .und) :: .v (.one .und) :: .v (.one .und) :: .v (.one .und) :: .v (.one .und) :: .v (.one .und) :: .v (.one .und) :: .v (.one .und) :: .v (.one .und) :: .v (.one .und) :: .v (.one .und) :: .v (.one .und) :: .v (.one .und) :: .v (.one .und) :: .v (.one .und) :: .v (.one .und) :: .v (.one .und) :: .v (.one .und) :: .v (.one .und) :: .v (.one .und) :: .v (.one .und) :: .v (.one .und) :: .v (.one .und) :: .v (.one .und) :: .v (.one .und) :: .v (.one .und) :: .v (.one .und) :: .v (.one .und) :: .v (.one .und) :: [], [.cells 25 [.int .i64 v2, .int .i64 v3], .row 3 (.ints .i64 v4)]⟩
def x147_0_0_k0  (y0 : List Int) : St := ⟨.v (.one .und) :: .v (.one .und) :: .v (.one .und) :: .v (.one (.row 0)) :: .v (.one .und) :: .v (.one .und) :: .v (.one .und) :: .v (.one .und) :: .v (.one .und) :: .v (.one .und) :: .v (.one .und) :: .v (.one .und) :: .v (.one .und) :: .v (.one .und) :: .v (.one .und) :: .v (.one .und) :: .v (.one .und) :: .v (.one .und) :: .v (.one .und) :: .v (.one .und) :: .v (.one .und) :: .v (.one .und) :: .v (.one .und) :: .v (.one .und) :: .v (.one .und) :: .v (.one .und) :: .v (.one .und) :: .v (.one .und) :: .v (.one .und) :: .v (.one .und) :: .v (.one .und) :: .v (.one .und) :: .v (.one .und) :: .v (.one .und) :: .v (.one .und) :: .v (.one .und) :: .v (.one .und) :: .v (.one .und) :: .v (.one .und) :: .v (.one .und) :: .v (.one .und) :: .v (.one .und) :: .v (.one .und) :: .v (.one .und) :: .v (.one .und) :: .v (.one .und) :: .v (.one .und) :: .v (.one .und) :: .v (.one .und) :: .v (.one .und) :: .v (.one .und) :: .v (.one .und) :: [], [.row 3 (.ints .i64 y0)]⟩
def h147_1_0  (v0 : Int) (v1 : Int) (v2 : Int) (v3 : Int) (v4 : Int) (v5 : Int) (v6 : Int) (v7 : List Int) : St := ⟨.v (.one .und) :: .v (.one (.ptr 0 0)) :: .v (.one .und) :: .v (.one (.row 1)) :: .v (.one (.int .i64 v0)) :: .v (.one .und) :: .v (.one .und) :: .v (.one .und) :: .v (.one .und) :: .v (.one .und) :: .v (.one (.int .i64 v1)) :: .v (.one (.int .i64 v2)) :: .v (.one .und) :: .v (.one .und) :: .v (.one .und) :: .v (.one (.int .i64 v3)) :: .v (.one (.int .i64 v4)) :: .v (.one .und) :: .v (.one .und) :: .v (.one .und) :: .v (.one .und) :: .v (.one .und) :: .v (.one .und) :: .v (.one .und) :: .v (.one .und) :: .v (.one .und) :: .v (.one .und) :: .v (.one .und) :: .v (.one .und) :: .v (.one .und) :: .v (.one .und) :: .v (.one .und) :: .v (.one .und) :: .v (.one .und) :: .v (.one .und) :: .v (.one .und) :: .v (.one .und) :: .v (.one .und) :: .v (.one .und) :: .v (.one .und) :: .v (.one .und) :: .v (.one .und) :: .v (.one .und) :: .v (.one .und) :: .v (.one .und) :: .v (.one .und) :: .v (.one .und) :: .v (.one .und) :: .v (.one .und) :: .v (.one .und) :: .v (.one .und) :: .v (.one .und) :: [], [.cells 25 [.int .i64 v5, .int .i64 v6], .row 3 (.ints .i64 v7)]⟩
def x147_1_0_k0  (y0 : Int) (y1 : Int) (y2 : Int) (y3 : Int) (y4 : List Int) : St := ⟨.v (.one .und) :: .v (.one (.ptr 0 0)) :: .v (.one .und) :: .v (.one (.row 1)) :: .v (.one .und) :: .v (.one .und) :: .v (.one .und) :: .v (.one .und) :: .v (.one .und) :: .v (.one .und) :: .v (.one (.int .i64 y0)) :: .v (.one (.int .i64 y1)) :: .v (.one .und) :: .v (.one .und) :: .v (.one .und) :: .v (.one .und) :: .v (.one .und) :: .v (.one .und) :: .v (.one .und) :: .v (.one .und) :: .v (.one .und) :: .v (.one .und) :: .v (.one .und) :: .v (.one .und) :: .v (.one .und) :: .v (.one .und) :: .v (.one .und) :: .v (.one .und) :: .v (.one .und) :: .v (.one .und) :: .v (.one .und) :: .v (.one .und) :: .v (.one .und) :: .v (.one .und) :: .v (.one .und) :: .v (.one .und) :: .v (.one .und) :: .v (.one .und) :: .v (.one .und) :: .v (.one .und) :: .v (.one .und) :: .v (.one .und) :: .v (.one .und) :: .v (.one .und) :: .v (.one .und) :: .v (.one .und) :: .v (.one .und) :: .v (.one .und) :: .v (.one .und) :: .v (.one .und) :: .v (.one .und) :: .v (.one .und) :: [], [.cells 25 [.int .i64 y2, .int .i64 y3], .row 3 (.ints .i64 y4)]⟩
theorem fl147_0_0 (s : St) : refSt (h147_0_0 0 0 0 0 []) s = h147_0_0 (intS (oneA (vT (nx tund s.tmps 10)))) (intS (oneA (vT (nx tund s.tmps 11)))) (intS (nx .und (cellsB (nx .dead s.blks 0)) 0)) (intS (nx .und (cellsB (nx .dead s.blks 0)) 1)) (rInts (rowB_ (nx .dead s.blks 1))) := by kernel_rfl
def VLS147_0 {β : Type} (N : Nat) (q_impl_Table_coefficients_l0 : Nat → Int → Int → Int → Int → List Int → (List Int → Option β) → Option β) : LSpec β := fun s K => cond (shpSt (h147_0_0 0 0 0 0 []) s) ((fun (v0 : Int) (v1 : Int) (v2 : Int) (v3 : Int) (v4 : List Int) => q_impl_Table_coefficients_l0  N v0 v1 v2 v3 v4 (fun y0 => K (.exit 0) (x147_0_0_k0  y0))) (intS (oneA (vT (nx tund s.tmps 10)))) (intS (oneA (vT (nx tund s.tmps 11)))) (intS (nx .und (cellsB (nx .dead s.blks 0)) 0)) (intS (nx .und (cellsB (nx .dead s.blks 0)) 1)) (rInts (rowB_ (nx .dead s.blks 1)))) (none)
def LS147_0 {β : Type} (N : Nat) : LSpec β := VLS147_0 N (impl_Table_coefficients_l0 N)
theorem fl147_1_0 (s : St) : refSt (h147_1_0 0 0 0 0 0 0 0 []) s = h147_1_0 (intS (oneA (vT (nx tund s.tmps 4)))) (intS (oneA (vT (nx tund s.tmps 10)))) (intS (oneA (vT (nx tund s.tmps 11)))) (intS (oneA (vT (nx tund s.tmps 15)))) (intS (oneA (vT (nx tund s.tmps 16)))) (intS (nx .und (cellsB (nx .dead s.blks 0)) 0)) (intS (nx .und (cellsB (nx .dead s.blks 0)) 1)) (rInts (rowB_ (nx .dead s.blks 1))) := by kernel_rfl
def VLS147_2 {β : Type} (N : Nat) (q_impl_Table_coefficients_l2 : Nat → Int → Int → Int → Int → Int → Int → Int → List Int → (Int → Int → Int → Int → List Int → Option β) → Option β) : LSpec β := fun s K => cond (shpSt (h147_1_0 0 0 0 0 0 0 0 []) s) ((fun (v0 : Int) (v1 : Int) (v2 : Int) (v3 : Int) (v4 : Int) (v5 : Int) (v6 : Int) (v7 : List Int) => q_impl_Table_coefficients_l2  N v0 v1 v2 v3 v4 v5 v6 v7 (fun y0 y1 y2 y3 y4 => K (.exit 2) (x147_1_0_k0  y0 y1 y2 y3 y4))) (intS (oneA (vT (nx tund s.tmps 4)))) (intS (oneA (vT (nx tund s.tmps 10)))) (intS (oneA (vT (nx tund s.tmps 11)))) (intS (oneA (vT (nx tund s.tmps 15)))) (intS (oneA (vT (nx tund s.tmps 16)))) (intS (nx .und (cellsB (nx .dead s.blks 0)) 0)) (intS (nx .und (cellsB (nx .dead s.blks 0)) 1)) (rInts (rowB_ (nx .dead s.blks 1)))) (none)
def LS147_2 {β : Type} (N : Nat) : LSpec β := VLS147_2 N (impl_Table_coefficients_l2 N)
def VE147 {β : Type} (N : Nat) (q_impl_Table_size : (a0 : Int) → (a1 : Int) → (k : Int → Option β) → Option β) (q_impl_ones : (a0 : Int) → (k : Int → Option β) → Option β) (q_impl_Table_at : (a0 : Int) → (a1 : Int) → (a2 : Int) → (k : Int → Option β) → Option β) (q_impl_Table_coefficients_l0 : Nat → Int → Int → Int → Int → List Int → (List Int → Option β) → Option β) (q_impl_Table_coefficients_l2 : Nat → Int → Int → Int → Int → Int → Int → Int → List Int → (Int → Int → Int → Int → List Int → Option β) → Option β) : Env β := ⟨[(82, VS82 N q_impl_Table_size), (64, VS64 N q_impl_ones), (120, VS120 N q_impl_Table_at)], [], [(0, VLS147_0 N q_impl_Table_coefficients_l0), (2, VLS147_2 N q_impl_Table_coefficients_l2)], []⟩
def E147 {β : Type} (N : Nat) : Env β := VE147 N (impl_Table_size N) (impl_ones N) (impl_Table_at N) (impl_Table_coefficients_l0 N) (impl_Table_coefficients_l2 N)
def BV_impl_Table_coefficients_l0b {β : Type} (N : Nat) (q_impl_Table_size : (a0 : Int) → (a1 : Int) → (k : Int → Option β) → Option β) (q_impl_Table_coefficients_l2 : Nat → Int → Int → Int → Int → Int → Int → Int → List Int → (Int → Int → Int → Int → List Int → Option β) → Option β)  (v0 : Int) (v1 : Int) (v2 : Int) (v3 : Int) (v4 : List Int) (rec_ : Int → Int → Int → Int → List Int → Option β) (k0 : List Int → Option β) : Option β :=
(cond ((decide (v1 < v0)))
(q_impl_Table_size v2 v3 fun r4 =>
q_impl_Table_coefficients_l2  N v1 v0 v1 r4 0 v2 v3 v4 (fun e8_0 e8_1 e8_2 e8_3 e8_4 =>
rec_ e8_0 ((w64 (e8_1 + 1))) e8_2 e8_3 e8_4))
(k0 v4))
theorem t_impl_Table_coefficients_l0b {β : Type} (N : Nat)  (v0 : Int) (v1 : Int) (v2 : Int) (v3 : Int) (v4 : List Int) (rec_ : Int → Int → Int → Int → List Int → Option β) (k0 : List Int → Option β) : impl_Table_coefficients_l0b N v0 v1 v2 v3 v4 rec_ k0 = BV_impl_Table_coefficients_l0b N (impl_Table_size N) (impl_Table_coefficients_l2 N) v0 v1 v2 v3 v4 rec_ k0 := by
  unfold impl_Table_coefficients_l0b BV_impl_Table_coefficients_l0b
  rfl
theorem vst147_0_0 {β : Type} (N : Nat) (q_impl_Table_size : (a0 : Int) → (a1 : Int) → (k : Int → Option β) → Option β) (q_impl_ones : (a0 : Int) → (k : Int → Option β) → Option β) (q_impl_Table_at : (a0 : Int) → (a1 : Int) → (a2 : Int) → (k : Int → Option β) → Option β) (q_impl_Table_coefficients_l0 : Nat → Int → Int → Int → Int → List Int → (List Int → Option β) → Option β) (q_impl_Table_coefficients_l2 : Nat → Int → Int → Int → Int → Int → Int → Int → List Int → (Int → Int → Int → Int → List Int → Option β) → Option β)  (v0 : Int) (v1 : Int) (v2 : Int) (v3 : Int) (v4 : List Int) (rec_ : St → Option β) (K : Exit → St → Option β) :
    ev lay (VE147 N q_impl_Table_size q_impl_ones q_impl_Table_at q_impl_Table_coefficients_l0 q_impl_Table_coefficients_l2) (retMask Try.f147) (lp Try.f147 0).body (lp Try.f147 0).ex ((lp Try.f147 0).lv (retMask Try.f147)) (h147_0_0  v0 v1 v2 v3 v4) (nextR (fun s' => rec_ (s'.tidy ((lp Try.f147 0).lv (retMask Try.f147)))) K) = BV_impl_Table_coefficients_l0b N q_impl_Table_size q_impl_Table_coefficients_l2  v0 v1 v2 v3 v4 (fun v0 v1 v2 v3 v4 => rec_ (h147_0_0  v0 v1 v2 v3 v4)) (fun y0 => K (.exit 0) (x147_0_0_k0  y0)) := by kernel_rfl
theorem st147_0_0 {β : Type} (N : Nat)  (v0 : Int) (v1 : Int) (v2 : Int) (v3 : Int) (v4 : List Int) (rec_ : St → Option β) (K : Exit → St → Option β) :
    ev lay (E147 N) (retMask Try.f147) (lp Try.f147 0).body (lp Try.f147 0).ex ((lp Try.f147 0).lv (retMask Try.f147)) (h147_0_0  v0 v1 v2 v3 v4) (nextR (fun s' => rec_ (s'.tidy ((lp Try.f147 0).lv (retMask Try.f147)))) K) = impl_Table_coefficients_l0b N  v0 v1 v2 v3 v4 (fun v0 v1 v2 v3 v4 => rec_ (h147_0_0  v0 v1 v2 v3 v4)) (fun y0 => K (.exit 0) (x147_0_0_k0  y0)) := (vst147_0_0 N (impl_Table_size N) (impl_ones N) (impl_Table_at N) (impl_Table_coefficients_l0 N) (impl_Table_coefficients_l2 N) v0 v1 v2 v3 v4 rec_ K).trans (t_impl_Table_coefficients_l0b N  v0 v1 v2 v3 v4 (fun v0 v1 v2 v3 v4 => rec_ (h147_0_0  v0 v1 v2 v3 v4)) (fun y0 => K (.exit 0) (x147_0_0_k0  y0))).symm
theorem ro147_0_0 {β : Type} (N : Nat)  (K : Exit → St → Option β) : ∀ (F : Nat) (v0 : Int) (v1 : Int) (v2 : Int) (v3 : Int) (v4 : List Int), (lp Try.f147 0).rounds lay (E147 N) (retMask Try.f147) F (h147_0_0  v0 v1 v2 v3 v4) K = impl_Table_coefficients_l0 N  F v0 v1 v2 v3 v4 (fun y0 => K (.exit 0) (x147_0_0_k0  y0)) := by
  intro F
  induction F with
  | zero => intros; rfl
  | succ F ih =>
    intros
    rw [rounds_next]
    refine (st147_0_0 N  _ _ _ _ _ (fun s => (lp Try.f147 0).rounds lay (E147 N) (retMask Try.f147) F s K) K).trans ?_
    simp only [ih]
    rfl
theorem lk147_0 {β : Type} (N : Nat) : lookL (E147 (β := β) N).loops (lp Try.f147 0).id = LS147_0 N := by kernel_rfl
theorem rk147_0 {β : Type} (N : Nat) : RoundsOK lay (E147 (β := β) N) (retMask Try.f147) (lp Try.f147 0) := by
  intro s K r h
  rw [lk147_0] at h
  unfold LS147_0 VLS147_0 at h
  cases hb : shpSt (h147_0_0 0 0 0 0 []) s with
  | true =>
    rw [hb, cond_true] at h
    exact ⟨N, by rw [← shpSt_ref hb, fl147_0_0 s]; exact (ro147_0_0 N  K N (intS (oneA (vT (nx tund s.tmps 10)))) (intS (oneA (vT (nx tund s.tmps 11)))) (intS (nx .und (cellsB (nx .dead s.blks 0)) 0)) (intS (nx .und (cellsB (nx .dead s.blks 0)) 1)) (rInts (rowB_ (nx .dead s.blks 1)))).trans h⟩
  | false =>
  rw [hb, cond_false] at h
  clear hb
  cases h
def BV_impl_Table_coefficients_l2b {β : Type} (N : Nat) (q_impl_ones : (a0 : Int) → (k : Int → Option β) → Option β) (q_impl_Table_at : (a0 : Int) → (a1 : Int) → (a2 : Int) → (k : Int → Option β) → Option β)  (v0 : Int) (v1 : Int) (v2 : Int) (v3 : Int) (v4 : Int) (v5 : Int) (v6 : Int) (v7 : List Int) (rec_ : Int → Int → Int → Int → Int → Int → Int → List Int → Option β) (k0 : Int → Int → Int → Int → List Int → Option β) : Option β :=
(cond ((decide (v4 < v3)))
((cond (((bits .andNot .i64 v4 v0) != 0))
(rec_ v0 v1 v2 v3 ((w64 (v4 + 1))) v5 v6 v7)
(q_impl_ones ((bits .xor .i64 v0 v4)) fun r5 =>
(cond (((remI r5 2) == 0))
((gd ((decide (0 ≤ v0)))
((gd ((decide (v0 < (v7.length : Int))))
(q_impl_Table_at v5 v6 v4 fun r6 =>
(gd ((decide (0 ≤ v0)))
((gd ((decide (v0 < (v7.length : Int))))
(rec_ v0 v1 v2 v3 ((w64 (v4 + 1))) v5 v6 ((wr v7 v0 (w64 ((rd 0 v7 v0) + r6)))))))))))))
((gd ((decide (0 ≤ v0)))
((gd ((decide (v0 < (v7.length : Int))))
(q_impl_Table_at v5 v6 v4 fun r7 =>
(gd ((decide (0 ≤ v0)))
((gd ((decide (v0 < (v7.length : Int))))
(rec_ v0 v1 v2 v3 ((w64 (v4 + 1))) v5 v6 ((wr v7 v0 (w64 ((rd 0 v7 v0) - r7)))))))))))))))))
(k0 v1 v2 v5 v6 v7))
theorem t_impl_Table_coefficients_l2b {β : Type} (N : Nat)  (v0 : Int) (v1 : Int) (v2 : Int) (v3 : Int) (v4 : Int) (v5 : Int) (v6 : Int) (v7 : List Int) (rec_ : Int → Int → Int → Int → Int → Int → Int → List Int → Option β) (k0 : Int → Int → Int → Int → List Int → Option β) : impl_Table_coefficients_l2b N v0 v1 v2 v3 v4 v5 v6 v7 rec_ k0 = BV_impl_Table_coefficients_l2b N (impl_ones N) (impl_Table_at N) v0 v1 v2 v3 v4 v5 v6 v7 rec_ k0 := by
  unfold impl_Table_coefficients_l2b BV_impl_Table_coefficients_l2b
  rfl
theorem vst147_1_0 {β : Type} (N : Nat) (q_impl_Table_size : (a0 : Int) → (a1 : Int) → (k : Int → Option β) → Option β) (q_impl_ones : (a0 : Int) → (k : Int → Option β) → Option β) (q_impl_Table_at : (a0 : Int) → (a1 : Int) → (a2 : Int) → (k : Int → Option β) → Option β) (q_impl_Table_coefficients_l0 : Nat → Int → Int → Int → Int → List Int → (List Int → Option β) → Option β) (q_impl_Table_coefficients_l2 : Nat → Int → Int → Int → Int → Int → Int → Int → List Int → (Int → Int → Int → Int → List Int → Option β) → Option β)  (v0 : Int) (v1 : Int) (v2 : Int) (v3 : Int) (v4 : Int) (v5 : Int) (v6 : Int) (v7 : List Int) (rec_ : St → Option β) (K : Exit → St → Option β) :
    ev lay (VE147 N q_impl_Table_size q_impl_ones q_impl_Table_at q_impl_Table_coefficients_l0 q_impl_Table_coefficients_l2) (retMask Try.f147) (lp Try.f147 1).body (lp Try.f147 1).ex ((lp Try.f147 1).lv (retMask Try.f147)) (h147_1_0  v0 v1 v2 v3 v4 v5 v6 v7) (nextR (fun s' => rec_ (s'.tidy ((lp Try.f147 1).lv (retMask Try.f147)))) K) = BV_impl_Table_coefficients_l2b N q_impl_ones q_impl_Table_at  v0 v1 v2 v3 v4 v5 v6 v7 (fun v0 v1 v2 v3 v4 v5 v6 v7 => rec_ (h147_1_0  v0 v1 v2 v3 v4 v5 v6 v7)) (fun y0 y1 y2 y3 y4 => K (.exit 2) (x147_1_0_k0  y0 y1 y2 y3 y4)) := by kernel_rfl
theorem st147_1_0 {β : Type} (N : Nat)  (v0 : Int) (v1 : Int) (v2 : Int) (v3 : Int) (v4 : Int) (v5 : Int) (v6 : Int) (v7 : List Int) (rec_ : St → Option β) (K : Exit → St → Option β) :
    ev lay (E147 N) (retMask Try.f147) (lp Try.f147 1).body (lp Try.f147 1).ex ((lp Try.f147 1).lv (retMask Try.f147)) (h147_1_0  v0 v1 v2 v3 v4 v5 v6 v7) (nextR (fun s' => rec_ (s'.tidy ((lp Try.f147 1).lv (retMask Try.f147)))) K) = impl_Table_coefficients_l2b N  v0 v1 v2 v3 v4 v5 v6 v7 (fun v0 v1 v2 v3 v4 v5 v6 v7 => rec_ (h147_1_0  v0 v1 v2 v3 v4 v5 v6 v7)) (fun y0 y1 y2 y3 y4 => K (.exit 2) (x147_1_0_k0  y0 y1 y2 y3 y4)) := (vst147_1_0 N (impl_Table_size N) (impl_ones N) (impl_Table_at N) (impl_Table_coefficients_l0 N) (impl_Table_coefficients_l2 N) v0 v1 v2 v3 v4 v5 v6 v7 rec_ K).trans (t_impl_Table_coefficients_l2b N  v0 v1 v2 v3 v4 v5 v6 v7 (fun v0 v1 v2 v3 v4 v5 v6 v7 => rec_ (h147_1_0  v0 v1 v2 v3 v4 v5 v6 v7)) (fun y0 y1 y2 y3 y4 => K (.exit 2) (x147_1_0_k0  y0 y1 y2 y3 y4))).symm
theorem ro147_1_0 {β : Type} (N : Nat)  (K : Exit → St → Option β) : ∀ (F : Nat) (v0 : Int) (v1 : Int) (v2 : Int) (v3 : Int) (v4 : Int) (v5 : Int) (v6 : Int) (v7 : List Int), (lp Try.f147 1).rounds lay (E147 N) (retMask Try.f147) F (h147_1_0  v0 v1 v2 v3 v4 v5 v6 v7) K = impl_Table_coefficients_l2 N  F v0 v1 v2 v3 v4 v5 v6 v7 (fun y0 y1 y2 y3 y4 => K (.exit 2) (x147_1_0_k0  y0 y1 y2 y3 y4)) := by
  intro F
  induction F with
  | zero => intros; rfl
  | succ F ih =>
    intros
    rw [rounds_next]
    refine (st147_1_0 N  _ _ _ _ _ _ _ _ (fun s => (lp Try.f147 1).rounds lay (E147 N) (retMask Try.f147) F s K) K).trans ?_
    simp only [ih]
    rfl
theorem lk147_2 {β : Type} (N : Nat) : lookL (E147 (β := β) N).loops (lp Try.f147 1).id = LS147_2 N := by kernel_rfl
theorem rk147_2 {β : Type} (N : Nat) : RoundsOK lay (E147 (β := β) N) (retMask Try.f147) (lp Try.f147 1) := by
  intro s K r h
  rw [lk147_2] at h
  unfold LS147_2 VLS147_2 at h
  cases hb : shpSt (h147_1_0 0 0 0 0 0 0 0 []) s with
  | true =>
    rw [hb, cond_true] at h
    exact ⟨N, by rw [← shpSt_ref hb, fl147_1_0 s]; exact (ro147_1_0 N  K N (intS (oneA (vT (nx tund s.tmps 4)))) (intS (oneA (vT (nx tund s.tmps 10)))) (intS (oneA (vT (nx tund s.tmps 11)))) (intS (oneA (vT (nx tund s.tmps 15)))) (intS (oneA (vT (nx tund s.tmps 16)))) (intS (nx .und (cellsB (nx .dead s.blks 0)) 0)) (intS (nx .und (cellsB (nx .dead s.blks 0)) 1)) (rInts (rowB_ (nx .dead s.blks 1)))).trans h⟩
  | false =>
  rw [hb, cond_false] at h
  clear hb
  cases h
def BV_impl_Table_coefficients {β : Type} (N : Nat) (q_impl_Table_size : (a0 : Int) → (a1 : Int) → (k : Int → Option β) → Option β) (q_impl_Table_coefficients_l0 : Nat → Int → Int → Int → Int → List Int → (List Int → Option β) → Option β) (a0 : Int) (a1 : Int) (k : List Int → Option β) : Option β :=
q_impl_Table_size a0 a1 fun r3 =>
(gd ((decide (0 ≤ r3)))
((gd ((decide (r3 ≤ r3)))
((gd ((decide (8 * r3 ≤ 281474976710656)))
(q_impl_Table_coefficients_l0  N ((((List.replicate (Int.toNat r3) (0 : Int))).length : Int)) 0 a0 a1 ((List.replicate (Int.toNat r3) (0 : Int))) (fun e9_0 =>
k e9_0)))))))
theorem t_impl_Table_coefficients {β : Type} (N : Nat) (a0 : Int) (a1 : Int) (k : List Int → Option β) : impl_Table_coefficients N a0 a1 k = BV_impl_Table_coefficients N (impl_Table_size N) (impl_Table_coefficients_l0 N) a0 a1 k := by
  unfold impl_Table_coefficients BV_impl_Table_coefficients
  rfl
theorem ve147_0 {β : Type} (N : Nat) (q_impl_Table_size : (a0 : Int) → (a1 : Int) → (k : Int → Option β) → Option β) (q_impl_ones : (a0 : Int) → (k : Int → Option β) → Option β) (q_impl_Table_at : (a0 : Int) → (a1 : Int) → (a2 : Int) → (k : Int → Option β) → Option β) (q_impl_Table_coefficients_l0 : Nat → Int → Int → Int → Int → List Int → (List Int → Option β) → Option β) (q_impl_Table_coefficients_l2 : Nat → Int → Int → Int → Int → Int → Int → Int → List Int → (Int → Int → Int → Int → List Int → Option β) → Option β)  (a0 : Int) (a1 : Int) (K : TV → Option β) : evFn lay (VE147 N q_impl_Table_size q_impl_ones q_impl_Table_at q_impl_Table_coefficients_l0 q_impl_Table_coefficients_l2) Try.f147 [.v (.agg [.int .i64 a0, .int .i64 a1])] K = BV_impl_Table_coefficients N q_impl_Table_size q_impl_Table_coefficients_l0 a0 a1 (fun z2 => K (.v (.one (.sl 3 (.ints .i64 z2))))) := by kernel_rfl
theorem e147_0 {β : Type} (N : Nat)  (a0 : Int) (a1 : Int) (K : TV → Option β) : evFn lay (E147 N) Try.f147 [.v (.agg [.int .i64 a0, .int .i64 a1])] K = impl_Table_coefficients N a0 a1 (fun z2 => K (.v (.one (.sl 3 (.ints .i64 z2))))) := (ve147_0 N (impl_Table_size N) (impl_ones N) (impl_Table_at N) (impl_Table_coefficients_l0 N) (impl_Table_coefficients_l2 N) a0 a1 K).trans (t_impl_Table_coefficients N a0 a1 (fun z2 => K (.v (.one (.sl 3 (.ints .i64 z2)))))).symm
theorem o147 {β : Type} (N : Nat) : SpecOK (β := β) Try.prog 147 (S147 N) := by
  refine spec_of lay_ok mixed (E := E147 N) (specs_loops (specs_cons (o82 N) (specs_cons (o64 N) (specs_cons (o120 N) specs_nil)))) muts_nil gs_nil Try.func147 (by kernel_rfl) 2 (by kernel_rfl) ⟨⟨trivial, rk147_0 N⟩, rk147_2 N⟩ fun args K r h => ?_
  unfold S147 VS147 at h
  split at h
  · exact (e147_0 N _ _ _).trans h
  · cases h
def VS149 {β : Type} (N : Nat) (q_impl_RealDegree_1 : (a0 : Int) → (c0 : List Int) → (k : Bool → Option β) → Option β) : Rv.Spec β := fun args K => match args with
  | [.v (.one (.int .i64 a0)), .v (.one (.cref [.sl 3 (.ints .i64 c0)] 0))] => q_impl_RealDegree_1 a0 c0 (fun z1 => K (.v (.one (.bool z1))))
  | _ => none
def S149 {β : Type} (N : Nat) : Rv.Spec β := VS149 N (impl_RealDegree_1 N)
def VE149 {β : Type} (N : Nat) : Env β := ⟨[], [], [], []⟩
def E149 {β : Type} (N : Nat) : Env β := VE149 N
def BV_impl_RealDegree_1 {β : Type} (N : Nat) (a0 : Int) (c0 : List Int) (k : Bool → Option β) : Option β :=
(gd ((decide (0 ≤ a0)))
((gd ((decide (a0 < (c0.length : Int))))
(k (((rd 0 c0 a0) != 0))))))
theorem t_impl_RealDegree_1 {β : Type} (N : Nat) (a0 : Int) (c0 : List Int) (k : Bool → Option β) : impl_RealDegree_1 N a0 c0 k = BV_impl_RealDegree_1 N a0 c0 k := by
  unfold impl_RealDegree_1 BV_impl_RealDegree_1
  rfl
theorem ve149_0 {β : Type} (N : Nat)  (a0 : Int) (c0 : List Int) (K : TV → Option β) : evFn lay (VE149 N) Try.f149 [.v (.one (.int .i64 a0)), .v (.one (.cref [.sl 3 (.ints .i64 c0)] 0))] K = BV_impl_RealDegree_1 N a0 c0 (fun z1 => K (.v (.one (.bool z1)))) := by kernel_rfl
theorem e149_0 {β : Type} (N : Nat)  (a0 : Int) (c0 : List Int) (K : TV → Option β) : evFn lay (E149 N) Try.f149 [.v (.one (.int .i64 a0)), .v (.one (.cref [.sl 3 (.ints .i64 c0)] 0))] K = impl_RealDegree_1 N a0 c0 (fun z1 => K (.v (.one (.bool z1)))) := (ve149_0 N a0 c0 K).trans (t_impl_RealDegree_1 N a0 c0 (fun z1 => K (.v (.one (.bool z1))))).symm
theorem o149 {β : Type} (N : Nat) : SpecOK (β := β) Try.prog 149 (S149 N) := by
  refine spec_of lay_ok mixed (E := E149 N) (specs_loops specs_nil) muts_nil gs_nil Try.func149 (by kernel_rfl) 0 (by kernel_rfl) trivial fun args K r h => ?_
  unfold S149 VS149 at h
  split at h
  · exact (e149_0 N _ _ _).trans h
  · cases h
def VS151 {β : Type} (N : Nat) (q_impl_DegreeMod2_1 : (a0 : Int) → (c0 : Int) → (c1 : Int) → (k : Bool → Option β) → Option β) : Rv.Spec β := fun args K => match args with
  | [.v (.one (.int .i64 a0)), .v (.one (.cref [.int .i64 c0, .int .i64 c1] 0))] => q_impl_DegreeMod2_1 a0 c0 c1 (fun z1 => K (.v (.one (.bool z1))))
  | _ => none
def S151 {β : Type} (N : Nat) : Rv.Spec β := VS151 N (impl_DegreeMod2_1 N)
def VE151 {β : Type} (N : Nat) (q_impl_Table_at : (a0 : Int) → (a1 : Int) → (a2 : Int) → (k : Int → Option β) → Option β) : Env β := ⟨[(120, VS120 N q_impl_Table_at)], [], [], []⟩
def E151 {β : Type} (N : Nat) : Env β := VE151 N (impl_Table_at N)
def BV_impl_DegreeMod2_1 {β : Type} (N : Nat) (q_impl_Table_at : (a0 : Int) → (a1 : Int) → (a2 : Int) → (k : Int → Option β) → Option β) (a0 : Int) (c0 : Int) (c1 : Int) (k : Bool → Option β) : Option β :=
q_impl_Table_at c0 c1 a0 fun r2 =>
k ((r2 == 1))
theorem t_impl_DegreeMod2_1 {β : Type} (N : Nat) (a0 : Int) (c0 : Int) (c1 : Int) (k : Bool → Option β) : impl_DegreeMod2_1 N a0 c0 c1 k = BV_impl_DegreeMod2_1 N (impl_Table_at N) a0 c0 c1 k := by
  unfold impl_DegreeMod2_1 BV_impl_DegreeMod2_1
  rfl
theorem ve151_0 {β : Type} (N : Nat) (q_impl_Table_at : (a0 : Int) → (a1 : Int) → (a2 : Int) → (k : Int → Option β) → Option β)  (a0 : Int) (c0 : Int) (c1 : Int) (K : TV → Option β) : evFn lay (VE151 N q_impl_Table_at) Try.f151 [.v (.one (.int .i64 a0)), .v (.one (.cref [.int .i64 c0, .int .i64 c1] 0))] K = BV_impl_DegreeMod2_1 N q_impl_Table_at a0 c0 c1 (fun z1 => K (.v (.one (.bool z1)))) := by kernel_rfl
theorem e151_0 {β : Type} (N : Nat)  (a0 : Int) (c0 : Int) (c1 : Int) (K : TV → Option β) : evFn lay (E151 N) Try.f151 [.v (.one (.int .i64 a0)), .v (.one (.cref [.int .i64 c0, .int .i64 c1] 0))] K = impl_DegreeMod2_1 N a0 c0 c1 (fun z1 => K (.v (.one (.bool z1)))) := (ve151_0 N (impl_Table_at N) a0 c0 c1 K).trans (t_impl_DegreeMod2_1 N a0 c0 c1 (fun z1 => K (.v (.one (.bool z1))))).symm
theorem o151 {β : Type} (N : Nat) : SpecOK (β := β) Try.prog 151 (S151 N) := by
  refine spec_of lay_ok mixed (E := E151 N) (specs_loops (specs_cons (o120 N) specs_nil)) muts_nil gs_nil Try.func151 (by kernel_rfl) 0 (by kernel_rfl) trivial fun args K r h => ?_
  unfold S151 VS151 at h
  split at h
  · exact (e151_0 N _ _ _ _).trans h
  · cases h
end Go.Proofs.Ytdkjnadhgdneaaa
