/- The functions that the claims reach answer as their texts do. -/
import Derived.Test.YtfdggelojmofmaaDoorE3
namespace Go.Proofs.YtfdggelojmofmaaDoor
open Go.Rv
set_option maxRecDepth 100000
set_option maxHeartbeats 2000000
set_option linter.unusedVariables false
def VS99 {β : Type} (N : Nat) (zq66 : (a0 : Int) → (a1 : Int) → (a2 : Int) → (k : List Int → Option β) → Option β) : Rv.Spec β := fun args K => match args with
  | [.v (.agg [.int .i64 a0, .int .i64 a1]), .v (.one (.int .i64 a2))] => zq66 a0 a1 a2 (fun z3 => K (.v (.one (.sl 3 (.ints .i64 z3)))))
  | _ => none
def S99 {β : Type} (N : Nat) : Rv.Spec β := VS99 N (zj66 N)
def h99_0_0  (v0 : Int) (v1 : Int) (v2 : Int) (v3 : Int) (v4 : Int) (v5 : List Int) : St := ⟨tund :: .v (.one (.int .i64 v0)) :: .v (.one (.ptr 0 0)) :: tund :: tund :: .v (.one (.row 1)) :: tund :: tund :: tund :: tund :: tund :: .v (.one (.int .i64 v1)) :: .v (.one (.int .i64 v2)) :: tund :: tund :: tund :: tund :: tund :: tund :: tund :: tund :: tund :: tund :: tund :: tund :: tund :: tund :: tund :: tund :: tund :: tund :: tund :: tund :: tund :: [], [.cells 24 [.int .i64 v3, .int .i64 v4], .row 3 (.ints .i64 v5)]⟩
def x99_0_0_k0  (y0 : List Int) : St := ⟨tund :: tund :: tund :: tund :: tund :: .v (.one (.row 0)) :: tund :: tund :: tund :: tund :: tund :: tund :: tund :: tund :: tund :: tund :: tund :: tund :: tund :: tund :: tund :: tund :: tund :: tund :: tund :: tund :: tund :: tund :: tund :: tund :: tund :: tund :: tund :: tund :: [], [.row 3 (.ints .i64 y0)]⟩
theorem fl99_0_0 (s : St) : refSt (h99_0_0 0 0 0 0 0 []) s = h99_0_0 (intS (oneA (vT (nx tund s.tmps 1)))) (intS (oneA (vT (nx tund s.tmps 11)))) (intS (oneA (vT (nx tund s.tmps 12)))) (intS (nx .und (cellsB (nx .dead s.blks 0)) 0)) (intS (nx .und (cellsB (nx .dead s.blks 0)) 1)) (rInts (rowB_ (nx .dead s.blks 1))) := by kernel_rfl
def VLS99_0 {β : Type} (N : Nat) (zq65 : Nat → Int → Int → Int → Int → Int → List Int → (List Int → Option β) → Option β) : LSpec β := fun s K => cond (shpSt (h99_0_0 0 0 0 0 0 []) s) ((fun (v0 : Int) (v1 : Int) (v2 : Int) (v3 : Int) (v4 : Int) (v5 : List Int) => zq65  N v0 v1 v2 v3 v4 v5 (fun y0 => K (.exit 0) (x99_0_0_k0  y0))) (intS (oneA (vT (nx tund s.tmps 1)))) (intS (oneA (vT (nx tund s.tmps 11)))) (intS (oneA (vT (nx tund s.tmps 12)))) (intS (nx .und (cellsB (nx .dead s.blks 0)) 0)) (intS (nx .und (cellsB (nx .dead s.blks 0)) 1)) (rInts (rowB_ (nx .dead s.blks 1)))) (none)
def LS99_0 {β : Type} (N : Nat) : LSpec β := VLS99_0 N (zj65 N)
def VE99 {β : Type} (N : Nat) (zq60 : (a0 : Int) → (a1 : Int) → (k : Int → Option β) → Option β) (zq63 : (a0 : Int) → (a1 : Int) → (a2 : Int) → (k : Int → Option β) → Option β) (zq65 : Nat → Int → Int → Int → Int → Int → List Int → (List Int → Option β) → Option β) : Env β := ⟨[(125, VS125 N zq60), (128, VS128 N zq63)], [], [(0, VLS99_0 N zq65)], [], ⟨[], [], [153]⟩⟩
def E99 {β : Type} (N : Nat) : Env β := VE99 N (zj60 N) (zj63 N) (zj65 N)
def zb64 {β : Type} (N : Nat) (zq63 : (a0 : Int) → (a1 : Int) → (a2 : Int) → (k : Int → Option β) → Option β)  (v0 : Int) (v1 : Int) (v2 : Int) (v3 : Int) (v4 : Int) (v5 : List Int) (rec_ : Int → Int → Int → Int → Int → List Int → Option β) (k0 : List Int → Option β) : Option β :=
(cond ((decide (v2 < v1)))
((gd ((decide (0 ≤ v0)))
((gd ((decide (0 ≤ (bits .and .i64 v2 (w64 ((shlI .i64 1 v0) - 1))))))
((gd ((decide ((bits .and .i64 v2 (w64 ((shlI .i64 1 v0) - 1))) < (v5.length : Int))))
((gd ((decide (0 ≤ v0)))
(zq63 v3 v4 v2 fun r5 =>
(gd ((decide (0 ≤ (shrI .i64 v2 v0))))
((gd ((decide (0 ≤ (bits .and .i64 v2 (w64 ((shlI .i64 1 v0) - 1))))))
((gd ((decide ((bits .and .i64 v2 (w64 ((shlI .i64 1 v0) - 1))) < (v5.length : Int))))
(rec_ v0 v1 ((w64 (v2 + 1))) v3 v4 ((wr v5 (bits .and .i64 v2 (w64 ((shlI .i64 1 v0) - 1))) (bits .or .i64 (rd 0 v5 (bits .and .i64 v2 (w64 ((shlI .i64 1 v0) - 1)))) (shlI .i64 r5 (shrI .i64 v2 v0))))))))))))))))))))
(k0 v5))
theorem zt64 {β : Type} (N : Nat)  (v0 : Int) (v1 : Int) (v2 : Int) (v3 : Int) (v4 : Int) (v5 : List Int) (rec_ : Int → Int → Int → Int → Int → List Int → Option β) (k0 : List Int → Option β) : zj64 N v0 v1 v2 v3 v4 v5 rec_ k0 = zb64 N (zj63 N) v0 v1 v2 v3 v4 v5 rec_ k0 := by
  unfold zj64 zb64
  rfl
theorem vst99_0_0 {β : Type} (N : Nat) (zq60 : (a0 : Int) → (a1 : Int) → (k : Int → Option β) → Option β) (zq63 : (a0 : Int) → (a1 : Int) → (a2 : Int) → (k : Int → Option β) → Option β) (zq65 : Nat → Int → Int → Int → Int → Int → List Int → (List Int → Option β) → Option β)  (v0 : Int) (v1 : Int) (v2 : Int) (v3 : Int) (v4 : Int) (v5 : List Int) (rec_ : St → Option β) (K : Exit → St → Option β) :
    ev lay (VE99 N zq60 zq63 zq65) (retMask Tryd.f99) (lp Tryd.f99 0).body (lp Tryd.f99 0).ex ((lp Tryd.f99 0).lv (retMask Tryd.f99)) (h99_0_0  v0 v1 v2 v3 v4 v5) (nextR (fun s' => rec_ (s'.tidy ((lp Tryd.f99 0).lv (retMask Tryd.f99)))) K) = zb64 N zq63  v0 v1 v2 v3 v4 v5 (fun v0 v1 v2 v3 v4 v5 => rec_ (h99_0_0  v0 v1 v2 v3 v4 v5)) (fun y0 => K (.exit 0) (x99_0_0_k0  y0)) := by kernel_rfl
theorem st99_0_0 {β : Type} (N : Nat)  (v0 : Int) (v1 : Int) (v2 : Int) (v3 : Int) (v4 : Int) (v5 : List Int) (rec_ : St → Option β) (K : Exit → St → Option β) :
    ev lay (E99 N) (retMask Tryd.f99) (lp Tryd.f99 0).body (lp Tryd.f99 0).ex ((lp Tryd.f99 0).lv (retMask Tryd.f99)) (h99_0_0  v0 v1 v2 v3 v4 v5) (nextR (fun s' => rec_ (s'.tidy ((lp Tryd.f99 0).lv (retMask Tryd.f99)))) K) = zj64 N  v0 v1 v2 v3 v4 v5 (fun v0 v1 v2 v3 v4 v5 => rec_ (h99_0_0  v0 v1 v2 v3 v4 v5)) (fun y0 => K (.exit 0) (x99_0_0_k0  y0)) := (vst99_0_0 N (zj60 N) (zj63 N) (zj65 N) v0 v1 v2 v3 v4 v5 rec_ K).trans (zt64 N  v0 v1 v2 v3 v4 v5 (fun v0 v1 v2 v3 v4 v5 => rec_ (h99_0_0  v0 v1 v2 v3 v4 v5)) (fun y0 => K (.exit 0) (x99_0_0_k0  y0))).symm
theorem ro99_0_0 {β : Type} (N : Nat)  (K : Exit → St → Option β) : ∀ (F : Nat) (v0 : Int) (v1 : Int) (v2 : Int) (v3 : Int) (v4 : Int) (v5 : List Int), (lp Tryd.f99 0).rounds lay (E99 N) (retMask Tryd.f99) F (h99_0_0  v0 v1 v2 v3 v4 v5) K = zj65 N  F v0 v1 v2 v3 v4 v5 (fun y0 => K (.exit 0) (x99_0_0_k0  y0)) := by
  intro F
  induction F with
  | zero => intros; rfl
  | succ F ih =>
    intros
    rw [rounds_next]
    refine (st99_0_0 N  _ _ _ _ _ _ (fun s => (lp Tryd.f99 0).rounds lay (E99 N) (retMask Tryd.f99) F s K) K).trans ?_
    simp only [ih]
    rfl
theorem lk99_0 {β : Type} (N : Nat) : lookL (E99 (β := β) N).loops (lp Tryd.f99 0).id = LS99_0 N := by kernel_rfl
theorem rk99_0 {β : Type} (N : Nat) : RoundsOK lay (E99 (β := β) N) (retMask Tryd.f99) (lp Tryd.f99 0) := by
  intro s K r h
  rw [lk99_0] at h
  unfold LS99_0 VLS99_0 at h
  cases hb : shpSt (h99_0_0 0 0 0 0 0 []) s with
  | true =>
    rw [hb, cond_true] at h
    exact ⟨N, by rw [← shpSt_ref hb, fl99_0_0 s]; exact (ro99_0_0 N  K N (intS (oneA (vT (nx tund s.tmps 1)))) (intS (oneA (vT (nx tund s.tmps 11)))) (intS (oneA (vT (nx tund s.tmps 12)))) (intS (nx .und (cellsB (nx .dead s.blks 0)) 0)) (intS (nx .und (cellsB (nx .dead s.blks 0)) 1)) (rInts (rowB_ (nx .dead s.blks 1)))).trans h⟩
  | false =>
  rw [hb, cond_false] at h
  clear hb
  cases h
def zb66 {β : Type} (N : Nat) (zq60 : (a0 : Int) → (a1 : Int) → (k : Int → Option β) → Option β) (zq65 : Nat → Int → Int → Int → Int → Int → List Int → (List Int → Option β) → Option β) (a0 : Int) (a1 : Int) (a2 : Int) (k : List Int → Option β) : Option β :=
(gd ((decide (0 ≤ a2)))
((gd ((decide (0 ≤ (shlI .i64 1 a2))))
((gd ((decide ((shlI .i64 1 a2) ≤ (shlI .i64 1 a2))))
((gd ((decide (8 * (shlI .i64 1 a2) ≤ 281474976710656)))
(zq60 a0 a1 fun r4 =>
zq65  N a2 r4 0 a0 a1 ((List.replicate (Int.toNat (shlI .i64 1 a2)) (0 : Int))) (fun e6_0 =>
k e6_0)))))))))
theorem zt66 {β : Type} (N : Nat) (a0 : Int) (a1 : Int) (a2 : Int) (k : List Int → Option β) : zj66 N a0 a1 a2 k = zb66 N (zj60 N) (zj65 N) a0 a1 a2 k := by
  unfold zj66 zb66
  rfl
theorem ve99_0 {β : Type} (N : Nat) (zq60 : (a0 : Int) → (a1 : Int) → (k : Int → Option β) → Option β) (zq63 : (a0 : Int) → (a1 : Int) → (a2 : Int) → (k : Int → Option β) → Option β) (zq65 : Nat → Int → Int → Int → Int → Int → List Int → (List Int → Option β) → Option β)  (a0 : Int) (a1 : Int) (a2 : Int) (K : TV → Option β) : evFn lay (VE99 N zq60 zq63 zq65) Tryd.f99 [.v (.agg [.int .i64 a0, .int .i64 a1]), .v (.one (.int .i64 a2))] K = zb66 N zq60 zq65 a0 a1 a2 (fun z3 => K (.v (.one (.sl 3 (.ints .i64 z3))))) := by kernel_rfl
theorem e99_0 {β : Type} (N : Nat)  (a0 : Int) (a1 : Int) (a2 : Int) (K : TV → Option β) : evFn lay (E99 N) Tryd.f99 [.v (.agg [.int .i64 a0, .int .i64 a1]), .v (.one (.int .i64 a2))] K = zj66 N a0 a1 a2 (fun z3 => K (.v (.one (.sl 3 (.ints .i64 z3))))) := (ve99_0 N (zj60 N) (zj63 N) (zj65 N) a0 a1 a2 K).trans (zt66 N a0 a1 a2 (fun z3 => K (.v (.one (.sl 3 (.ints .i64 z3)))))).symm
theorem o99 {β : Type} (N : Nat) : SpecOK (β := β) inv Tryd.prog 99 (S99 N) := by
  refine spec_of lay_ok mixed (E := E99 N) (specs_loops (specs_cons (o125 N) (specs_cons (o128 N) specs_nil))) muts_nil gs_nil Tryd.func99 (by kernel_rfl) 1 (by kernel_rfl) ⟨trivial, rk99_0 N⟩ fun args K r h => ?_
  unfold S99 VS99 at h
  split at h
  · exact (e99_0 N _ _ _ _).trans h
  · cases h
def VS156 {β : Type} (N : Nat) (zq67 : (a0 : Int) → (k : Bool → Option β) → Option β) : Rv.Spec β := fun args K => match args with
  | [.v (.one (.int .i64 a0))] => zq67 a0 (fun z1 => K (.v (.one (.bool z1))))
  | _ => none
def S156 {β : Type} (N : Nat) : Rv.Spec β := VS156 N (zj67 N)
def VE156 {β : Type} (N : Nat) : Env β := ⟨[], [], [], [], ⟨[], [], [153]⟩⟩
def E156 {β : Type} (N : Nat) : Env β := VE156 N
def zb67 {β : Type} (N : Nat) (a0 : Int) (k : Bool → Option β) : Option β :=
(cond ((a0 == 0))
(k true)
(k ((a0 == 1))))
theorem zt67 {β : Type} (N : Nat) (a0 : Int) (k : Bool → Option β) : zj67 N a0 k = zb67 N a0 k := by
  unfold zj67 zb67
  rfl
theorem ve156_0 {β : Type} (N : Nat)  (a0 : Int) (K : TV → Option β) : evFn lay (VE156 N) Tryd.f156 [.v (.one (.int .i64 a0))] K = zb67 N a0 (fun z1 => K (.v (.one (.bool z1)))) := by kernel_rfl
theorem e156_0 {β : Type} (N : Nat)  (a0 : Int) (K : TV → Option β) : evFn lay (E156 N) Tryd.f156 [.v (.one (.int .i64 a0))] K = zj67 N a0 (fun z1 => K (.v (.one (.bool z1)))) := (ve156_0 N a0 K).trans (zt67 N a0 (fun z1 => K (.v (.one (.bool z1))))).symm
theorem o156 {β : Type} (N : Nat) : SpecOK (β := β) inv Tryd.prog 156 (S156 N) := by
  refine spec_of lay_ok mixed (E := E156 N) (specs_loops specs_nil) muts_nil gs_nil Tryd.func156 (by kernel_rfl) 0 (by kernel_rfl) trivial fun args K r h => ?_
  unfold S156 VS156 at h
  split at h
  · exact (e156_0 N _ _).trans h
  · cases h
def VS207 {β : Type} (N : Nat) (zq68 : (a0 : Int) → (a1 : Int) → (a2 : Int) → (a3 : Int) → (a4 : Int) → (a5 : Int) → (k : Bool → Option β) → Option β) : Rv.Spec β := fun args K => match args with
  | [.v (.agg [.int .i64 a0, .int .i64 a1]), .v (.one (.int .i64 a2)), .v (.one (.int .i64 a3)), .v (.one (.int .i64 a4)), .v (.one (.int .i64 a5))] => zq68 a0 a1 a2 a3 a4 a5 (fun z6 => K (.v (.one (.bool z6))))
  | _ => none
def S207 {β : Type} (N : Nat) : Rv.Spec β := VS207 N (zj68 N)
def VE207 {β : Type} (N : Nat) (zq63 : (a0 : Int) → (a1 : Int) → (a2 : Int) → (k : Int → Option β) → Option β) : Env β := ⟨[(128, VS128 N zq63)], [], [], [], ⟨[], [], [153]⟩⟩
def E207 {β : Type} (N : Nat) : Env β := VE207 N (zj63 N)
def zb68 {β : Type} (N : Nat) (zq63 : (a0 : Int) → (a1 : Int) → (a2 : Int) → (k : Int → Option β) → Option β) (a0 : Int) (a1 : Int) (a2 : Int) (a3 : Int) (a4 : Int) (a5 : Int) (k : Bool → Option β) : Option β :=
(gd ((decide (0 ≤ a2)))
(zq63 a0 a1 ((bits .or .i64 (bits .and .i64 a4 (w64 ((shlI .i64 1 a2) - 1))) (bits .andNot .i64 a5 (w64 ((shlI .i64 1 a2) - 1))))) fun r7 =>
(cond ((r7 != a3))
(k true)
(zq63 a0 a1 ((bits .or .i64 (bits .and .i64 a5 (w64 ((shlI .i64 1 a2) - 1))) (bits .andNot .i64 a4 (w64 ((shlI .i64 1 a2) - 1))))) fun r8 =>
k ((r8 != a3))))))
theorem zt68 {β : Type} (N : Nat) (a0 : Int) (a1 : Int) (a2 : Int) (a3 : Int) (a4 : Int) (a5 : Int) (k : Bool → Option β) : zj68 N a0 a1 a2 a3 a4 a5 k = zb68 N (zj63 N) a0 a1 a2 a3 a4 a5 k := by
  unfold zj68 zb68
  rfl
theorem ve207_0 {β : Type} (N : Nat) (zq63 : (a0 : Int) → (a1 : Int) → (a2 : Int) → (k : Int → Option β) → Option β)  (a0 : Int) (a1 : Int) (a2 : Int) (a3 : Int) (a4 : Int) (a5 : Int) (K : TV → Option β) : evFn lay (VE207 N zq63) Tryd.f207 [.v (.agg [.int .i64 a0, .int .i64 a1]), .v (.one (.int .i64 a2)), .v (.one (.int .i64 a3)), .v (.one (.int .i64 a4)), .v (.one (.int .i64 a5))] K = zb68 N zq63 a0 a1 a2 a3 a4 a5 (fun z6 => K (.v (.one (.bool z6)))) := by kernel_rfl
theorem e207_0 {β : Type} (N : Nat)  (a0 : Int) (a1 : Int) (a2 : Int) (a3 : Int) (a4 : Int) (a5 : Int) (K : TV → Option β) : evFn lay (E207 N) Tryd.f207 [.v (.agg [.int .i64 a0, .int .i64 a1]), .v (.one (.int .i64 a2)), .v (.one (.int .i64 a3)), .v (.one (.int .i64 a4)), .v (.one (.int .i64 a5))] K = zj68 N a0 a1 a2 a3 a4 a5 (fun z6 => K (.v (.one (.bool z6)))) := (ve207_0 N (zj63 N) a0 a1 a2 a3 a4 a5 K).trans (zt68 N a0 a1 a2 a3 a4 a5 (fun z6 => K (.v (.one (.bool z6))))).symm
theorem o207 {β : Type} (N : Nat) : SpecOK (β := β) inv Tryd.prog 207 (S207 N) := by
  refine spec_of lay_ok mixed (E := E207 N) (specs_loops (specs_cons (o128 N) specs_nil)) muts_nil gs_nil Tryd.func207 (by kernel_rfl) 0 (by kernel_rfl) trivial fun args K r h => ?_
  unfold S207 VS207 at h
  split at h
  · exact (e207_0 N _ _ _ _ _ _ _).trans h
  · cases h
def VS206 {β : Type} (N : Nat) (zq69 : (a0 : Int) → (c0 : Int) → (c1 : Int) → (c2 : Int) → (c3 : Int) → (c4 : List Int) → (c5 : Int) → (k : Bool → Option β) → Option β) : Rv.Spec β := fun args K => match args with
  | [.v (.one (.int .i64 a0)), .v (.one (.cref [.ptr [.int .i64 c0, .int .i64 c1, .int .i64 c2, .int .i64 c3, .sl 3 (.ints .i64 c4)] 0] 0)), .v (.one (.cref [.int .i64 c5] 0))] => zq69 a0 c0 c1 c2 c3 c4 c5 (fun z1 => K (.v (.one (.bool z1))))
  | _ => none
def S206 {β : Type} (N : Nat) : Rv.Spec β := VS206 N (zj69 N)
def VE206 {β : Type} (N : Nat) (zq68 : (a0 : Int) → (a1 : Int) → (a2 : Int) → (a3 : Int) → (a4 : Int) → (a5 : Int) → (k : Bool → Option β) → Option β) : Env β := ⟨[(207, VS207 N zq68)], [], [], [], ⟨[], [], [153]⟩⟩
def E206 {β : Type} (N : Nat) : Env β := VE206 N (zj68 N)
def zb69 {β : Type} (N : Nat) (zq68 : (a0 : Int) → (a1 : Int) → (a2 : Int) → (a3 : Int) → (a4 : Int) → (a5 : Int) → (k : Bool → Option β) → Option β) (a0 : Int) (c0 : Int) (c1 : Int) (c2 : Int) (c3 : Int) (c4 : List Int) (c5 : Int) (k : Bool → Option β) : Option β :=
zq68 c0 c1 c2 c3 a0 c5 fun r2 =>
k (!r2)
theorem zt69 {β : Type} (N : Nat) (a0 : Int) (c0 : Int) (c1 : Int) (c2 : Int) (c3 : Int) (c4 : List Int) (c5 : Int) (k : Bool → Option β) : zj69 N a0 c0 c1 c2 c3 c4 c5 k = zb69 N (zj68 N) a0 c0 c1 c2 c3 c4 c5 k := by
  unfold zj69 zb69
  rfl
theorem ve206_0 {β : Type} (N : Nat) (zq68 : (a0 : Int) → (a1 : Int) → (a2 : Int) → (a3 : Int) → (a4 : Int) → (a5 : Int) → (k : Bool → Option β) → Option β)  (a0 : Int) (c0 : Int) (c1 : Int) (c2 : Int) (c3 : Int) (c4 : List Int) (c5 : Int) (K : TV → Option β) : evFn lay (VE206 N zq68) Tryd.f206 [.v (.one (.int .i64 a0)), .v (.one (.cref [.ptr [.int .i64 c0, .int .i64 c1, .int .i64 c2, .int .i64 c3, .sl 3 (.ints .i64 c4)] 0] 0)), .v (.one (.cref [.int .i64 c5] 0))] K = zb69 N zq68 a0 c0 c1 c2 c3 c4 c5 (fun z1 => K (.v (.one (.bool z1)))) := by kernel_rfl
theorem e206_0 {β : Type} (N : Nat)  (a0 : Int) (c0 : Int) (c1 : Int) (c2 : Int) (c3 : Int) (c4 : List Int) (c5 : Int) (K : TV → Option β) : evFn lay (E206 N) Tryd.f206 [.v (.one (.int .i64 a0)), .v (.one (.cref [.ptr [.int .i64 c0, .int .i64 c1, .int .i64 c2, .int .i64 c3, .sl 3 (.ints .i64 c4)] 0] 0)), .v (.one (.cref [.int .i64 c5] 0))] K = zj69 N a0 c0 c1 c2 c3 c4 c5 (fun z1 => K (.v (.one (.bool z1)))) := (ve206_0 N (zj68 N) a0 c0 c1 c2 c3 c4 c5 K).trans (zt69 N a0 c0 c1 c2 c3 c4 c5 (fun z1 => K (.v (.one (.bool z1))))).symm
theorem o206 {β : Type} (N : Nat) : SpecOK (β := β) inv Tryd.prog 206 (S206 N) := by
  refine spec_of lay_ok mixed (E := E206 N) (specs_loops (specs_cons (o207 N) specs_nil)) muts_nil gs_nil Tryd.func206 (by kernel_rfl) 0 (by kernel_rfl) trivial fun args K r h => ?_
  unfold S206 VS206 at h
  split at h
  · exact (e206_0 N _ _ _ _ _ _ _ _).trans h
  · cases h
def VS159 {β : Type} (N : Nat) (zq70 : (a0 : Int) → (k : Bool → Option β) → Option β) : Rv.Spec β := fun args K => match args with
  | [.v (.one (.int .i64 a0))] => zq70 a0 (fun z1 => K (.v (.one (.bool z1))))
  | _ => none
def S159 {β : Type} (N : Nat) : Rv.Spec β := VS159 N (zj70 N)
def VE159 {β : Type} (N : Nat) : Env β := ⟨[], [], [], [], ⟨[], [], [153]⟩⟩
def E159 {β : Type} (N : Nat) : Env β := VE159 N
def zb70 {β : Type} (N : Nat) (a0 : Int) (k : Bool → Option β) : Option β :=
(cond ((decide (a0 < 0)))
(k true)
(k (((shrI .i64 a0 32) != 0))))
theorem zt70 {β : Type} (N : Nat) (a0 : Int) (k : Bool → Option β) : zj70 N a0 k = zb70 N a0 k := by
  unfold zj70 zb70
  rfl
theorem ve159_0 {β : Type} (N : Nat)  (a0 : Int) (K : TV → Option β) : evFn lay (VE159 N) Tryd.f159 [.v (.one (.int .i64 a0))] K = zb70 N a0 (fun z1 => K (.v (.one (.bool z1)))) := by kernel_rfl
theorem e159_0 {β : Type} (N : Nat)  (a0 : Int) (K : TV → Option β) : evFn lay (E159 N) Tryd.f159 [.v (.one (.int .i64 a0))] K = zj70 N a0 (fun z1 => K (.v (.one (.bool z1)))) := (ve159_0 N a0 K).trans (zt70 N a0 (fun z1 => K (.v (.one (.bool z1))))).symm
theorem o159 {β : Type} (N : Nat) : SpecOK (β := β) inv Tryd.prog 159 (S159 N) := by
  refine spec_of lay_ok mixed (E := E159 N) (specs_loops specs_nil) muts_nil gs_nil Tryd.func159 (by kernel_rfl) 0 (by kernel_rfl) trivial fun args K r h => ?_
  unfold S159 VS159 at h
  split at h
  · exact (e159_0 N _ _).trans h
  · cases h
def VS200 {β : Type} (N : Nat) (zq73 : (a0 : List Int) → (a1 : (Int → (Bool → Option β) → Option β)) → (k : Int → Option β) → Option β) (zq69 : (a0 : Int) → (c0 : Int) → (c1 : Int) → (c2 : Int) → (c3 : Int) → (c4 : List Int) → (c5 : Int) → (k : Bool → Option β) → Option β) (zq70 : (a0 : Int) → (k : Bool → Option β) → Option β) : Rv.Spec β := fun args K => match args with
  | [.v (.one (.sl 3 (.ints .i64 a0))), .v (.one (.dfn 206 [([.ptr [.int .i64 q0, .int .i64 q1, .int .i64 q2, .int .i64 q3, .sl 3 (.ints .i64 q4)] 0], 0), ([.int .i64 q5], 0)]))] => zq73 a0 (fun x0 k => zq69 x0 q0 q1 q2 q3 q4 q5 k) (fun z2 => K (.v (.one (.int .i64 z2))))
  | [.v (.one (.sl 3 (.ints .i64 a0))), .v (.one (.fn 159 []))] => zq73 a0 (fun x0 k => zq70 x0 k) (fun z2 => K (.v (.one (.int .i64 z2))))
  | _ => none
def S200 {β : Type} (N : Nat) : Rv.Spec β := VS200 N (zj73 N) (zj69 N) (zj70 N)
def h200_0_0 (q0 : Int) (q1 : Int) (q2 : Int) (q3 : Int) (q4 : List Int) (q5 : Int) (v0 : List Int) (v1 : Int) (v2 : Int) : St := ⟨.v (.one (.sl 3 (.ints .i64 v0))) :: .v (.one (.dfn 206 [([.ptr [.int .i64 q0, .int .i64 q1, .int .i64 q2, .int .i64 q3, .sl 3 (.ints .i64 q4)] 0], 0), ([.int .i64 q5], 0)])) :: tund :: tund :: tund :: tund :: tund :: .v (.one (.int .i64 v1)) :: .v (.one (.int .i64 v2)) :: tund :: tund :: tund :: tund :: tund :: tund :: tund :: tund :: tund :: tund :: [], []⟩
def x200_0_0_k0 (q0 : Int) (q1 : Int) (q2 : Int) (q3 : Int) (q4 : List Int) (q5 : Int) (y0 : Int) : St := ⟨tund :: tund :: tund :: tund :: .v (.one (.int .i64 y0)) :: tund :: tund :: tund :: tund :: tund :: tund :: tund :: tund :: tund :: tund :: tund :: tund :: tund :: tund :: [], []⟩
def x200_0_0_k1 (q0 : Int) (q1 : Int) (q2 : Int) (q3 : Int) (q4 : List Int) (q5 : Int)  : St := ⟨tund :: tund :: tund :: tund :: tund :: tund :: tund :: tund :: tund :: tund :: tund :: tund :: tund :: tund :: tund :: tund :: tund :: tund :: tund :: [], []⟩
def h200_0_1  (v0 : List Int) (v1 : Int) (v2 : Int) : St := ⟨.v (.one (.sl 3 (.ints .i64 v0))) :: .v (.one (.fn 159 [])) :: tund :: tund :: tund :: tund :: tund :: .v (.one (.int .i64 v1)) :: .v (.one (.int .i64 v2)) :: tund :: tund :: tund :: tund :: tund :: tund :: tund :: tund :: tund :: tund :: [], []⟩
def x200_0_1_k0  (y0 : Int) : St := ⟨tund :: tund :: tund :: tund :: .v (.one (.int .i64 y0)) :: tund :: tund :: tund :: tund :: tund :: tund :: tund :: tund :: tund :: tund :: tund :: tund :: tund :: tund :: [], []⟩
def x200_0_1_k1   : St := ⟨tund :: tund :: tund :: tund :: tund :: tund :: tund :: tund :: tund :: tund :: tund :: tund :: tund :: tund :: tund :: tund :: tund :: tund :: tund :: [], []⟩
theorem fl200_0_0 (s : St) : refSt (h200_0_0 0 0 0 0 [] 0 [] 0 0) s = h200_0_0 (intFf (nx .no (ptrF (nx .no (nx ([], 0) (dfnS (oneA (vT (nx tund s.tmps 1)))) 0).1 0)) 0)) (intFf (nx .no (ptrF (nx .no (nx ([], 0) (dfnS (oneA (vT (nx tund s.tmps 1)))) 0).1 0)) 1)) (intFf (nx .no (ptrF (nx .no (nx ([], 0) (dfnS (oneA (vT (nx tund s.tmps 1)))) 0).1 0)) 2)) (intFf (nx .no (ptrF (nx .no (nx ([], 0) (dfnS (oneA (vT (nx tund s.tmps 1)))) 0).1 0)) 3)) (rInts (rowFf (nx .no (ptrF (nx .no (nx ([], 0) (dfnS (oneA (vT (nx tund s.tmps 1)))) 0).1 0)) 4))) (intF (nx .no (nx ([], 0) (dfnS (oneA (vT (nx tund s.tmps 1)))) 1).1 0)) (rInts (rowV (oneA (vT (nx tund s.tmps 0))))) (intS (oneA (vT (nx tund s.tmps 7)))) (intS (oneA (vT (nx tund s.tmps 8)))) := by kernel_rfl
theorem fl200_0_1 (s : St) : refSt (h200_0_1 [] 0 0) s = h200_0_1 (rInts (rowV (oneA (vT (nx tund s.tmps 0))))) (intS (oneA (vT (nx tund s.tmps 7)))) (intS (oneA (vT (nx tund s.tmps 8)))) := by kernel_rfl
def VLS200_0 {β : Type} (N : Nat) (zq72 : (a1 : (Int → (Bool → Option β) → Option β)) → Nat → List Int → Int → Int → (Int → Option β) → (Option β) → Option β) (zq69 : (a0 : Int) → (c0 : Int) → (c1 : Int) → (c2 : Int) → (c3 : Int) → (c4 : List Int) → (c5 : Int) → (k : Bool → Option β) → Option β) (zq70 : (a0 : Int) → (k : Bool → Option β) → Option β) : LSpec β := fun s K => cond (shpSt (h200_0_0 0 0 0 0 [] 0 [] 0 0) s) ((fun (q0 : Int) (q1 : Int) (q2 : Int) (q3 : Int) (q4 : List Int) (q5 : Int) (v0 : List Int) (v1 : Int) (v2 : Int) => zq72 (fun x0 k => zq69 x0 q0 q1 q2 q3 q4 q5 k) N v0 v1 v2 (fun y0 => K .ret (x200_0_0_k0 q0 q1 q2 q3 q4 q5 y0)) (K (.exit 0) (x200_0_0_k1 q0 q1 q2 q3 q4 q5 ))) (intFf (nx .no (ptrF (nx .no (nx ([], 0) (dfnS (oneA (vT (nx tund s.tmps 1)))) 0).1 0)) 0)) (intFf (nx .no (ptrF (nx .no (nx ([], 0) (dfnS (oneA (vT (nx tund s.tmps 1)))) 0).1 0)) 1)) (intFf (nx .no (ptrF (nx .no (nx ([], 0) (dfnS (oneA (vT (nx tund s.tmps 1)))) 0).1 0)) 2)) (intFf (nx .no (ptrF (nx .no (nx ([], 0) (dfnS (oneA (vT (nx tund s.tmps 1)))) 0).1 0)) 3)) (rInts (rowFf (nx .no (ptrF (nx .no (nx ([], 0) (dfnS (oneA (vT (nx tund s.tmps 1)))) 0).1 0)) 4))) (intF (nx .no (nx ([], 0) (dfnS (oneA (vT (nx tund s.tmps 1)))) 1).1 0)) (rInts (rowV (oneA (vT (nx tund s.tmps 0))))) (intS (oneA (vT (nx tund s.tmps 7)))) (intS (oneA (vT (nx tund s.tmps 8))))) (cond (shpSt (h200_0_1 [] 0 0) s) ((fun (v0 : List Int) (v1 : Int) (v2 : Int) => zq72 (fun x0 k => zq70 x0 k) N v0 v1 v2 (fun y0 => K .ret (x200_0_1_k0  y0)) (K (.exit 0) (x200_0_1_k1  ))) (rInts (rowV (oneA (vT (nx tund s.tmps 0))))) (intS (oneA (vT (nx tund s.tmps 7)))) (intS (oneA (vT (nx tund s.tmps 8))))) (none))
def LS200_0 {β : Type} (N : Nat) : LSpec β := VLS200_0 N (zj72 N) (zj69 N) (zj70 N)
def VE200 {β : Type} (N : Nat) (zq69 : (a0 : Int) → (c0 : Int) → (c1 : Int) → (c2 : Int) → (c3 : Int) → (c4 : List Int) → (c5 : Int) → (k : Bool → Option β) → Option β) (zq70 : (a0 : Int) → (k : Bool → Option β) → Option β) (zq72 : (a1 : (Int → (Bool → Option β) → Option β)) → Nat → List Int → Int → Int → (Int → Option β) → (Option β) → Option β) : Env β := ⟨[(206, VS206 N zq69), (159, VS159 N zq70)], [], [(0, VLS200_0 N zq72 zq69 zq70)], [], ⟨[], [], [153]⟩⟩
def E200 {β : Type} (N : Nat) : Env β := VE200 N (zj69 N) (zj70 N) (zj72 N)
def zb71 {β : Type} (N : Nat) (a1 : (Int → (Bool → Option β) → Option β)) (v0 : List Int) (v1 : Int) (v2 : Int) (rec_ : List Int → Int → Int → Option β) (k0 : Int → Option β) (k1 : Option β) : Option β :=
(cond ((decide (v2 < v1)))
((gd ((decide (0 ≤ v2)))
((gd ((decide (v2 < (v0.length : Int))))
(a1 ((rd 0 v0 v2)) fun r3 =>
(cond r3
(k0 v2)
(rec_ v0 v1 ((w64 (v2 + 1))))))))))
(k1 ))
theorem zt71 {β : Type} (N : Nat) (a1 : (Int → (Bool → Option β) → Option β)) (v0 : List Int) (v1 : Int) (v2 : Int) (rec_ : List Int → Int → Int → Option β) (k0 : Int → Option β) (k1 : Option β) : zj71 N a1 v0 v1 v2 rec_ k0 k1 = zb71 N a1 v0 v1 v2 rec_ k0 k1 := by
  unfold zj71 zb71
  rfl
theorem vst200_0_0 {β : Type} (N : Nat) (zq69 : (a0 : Int) → (c0 : Int) → (c1 : Int) → (c2 : Int) → (c3 : Int) → (c4 : List Int) → (c5 : Int) → (k : Bool → Option β) → Option β) (zq70 : (a0 : Int) → (k : Bool → Option β) → Option β) (zq72 : (a1 : (Int → (Bool → Option β) → Option β)) → Nat → List Int → Int → Int → (Int → Option β) → (Option β) → Option β) (q0 : Int) (q1 : Int) (q2 : Int) (q3 : Int) (q4 : List Int) (q5 : Int) (v0 : List Int) (v1 : Int) (v2 : Int) (rec_ : St → Option β) (K : Exit → St → Option β) :
    ev lay (VE200 N zq69 zq70 zq72) (retMask Tryd.f200) (lp Tryd.f200 0).body (lp Tryd.f200 0).ex ((lp Tryd.f200 0).lv (retMask Tryd.f200)) (h200_0_0 q0 q1 q2 q3 q4 q5 v0 v1 v2) (nextR (fun s' => rec_ (s'.tidy ((lp Tryd.f200 0).lv (retMask Tryd.f200)))) K) = zb71 N (fun x0 k => zq69 x0 q0 q1 q2 q3 q4 q5 k) v0 v1 v2 (fun v0 v1 v2 => rec_ (h200_0_0 q0 q1 q2 q3 q4 q5 v0 v1 v2)) (fun y0 => K .ret (x200_0_0_k0 q0 q1 q2 q3 q4 q5 y0)) (K (.exit 0) (x200_0_0_k1 q0 q1 q2 q3 q4 q5 )) := by kernel_rfl
theorem st200_0_0 {β : Type} (N : Nat) (q0 : Int) (q1 : Int) (q2 : Int) (q3 : Int) (q4 : List Int) (q5 : Int) (v0 : List Int) (v1 : Int) (v2 : Int) (rec_ : St → Option β) (K : Exit → St → Option β) :
    ev lay (E200 N) (retMask Tryd.f200) (lp Tryd.f200 0).body (lp Tryd.f200 0).ex ((lp Tryd.f200 0).lv (retMask Tryd.f200)) (h200_0_0 q0 q1 q2 q3 q4 q5 v0 v1 v2) (nextR (fun s' => rec_ (s'.tidy ((lp Tryd.f200 0).lv (retMask Tryd.f200)))) K) = zj71 N (fun x0 k => zj69 N x0 q0 q1 q2 q3 q4 q5 k) v0 v1 v2 (fun v0 v1 v2 => rec_ (h200_0_0 q0 q1 q2 q3 q4 q5 v0 v1 v2)) (fun y0 => K .ret (x200_0_0_k0 q0 q1 q2 q3 q4 q5 y0)) (K (.exit 0) (x200_0_0_k1 q0 q1 q2 q3 q4 q5 )) := (vst200_0_0 N (zj69 N) (zj70 N) (zj72 N) q0 q1 q2 q3 q4 q5 v0 v1 v2 rec_ K).trans (zt71 N (fun x0 k => zj69 N x0 q0 q1 q2 q3 q4 q5 k) v0 v1 v2 (fun v0 v1 v2 => rec_ (h200_0_0 q0 q1 q2 q3 q4 q5 v0 v1 v2)) (fun y0 => K .ret (x200_0_0_k0 q0 q1 q2 q3 q4 q5 y0)) (K (.exit 0) (x200_0_0_k1 q0 q1 q2 q3 q4 q5 ))).symm
theorem ro200_0_0 {β : Type} (N : Nat) (q0 : Int) (q1 : Int) (q2 : Int) (q3 : Int) (q4 : List Int) (q5 : Int) (K : Exit → St → Option β) : ∀ (F : Nat) (v0 : List Int) (v1 : Int) (v2 : Int), (lp Tryd.f200 0).rounds lay (E200 N) (retMask Tryd.f200) F (h200_0_0 q0 q1 q2 q3 q4 q5 v0 v1 v2) K = zj72 N (fun x0 k => zj69 N x0 q0 q1 q2 q3 q4 q5 k) F v0 v1 v2 (fun y0 => K .ret (x200_0_0_k0 q0 q1 q2 q3 q4 q5 y0)) (K (.exit 0) (x200_0_0_k1 q0 q1 q2 q3 q4 q5 )) := by
  intro F
  induction F with
  | zero => intros; rfl
  | succ F ih =>
    intros
    rw [rounds_next]
    refine (st200_0_0 N q0 q1 q2 q3 q4 q5 _ _ _ (fun s => (lp Tryd.f200 0).rounds lay (E200 N) (retMask Tryd.f200) F s K) K).trans ?_
    simp only [ih]
    rfl
theorem vst200_0_1 {β : Type} (N : Nat) (zq69 : (a0 : Int) → (c0 : Int) → (c1 : Int) → (c2 : Int) → (c3 : Int) → (c4 : List Int) → (c5 : Int) → (k : Bool → Option β) → Option β) (zq70 : (a0 : Int) → (k : Bool → Option β) → Option β) (zq72 : (a1 : (Int → (Bool → Option β) → Option β)) → Nat → List Int → Int → Int → (Int → Option β) → (Option β) → Option β)  (v0 : List Int) (v1 : Int) (v2 : Int) (rec_ : St → Option β) (K : Exit → St → Option β) :
    ev lay (VE200 N zq69 zq70 zq72) (retMask Tryd.f200) (lp Tryd.f200 0).body (lp Tryd.f200 0).ex ((lp Tryd.f200 0).lv (retMask Tryd.f200)) (h200_0_1  v0 v1 v2) (nextR (fun s' => rec_ (s'.tidy ((lp Tryd.f200 0).lv (retMask Tryd.f200)))) K) = zb71 N (fun x0 k => zq70 x0 k) v0 v1 v2 (fun v0 v1 v2 => rec_ (h200_0_1  v0 v1 v2)) (fun y0 => K .ret (x200_0_1_k0  y0)) (K (.exit 0) (x200_0_1_k1  )) := by kernel_rfl
theorem st200_0_1 {β : Type} (N : Nat)  (v0 : List Int) (v1 : Int) (v2 : Int) (rec_ : St → Option β) (K : Exit → St → Option β) :
    ev lay (E200 N) (retMask Tryd.f200) (lp Tryd.f200 0).body (lp Tryd.f200 0).ex ((lp Tryd.f200 0).lv (retMask Tryd.f200)) (h200_0_1  v0 v1 v2) (nextR (fun s' => rec_ (s'.tidy ((lp Tryd.f200 0).lv (retMask Tryd.f200)))) K) = zj71 N (fun x0 k => zj70 N x0 k) v0 v1 v2 (fun v0 v1 v2 => rec_ (h200_0_1  v0 v1 v2)) (fun y0 => K .ret (x200_0_1_k0  y0)) (K (.exit 0) (x200_0_1_k1  )) := (vst200_0_1 N (zj69 N) (zj70 N) (zj72 N) v0 v1 v2 rec_ K).trans (zt71 N (fun x0 k => zj70 N x0 k) v0 v1 v2 (fun v0 v1 v2 => rec_ (h200_0_1  v0 v1 v2)) (fun y0 => K .ret (x200_0_1_k0  y0)) (K (.exit 0) (x200_0_1_k1  ))).symm
theorem ro200_0_1 {β : Type} (N : Nat)  (K : Exit → St → Option β) : ∀ (F : Nat) (v0 : List Int) (v1 : Int) (v2 : Int), (lp Tryd.f200 0).rounds lay (E200 N) (retMask Tryd.f200) F (h200_0_1  v0 v1 v2) K = zj72 N (fun x0 k => zj70 N x0 k) F v0 v1 v2 (fun y0 => K .ret (x200_0_1_k0  y0)) (K (.exit 0) (x200_0_1_k1  )) := by
  intro F
  induction F with
  | zero => intros; rfl
  | succ F ih =>
    intros
    rw [rounds_next]
    refine (st200_0_1 N  _ _ _ (fun s => (lp Tryd.f200 0).rounds lay (E200 N) (retMask Tryd.f200) F s K) K).trans ?_
    simp only [ih]
    rfl
theorem lk200_0 {β : Type} (N : Nat) : lookL (E200 (β := β) N).loops (lp Tryd.f200 0).id = LS200_0 N := by kernel_rfl
theorem rk200_0 {β : Type} (N : Nat) : RoundsOK lay (E200 (β := β) N) (retMask Tryd.f200) (lp Tryd.f200 0) := by
  intro s K r h
  rw [lk200_0] at h
  unfold LS200_0 VLS200_0 at h
  cases hb : shpSt (h200_0_0 0 0 0 0 [] 0 [] 0 0) s with
  | true =>
    rw [hb, cond_true] at h
    exact ⟨N, by rw [← shpSt_ref hb, fl200_0_0 s]; exact (ro200_0_0 N (intFf (nx .no (ptrF (nx .no (nx ([], 0) (dfnS (oneA (vT (nx tund s.tmps 1)))) 0).1 0)) 0)) (intFf (nx .no (ptrF (nx .no (nx ([], 0) (dfnS (oneA (vT (nx tund s.tmps 1)))) 0).1 0)) 1)) (intFf (nx .no (ptrF (nx .no (nx ([], 0) (dfnS (oneA (vT (nx tund s.tmps 1)))) 0).1 0)) 2)) (intFf (nx .no (ptrF (nx .no (nx ([], 0) (dfnS (oneA (vT (nx tund s.tmps 1)))) 0).1 0)) 3)) (rInts (rowFf (nx .no (ptrF (nx .no (nx ([], 0) (dfnS (oneA (vT (nx tund s.tmps 1)))) 0).1 0)) 4))) (intF (nx .no (nx ([], 0) (dfnS (oneA (vT (nx tund s.tmps 1)))) 1).1 0)) K N (rInts (rowV (oneA (vT (nx tund s.tmps 0))))) (intS (oneA (vT (nx tund s.tmps 7)))) (intS (oneA (vT (nx tund s.tmps 8))))).trans h⟩
  | false =>
  rw [hb, cond_false] at h
  clear hb
  cases hb : shpSt (h200_0_1 [] 0 0) s with
  | true =>
    rw [hb, cond_true] at h
    exact ⟨N, by rw [← shpSt_ref hb, fl200_0_1 s]; exact (ro200_0_1 N  K N (rInts (rowV (oneA (vT (nx tund s.tmps 0))))) (intS (oneA (vT (nx tund s.tmps 7)))) (intS (oneA (vT (nx tund s.tmps 8))))).trans h⟩
  | false =>
  rw [hb, cond_false] at h
  clear hb
  cases h
def zb73 {β : Type} (N : Nat) (zq72 : (a1 : (Int → (Bool → Option β) → Option β)) → Nat → List Int → Int → Int → (Int → Option β) → (Option β) → Option β) (a0 : List Int) (a1 : (Int → (Bool → Option β) → Option β)) (k : Int → Option β) : Option β :=
zq72 a1 N a0 ((a0.length : Int)) 0 (fun e4_0 =>
k e4_0) (k (-1))
theorem zt73 {β : Type} (N : Nat) (a0 : List Int) (a1 : (Int → (Bool → Option β) → Option β)) (k : Int → Option β) : zj73 N a0 a1 k = zb73 N (zj72 N) a0 a1 k := by
  unfold zj73 zb73
  rfl
theorem ve200_0 {β : Type} (N : Nat) (zq69 : (a0 : Int) → (c0 : Int) → (c1 : Int) → (c2 : Int) → (c3 : Int) → (c4 : List Int) → (c5 : Int) → (k : Bool → Option β) → Option β) (zq70 : (a0 : Int) → (k : Bool → Option β) → Option β) (zq72 : (a1 : (Int → (Bool → Option β) → Option β)) → Nat → List Int → Int → Int → (Int → Option β) → (Option β) → Option β) (q0 : Int) (q1 : Int) (q2 : Int) (q3 : Int) (q4 : List Int) (q5 : Int) (a0 : List Int) (K : TV → Option β) : evFn lay (VE200 N zq69 zq70 zq72) Tryd.f200 [.v (.one (.sl 3 (.ints .i64 a0))), .v (.one (.dfn 206 [([.ptr [.int .i64 q0, .int .i64 q1, .int .i64 q2, .int .i64 q3, .sl 3 (.ints .i64 q4)] 0], 0), ([.int .i64 q5], 0)]))] K = zb73 N zq72 a0 (fun x0 k => zq69 x0 q0 q1 q2 q3 q4 q5 k) (fun z2 => K (.v (.one (.int .i64 z2)))) := by kernel_rfl
theorem e200_0 {β : Type} (N : Nat) (q0 : Int) (q1 : Int) (q2 : Int) (q3 : Int) (q4 : List Int) (q5 : Int) (a0 : List Int) (K : TV → Option β) : evFn lay (E200 N) Tryd.f200 [.v (.one (.sl 3 (.ints .i64 a0))), .v (.one (.dfn 206 [([.ptr [.int .i64 q0, .int .i64 q1, .int .i64 q2, .int .i64 q3, .sl 3 (.ints .i64 q4)] 0], 0), ([.int .i64 q5], 0)]))] K = zj73 N a0 (fun x0 k => zj69 N x0 q0 q1 q2 q3 q4 q5 k) (fun z2 => K (.v (.one (.int .i64 z2)))) := (ve200_0 N (zj69 N) (zj70 N) (zj72 N) q0 q1 q2 q3 q4 q5 a0 K).trans (zt73 N a0 (fun x0 k => zj69 N x0 q0 q1 q2 q3 q4 q5 k) (fun z2 => K (.v (.one (.int .i64 z2))))).symm
theorem ve200_1 {β : Type} (N : Nat) (zq69 : (a0 : Int) → (c0 : Int) → (c1 : Int) → (c2 : Int) → (c3 : Int) → (c4 : List Int) → (c5 : Int) → (k : Bool → Option β) → Option β) (zq70 : (a0 : Int) → (k : Bool → Option β) → Option β) (zq72 : (a1 : (Int → (Bool → Option β) → Option β)) → Nat → List Int → Int → Int → (Int → Option β) → (Option β) → Option β)  (a0 : List Int) (K : TV → Option β) : evFn lay (VE200 N zq69 zq70 zq72) Tryd.f200 [.v (.one (.sl 3 (.ints .i64 a0))), .v (.one (.fn 159 []))] K = zb73 N zq72 a0 (fun x0 k => zq70 x0 k) (fun z2 => K (.v (.one (.int .i64 z2)))) := by kernel_rfl
theorem e200_1 {β : Type} (N : Nat)  (a0 : List Int) (K : TV → Option β) : evFn lay (E200 N) Tryd.f200 [.v (.one (.sl 3 (.ints .i64 a0))), .v (.one (.fn 159 []))] K = zj73 N a0 (fun x0 k => zj70 N x0 k) (fun z2 => K (.v (.one (.int .i64 z2)))) := (ve200_1 N (zj69 N) (zj70 N) (zj72 N) a0 K).trans (zt73 N a0 (fun x0 k => zj70 N x0 k) (fun z2 => K (.v (.one (.int .i64 z2))))).symm
theorem o200 {β : Type} (N : Nat) : SpecOK (β := β) inv Tryd.prog 200 (S200 N) := by
  refine spec_of lay_ok mixed (E := E200 N) (specs_loops (specs_cons (o206 N) (specs_cons (o159 N) specs_nil))) muts_nil gs_nil Tryd.func200 (by kernel_rfl) 1 (by kernel_rfl) ⟨trivial, rk200_0 N⟩ fun args K r h => ?_
  unfold S200 VS200 at h
  split at h
  · exact (e200_0 N _ _ _ _ _ _ _ _).trans h
  · exact (e200_1 N _ _).trans h
  · cases h
def VS158 {β : Type} (N : Nat) (zq74 : (a0 : List Int) → (a1 : (Int → (Bool → Option β) → Option β)) → (k : Bool → Option β) → Option β) (zq69 : (a0 : Int) → (c0 : Int) → (c1 : Int) → (c2 : Int) → (c3 : Int) → (c4 : List Int) → (c5 : Int) → (k : Bool → Option β) → Option β) (zq70 : (a0 : Int) → (k : Bool → Option β) → Option β) : Rv.Spec β := fun args K => match args with
  | [.v (.one (.sl 3 (.ints .i64 a0))), .v (.one (.dfn 206 [([.ptr [.int .i64 q0, .int .i64 q1, .int .i64 q2, .int .i64 q3, .sl 3 (.ints .i64 q4)] 0], 0), ([.int .i64 q5], 0)]))] => zq74 a0 (fun x0 k => zq69 x0 q0 q1 q2 q3 q4 q5 k) (fun z2 => K (.v (.one (.bool z2))))
  | [.v (.one (.sl 3 (.ints .i64 a0))), .v (.one (.fn 159 []))] => zq74 a0 (fun x0 k => zq70 x0 k) (fun z2 => K (.v (.one (.bool z2))))
  | _ => none
def S158 {β : Type} (N : Nat) : Rv.Spec β := VS158 N (zj74 N) (zj69 N) (zj70 N)
def VE158 {β : Type} (N : Nat) (zq73 : (a0 : List Int) → (a1 : (Int → (Bool → Option β) → Option β)) → (k : Int → Option β) → Option β) (zq69 : (a0 : Int) → (c0 : Int) → (c1 : Int) → (c2 : Int) → (c3 : Int) → (c4 : List Int) → (c5 : Int) → (k : Bool → Option β) → Option β) (zq70 : (a0 : Int) → (k : Bool → Option β) → Option β) : Env β := ⟨[(200, VS200 N zq73 zq69 zq70), (206, VS206 N zq69), (159, VS159 N zq70)], [], [], [], ⟨[], [], [153]⟩⟩
def E158 {β : Type} (N : Nat) : Env β := VE158 N (zj73 N) (zj69 N) (zj70 N)
def zb74 {β : Type} (N : Nat) (zq73 : (a0 : List Int) → (a1 : (Int → (Bool → Option β) → Option β)) → (k : Int → Option β) → Option β) (a0 : List Int) (a1 : (Int → (Bool → Option β) → Option β)) (k : Bool → Option β) : Option β :=
zq73 a0 a1 fun r3 =>
k ((decide (r3 ≥ 0)))
theorem zt74 {β : Type} (N : Nat) (a0 : List Int) (a1 : (Int → (Bool → Option β) → Option β)) (k : Bool → Option β) : zj74 N a0 a1 k = zb74 N (zj73 N) a0 a1 k := by
  unfold zj74 zb74
  rfl
theorem ve158_0 {β : Type} (N : Nat) (zq73 : (a0 : List Int) → (a1 : (Int → (Bool → Option β) → Option β)) → (k : Int → Option β) → Option β) (zq69 : (a0 : Int) → (c0 : Int) → (c1 : Int) → (c2 : Int) → (c3 : Int) → (c4 : List Int) → (c5 : Int) → (k : Bool → Option β) → Option β) (zq70 : (a0 : Int) → (k : Bool → Option β) → Option β) (q0 : Int) (q1 : Int) (q2 : Int) (q3 : Int) (q4 : List Int) (q5 : Int) (a0 : List Int) (K : TV → Option β) : evFn lay (VE158 N zq73 zq69 zq70) Tryd.f158 [.v (.one (.sl 3 (.ints .i64 a0))), .v (.one (.dfn 206 [([.ptr [.int .i64 q0, .int .i64 q1, .int .i64 q2, .int .i64 q3, .sl 3 (.ints .i64 q4)] 0], 0), ([.int .i64 q5], 0)]))] K = zb74 N zq73 a0 (fun x0 k => zq69 x0 q0 q1 q2 q3 q4 q5 k) (fun z2 => K (.v (.one (.bool z2)))) := by kernel_rfl
theorem e158_0 {β : Type} (N : Nat) (q0 : Int) (q1 : Int) (q2 : Int) (q3 : Int) (q4 : List Int) (q5 : Int) (a0 : List Int) (K : TV → Option β) : evFn lay (E158 N) Tryd.f158 [.v (.one (.sl 3 (.ints .i64 a0))), .v (.one (.dfn 206 [([.ptr [.int .i64 q0, .int .i64 q1, .int .i64 q2, .int .i64 q3, .sl 3 (.ints .i64 q4)] 0], 0), ([.int .i64 q5], 0)]))] K = zj74 N a0 (fun x0 k => zj69 N x0 q0 q1 q2 q3 q4 q5 k) (fun z2 => K (.v (.one (.bool z2)))) := (ve158_0 N (zj73 N) (zj69 N) (zj70 N) q0 q1 q2 q3 q4 q5 a0 K).trans (zt74 N a0 (fun x0 k => zj69 N x0 q0 q1 q2 q3 q4 q5 k) (fun z2 => K (.v (.one (.bool z2))))).symm
theorem ve158_1 {β : Type} (N : Nat) (zq73 : (a0 : List Int) → (a1 : (Int → (Bool → Option β) → Option β)) → (k : Int → Option β) → Option β) (zq69 : (a0 : Int) → (c0 : Int) → (c1 : Int) → (c2 : Int) → (c3 : Int) → (c4 : List Int) → (c5 : Int) → (k : Bool → Option β) → Option β) (zq70 : (a0 : Int) → (k : Bool → Option β) → Option β)  (a0 : List Int) (K : TV → Option β) : evFn lay (VE158 N zq73 zq69 zq70) Tryd.f158 [.v (.one (.sl 3 (.ints .i64 a0))), .v (.one (.fn 159 []))] K = zb74 N zq73 a0 (fun x0 k => zq70 x0 k) (fun z2 => K (.v (.one (.bool z2)))) := by kernel_rfl
theorem e158_1 {β : Type} (N : Nat)  (a0 : List Int) (K : TV → Option β) : evFn lay (E158 N) Tryd.f158 [.v (.one (.sl 3 (.ints .i64 a0))), .v (.one (.fn 159 []))] K = zj74 N a0 (fun x0 k => zj70 N x0 k) (fun z2 => K (.v (.one (.bool z2)))) := (ve158_1 N (zj73 N) (zj69 N) (zj70 N) a0 K).trans (zt74 N a0 (fun x0 k => zj70 N x0 k) (fun z2 => K (.v (.one (.bool z2))))).symm
theorem o158 {β : Type} (N : Nat) : SpecOK (β := β) inv Tryd.prog 158 (S158 N) := by
  refine spec_of lay_ok mixed (E := E158 N) (specs_loops (specs_cons (o200 N) (specs_cons (o206 N) (specs_cons (o159 N) specs_nil)))) muts_nil gs_nil Tryd.func158 (by kernel_rfl) 0 (by kernel_rfl) trivial fun args K r h => ?_
  unfold S158 VS158 at h
  split at h
  · exact (e158_0 N _ _ _ _ _ _ _ _).trans h
  · exact (e158_1 N _ _).trans h
  · cases h
def VSF157 {β : Type} (N : Nat) (zq79 : Nat → Int → Int → Int → Int → Int → List Int → List Int → (Int → Int → Int → Int → List Int → List Int → Option β) → Option β) (G : Nat) : GSpec β := fun args bl K => match args, bl with
  | [.v (.one (.ptr 0 0)), .v (.one (.row 1)), .v (.one (.int .i64 a0))], [.pcells 0 131 [.int .i64 a1, .int .i64 a2, .int .i64 a3, .int .i64 a4, .fsl 3 (.ints .i64 a5)], .prow 1 3 (.ints .i64 a6)] => zq79 G a0 a1 a2 a3 a4 a5 a6 (fun y0 y1 y2 y3 y4 y5 => K (.tup []) [.pcells 0 131 [.int .i64 y0, .int .i64 y1, .int .i64 y2, .int .i64 y3, .fsl 3 (.ints .i64 y4)], .prow 1 3 (.ints .i64 y5)])
  | _, _ => none
def SF157 {β : Type} (N : Nat) (G : Nat) : GSpec β := VSF157 N (zj79 N) G
def VS157 {β : Type} (N : Nat) (zq79 : Nat → Int → Int → Int → Int → Int → List Int → List Int → (Int → Int → Int → Int → List Int → List Int → Option β) → Option β) : GSpec β := VSF157 N zq79 N
def S157 {β : Type} (N : Nat) : GSpec β := SF157 N N
def h157_0_0  (v0 : Int) (v1 : Int) (v2 : Int) (v3 : Int) (v4 : List Int) (v5 : List Int) (v6 : Int) : St := ⟨tund :: .v (.one (.row 1)) :: tund :: .v (.one (.ptr 2 0)) :: tund :: tund :: .v (.one (.ptr 3 0)) :: tund :: tund :: tund :: tund :: tund :: tund :: tund :: tund :: tund :: tund :: tund :: tund :: tund :: tund :: tund :: tund :: tund :: tund :: tund :: tund :: tund :: tund :: tund :: tund :: tund :: tund :: tund :: tund :: tund :: tund :: tund :: tund :: tund :: tund :: tund :: tund :: tund :: tund :: tund :: tund :: tund :: tund :: tund :: tund :: tund :: tund :: tund :: tund :: tund :: tund :: tund :: tund :: tund :: tund :: tund :: tund :: tund :: tund :: tund :: tund :: tund :: tund :: tund :: tund :: tund :: tund :: tund :: tund :: [], [.pcells 0 131 [.int .i64 v0, .int .i64 v1, .int .i64 v2, .int .i64 v3, .fsl 3 (.ints .i64 v4)], .prow 1 3 (.ints .i64 v5), .cells 129 [.ptr 0 0], .cells 3 [.int .i64 v6]]⟩
def x157_0_0_k0  (y0 : Int) (y1 : Int) (y2 : Int) (y3 : Int) (y4 : List Int) (y5 : List Int) : St := ⟨tund :: tund :: tund :: tund :: tund :: tund :: tund :: tund :: tund :: tund :: tund :: tund :: tund :: tund :: tund :: tund :: tund :: tund :: tund :: tund :: tund :: tund :: tund :: tund :: tund :: tund :: tund :: tund :: tund :: tund :: tund :: tund :: tund :: tund :: tund :: tund :: tund :: tund :: tund :: tund :: tund :: tund :: tund :: tund :: tund :: tund :: tund :: tund :: tund :: tund :: tund :: tund :: tund :: tund :: tund :: tund :: tund :: tund :: tund :: tund :: tund :: tund :: tund :: tund :: tund :: tund :: tund :: tund :: tund :: tund :: tund :: tund :: tund :: tund :: tund :: [], [.pcells 0 131 [.int .i64 y0, .int .i64 y1, .int .i64 y2, .int .i64 y3, .fsl 3 (.ints .i64 y4)], .prow 1 3 (.ints .i64 y5)]⟩
theorem fl157_0_0 (s : St) : refSt (h157_0_0 0 0 0 0 [] [] 0) s = h157_0_0 (intS (nx .und (cellsB (nx .dead s.blks 0)) 0)) (intS (nx .und (cellsB (nx .dead s.blks 0)) 1)) (intS (nx .und (cellsB (nx .dead s.blks 0)) 2)) (intS (nx .und (cellsB (nx .dead s.blks 0)) 3)) (rInts (rowV (nx .und (cellsB (nx .dead s.blks 0)) 4))) (rInts (rowB_ (nx .dead s.blks 1))) (intS (nx .und (cellsB (nx .dead s.blks 3)) 0)) := by kernel_rfl
def VLS157_0 {β : Type} (N : Nat) (zq77 : (self : Int → Int → Int → Int → Int → List Int → List Int → (Int → Int → Int → Int → List Int → List Int → Option β) → Option β) → Nat → Int → Int → Int → Int → List Int → List Int → Int → (Int → Int → Int → Int → List Int → List Int → Option β) → Option β) (zq79 : Nat → Int → Int → Int → Int → Int → List Int → List Int → (Int → Int → Int → Int → List Int → List Int → Option β) → Option β) (G : Nat) : LSpec β := fun s K => cond (shpSt (h157_0_0 0 0 0 0 [] [] 0) s) ((fun (v0 : Int) (v1 : Int) (v2 : Int) (v3 : Int) (v4 : List Int) (v5 : List Int) (v6 : Int) => zq77 (zq79 G)  N v0 v1 v2 v3 v4 v5 v6 (fun y0 y1 y2 y3 y4 y5 => K (.exit 0) (x157_0_0_k0  y0 y1 y2 y3 y4 y5))) (intS (nx .und (cellsB (nx .dead s.blks 0)) 0)) (intS (nx .und (cellsB (nx .dead s.blks 0)) 1)) (intS (nx .und (cellsB (nx .dead s.blks 0)) 2)) (intS (nx .und (cellsB (nx .dead s.blks 0)) 3)) (rInts (rowV (nx .und (cellsB (nx .dead s.blks 0)) 4))) (rInts (rowB_ (nx .dead s.blks 1))) (intS (nx .und (cellsB (nx .dead s.blks 3)) 0))) (none)
def LS157_0 {β : Type} (N : Nat) (G : Nat) : LSpec β := VLS157_0 N (zj77 N) (zj79 N) G
def VE157 {β : Type} (N : Nat) (zq60 : (a0 : Int) → (a1 : Int) → (k : Int → Option β) → Option β) (zq63 : (a0 : Int) → (a1 : Int) → (a2 : Int) → (k : Int → Option β) → Option β) (zq74 : (a0 : List Int) → (a1 : (Int → (Bool → Option β) → Option β)) → (k : Bool → Option β) → Option β) (zq69 : (a0 : Int) → (c0 : Int) → (c1 : Int) → (c2 : Int) → (c3 : Int) → (c4 : List Int) → (c5 : Int) → (k : Bool → Option β) → Option β) (zq70 : (a0 : Int) → (k : Bool → Option β) → Option β) (zq77 : (self : Int → Int → Int → Int → Int → List Int → List Int → (Int → Int → Int → Int → List Int → List Int → Option β) → Option β) → Nat → Int → Int → Int → Int → List Int → List Int → Int → (Int → Int → Int → Int → List Int → List Int → Option β) → Option β) (zq79 : Nat → Int → Int → Int → Int → Int → List Int → List Int → (Int → Int → Int → Int → List Int → List Int → Option β) → Option β) (G : Nat) : Env β := ⟨[(205, S205 N), (125, VS125 N zq60), (128, VS128 N zq63), (158, VS158 N zq74 zq69 zq70), (206, VS206 N zq69)], [], [(0, VLS157_0 N zq77 zq79 G)], [(157, VSF157 N zq79 G)], ⟨[], [17], [153]⟩⟩
def E157 {β : Type} (N : Nat) (G : Nat) : Env β := VE157 N (zj60 N) (zj63 N) (zj74 N) (zj69 N) (zj70 N) (zj77 N) (zj79 N) G
def zb76 {β : Type} (N : Nat) (zq60 : (a0 : Int) → (a1 : Int) → (k : Int → Option β) → Option β) (zq63 : (a0 : Int) → (a1 : Int) → (a2 : Int) → (k : Int → Option β) → Option β) (zq74 : (a0 : List Int) → (a1 : (Int → (Bool → Option β) → Option β)) → (k : Bool → Option β) → Option β) (zq69 : (a0 : Int) → (c0 : Int) → (c1 : Int) → (c2 : Int) → (c3 : Int) → (c4 : List Int) → (c5 : Int) → (k : Bool → Option β) → Option β) (self : Int → Int → Int → Int → Int → List Int → List Int → (Int → Int → Int → Int → List Int → List Int → Option β) → Option β)  (v0 : Int) (v1 : Int) (v2 : Int) (v3 : Int) (v4 : List Int) (v5 : List Int) (v6 : Int) (rec_ : Int → Int → Int → Int → List Int → List Int → Int → Option β) (k0 : Int → Int → Int → Int → List Int → List Int → Option β) : Option β :=
zq60 v0 v1 fun r9 =>
(cond ((decide (v6 < r9)))
(zq60 v0 v1 fun r10 =>
(cond ((decide ((w64 ((w64 ((v5.length : Int) + r10)) - v6)) > (v4.length : Int))))
(zq63 v0 v1 v6 fun r11 =>
(cond ((r11 == v3))
(zq74 v5 (fun x0 k => zq69 x0 v0 v1 v2 v3 v4 v6 k) fun r12 =>
(cond (!r12)
(slices_Clone_Sint_int N v5 fun r13 =>
(gd ((decide ((r13.length + ((([] : List Int) ++ [v6])).length) * 8 ≤ 140737488355328)))
(self ((w64 (v6 + 1))) v0 v1 v2 v3 v4 ((r13 ++ (([] : List Int) ++ [v6]))) (fun r14_0 r14_1 r14_2 r14_3 r14_4 r14_5 =>
slices_Clone_Sint_int N v5 fun r15 =>
(gd ((decide ((r15.length + ((([] : List Int) ++ [v6])).length) * 8 ≤ 140737488355328)))
(self ((w64 (v6 + 1))) v0 v1 v2 v3 v4 ((r15 ++ (([] : List Int) ++ [v6]))) (fun r16_0 r16_1 r16_2 r16_3 r16_4 r16_5 =>
(zj75 r14_0 r14_1 r14_2 r14_3 r14_4 v5 v6 r16_0 r16_1 r16_2 r16_3 r16_4 v5 v6
(rec_ r14_0 r14_1 r14_2 r14_3 r14_4 v5 ((w64 (v6 + 1))))))))))))
(rec_ v0 v1 v2 v3 v4 v5 ((w64 (v6 + 1))))))
(rec_ v0 v1 v2 v3 v4 v5 ((w64 (v6 + 1))))))
(k0 v0 v1 v2 v3 v4 v5)))
(k0 v0 v1 v2 v3 v4 v5))
theorem zt76 {β : Type} (N : Nat) (self : Int → Int → Int → Int → Int → List Int → List Int → (Int → Int → Int → Int → List Int → List Int → Option β) → Option β)  (v0 : Int) (v1 : Int) (v2 : Int) (v3 : Int) (v4 : List Int) (v5 : List Int) (v6 : Int) (rec_ : Int → Int → Int → Int → List Int → List Int → Int → Option β) (k0 : Int → Int → Int → Int → List Int → List Int → Option β) : zj76 N self v0 v1 v2 v3 v4 v5 v6 rec_ k0 = zb76 N (zj60 N) (zj63 N) (zj74 N) (zj69 N) self v0 v1 v2 v3 v4 v5 v6 rec_ k0 := by
  unfold zj76 zb76
  rfl
theorem vst157_0_0 {β : Type} (N : Nat) (zq60 : (a0 : Int) → (a1 : Int) → (k : Int → Option β) → Option β) (zq63 : (a0 : Int) → (a1 : Int) → (a2 : Int) → (k : Int → Option β) → Option β) (zq74 : (a0 : List Int) → (a1 : (Int → (Bool → Option β) → Option β)) → (k : Bool → Option β) → Option β) (zq69 : (a0 : Int) → (c0 : Int) → (c1 : Int) → (c2 : Int) → (c3 : Int) → (c4 : List Int) → (c5 : Int) → (k : Bool → Option β) → Option β) (zq70 : (a0 : Int) → (k : Bool → Option β) → Option β) (zq77 : (self : Int → Int → Int → Int → Int → List Int → List Int → (Int → Int → Int → Int → List Int → List Int → Option β) → Option β) → Nat → Int → Int → Int → Int → List Int → List Int → Int → (Int → Int → Int → Int → List Int → List Int → Option β) → Option β) (zq79 : Nat → Int → Int → Int → Int → Int → List Int → List Int → (Int → Int → Int → Int → List Int → List Int → Option β) → Option β) (G : Nat)  (v0 : Int) (v1 : Int) (v2 : Int) (v3 : Int) (v4 : List Int) (v5 : List Int) (v6 : Int) (rec_ : St → Option β) (K : Exit → St → Option β) :
    ev lay (VE157 N zq60 zq63 zq74 zq69 zq70 zq77 zq79 G) (retMask Tryd.f157) (lp Tryd.f157 0).body (lp Tryd.f157 0).ex ((lp Tryd.f157 0).lv (retMask Tryd.f157)) (h157_0_0  v0 v1 v2 v3 v4 v5 v6) (nextR (fun s' => rec_ (s'.tidy ((lp Tryd.f157 0).lv (retMask Tryd.f157)))) K) = zb76 N zq60 zq63 zq74 zq69 (zq79 G)  v0 v1 v2 v3 v4 v5 v6 (fun v0 v1 v2 v3 v4 v5 v6 => rec_ (h157_0_0  v0 v1 v2 v3 v4 v5 v6)) (fun y0 y1 y2 y3 y4 y5 => K (.exit 0) (x157_0_0_k0  y0 y1 y2 y3 y4 y5)) := by kernel_rfl
theorem st157_0_0 {β : Type} (N : Nat) (G : Nat)  (v0 : Int) (v1 : Int) (v2 : Int) (v3 : Int) (v4 : List Int) (v5 : List Int) (v6 : Int) (rec_ : St → Option β) (K : Exit → St → Option β) :
    ev lay (E157 N G) (retMask Tryd.f157) (lp Tryd.f157 0).body (lp Tryd.f157 0).ex ((lp Tryd.f157 0).lv (retMask Tryd.f157)) (h157_0_0  v0 v1 v2 v3 v4 v5 v6) (nextR (fun s' => rec_ (s'.tidy ((lp Tryd.f157 0).lv (retMask Tryd.f157)))) K) = zj76 N (zj79 N G)  v0 v1 v2 v3 v4 v5 v6 (fun v0 v1 v2 v3 v4 v5 v6 => rec_ (h157_0_0  v0 v1 v2 v3 v4 v5 v6)) (fun y0 y1 y2 y3 y4 y5 => K (.exit 0) (x157_0_0_k0  y0 y1 y2 y3 y4 y5)) := (vst157_0_0 N (zj60 N) (zj63 N) (zj74 N) (zj69 N) (zj70 N) (zj77 N) (zj79 N) G v0 v1 v2 v3 v4 v5 v6 rec_ K).trans (zt76 N (zj79 N G)  v0 v1 v2 v3 v4 v5 v6 (fun v0 v1 v2 v3 v4 v5 v6 => rec_ (h157_0_0  v0 v1 v2 v3 v4 v5 v6)) (fun y0 y1 y2 y3 y4 y5 => K (.exit 0) (x157_0_0_k0  y0 y1 y2 y3 y4 y5))).symm
theorem ro157_0_0 {β : Type} (N : Nat) (G : Nat)  (K : Exit → St → Option β) : ∀ (F : Nat) (v0 : Int) (v1 : Int) (v2 : Int) (v3 : Int) (v4 : List Int) (v5 : List Int) (v6 : Int), (lp Tryd.f157 0).rounds lay (E157 N G) (retMask Tryd.f157) F (h157_0_0  v0 v1 v2 v3 v4 v5 v6) K = zj77 N (zj79 N G)  F v0 v1 v2 v3 v4 v5 v6 (fun y0 y1 y2 y3 y4 y5 => K (.exit 0) (x157_0_0_k0  y0 y1 y2 y3 y4 y5)) := by
  intro F
  induction F with
  | zero => intros; rfl
  | succ F ih =>
    intros
    rw [rounds_next]
    refine (st157_0_0 N G  _ _ _ _ _ _ _ (fun s => (lp Tryd.f157 0).rounds lay (E157 N G) (retMask Tryd.f157) F s K) K).trans ?_
    simp only [ih]
    rfl
theorem lk157_0 {β : Type} (N : Nat) (G : Nat) : lookL (E157 (β := β) N G).loops (lp Tryd.f157 0).id = LS157_0 N G := by kernel_rfl
theorem rk157_0 {β : Type} (N : Nat) (G : Nat) : RoundsOK lay (E157 (β := β) N G) (retMask Tryd.f157) (lp Tryd.f157 0) := by
  intro s K r h
  rw [lk157_0] at h
  unfold LS157_0 VLS157_0 at h
  cases hb : shpSt (h157_0_0 0 0 0 0 [] [] 0) s with
  | true =>
    rw [hb, cond_true] at h
    exact ⟨N, by rw [← shpSt_ref hb, fl157_0_0 s]; exact (ro157_0_0 N G  K N (intS (nx .und (cellsB (nx .dead s.blks 0)) 0)) (intS (nx .und (cellsB (nx .dead s.blks 0)) 1)) (intS (nx .und (cellsB (nx .dead s.blks 0)) 2)) (intS (nx .und (cellsB (nx .dead s.blks 0)) 3)) (rInts (rowV (nx .und (cellsB (nx .dead s.blks 0)) 4))) (rInts (rowB_ (nx .dead s.blks 1))) (intS (nx .und (cellsB (nx .dead s.blks 3)) 0))).trans h⟩
  | false =>
  rw [hb, cond_false] at h
  clear hb
  cases h
def zb78 {β : Type} (N : Nat) (zq77 : (self : Int → Int → Int → Int → Int → List Int → List Int → (Int → Int → Int → Int → List Int → List Int → Option β) → Option β) → Nat → Int → Int → Int → Int → List Int → List Int → Int → (Int → Int → Int → Int → List Int → List Int → Option β) → Option β) (self : Int → Int → Int → Int → Int → List Int → List Int → (Int → Int → Int → Int → List Int → List Int → Option β) → Option β) (a0 : Int) (a1 : Int) (a2 : Int) (a3 : Int) (a4 : Int) (a5 : List Int) (a6 : List Int) (k0 : Int → Int → Int → Int → List Int → List Int → Option β) : Option β :=
(cond ((decide ((a6.length : Int) > (a5.length : Int))))
(slices_Clone_Sint_int N a6 fun r8 =>
zq77 self  N a1 a2 a3 a4 r8 a6 a0 (fun e17_0 e17_1 e17_2 e17_3 e17_4 e17_5 =>
k0 e17_0 e17_1 e17_2 e17_3 e17_4 e17_5))
(zq77 self  N a1 a2 a3 a4 a5 a6 a0 (fun e18_0 e18_1 e18_2 e18_3 e18_4 e18_5 =>
k0 e18_0 e18_1 e18_2 e18_3 e18_4 e18_5)))
theorem zt78 {β : Type} (N : Nat) (self : Int → Int → Int → Int → Int → List Int → List Int → (Int → Int → Int → Int → List Int → List Int → Option β) → Option β) (a0 : Int) (a1 : Int) (a2 : Int) (a3 : Int) (a4 : Int) (a5 : List Int) (a6 : List Int) (k0 : Int → Int → Int → Int → List Int → List Int → Option β) : zj78 N self a0 a1 a2 a3 a4 a5 a6 k0 = zb78 N (zj77 N) self a0 a1 a2 a3 a4 a5 a6 k0 := by
  unfold zj78 zb78
  rfl
theorem ve157_0 {β : Type} (N : Nat) (zq60 : (a0 : Int) → (a1 : Int) → (k : Int → Option β) → Option β) (zq63 : (a0 : Int) → (a1 : Int) → (a2 : Int) → (k : Int → Option β) → Option β) (zq74 : (a0 : List Int) → (a1 : (Int → (Bool → Option β) → Option β)) → (k : Bool → Option β) → Option β) (zq69 : (a0 : Int) → (c0 : Int) → (c1 : Int) → (c2 : Int) → (c3 : Int) → (c4 : List Int) → (c5 : Int) → (k : Bool → Option β) → Option β) (zq70 : (a0 : Int) → (k : Bool → Option β) → Option β) (zq77 : (self : Int → Int → Int → Int → Int → List Int → List Int → (Int → Int → Int → Int → List Int → List Int → Option β) → Option β) → Nat → Int → Int → Int → Int → List Int → List Int → Int → (Int → Int → Int → Int → List Int → List Int → Option β) → Option β) (zq79 : Nat → Int → Int → Int → Int → Int → List Int → List Int → (Int → Int → Int → Int → List Int → List Int → Option β) → Option β) (G : Nat) (a0 : Int) (a1 : Int) (a2 : Int) (a3 : Int) (a4 : Int) (a5 : List Int) (a6 : List Int) (K : TV → List Blk → Option β) : evFnG lay (VE157 N zq60 zq63 zq74 zq69 zq70 zq77 zq79 G) Tryd.f157 [.v (.one (.ptr 0 0)), .v (.one (.row 1)), .v (.one (.int .i64 a0))] [.pcells 0 131 [.int .i64 a1, .int .i64 a2, .int .i64 a3, .int .i64 a4, .fsl 3 (.ints .i64 a5)], .prow 1 3 (.ints .i64 a6)] K = zb78 N zq77 (zq79 G) a0 a1 a2 a3 a4 a5 a6 (fun y0 y1 y2 y3 y4 y5 => K (.tup []) [.pcells 0 131 [.int .i64 y0, .int .i64 y1, .int .i64 y2, .int .i64 y3, .fsl 3 (.ints .i64 y4)], .prow 1 3 (.ints .i64 y5)]) := by kernel_rfl
theorem e157_0 {β : Type} (N : Nat) (G : Nat) (a0 : Int) (a1 : Int) (a2 : Int) (a3 : Int) (a4 : Int) (a5 : List Int) (a6 : List Int) (K : TV → List Blk → Option β) : evFnG lay (E157 N G) Tryd.f157 [.v (.one (.ptr 0 0)), .v (.one (.row 1)), .v (.one (.int .i64 a0))] [.pcells 0 131 [.int .i64 a1, .int .i64 a2, .int .i64 a3, .int .i64 a4, .fsl 3 (.ints .i64 a5)], .prow 1 3 (.ints .i64 a6)] K = zj79 N (G + 1) a0 a1 a2 a3 a4 a5 a6 (fun y0 y1 y2 y3 y4 y5 => K (.tup []) [.pcells 0 131 [.int .i64 y0, .int .i64 y1, .int .i64 y2, .int .i64 y3, .fsl 3 (.ints .i64 y4)], .prow 1 3 (.ints .i64 y5)]) := (ve157_0 N (zj60 N) (zj63 N) (zj74 N) (zj69 N) (zj70 N) (zj77 N) (zj79 N) G a0 a1 a2 a3 a4 a5 a6 K).trans (zt78 N (zj79 N G) a0 a1 a2 a3 a4 a5 a6 (fun y0 y1 y2 y3 y4 y5 => K (.tup []) [.pcells 0 131 [.int .i64 y0, .int .i64 y1, .int .i64 y2, .int .i64 y3, .fsl 3 (.ints .i64 y4)], .prow 1 3 (.ints .i64 y5)])).symm
theorem z157 {β : Type} (N : Nat) : ∀ args bl K r, SF157 (β := β) N 0 args bl K = some r → (none : Option β) = some r := by
  intro args bl K r h
  unfold SF157 VSF157 at h
  split at h <;> exact h
theorem of157 {β : Type} (N : Nat) : ∀ G, GOK (β := β) inv Tryd.prog 157 (SF157 N G) := by
  intro G
  induction G with
  | zero => exact g_zero Tryd.func157 (by kernel_rfl) (z157 N)
  | succ G ih =>
    refine g_of lay_ok mixed (E := E157 N G) (specs_loops (specs_cons (o205 N) (specs_cons (o125 N) (specs_cons (o128 N) (specs_cons (o158 N) (specs_cons (o206 N) specs_nil)))))) muts_nil (gs_cons ih gs_nil) Tryd.func157 (by kernel_rfl) 1 (by kernel_rfl) ⟨trivial, rk157_0 N G⟩ fun args bl K r h => ?_
    unfold SF157 VSF157 at h
    split at h
    · exact (e157_0 N G _ _ _ _ _ _ _ _).trans h
    · cases h
theorem o157 {β : Type} (N : Nat) : GOK (β := β) inv Tryd.prog 157 (S157 N) := of157 N N
end Go.Proofs.YtfdggelojmofmaaDoor
