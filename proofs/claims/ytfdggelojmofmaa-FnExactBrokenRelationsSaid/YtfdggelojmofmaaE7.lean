/- The functions that the claims reach answer as their texts do. -/
import Derived.Test.YtfdggelojmofmaaE6
namespace Go.Proofs.Ytfdggelojmofmaa
open Go.Rv
set_option maxRecDepth 100000
set_option maxHeartbeats 2000000
set_option linter.unusedVariables false
def VS205 {β : Type} (N : Nat) (zq138 : (a0 : Int) → (c0 : Int) → (c1 : Int) → (k : Bool → Option β) → Option β) : Rv.Spec β := fun args K => match args with
  | [.v (.one (.int .i64 a0)), .v (.one (.cref [.int .i64 c0, .int .i64 c1] 0))] => zq138 a0 c0 c1 (fun z1 => K (.v (.one (.bool z1))))
  | _ => none
def S205 {β : Type} (N : Nat) : Rv.Spec β := VS205 N (zj138 N)
def h205_0_0  (v0 : Int) (v1 : Int) (v2 : Int) (v3 : Int) (v4 : Int) (v5 : Int) : St := ⟨.v (.one (.int .i64 v0)) :: .v (.one (.cref [.int .i64 v1, .int .i64 v2] 0)) :: tund :: tund :: .v (.one (.int .i64 v3)) :: tund :: tund :: .v (.one (.int .i64 v4)) :: .v (.one (.int .i64 v5)) :: tund :: tund :: tund :: tund :: tund :: tund :: tund :: tund :: tund :: tund :: tund :: tund :: tund :: tund :: [], []⟩
def x205_0_0_k0  (y0 : Int) : St := ⟨tund :: tund :: tund :: tund :: .v (.one (.int .i64 y0)) :: tund :: tund :: tund :: tund :: tund :: tund :: tund :: tund :: tund :: tund :: tund :: tund :: tund :: tund :: tund :: tund :: tund :: tund :: [], []⟩
theorem fl205_0_0 (s : St) : refSt (h205_0_0 0 0 0 0 0 0) s = h205_0_0 (intS (oneA (vT (nx tund s.tmps 0)))) (intF (nx .no (crefS (oneA (vT (nx tund s.tmps 1)))) 0)) (intF (nx .no (crefS (oneA (vT (nx tund s.tmps 1)))) 1)) (intS (oneA (vT (nx tund s.tmps 4)))) (intS (oneA (vT (nx tund s.tmps 7)))) (intS (oneA (vT (nx tund s.tmps 8)))) := by kernel_rfl
def VLS205_0 {β : Type} (N : Nat) (zq137 : Nat → Int → Int → Int → Int → Int → Int → (Int → Option β) → Option β) : LSpec β := fun s K => cond (shpSt (h205_0_0 0 0 0 0 0 0) s) ((fun (v0 : Int) (v1 : Int) (v2 : Int) (v3 : Int) (v4 : Int) (v5 : Int) => zq137  N v0 v1 v2 v3 v4 v5 (fun y0 => K (.exit 0) (x205_0_0_k0  y0))) (intS (oneA (vT (nx tund s.tmps 0)))) (intF (nx .no (crefS (oneA (vT (nx tund s.tmps 1)))) 0)) (intF (nx .no (crefS (oneA (vT (nx tund s.tmps 1)))) 1)) (intS (oneA (vT (nx tund s.tmps 4)))) (intS (oneA (vT (nx tund s.tmps 7)))) (intS (oneA (vT (nx tund s.tmps 8))))) (none)
def LS205_0 {β : Type} (N : Nat) : LSpec β := VLS205_0 N (zj137 N)
def VE205 {β : Type} (N : Nat) (zq79 : (a0 : Int) → (a1 : Int) → (k : Int → Option β) → Option β) (zq83 : (a0 : Int) → (a1 : Int) → (a2 : Int) → (k : Int → Option β) → Option β) (zq137 : Nat → Int → Int → Int → Int → Int → Int → (Int → Option β) → Option β) : Env β := ⟨[(96, VS96 N zq79), (97, VS97 N zq83)], [], [(0, VLS205_0 N zq137)], [], ⟨[], [], [], [61]⟩⟩
def E205 {β : Type} (N : Nat) : Env β := VE205 N (zj79 N) (zj83 N) (zj137 N)
def zb136 {β : Type} (N : Nat) (zq83 : (a0 : Int) → (a1 : Int) → (a2 : Int) → (k : Int → Option β) → Option β)  (v0 : Int) (v1 : Int) (v2 : Int) (v3 : Int) (v4 : Int) (v5 : Int) (rec_ : Int → Int → Int → Int → Int → Int → Option β) (k0 : Int → Option β) : Option β :=
(cond ((decide (v5 < v4)))
((cond (((bits .andNot .i64 v5 v0) == 0))
(zq83 v1 v2 v5 fun r3 =>
rec_ v0 v1 v2 ((bits .xor .i64 v3 r3)) v4 ((w64 (v5 + 1))))
(rec_ v0 v1 v2 v3 v4 ((w64 (v5 + 1))))))
(k0 v3))
theorem zt136 {β : Type} (N : Nat)  (v0 : Int) (v1 : Int) (v2 : Int) (v3 : Int) (v4 : Int) (v5 : Int) (rec_ : Int → Int → Int → Int → Int → Int → Option β) (k0 : Int → Option β) : zj136 N v0 v1 v2 v3 v4 v5 rec_ k0 = zb136 N (zj83 N) v0 v1 v2 v3 v4 v5 rec_ k0 := by
  unfold zj136 zb136
  rfl
theorem vst205_0_0 {β : Type} (N : Nat) (zq79 : (a0 : Int) → (a1 : Int) → (k : Int → Option β) → Option β) (zq83 : (a0 : Int) → (a1 : Int) → (a2 : Int) → (k : Int → Option β) → Option β) (zq137 : Nat → Int → Int → Int → Int → Int → Int → (Int → Option β) → Option β)  (v0 : Int) (v1 : Int) (v2 : Int) (v3 : Int) (v4 : Int) (v5 : Int) (rec_ : St → Option β) (K : Exit → St → Option β) :
    ev lay (VE205 N zq79 zq83 zq137) (retMask Try.f205) (lp Try.f205 0).body (lp Try.f205 0).ex ((lp Try.f205 0).lv (retMask Try.f205)) (h205_0_0  v0 v1 v2 v3 v4 v5) (nextR (fun s' => rec_ (s'.tidy ((lp Try.f205 0).lv (retMask Try.f205)))) K) = zb136 N zq83  v0 v1 v2 v3 v4 v5 (fun v0 v1 v2 v3 v4 v5 => rec_ (h205_0_0  v0 v1 v2 v3 v4 v5)) (fun y0 => K (.exit 0) (x205_0_0_k0  y0)) := by kernel_rfl
theorem st205_0_0 {β : Type} (N : Nat)  (v0 : Int) (v1 : Int) (v2 : Int) (v3 : Int) (v4 : Int) (v5 : Int) (rec_ : St → Option β) (K : Exit → St → Option β) :
    ev lay (E205 N) (retMask Try.f205) (lp Try.f205 0).body (lp Try.f205 0).ex ((lp Try.f205 0).lv (retMask Try.f205)) (h205_0_0  v0 v1 v2 v3 v4 v5) (nextR (fun s' => rec_ (s'.tidy ((lp Try.f205 0).lv (retMask Try.f205)))) K) = zj136 N  v0 v1 v2 v3 v4 v5 (fun v0 v1 v2 v3 v4 v5 => rec_ (h205_0_0  v0 v1 v2 v3 v4 v5)) (fun y0 => K (.exit 0) (x205_0_0_k0  y0)) := (vst205_0_0 N (zj79 N) (zj83 N) (zj137 N) v0 v1 v2 v3 v4 v5 rec_ K).trans (zt136 N  v0 v1 v2 v3 v4 v5 (fun v0 v1 v2 v3 v4 v5 => rec_ (h205_0_0  v0 v1 v2 v3 v4 v5)) (fun y0 => K (.exit 0) (x205_0_0_k0  y0))).symm
theorem ro205_0_0 {β : Type} (N : Nat)  (K : Exit → St → Option β) : ∀ (F : Nat) (v0 : Int) (v1 : Int) (v2 : Int) (v3 : Int) (v4 : Int) (v5 : Int), (lp Try.f205 0).rounds lay (E205 N) (retMask Try.f205) F (h205_0_0  v0 v1 v2 v3 v4 v5) K = zj137 N  F v0 v1 v2 v3 v4 v5 (fun y0 => K (.exit 0) (x205_0_0_k0  y0)) := by
  intro F
  induction F with
  | zero => intros; rfl
  | succ F ih =>
    intros
    rw [rounds_next]
    refine (st205_0_0 N  _ _ _ _ _ _ (fun s => (lp Try.f205 0).rounds lay (E205 N) (retMask Try.f205) F s K) K).trans ?_
    simp only [ih]
    rfl
theorem lk205_0 {β : Type} (N : Nat) : lookL (E205 (β := β) N).loops (lp Try.f205 0).id = LS205_0 N := by kernel_rfl
theorem rk205_0 {β : Type} (N : Nat) : RoundsOK lay (E205 (β := β) N) (retMask Try.f205) (lp Try.f205 0) := by
  intro s K r h
  rw [lk205_0] at h
  unfold LS205_0 VLS205_0 at h
  cases hb : shpSt (h205_0_0 0 0 0 0 0 0) s with
  | true =>
    rw [hb, cond_true] at h
    exact ⟨N, by rw [← shpSt_ref hb, fl205_0_0 s]; exact (ro205_0_0 N  K N (intS (oneA (vT (nx tund s.tmps 0)))) (intF (nx .no (crefS (oneA (vT (nx tund s.tmps 1)))) 0)) (intF (nx .no (crefS (oneA (vT (nx tund s.tmps 1)))) 1)) (intS (oneA (vT (nx tund s.tmps 4)))) (intS (oneA (vT (nx tund s.tmps 7)))) (intS (oneA (vT (nx tund s.tmps 8))))).trans h⟩
  | false =>
  rw [hb, cond_false] at h
  clear hb
  cases h
def zb138 {β : Type} (N : Nat) (zq79 : (a0 : Int) → (a1 : Int) → (k : Int → Option β) → Option β) (zq137 : Nat → Int → Int → Int → Int → Int → Int → (Int → Option β) → Option β) (a0 : Int) (c0 : Int) (c1 : Int) (k : Bool → Option β) : Option β :=
zq79 c0 c1 fun r2 =>
zq137  N a0 c0 c1 0 r2 0 (fun e4_0 =>
k ((e4_0 == 1)))
theorem zt138 {β : Type} (N : Nat) (a0 : Int) (c0 : Int) (c1 : Int) (k : Bool → Option β) : zj138 N a0 c0 c1 k = zb138 N (zj79 N) (zj137 N) a0 c0 c1 k := by
  unfold zj138 zb138
  rfl
theorem ve205_0 {β : Type} (N : Nat) (zq79 : (a0 : Int) → (a1 : Int) → (k : Int → Option β) → Option β) (zq83 : (a0 : Int) → (a1 : Int) → (a2 : Int) → (k : Int → Option β) → Option β) (zq137 : Nat → Int → Int → Int → Int → Int → Int → (Int → Option β) → Option β)  (a0 : Int) (c0 : Int) (c1 : Int) (K : TV → Option β) : evFn lay (VE205 N zq79 zq83 zq137) Try.f205 [.v (.one (.int .i64 a0)), .v (.one (.cref [.int .i64 c0, .int .i64 c1] 0))] K = zb138 N zq79 zq137 a0 c0 c1 (fun z1 => K (.v (.one (.bool z1)))) := by kernel_rfl
theorem e205_0 {β : Type} (N : Nat)  (a0 : Int) (c0 : Int) (c1 : Int) (K : TV → Option β) : evFn lay (E205 N) Try.f205 [.v (.one (.int .i64 a0)), .v (.one (.cref [.int .i64 c0, .int .i64 c1] 0))] K = zj138 N a0 c0 c1 (fun z1 => K (.v (.one (.bool z1)))) := (ve205_0 N (zj79 N) (zj83 N) (zj137 N) a0 c0 c1 K).trans (zt138 N a0 c0 c1 (fun z1 => K (.v (.one (.bool z1))))).symm
theorem o205 {β : Type} (N : Nat) : SpecOK (β := β) inv Try.prog 205 (S205 N) := by
  refine spec_of lay_ok mixed (E := E205 N) (specs_loops (specs_cons (o96 N) (specs_cons (o97 N) specs_nil))) muts_nil gs_nil Try.func205 (by kernel_rfl) 1 (by kernel_rfl) ⟨trivial, rk205_0 N⟩ fun args K r h => ?_
  unfold S205 VS205 at h
  split at h
  · exact (e205_0 N _ _ _ _).trans h
  · cases h
def VS159 {β : Type} (N : Nat) (zq139 : (a0 : Int) → (a1 : Int) → (a2 : Int) → (k : Int → Option β) → Option β) : Rv.Spec β := fun args K => match args with
  | [.v (.one (.int .i64 a0)), .v (.one (.int .i64 a1)), .v (.one (.int .i64 a2))] => zq139 a0 a1 a2 (fun z3 => K (.v (.one (.int .i64 z3))))
  | _ => none
def S159 {β : Type} (N : Nat) : Rv.Spec β := VS159 N (zj139 N)
def VE159 {β : Type} (N : Nat) : Env β := ⟨[], [], [], [], ⟨[], [], [], [61]⟩⟩
def E159 {β : Type} (N : Nat) : Env β := VE159 N
def zb139 {β : Type} (N : Nat) (a0 : Int) (a1 : Int) (a2 : Int) (k : Int → Option β) : Option β :=
(gd ((decide (0 ≤ a1)))
((gd ((decide (0 ≤ a1)))
(k ((bits .or .i64 (bits .or .i64 (shlI .i64 (w64 (a0 - (bits .and .i64 a0 (w64 ((shlI .i64 1 a1) - 1))))) 1) (shlI .i64 a2 a1)) (bits .and .i64 a0 (w64 ((shlI .i64 1 a1) - 1)))))))))
theorem zt139 {β : Type} (N : Nat) (a0 : Int) (a1 : Int) (a2 : Int) (k : Int → Option β) : zj139 N a0 a1 a2 k = zb139 N a0 a1 a2 k := by
  unfold zj139 zb139
  rfl
theorem ve159_0 {β : Type} (N : Nat)  (a0 : Int) (a1 : Int) (a2 : Int) (K : TV → Option β) : evFn lay (VE159 N) Try.f159 [.v (.one (.int .i64 a0)), .v (.one (.int .i64 a1)), .v (.one (.int .i64 a2))] K = zb139 N a0 a1 a2 (fun z3 => K (.v (.one (.int .i64 z3)))) := by kernel_rfl
theorem e159_0 {β : Type} (N : Nat)  (a0 : Int) (a1 : Int) (a2 : Int) (K : TV → Option β) : evFn lay (E159 N) Try.f159 [.v (.one (.int .i64 a0)), .v (.one (.int .i64 a1)), .v (.one (.int .i64 a2))] K = zj139 N a0 a1 a2 (fun z3 => K (.v (.one (.int .i64 z3)))) := (ve159_0 N a0 a1 a2 K).trans (zt139 N a0 a1 a2 (fun z3 => K (.v (.one (.int .i64 z3))))).symm
theorem o159 {β : Type} (N : Nat) : SpecOK (β := β) inv Try.prog 159 (S159 N) := by
  refine spec_of lay_ok mixed (E := E159 N) (specs_loops specs_nil) muts_nil gs_nil Try.func159 (by kernel_rfl) 0 (by kernel_rfl) trivial fun args K r h => ?_
  unfold S159 VS159 at h
  split at h
  · exact (e159_0 N _ _ _ _).trans h
  · cases h
def VS158 {β : Type} (N : Nat) (zq140 : (a0 : Int) → (c0 : Int) → (c1 : Int) → (c2 : Int) → (c3 : Int) → (k : Bool → Option β) → Option β) : Rv.Spec β := fun args K => match args with
  | [.v (.one (.int .i64 a0)), .v (.one (.cref [.int .i64 c0, .int .i64 c1] 0)), .v (.one (.cref [.int .i64 c2] 0)), .v (.one (.cref [.int .i64 c3] 0))] => zq140 a0 c0 c1 c2 c3 (fun z1 => K (.v (.one (.bool z1))))
  | _ => none
def S158 {β : Type} (N : Nat) : Rv.Spec β := VS158 N (zj140 N)
def VE158 {β : Type} (N : Nat) (zq139 : (a0 : Int) → (a1 : Int) → (a2 : Int) → (k : Int → Option β) → Option β) (zq83 : (a0 : Int) → (a1 : Int) → (a2 : Int) → (k : Int → Option β) → Option β) : Env β := ⟨[(159, VS159 N zq139), (97, VS97 N zq83)], [], [], [], ⟨[], [], [], [61]⟩⟩
def E158 {β : Type} (N : Nat) : Env β := VE158 N (zj139 N) (zj83 N)
def zb140 {β : Type} (N : Nat) (zq139 : (a0 : Int) → (a1 : Int) → (a2 : Int) → (k : Int → Option β) → Option β) (zq83 : (a0 : Int) → (a1 : Int) → (a2 : Int) → (k : Int → Option β) → Option β) (a0 : Int) (c0 : Int) (c1 : Int) (c2 : Int) (c3 : Int) (k : Bool → Option β) : Option β :=
zq139 a0 c2 c3 fun r2 =>
zq83 c0 c1 r2 fun r3 =>
k ((r3 == 1))
theorem zt140 {β : Type} (N : Nat) (a0 : Int) (c0 : Int) (c1 : Int) (c2 : Int) (c3 : Int) (k : Bool → Option β) : zj140 N a0 c0 c1 c2 c3 k = zb140 N (zj139 N) (zj83 N) a0 c0 c1 c2 c3 k := by
  unfold zj140 zb140
  rfl
theorem ve158_0 {β : Type} (N : Nat) (zq139 : (a0 : Int) → (a1 : Int) → (a2 : Int) → (k : Int → Option β) → Option β) (zq83 : (a0 : Int) → (a1 : Int) → (a2 : Int) → (k : Int → Option β) → Option β)  (a0 : Int) (c0 : Int) (c1 : Int) (c2 : Int) (c3 : Int) (K : TV → Option β) : evFn lay (VE158 N zq139 zq83) Try.f158 [.v (.one (.int .i64 a0)), .v (.one (.cref [.int .i64 c0, .int .i64 c1] 0)), .v (.one (.cref [.int .i64 c2] 0)), .v (.one (.cref [.int .i64 c3] 0))] K = zb140 N zq139 zq83 a0 c0 c1 c2 c3 (fun z1 => K (.v (.one (.bool z1)))) := by kernel_rfl
theorem e158_0 {β : Type} (N : Nat)  (a0 : Int) (c0 : Int) (c1 : Int) (c2 : Int) (c3 : Int) (K : TV → Option β) : evFn lay (E158 N) Try.f158 [.v (.one (.int .i64 a0)), .v (.one (.cref [.int .i64 c0, .int .i64 c1] 0)), .v (.one (.cref [.int .i64 c2] 0)), .v (.one (.cref [.int .i64 c3] 0))] K = zj140 N a0 c0 c1 c2 c3 (fun z1 => K (.v (.one (.bool z1)))) := (ve158_0 N (zj139 N) (zj83 N) a0 c0 c1 c2 c3 K).trans (zt140 N a0 c0 c1 c2 c3 (fun z1 => K (.v (.one (.bool z1))))).symm
theorem o158 {β : Type} (N : Nat) : SpecOK (β := β) inv Try.prog 158 (S158 N) := by
  refine spec_of lay_ok mixed (E := E158 N) (specs_loops (specs_cons (o159 N) (specs_cons (o97 N) specs_nil))) muts_nil gs_nil Try.func158 (by kernel_rfl) 0 (by kernel_rfl) trivial fun args K r h => ?_
  unfold S158 VS158 at h
  split at h
  · exact (e158_0 N _ _ _ _ _ _).trans h
  · cases h
def VS115 {β : Type} (N : Nat) (zq143 : (a0 : Int) → (a1 : (Int → (Bool → Option β) → Option β)) → (k : Int → Int → Option β) → Option β) (zq138 : (a0 : Int) → (c0 : Int) → (c1 : Int) → (k : Bool → Option β) → Option β) (zq140 : (a0 : Int) → (c0 : Int) → (c1 : Int) → (c2 : Int) → (c3 : Int) → (k : Bool → Option β) → Option β) : Rv.Spec β := fun args K => match args with
  | [.v (.one (.int .i64 a0)), .v (.one (.dfn 205 [([.int .i64 q0, .int .i64 q1], 0)]))] => zq143 a0 (fun x0 k => zq138 x0 q0 q1 k) (fun z2 z3 => K (.v (.agg [.int .i64 z2, .int .i64 z3])))
  | [.v (.one (.int .i64 a0)), .v (.one (.dfn 158 [([.int .i64 q0, .int .i64 q1], 0), ([.int .i64 q2], 0), ([.int .i64 q3], 0)]))] => zq143 a0 (fun x0 k => zq140 x0 q0 q1 q2 q3 k) (fun z2 z3 => K (.v (.agg [.int .i64 z2, .int .i64 z3])))
  | _ => none
def S115 {β : Type} (N : Nat) : Rv.Spec β := VS115 N (zj143 N) (zj138 N) (zj140 N)
def h115_0_0 (q0 : Int) (q1 : Int) (v0 : Int) (v1 : Int) (v2 : Int) (v3 : Int) (v4 : Int) (v5 : Int) : St := ⟨tund :: .v (.one (.dfn 205 [([.int .i64 q0, .int .i64 q1], 0)])) :: tund :: tund :: .v (.one (.ptr 0 0)) :: .v (.one (.ptr 1 0)) :: tund :: tund :: tund :: tund :: .v (.one (.int .i64 v0)) :: .v (.one (.int .i64 v1)) :: tund :: tund :: tund :: tund :: tund :: tund :: tund :: tund :: tund :: tund :: tund :: tund :: tund :: [], [.cells 27 [.int .i64 v2, .int .i64 v3], .cells 27 [.int .i64 v4, .int .i64 v5]]⟩
def x115_0_0_k0 (q0 : Int) (q1 : Int) (y0 : Int) (y1 : Int) (y2 : Int) (y3 : Int) : St := ⟨tund :: tund :: tund :: tund :: .v (.one (.ptr 0 0)) :: .v (.one (.ptr 1 0)) :: tund :: tund :: tund :: tund :: tund :: tund :: tund :: tund :: tund :: tund :: tund :: tund :: tund :: tund :: tund :: tund :: tund :: tund :: tund :: [], [.cells 27 [.int .i64 y0, .int .i64 y1], .cells 27 [.int .i64 y2, .int .i64 y3]]⟩
def h115_0_1 (q0 : Int) (q1 : Int) (q2 : Int) (q3 : Int) (v0 : Int) (v1 : Int) (v2 : Int) (v3 : Int) (v4 : Int) (v5 : Int) : St := ⟨tund :: .v (.one (.dfn 158 [([.int .i64 q0, .int .i64 q1], 0), ([.int .i64 q2], 0), ([.int .i64 q3], 0)])) :: tund :: tund :: .v (.one (.ptr 0 0)) :: .v (.one (.ptr 1 0)) :: tund :: tund :: tund :: tund :: .v (.one (.int .i64 v0)) :: .v (.one (.int .i64 v1)) :: tund :: tund :: tund :: tund :: tund :: tund :: tund :: tund :: tund :: tund :: tund :: tund :: tund :: [], [.cells 27 [.int .i64 v2, .int .i64 v3], .cells 27 [.int .i64 v4, .int .i64 v5]]⟩
def x115_0_1_k0 (q0 : Int) (q1 : Int) (q2 : Int) (q3 : Int) (y0 : Int) (y1 : Int) (y2 : Int) (y3 : Int) : St := ⟨tund :: tund :: tund :: tund :: .v (.one (.ptr 0 0)) :: .v (.one (.ptr 1 0)) :: tund :: tund :: tund :: tund :: tund :: tund :: tund :: tund :: tund :: tund :: tund :: tund :: tund :: tund :: tund :: tund :: tund :: tund :: tund :: [], [.cells 27 [.int .i64 y0, .int .i64 y1], .cells 27 [.int .i64 y2, .int .i64 y3]]⟩
theorem fl115_0_0 (s : St) : refSt (h115_0_0 0 0 0 0 0 0 0 0) s = h115_0_0 (intF (nx .no (nx ([], 0) (dfnS (oneA (vT (nx tund s.tmps 1)))) 0).1 0)) (intF (nx .no (nx ([], 0) (dfnS (oneA (vT (nx tund s.tmps 1)))) 0).1 1)) (intS (oneA (vT (nx tund s.tmps 10)))) (intS (oneA (vT (nx tund s.tmps 11)))) (intS (nx .und (cellsB (nx .dead s.blks 0)) 0)) (intS (nx .und (cellsB (nx .dead s.blks 0)) 1)) (intS (nx .und (cellsB (nx .dead s.blks 1)) 0)) (intS (nx .und (cellsB (nx .dead s.blks 1)) 1)) := by kernel_rfl
theorem fl115_0_1 (s : St) : refSt (h115_0_1 0 0 0 0 0 0 0 0 0 0) s = h115_0_1 (intF (nx .no (nx ([], 0) (dfnS (oneA (vT (nx tund s.tmps 1)))) 0).1 0)) (intF (nx .no (nx ([], 0) (dfnS (oneA (vT (nx tund s.tmps 1)))) 0).1 1)) (intF (nx .no (nx ([], 0) (dfnS (oneA (vT (nx tund s.tmps 1)))) 1).1 0)) (intF (nx .no (nx ([], 0) (dfnS (oneA (vT (nx tund s.tmps 1)))) 2).1 0)) (intS (oneA (vT (nx tund s.tmps 10)))) (intS (oneA (vT (nx tund s.tmps 11)))) (intS (nx .und (cellsB (nx .dead s.blks 0)) 0)) (intS (nx .und (cellsB (nx .dead s.blks 0)) 1)) (intS (nx .und (cellsB (nx .dead s.blks 1)) 0)) (intS (nx .und (cellsB (nx .dead s.blks 1)) 1)) := by kernel_rfl
def VLS115_0 {β : Type} (N : Nat) (zq142 : (a1 : (Int → (Bool → Option β) → Option β)) → Nat → Int → Int → Int → Int → Int → Int → (Int → Int → Int → Int → Option β) → Option β) (zq138 : (a0 : Int) → (c0 : Int) → (c1 : Int) → (k : Bool → Option β) → Option β) (zq140 : (a0 : Int) → (c0 : Int) → (c1 : Int) → (c2 : Int) → (c3 : Int) → (k : Bool → Option β) → Option β) : LSpec β := fun s K => cond (shpSt (h115_0_0 0 0 0 0 0 0 0 0) s) ((fun (q0 : Int) (q1 : Int) (v0 : Int) (v1 : Int) (v2 : Int) (v3 : Int) (v4 : Int) (v5 : Int) => zq142 (fun x0 k => zq138 x0 q0 q1 k) N v0 v1 v2 v3 v4 v5 (fun y0 y1 y2 y3 => K (.exit 0) (x115_0_0_k0 q0 q1 y0 y1 y2 y3))) (intF (nx .no (nx ([], 0) (dfnS (oneA (vT (nx tund s.tmps 1)))) 0).1 0)) (intF (nx .no (nx ([], 0) (dfnS (oneA (vT (nx tund s.tmps 1)))) 0).1 1)) (intS (oneA (vT (nx tund s.tmps 10)))) (intS (oneA (vT (nx tund s.tmps 11)))) (intS (nx .und (cellsB (nx .dead s.blks 0)) 0)) (intS (nx .und (cellsB (nx .dead s.blks 0)) 1)) (intS (nx .und (cellsB (nx .dead s.blks 1)) 0)) (intS (nx .und (cellsB (nx .dead s.blks 1)) 1))) (cond (shpSt (h115_0_1 0 0 0 0 0 0 0 0 0 0) s) ((fun (q0 : Int) (q1 : Int) (q2 : Int) (q3 : Int) (v0 : Int) (v1 : Int) (v2 : Int) (v3 : Int) (v4 : Int) (v5 : Int) => zq142 (fun x0 k => zq140 x0 q0 q1 q2 q3 k) N v0 v1 v2 v3 v4 v5 (fun y0 y1 y2 y3 => K (.exit 0) (x115_0_1_k0 q0 q1 q2 q3 y0 y1 y2 y3))) (intF (nx .no (nx ([], 0) (dfnS (oneA (vT (nx tund s.tmps 1)))) 0).1 0)) (intF (nx .no (nx ([], 0) (dfnS (oneA (vT (nx tund s.tmps 1)))) 0).1 1)) (intF (nx .no (nx ([], 0) (dfnS (oneA (vT (nx tund s.tmps 1)))) 1).1 0)) (intF (nx .no (nx ([], 0) (dfnS (oneA (vT (nx tund s.tmps 1)))) 2).1 0)) (intS (oneA (vT (nx tund s.tmps 10)))) (intS (oneA (vT (nx tund s.tmps 11)))) (intS (nx .und (cellsB (nx .dead s.blks 0)) 0)) (intS (nx .und (cellsB (nx .dead s.blks 0)) 1)) (intS (nx .und (cellsB (nx .dead s.blks 1)) 0)) (intS (nx .und (cellsB (nx .dead s.blks 1)) 1))) (none))
def LS115_0 {β : Type} (N : Nat) : LSpec β := VLS115_0 N (zj142 N) (zj138 N) (zj140 N)
def VE115 {β : Type} (N : Nat) (zq138 : (a0 : Int) → (c0 : Int) → (c1 : Int) → (k : Bool → Option β) → Option β) (zq140 : (a0 : Int) → (c0 : Int) → (c1 : Int) → (c2 : Int) → (c3 : Int) → (k : Bool → Option β) → Option β) (zq142 : (a1 : (Int → (Bool → Option β) → Option β)) → Nat → Int → Int → Int → Int → Int → Int → (Int → Int → Int → Int → Option β) → Option β) : Env β := ⟨[(205, VS205 N zq138), (158, VS158 N zq140)], [], [(0, VLS115_0 N zq142 zq138 zq140)], [], ⟨[], [], [], [61]⟩⟩
def E115 {β : Type} (N : Nat) : Env β := VE115 N (zj138 N) (zj140 N) (zj142 N)
def zb141 {β : Type} (N : Nat) (a1 : (Int → (Bool → Option β) → Option β)) (v0 : Int) (v1 : Int) (v2 : Int) (v3 : Int) (v4 : Int) (v5 : Int) (rec_ : Int → Int → Int → Int → Int → Int → Option β) (k0 : Int → Int → Int → Int → Option β) : Option β :=
(cond ((decide (v1 < v0)))
(a1 v1 fun r4 =>
(cond r4
((gd ((decide (0 ≤ v1)))
(rec_ v0 ((w64 (v1 + 1))) v2 v3 v4 ((bits .or .i64 v5 (shlI .i64 1 v1))))))
(rec_ v0 ((w64 (v1 + 1))) v2 v3 v4 v5)))
(k0 v2 v3 v4 v5))
theorem zt141 {β : Type} (N : Nat) (a1 : (Int → (Bool → Option β) → Option β)) (v0 : Int) (v1 : Int) (v2 : Int) (v3 : Int) (v4 : Int) (v5 : Int) (rec_ : Int → Int → Int → Int → Int → Int → Option β) (k0 : Int → Int → Int → Int → Option β) : zj141 N a1 v0 v1 v2 v3 v4 v5 rec_ k0 = zb141 N a1 v0 v1 v2 v3 v4 v5 rec_ k0 := by
  unfold zj141 zb141
  rfl
theorem vst115_0_0 {β : Type} (N : Nat) (zq138 : (a0 : Int) → (c0 : Int) → (c1 : Int) → (k : Bool → Option β) → Option β) (zq140 : (a0 : Int) → (c0 : Int) → (c1 : Int) → (c2 : Int) → (c3 : Int) → (k : Bool → Option β) → Option β) (zq142 : (a1 : (Int → (Bool → Option β) → Option β)) → Nat → Int → Int → Int → Int → Int → Int → (Int → Int → Int → Int → Option β) → Option β) (q0 : Int) (q1 : Int) (v0 : Int) (v1 : Int) (v2 : Int) (v3 : Int) (v4 : Int) (v5 : Int) (rec_ : St → Option β) (K : Exit → St → Option β) :
    ev lay (VE115 N zq138 zq140 zq142) (retMask Try.f115) (lp Try.f115 0).body (lp Try.f115 0).ex ((lp Try.f115 0).lv (retMask Try.f115)) (h115_0_0 q0 q1 v0 v1 v2 v3 v4 v5) (nextR (fun s' => rec_ (s'.tidy ((lp Try.f115 0).lv (retMask Try.f115)))) K) = zb141 N (fun x0 k => zq138 x0 q0 q1 k) v0 v1 v2 v3 v4 v5 (fun v0 v1 v2 v3 v4 v5 => rec_ (h115_0_0 q0 q1 v0 v1 v2 v3 v4 v5)) (fun y0 y1 y2 y3 => K (.exit 0) (x115_0_0_k0 q0 q1 y0 y1 y2 y3)) := by kernel_rfl
theorem st115_0_0 {β : Type} (N : Nat) (q0 : Int) (q1 : Int) (v0 : Int) (v1 : Int) (v2 : Int) (v3 : Int) (v4 : Int) (v5 : Int) (rec_ : St → Option β) (K : Exit → St → Option β) :
    ev lay (E115 N) (retMask Try.f115) (lp Try.f115 0).body (lp Try.f115 0).ex ((lp Try.f115 0).lv (retMask Try.f115)) (h115_0_0 q0 q1 v0 v1 v2 v3 v4 v5) (nextR (fun s' => rec_ (s'.tidy ((lp Try.f115 0).lv (retMask Try.f115)))) K) = zj141 N (fun x0 k => zj138 N x0 q0 q1 k) v0 v1 v2 v3 v4 v5 (fun v0 v1 v2 v3 v4 v5 => rec_ (h115_0_0 q0 q1 v0 v1 v2 v3 v4 v5)) (fun y0 y1 y2 y3 => K (.exit 0) (x115_0_0_k0 q0 q1 y0 y1 y2 y3)) := (vst115_0_0 N (zj138 N) (zj140 N) (zj142 N) q0 q1 v0 v1 v2 v3 v4 v5 rec_ K).trans (zt141 N (fun x0 k => zj138 N x0 q0 q1 k) v0 v1 v2 v3 v4 v5 (fun v0 v1 v2 v3 v4 v5 => rec_ (h115_0_0 q0 q1 v0 v1 v2 v3 v4 v5)) (fun y0 y1 y2 y3 => K (.exit 0) (x115_0_0_k0 q0 q1 y0 y1 y2 y3))).symm
theorem ro115_0_0 {β : Type} (N : Nat) (q0 : Int) (q1 : Int) (K : Exit → St → Option β) : ∀ (F : Nat) (v0 : Int) (v1 : Int) (v2 : Int) (v3 : Int) (v4 : Int) (v5 : Int), (lp Try.f115 0).rounds lay (E115 N) (retMask Try.f115) F (h115_0_0 q0 q1 v0 v1 v2 v3 v4 v5) K = zj142 N (fun x0 k => zj138 N x0 q0 q1 k) F v0 v1 v2 v3 v4 v5 (fun y0 y1 y2 y3 => K (.exit 0) (x115_0_0_k0 q0 q1 y0 y1 y2 y3)) := by
  intro F
  induction F with
  | zero => intros; rfl
  | succ F ih =>
    intros
    rw [rounds_next]
    refine (st115_0_0 N q0 q1 _ _ _ _ _ _ (fun s => (lp Try.f115 0).rounds lay (E115 N) (retMask Try.f115) F s K) K).trans ?_
    simp only [ih]
    rfl
theorem vst115_0_1 {β : Type} (N : Nat) (zq138 : (a0 : Int) → (c0 : Int) → (c1 : Int) → (k : Bool → Option β) → Option β) (zq140 : (a0 : Int) → (c0 : Int) → (c1 : Int) → (c2 : Int) → (c3 : Int) → (k : Bool → Option β) → Option β) (zq142 : (a1 : (Int → (Bool → Option β) → Option β)) → Nat → Int → Int → Int → Int → Int → Int → (Int → Int → Int → Int → Option β) → Option β) (q0 : Int) (q1 : Int) (q2 : Int) (q3 : Int) (v0 : Int) (v1 : Int) (v2 : Int) (v3 : Int) (v4 : Int) (v5 : Int) (rec_ : St → Option β) (K : Exit → St → Option β) :
    ev lay (VE115 N zq138 zq140 zq142) (retMask Try.f115) (lp Try.f115 0).body (lp Try.f115 0).ex ((lp Try.f115 0).lv (retMask Try.f115)) (h115_0_1 q0 q1 q2 q3 v0 v1 v2 v3 v4 v5) (nextR (fun s' => rec_ (s'.tidy ((lp Try.f115 0).lv (retMask Try.f115)))) K) = zb141 N (fun x0 k => zq140 x0 q0 q1 q2 q3 k) v0 v1 v2 v3 v4 v5 (fun v0 v1 v2 v3 v4 v5 => rec_ (h115_0_1 q0 q1 q2 q3 v0 v1 v2 v3 v4 v5)) (fun y0 y1 y2 y3 => K (.exit 0) (x115_0_1_k0 q0 q1 q2 q3 y0 y1 y2 y3)) := by kernel_rfl
theorem st115_0_1 {β : Type} (N : Nat) (q0 : Int) (q1 : Int) (q2 : Int) (q3 : Int) (v0 : Int) (v1 : Int) (v2 : Int) (v3 : Int) (v4 : Int) (v5 : Int) (rec_ : St → Option β) (K : Exit → St → Option β) :
    ev lay (E115 N) (retMask Try.f115) (lp Try.f115 0).body (lp Try.f115 0).ex ((lp Try.f115 0).lv (retMask Try.f115)) (h115_0_1 q0 q1 q2 q3 v0 v1 v2 v3 v4 v5) (nextR (fun s' => rec_ (s'.tidy ((lp Try.f115 0).lv (retMask Try.f115)))) K) = zj141 N (fun x0 k => zj140 N x0 q0 q1 q2 q3 k) v0 v1 v2 v3 v4 v5 (fun v0 v1 v2 v3 v4 v5 => rec_ (h115_0_1 q0 q1 q2 q3 v0 v1 v2 v3 v4 v5)) (fun y0 y1 y2 y3 => K (.exit 0) (x115_0_1_k0 q0 q1 q2 q3 y0 y1 y2 y3)) := (vst115_0_1 N (zj138 N) (zj140 N) (zj142 N) q0 q1 q2 q3 v0 v1 v2 v3 v4 v5 rec_ K).trans (zt141 N (fun x0 k => zj140 N x0 q0 q1 q2 q3 k) v0 v1 v2 v3 v4 v5 (fun v0 v1 v2 v3 v4 v5 => rec_ (h115_0_1 q0 q1 q2 q3 v0 v1 v2 v3 v4 v5)) (fun y0 y1 y2 y3 => K (.exit 0) (x115_0_1_k0 q0 q1 q2 q3 y0 y1 y2 y3))).symm
theorem ro115_0_1 {β : Type} (N : Nat) (q0 : Int) (q1 : Int) (q2 : Int) (q3 : Int) (K : Exit → St → Option β) : ∀ (F : Nat) (v0 : Int) (v1 : Int) (v2 : Int) (v3 : Int) (v4 : Int) (v5 : Int), (lp Try.f115 0).rounds lay (E115 N) (retMask Try.f115) F (h115_0_1 q0 q1 q2 q3 v0 v1 v2 v3 v4 v5) K = zj142 N (fun x0 k => zj140 N x0 q0 q1 q2 q3 k) F v0 v1 v2 v3 v4 v5 (fun y0 y1 y2 y3 => K (.exit 0) (x115_0_1_k0 q0 q1 q2 q3 y0 y1 y2 y3)) := by
  intro F
  induction F with
  | zero => intros; rfl
  | succ F ih =>
    intros
    rw [rounds_next]
    refine (st115_0_1 N q0 q1 q2 q3 _ _ _ _ _ _ (fun s => (lp Try.f115 0).rounds lay (E115 N) (retMask Try.f115) F s K) K).trans ?_
    simp only [ih]
    rfl
theorem lk115_0 {β : Type} (N : Nat) : lookL (E115 (β := β) N).loops (lp Try.f115 0).id = LS115_0 N := by kernel_rfl
theorem rk115_0 {β : Type} (N : Nat) : RoundsOK lay (E115 (β := β) N) (retMask Try.f115) (lp Try.f115 0) := by
  intro s K r h
  rw [lk115_0] at h
  unfold LS115_0 VLS115_0 at h
  cases hb : shpSt (h115_0_0 0 0 0 0 0 0 0 0) s with
  | true =>
    rw [hb, cond_true] at h
    exact ⟨N, by rw [← shpSt_ref hb, fl115_0_0 s]; exact (ro115_0_0 N (intF (nx .no (nx ([], 0) (dfnS (oneA (vT (nx tund s.tmps 1)))) 0).1 0)) (intF (nx .no (nx ([], 0) (dfnS (oneA (vT (nx tund s.tmps 1)))) 0).1 1)) K N (intS (oneA (vT (nx tund s.tmps 10)))) (intS (oneA (vT (nx tund s.tmps 11)))) (intS (nx .und (cellsB (nx .dead s.blks 0)) 0)) (intS (nx .und (cellsB (nx .dead s.blks 0)) 1)) (intS (nx .und (cellsB (nx .dead s.blks 1)) 0)) (intS (nx .und (cellsB (nx .dead s.blks 1)) 1))).trans h⟩
  | false =>
  rw [hb, cond_false] at h
  clear hb
  cases hb : shpSt (h115_0_1 0 0 0 0 0 0 0 0 0 0) s with
  | true =>
    rw [hb, cond_true] at h
    exact ⟨N, by rw [← shpSt_ref hb, fl115_0_1 s]; exact (ro115_0_1 N (intF (nx .no (nx ([], 0) (dfnS (oneA (vT (nx tund s.tmps 1)))) 0).1 0)) (intF (nx .no (nx ([], 0) (dfnS (oneA (vT (nx tund s.tmps 1)))) 0).1 1)) (intF (nx .no (nx ([], 0) (dfnS (oneA (vT (nx tund s.tmps 1)))) 1).1 0)) (intF (nx .no (nx ([], 0) (dfnS (oneA (vT (nx tund s.tmps 1)))) 2).1 0)) K N (intS (oneA (vT (nx tund s.tmps 10)))) (intS (oneA (vT (nx tund s.tmps 11)))) (intS (nx .und (cellsB (nx .dead s.blks 0)) 0)) (intS (nx .und (cellsB (nx .dead s.blks 0)) 1)) (intS (nx .und (cellsB (nx .dead s.blks 1)) 0)) (intS (nx .und (cellsB (nx .dead s.blks 1)) 1))).trans h⟩
  | false =>
  rw [hb, cond_false] at h
  clear hb
  cases h
def zb143 {β : Type} (N : Nat) (zq142 : (a1 : (Int → (Bool → Option β) → Option β)) → Nat → Int → Int → Int → Int → Int → Int → (Int → Int → Int → Int → Option β) → Option β) (a0 : Int) (a1 : (Int → (Bool → Option β) → Option β)) (k : Int → Int → Option β) : Option β :=
(gd ((decide (0 ≤ a0)))
(zq142 a1 N ((shlI .i64 1 a0)) 0 0 0 a0 0 (fun e5_0 e5_1 e5_2 e5_3 =>
k e5_2 e5_3)))
theorem zt143 {β : Type} (N : Nat) (a0 : Int) (a1 : (Int → (Bool → Option β) → Option β)) (k : Int → Int → Option β) : zj143 N a0 a1 k = zb143 N (zj142 N) a0 a1 k := by
  unfold zj143 zb143
  rfl
theorem ve115_0 {β : Type} (N : Nat) (zq138 : (a0 : Int) → (c0 : Int) → (c1 : Int) → (k : Bool → Option β) → Option β) (zq140 : (a0 : Int) → (c0 : Int) → (c1 : Int) → (c2 : Int) → (c3 : Int) → (k : Bool → Option β) → Option β) (zq142 : (a1 : (Int → (Bool → Option β) → Option β)) → Nat → Int → Int → Int → Int → Int → Int → (Int → Int → Int → Int → Option β) → Option β) (q0 : Int) (q1 : Int) (a0 : Int) (K : TV → Option β) : evFn lay (VE115 N zq138 zq140 zq142) Try.f115 [.v (.one (.int .i64 a0)), .v (.one (.dfn 205 [([.int .i64 q0, .int .i64 q1], 0)]))] K = zb143 N zq142 a0 (fun x0 k => zq138 x0 q0 q1 k) (fun z2 z3 => K (.v (.agg [.int .i64 z2, .int .i64 z3]))) := by kernel_rfl
theorem e115_0 {β : Type} (N : Nat) (q0 : Int) (q1 : Int) (a0 : Int) (K : TV → Option β) : evFn lay (E115 N) Try.f115 [.v (.one (.int .i64 a0)), .v (.one (.dfn 205 [([.int .i64 q0, .int .i64 q1], 0)]))] K = zj143 N a0 (fun x0 k => zj138 N x0 q0 q1 k) (fun z2 z3 => K (.v (.agg [.int .i64 z2, .int .i64 z3]))) := (ve115_0 N (zj138 N) (zj140 N) (zj142 N) q0 q1 a0 K).trans (zt143 N a0 (fun x0 k => zj138 N x0 q0 q1 k) (fun z2 z3 => K (.v (.agg [.int .i64 z2, .int .i64 z3])))).symm
theorem ve115_1 {β : Type} (N : Nat) (zq138 : (a0 : Int) → (c0 : Int) → (c1 : Int) → (k : Bool → Option β) → Option β) (zq140 : (a0 : Int) → (c0 : Int) → (c1 : Int) → (c2 : Int) → (c3 : Int) → (k : Bool → Option β) → Option β) (zq142 : (a1 : (Int → (Bool → Option β) → Option β)) → Nat → Int → Int → Int → Int → Int → Int → (Int → Int → Int → Int → Option β) → Option β) (q0 : Int) (q1 : Int) (q2 : Int) (q3 : Int) (a0 : Int) (K : TV → Option β) : evFn lay (VE115 N zq138 zq140 zq142) Try.f115 [.v (.one (.int .i64 a0)), .v (.one (.dfn 158 [([.int .i64 q0, .int .i64 q1], 0), ([.int .i64 q2], 0), ([.int .i64 q3], 0)]))] K = zb143 N zq142 a0 (fun x0 k => zq140 x0 q0 q1 q2 q3 k) (fun z2 z3 => K (.v (.agg [.int .i64 z2, .int .i64 z3]))) := by kernel_rfl
theorem e115_1 {β : Type} (N : Nat) (q0 : Int) (q1 : Int) (q2 : Int) (q3 : Int) (a0 : Int) (K : TV → Option β) : evFn lay (E115 N) Try.f115 [.v (.one (.int .i64 a0)), .v (.one (.dfn 158 [([.int .i64 q0, .int .i64 q1], 0), ([.int .i64 q2], 0), ([.int .i64 q3], 0)]))] K = zj143 N a0 (fun x0 k => zj140 N x0 q0 q1 q2 q3 k) (fun z2 z3 => K (.v (.agg [.int .i64 z2, .int .i64 z3]))) := (ve115_1 N (zj138 N) (zj140 N) (zj142 N) q0 q1 q2 q3 a0 K).trans (zt143 N a0 (fun x0 k => zj140 N x0 q0 q1 q2 q3 k) (fun z2 z3 => K (.v (.agg [.int .i64 z2, .int .i64 z3])))).symm
theorem o115 {β : Type} (N : Nat) : SpecOK (β := β) inv Try.prog 115 (S115 N) := by
  refine spec_of lay_ok mixed (E := E115 N) (specs_loops (specs_cons (o205 N) (specs_cons (o158 N) specs_nil))) muts_nil gs_nil Try.func115 (by kernel_rfl) 1 (by kernel_rfl) ⟨trivial, rk115_0 N⟩ fun args K r h => ?_
  unfold S115 VS115 at h
  split at h
  · exact (e115_0 N _ _ _ _).trans h
  · exact (e115_1 N _ _ _ _ _ _).trans h
  · cases h
def VS179 {β : Type} (N : Nat) (zq144 : (a0 : Int) → (a1 : Int) → (k : Int → Int → Option β) → Option β) : Rv.Spec β := fun args K => match args with
  | [.v (.agg [.int .i64 a0, .int .i64 a1])] => zq144 a0 a1 (fun z2 z3 => K (.v (.agg [.int .i64 z2, .int .i64 z3])))
  | _ => none
def S179 {β : Type} (N : Nat) : Rv.Spec β := VS179 N (zj144 N)
def VE179 {β : Type} (N : Nat) (zq143 : (a0 : Int) → (a1 : (Int → (Bool → Option β) → Option β)) → (k : Int → Int → Option β) → Option β) (zq138 : (a0 : Int) → (c0 : Int) → (c1 : Int) → (k : Bool → Option β) → Option β) (zq140 : (a0 : Int) → (c0 : Int) → (c1 : Int) → (c2 : Int) → (c3 : Int) → (k : Bool → Option β) → Option β) : Env β := ⟨[(115, VS115 N zq143 zq138 zq140), (205, VS205 N zq138)], [], [], [], ⟨[], [], [], [61]⟩⟩
def E179 {β : Type} (N : Nat) : Env β := VE179 N (zj143 N) (zj138 N) (zj140 N)
def zb144 {β : Type} (N : Nat) (zq143 : (a0 : Int) → (a1 : (Int → (Bool → Option β) → Option β)) → (k : Int → Int → Option β) → Option β) (zq138 : (a0 : Int) → (c0 : Int) → (c1 : Int) → (k : Bool → Option β) → Option β) (a0 : Int) (a1 : Int) (k : Int → Int → Option β) : Option β :=
zq143 a0 (fun x0 k => zq138 x0 a0 a1 k) fun r4 r5 =>
k r4 r5
theorem zt144 {β : Type} (N : Nat) (a0 : Int) (a1 : Int) (k : Int → Int → Option β) : zj144 N a0 a1 k = zb144 N (zj143 N) (zj138 N) a0 a1 k := by
  unfold zj144 zb144
  rfl
theorem ve179_0 {β : Type} (N : Nat) (zq143 : (a0 : Int) → (a1 : (Int → (Bool → Option β) → Option β)) → (k : Int → Int → Option β) → Option β) (zq138 : (a0 : Int) → (c0 : Int) → (c1 : Int) → (k : Bool → Option β) → Option β) (zq140 : (a0 : Int) → (c0 : Int) → (c1 : Int) → (c2 : Int) → (c3 : Int) → (k : Bool → Option β) → Option β)  (a0 : Int) (a1 : Int) (K : TV → Option β) : evFn lay (VE179 N zq143 zq138 zq140) Try.f179 [.v (.agg [.int .i64 a0, .int .i64 a1])] K = zb144 N zq143 zq138 a0 a1 (fun z2 z3 => K (.v (.agg [.int .i64 z2, .int .i64 z3]))) := by kernel_rfl
theorem e179_0 {β : Type} (N : Nat)  (a0 : Int) (a1 : Int) (K : TV → Option β) : evFn lay (E179 N) Try.f179 [.v (.agg [.int .i64 a0, .int .i64 a1])] K = zj144 N a0 a1 (fun z2 z3 => K (.v (.agg [.int .i64 z2, .int .i64 z3]))) := (ve179_0 N (zj143 N) (zj138 N) (zj140 N) a0 a1 K).trans (zt144 N a0 a1 (fun z2 z3 => K (.v (.agg [.int .i64 z2, .int .i64 z3])))).symm
theorem o179 {β : Type} (N : Nat) : SpecOK (β := β) inv Try.prog 179 (S179 N) := by
  refine spec_of lay_ok mixed (E := E179 N) (specs_loops (specs_cons (o115 N) (specs_cons (o205 N) specs_nil))) muts_nil gs_nil Try.func179 (by kernel_rfl) 0 (by kernel_rfl) trivial fun args K r h => ?_
  unfold S179 VS179 at h
  split at h
  · exact (e179_0 N _ _ _).trans h
  · cases h
def VS140 {β : Type} (N : Nat) (zq145 : (a0 : Int) → (a1 : Int) → (k : Int → Option β) → Option β) : Rv.Spec β := fun args K => match args with
  | [.v (.agg [.int .i64 a0, .int .i64 a1])] => zq145 a0 a1 (fun z2 => K (.v (.one (.int .i64 z2))))
  | _ => none
def S140 {β : Type} (N : Nat) : Rv.Spec β := VS140 N (zj145 N)
def VE140 {β : Type} (N : Nat) (zq80 : (a0 : Int) → (a1 : Int) → (k : Bool → Option β) → Option β) (zq144 : (a0 : Int) → (a1 : Int) → (k : Int → Int → Option β) → Option β) (zq134 : (a0 : Int) → (a1 : (Int → (Bool → Option β) → Option β)) → (k : Int → Option β) → Option β) (zq130 : (a0 : Int) → (c0 : List Int) → (k : Bool → Option β) → Option β) (zq131 : (a0 : Int) → (c0 : Int) → (c1 : Int) → (k : Bool → Option β) → Option β) : Env β := ⟨[(82, VS82 N zq80), (179, VS179 N zq144), (177, VS177 N zq134 zq130 zq131), (180, VS180 N zq131)], [], [], [], ⟨[], [], [], [61]⟩⟩
def E140 {β : Type} (N : Nat) : Env β := VE140 N (zj80 N) (zj144 N) (zj134 N) (zj130 N) (zj131 N)
def zb145 {β : Type} (N : Nat) (zq80 : (a0 : Int) → (a1 : Int) → (k : Bool → Option β) → Option β) (zq144 : (a0 : Int) → (a1 : Int) → (k : Int → Int → Option β) → Option β) (zq134 : (a0 : Int) → (a1 : (Int → (Bool → Option β) → Option β)) → (k : Int → Option β) → Option β) (zq131 : (a0 : Int) → (c0 : Int) → (c1 : Int) → (k : Bool → Option β) → Option β) (a0 : Int) (a1 : Int) (k : Int → Option β) : Option β :=
zq80 a0 a1 fun r3 =>
(cond (!r3)
(k (-2))
(zq144 a0 a1 fun r4 r5 =>
zq134 a0 (fun x0 k => zq131 x0 r4 r5 k) fun r6 =>
k r6))
theorem zt145 {β : Type} (N : Nat) (a0 : Int) (a1 : Int) (k : Int → Option β) : zj145 N a0 a1 k = zb145 N (zj80 N) (zj144 N) (zj134 N) (zj131 N) a0 a1 k := by
  unfold zj145 zb145
  rfl
theorem ve140_0 {β : Type} (N : Nat) (zq80 : (a0 : Int) → (a1 : Int) → (k : Bool → Option β) → Option β) (zq144 : (a0 : Int) → (a1 : Int) → (k : Int → Int → Option β) → Option β) (zq134 : (a0 : Int) → (a1 : (Int → (Bool → Option β) → Option β)) → (k : Int → Option β) → Option β) (zq130 : (a0 : Int) → (c0 : List Int) → (k : Bool → Option β) → Option β) (zq131 : (a0 : Int) → (c0 : Int) → (c1 : Int) → (k : Bool → Option β) → Option β)  (a0 : Int) (a1 : Int) (K : TV → Option β) : evFn lay (VE140 N zq80 zq144 zq134 zq130 zq131) Try.f140 [.v (.agg [.int .i64 a0, .int .i64 a1])] K = zb145 N zq80 zq144 zq134 zq131 a0 a1 (fun z2 => K (.v (.one (.int .i64 z2)))) := by kernel_rfl
theorem e140_0 {β : Type} (N : Nat)  (a0 : Int) (a1 : Int) (K : TV → Option β) : evFn lay (E140 N) Try.f140 [.v (.agg [.int .i64 a0, .int .i64 a1])] K = zj145 N a0 a1 (fun z2 => K (.v (.one (.int .i64 z2)))) := (ve140_0 N (zj80 N) (zj144 N) (zj134 N) (zj130 N) (zj131 N) a0 a1 K).trans (zt145 N a0 a1 (fun z2 => K (.v (.one (.int .i64 z2))))).symm
theorem o140 {β : Type} (N : Nat) : SpecOK (β := β) inv Try.prog 140 (S140 N) := by
  refine spec_of lay_ok mixed (E := E140 N) (specs_loops (specs_cons (o82 N) (specs_cons (o179 N) (specs_cons (o177 N) (specs_cons (o180 N) specs_nil))))) muts_nil gs_nil Try.func140 (by kernel_rfl) 0 (by kernel_rfl) trivial fun args K r h => ?_
  unfold S140 VS140 at h
  split at h
  · exact (e140_0 N _ _ _).trans h
  · cases h
def VS141 {β : Type} (N : Nat) (zq146 : (a0 : Int) → (a1 : Int) → (k : Int → Option β) → Option β) : Rv.Spec β := fun args K => match args with
  | [.v (.agg [.int .i64 a0, .int .i64 a1])] => zq146 a0 a1 (fun z2 => K (.v (.one (.int .i64 z2))))
  | _ => none
def S141 {β : Type} (N : Nat) : Rv.Spec β := VS141 N (zj146 N)
def VE141 {β : Type} (N : Nat) (zq80 : (a0 : Int) → (a1 : Int) → (k : Bool → Option β) → Option β) (zq106 : (a0 : Int) → (k : Int → Option β) → Option β) : Env β := ⟨[(82, VS82 N zq80), (144, VS144 N zq106)], [], [], [], ⟨[], [], [], [61]⟩⟩
def E141 {β : Type} (N : Nat) : Env β := VE141 N (zj80 N) (zj106 N)
def zb146 {β : Type} (N : Nat) (zq80 : (a0 : Int) → (a1 : Int) → (k : Bool → Option β) → Option β) (zq106 : (a0 : Int) → (k : Int → Option β) → Option β) (a0 : Int) (a1 : Int) (k : Int → Option β) : Option β :=
zq80 a0 a1 fun r3 =>
(cond (!r3)
(k (-1))
(zq106 a1 fun r4 =>
k r4))
theorem zt146 {β : Type} (N : Nat) (a0 : Int) (a1 : Int) (k : Int → Option β) : zj146 N a0 a1 k = zb146 N (zj80 N) (zj106 N) a0 a1 k := by
  unfold zj146 zb146
  rfl
theorem ve141_0 {β : Type} (N : Nat) (zq80 : (a0 : Int) → (a1 : Int) → (k : Bool → Option β) → Option β) (zq106 : (a0 : Int) → (k : Int → Option β) → Option β)  (a0 : Int) (a1 : Int) (K : TV → Option β) : evFn lay (VE141 N zq80 zq106) Try.f141 [.v (.agg [.int .i64 a0, .int .i64 a1])] K = zb146 N zq80 zq106 a0 a1 (fun z2 => K (.v (.one (.int .i64 z2)))) := by kernel_rfl
theorem e141_0 {β : Type} (N : Nat)  (a0 : Int) (a1 : Int) (K : TV → Option β) : evFn lay (E141 N) Try.f141 [.v (.agg [.int .i64 a0, .int .i64 a1])] K = zj146 N a0 a1 (fun z2 => K (.v (.one (.int .i64 z2)))) := (ve141_0 N (zj80 N) (zj106 N) a0 a1 K).trans (zt146 N a0 a1 (fun z2 => K (.v (.one (.int .i64 z2))))).symm
theorem o141 {β : Type} (N : Nat) : SpecOK (β := β) inv Try.prog 141 (S141 N) := by
  refine spec_of lay_ok mixed (E := E141 N) (specs_loops (specs_cons (o82 N) (specs_cons (o144 N) specs_nil))) muts_nil gs_nil Try.func141 (by kernel_rfl) 0 (by kernel_rfl) trivial fun args K r h => ?_
  unfold S141 VS141 at h
  split at h
  · exact (e141_0 N _ _ _).trans h
  · cases h
def VS206 {β : Type} (N : Nat) (zq149 : (a0 : Int) → (a1 : Int) → (a2 : Int) → (k : Int → Option β) → Option β) : Rv.Spec β := fun args K => match args with
  | [.v (.agg [.int .i64 a0, .int .i64 a1]), .v (.one (.int .i64 a2))] => zq149 a0 a1 a2 (fun z3 => K (.v (.one (.int .i64 z3))))
  | _ => none
def S206 {β : Type} (N : Nat) : Rv.Spec β := VS206 N (zj149 N)
def h206_0_0  (v0 : Int) (v1 : Int) (v2 : Int) (v3 : Int) (v4 : Int) (v5 : Int) : St := ⟨tund :: .v (.one (.int .i64 v0)) :: .v (.one (.ptr 0 0)) :: tund :: tund :: .v (.one (.int .i64 v1)) :: tund :: tund :: .v (.one (.int .i64 v2)) :: .v (.one (.int .i64 v3)) :: tund :: tund :: tund :: tund :: tund :: tund :: tund :: tund :: tund :: tund :: tund :: [], [.cells 27 [.int .i64 v4, .int .i64 v5]]⟩
def x206_0_0_k0  (y0 : Int) : St := ⟨tund :: tund :: tund :: tund :: tund :: .v (.one (.int .i64 y0)) :: tund :: tund :: tund :: tund :: tund :: tund :: tund :: tund :: tund :: tund :: tund :: tund :: tund :: tund :: tund :: [], []⟩
theorem fl206_0_0 (s : St) : refSt (h206_0_0 0 0 0 0 0 0) s = h206_0_0 (intS (oneA (vT (nx tund s.tmps 1)))) (intS (oneA (vT (nx tund s.tmps 5)))) (intS (oneA (vT (nx tund s.tmps 8)))) (intS (oneA (vT (nx tund s.tmps 9)))) (intS (nx .und (cellsB (nx .dead s.blks 0)) 0)) (intS (nx .und (cellsB (nx .dead s.blks 0)) 1)) := by kernel_rfl
def VLS206_0 {β : Type} (N : Nat) (zq148 : Nat → Int → Int → Int → Int → Int → Int → (Int → Option β) → Option β) : LSpec β := fun s K => cond (shpSt (h206_0_0 0 0 0 0 0 0) s) ((fun (v0 : Int) (v1 : Int) (v2 : Int) (v3 : Int) (v4 : Int) (v5 : Int) => zq148  N v0 v1 v2 v3 v4 v5 (fun y0 => K (.exit 0) (x206_0_0_k0  y0))) (intS (oneA (vT (nx tund s.tmps 1)))) (intS (oneA (vT (nx tund s.tmps 5)))) (intS (oneA (vT (nx tund s.tmps 8)))) (intS (oneA (vT (nx tund s.tmps 9)))) (intS (nx .und (cellsB (nx .dead s.blks 0)) 0)) (intS (nx .und (cellsB (nx .dead s.blks 0)) 1))) (none)
def LS206_0 {β : Type} (N : Nat) : LSpec β := VLS206_0 N (zj148 N)
def VE206 {β : Type} (N : Nat) (zq79 : (a0 : Int) → (a1 : Int) → (k : Int → Option β) → Option β) (zq84 : (a0 : Int) → (a1 : Int) → (a2 : Int) → (a3 : Int) → (k : Bool → Option β) → Option β) (zq148 : Nat → Int → Int → Int → Int → Int → Int → (Int → Option β) → Option β) : Env β := ⟨[(96, VS96 N zq79), (201, VS201 N zq84)], [], [(0, VLS206_0 N zq148)], [], ⟨[], [], [], [61]⟩⟩
def E206 {β : Type} (N : Nat) : Env β := VE206 N (zj79 N) (zj84 N) (zj148 N)
def zb147 {β : Type} (N : Nat) (zq84 : (a0 : Int) → (a1 : Int) → (a2 : Int) → (a3 : Int) → (k : Bool → Option β) → Option β)  (v0 : Int) (v1 : Int) (v2 : Int) (v3 : Int) (v4 : Int) (v5 : Int) (rec_ : Int → Int → Int → Int → Int → Int → Option β) (k0 : Int → Option β) : Option β :=
(cond ((decide (v3 < v2)))
((gd ((decide (0 ≤ v0)))
(zq84 v4 v5 v3 ((shlI .i64 1 v0)) fun r5 =>
(cond r5
(rec_ v0 ((w64 (v1 + 1))) v2 ((w64 (v3 + 1))) v4 v5)
(rec_ v0 v1 v2 ((w64 (v3 + 1))) v4 v5)))))
(k0 v1))
theorem zt147 {β : Type} (N : Nat)  (v0 : Int) (v1 : Int) (v2 : Int) (v3 : Int) (v4 : Int) (v5 : Int) (rec_ : Int → Int → Int → Int → Int → Int → Option β) (k0 : Int → Option β) : zj147 N v0 v1 v2 v3 v4 v5 rec_ k0 = zb147 N (zj84 N) v0 v1 v2 v3 v4 v5 rec_ k0 := by
  unfold zj147 zb147
  rfl
theorem vst206_0_0 {β : Type} (N : Nat) (zq79 : (a0 : Int) → (a1 : Int) → (k : Int → Option β) → Option β) (zq84 : (a0 : Int) → (a1 : Int) → (a2 : Int) → (a3 : Int) → (k : Bool → Option β) → Option β) (zq148 : Nat → Int → Int → Int → Int → Int → Int → (Int → Option β) → Option β)  (v0 : Int) (v1 : Int) (v2 : Int) (v3 : Int) (v4 : Int) (v5 : Int) (rec_ : St → Option β) (K : Exit → St → Option β) :
    ev lay (VE206 N zq79 zq84 zq148) (retMask Try.f206) (lp Try.f206 0).body (lp Try.f206 0).ex ((lp Try.f206 0).lv (retMask Try.f206)) (h206_0_0  v0 v1 v2 v3 v4 v5) (nextR (fun s' => rec_ (s'.tidy ((lp Try.f206 0).lv (retMask Try.f206)))) K) = zb147 N zq84  v0 v1 v2 v3 v4 v5 (fun v0 v1 v2 v3 v4 v5 => rec_ (h206_0_0  v0 v1 v2 v3 v4 v5)) (fun y0 => K (.exit 0) (x206_0_0_k0  y0)) := by kernel_rfl
theorem st206_0_0 {β : Type} (N : Nat)  (v0 : Int) (v1 : Int) (v2 : Int) (v3 : Int) (v4 : Int) (v5 : Int) (rec_ : St → Option β) (K : Exit → St → Option β) :
    ev lay (E206 N) (retMask Try.f206) (lp Try.f206 0).body (lp Try.f206 0).ex ((lp Try.f206 0).lv (retMask Try.f206)) (h206_0_0  v0 v1 v2 v3 v4 v5) (nextR (fun s' => rec_ (s'.tidy ((lp Try.f206 0).lv (retMask Try.f206)))) K) = zj147 N  v0 v1 v2 v3 v4 v5 (fun v0 v1 v2 v3 v4 v5 => rec_ (h206_0_0  v0 v1 v2 v3 v4 v5)) (fun y0 => K (.exit 0) (x206_0_0_k0  y0)) := (vst206_0_0 N (zj79 N) (zj84 N) (zj148 N) v0 v1 v2 v3 v4 v5 rec_ K).trans (zt147 N  v0 v1 v2 v3 v4 v5 (fun v0 v1 v2 v3 v4 v5 => rec_ (h206_0_0  v0 v1 v2 v3 v4 v5)) (fun y0 => K (.exit 0) (x206_0_0_k0  y0))).symm
theorem ro206_0_0 {β : Type} (N : Nat)  (K : Exit → St → Option β) : ∀ (F : Nat) (v0 : Int) (v1 : Int) (v2 : Int) (v3 : Int) (v4 : Int) (v5 : Int), (lp Try.f206 0).rounds lay (E206 N) (retMask Try.f206) F (h206_0_0  v0 v1 v2 v3 v4 v5) K = zj148 N  F v0 v1 v2 v3 v4 v5 (fun y0 => K (.exit 0) (x206_0_0_k0  y0)) := by
  intro F
  induction F with
  | zero => intros; rfl
  | succ F ih =>
    intros
    rw [rounds_next]
    refine (st206_0_0 N  _ _ _ _ _ _ (fun s => (lp Try.f206 0).rounds lay (E206 N) (retMask Try.f206) F s K) K).trans ?_
    simp only [ih]
    rfl
theorem lk206_0 {β : Type} (N : Nat) : lookL (E206 (β := β) N).loops (lp Try.f206 0).id = LS206_0 N := by kernel_rfl
theorem rk206_0 {β : Type} (N : Nat) : RoundsOK lay (E206 (β := β) N) (retMask Try.f206) (lp Try.f206 0) := by
  intro s K r h
  rw [lk206_0] at h
  unfold LS206_0 VLS206_0 at h
  cases hb : shpSt (h206_0_0 0 0 0 0 0 0) s with
  | true =>
    rw [hb, cond_true] at h
    exact ⟨N, by rw [← shpSt_ref hb, fl206_0_0 s]; exact (ro206_0_0 N  K N (intS (oneA (vT (nx tund s.tmps 1)))) (intS (oneA (vT (nx tund s.tmps 5)))) (intS (oneA (vT (nx tund s.tmps 8)))) (intS (oneA (vT (nx tund s.tmps 9)))) (intS (nx .und (cellsB (nx .dead s.blks 0)) 0)) (intS (nx .und (cellsB (nx .dead s.blks 0)) 1))).trans h⟩
  | false =>
  rw [hb, cond_false] at h
  clear hb
  cases h
def zb149 {β : Type} (N : Nat) (zq79 : (a0 : Int) → (a1 : Int) → (k : Int → Option β) → Option β) (zq148 : Nat → Int → Int → Int → Int → Int → Int → (Int → Option β) → Option β) (a0 : Int) (a1 : Int) (a2 : Int) (k : Int → Option β) : Option β :=
zq79 a0 a1 fun r4 =>
zq148  N a2 0 r4 0 a0 a1 (fun e6_0 =>
k e6_0)
theorem zt149 {β : Type} (N : Nat) (a0 : Int) (a1 : Int) (a2 : Int) (k : Int → Option β) : zj149 N a0 a1 a2 k = zb149 N (zj79 N) (zj148 N) a0 a1 a2 k := by
  unfold zj149 zb149
  rfl
theorem ve206_0 {β : Type} (N : Nat) (zq79 : (a0 : Int) → (a1 : Int) → (k : Int → Option β) → Option β) (zq84 : (a0 : Int) → (a1 : Int) → (a2 : Int) → (a3 : Int) → (k : Bool → Option β) → Option β) (zq148 : Nat → Int → Int → Int → Int → Int → Int → (Int → Option β) → Option β)  (a0 : Int) (a1 : Int) (a2 : Int) (K : TV → Option β) : evFn lay (VE206 N zq79 zq84 zq148) Try.f206 [.v (.agg [.int .i64 a0, .int .i64 a1]), .v (.one (.int .i64 a2))] K = zb149 N zq79 zq148 a0 a1 a2 (fun z3 => K (.v (.one (.int .i64 z3)))) := by kernel_rfl
theorem e206_0 {β : Type} (N : Nat)  (a0 : Int) (a1 : Int) (a2 : Int) (K : TV → Option β) : evFn lay (E206 N) Try.f206 [.v (.agg [.int .i64 a0, .int .i64 a1]), .v (.one (.int .i64 a2))] K = zj149 N a0 a1 a2 (fun z3 => K (.v (.one (.int .i64 z3)))) := (ve206_0 N (zj79 N) (zj84 N) (zj148 N) a0 a1 a2 K).trans (zt149 N a0 a1 a2 (fun z3 => K (.v (.one (.int .i64 z3))))).symm
theorem o206 {β : Type} (N : Nat) : SpecOK (β := β) inv Try.prog 206 (S206 N) := by
  refine spec_of lay_ok mixed (E := E206 N) (specs_loops (specs_cons (o96 N) (specs_cons (o201 N) specs_nil))) muts_nil gs_nil Try.func206 (by kernel_rfl) 1 (by kernel_rfl) ⟨trivial, rk206_0 N⟩ fun args K r h => ?_
  unfold S206 VS206 at h
  split at h
  · exact (e206_0 N _ _ _ _).trans h
  · cases h
def VS181 {β : Type} (N : Nat) (zq152 : (a0 : Int) → (a1 : Int) → (k : List Int → Option β) → Option β) : Rv.Spec β := fun args K => match args with
  | [.v (.agg [.int .i64 a0, .int .i64 a1])] => zq152 a0 a1 (fun z2 => K (.v (.one (.sl 3 (.ints .i64 z2)))))
  | _ => none
def S181 {β : Type} (N : Nat) : Rv.Spec β := VS181 N (zj152 N)
def h181_0_0  (v0 : Int) (v1 : Int) (v2 : Int) (v3 : Int) (v4 : List Int) : St := ⟨tund :: .v (.one (.ptr 0 0)) :: tund :: .v (.one (.row 1)) :: tund :: tund :: tund :: tund :: tund :: .v (.one (.int .i64 v0)) :: .v (.one (.int .i64 v1)) :: tund :: tund :: tund :: tund :: tund :: tund :: tund :: tund :: tund :: tund :: [], [.cells 27 [.int .i64 v2, .int .i64 v3], .row 3 (.ints .i64 v4)]⟩
def x181_0_0_k0  (y0 : List Int) : St := ⟨tund :: tund :: tund :: .v (.one (.row 0)) :: tund :: tund :: tund :: tund :: tund :: tund :: tund :: tund :: tund :: tund :: tund :: tund :: tund :: tund :: tund :: tund :: tund :: [], [.row 3 (.ints .i64 y0)]⟩
theorem fl181_0_0 (s : St) : refSt (h181_0_0 0 0 0 0 []) s = h181_0_0 (intS (oneA (vT (nx tund s.tmps 9)))) (intS (oneA (vT (nx tund s.tmps 10)))) (intS (nx .und (cellsB (nx .dead s.blks 0)) 0)) (intS (nx .und (cellsB (nx .dead s.blks 0)) 1)) (rInts (rowB_ (nx .dead s.blks 1))) := by kernel_rfl
def VLS181_0 {β : Type} (N : Nat) (zq151 : Nat → Int → Int → Int → Int → List Int → (List Int → Option β) → Option β) : LSpec β := fun s K => cond (shpSt (h181_0_0 0 0 0 0 []) s) ((fun (v0 : Int) (v1 : Int) (v2 : Int) (v3 : Int) (v4 : List Int) => zq151  N v0 v1 v2 v3 v4 (fun y0 => K (.exit 0) (x181_0_0_k0  y0))) (intS (oneA (vT (nx tund s.tmps 9)))) (intS (oneA (vT (nx tund s.tmps 10)))) (intS (nx .und (cellsB (nx .dead s.blks 0)) 0)) (intS (nx .und (cellsB (nx .dead s.blks 0)) 1)) (rInts (rowB_ (nx .dead s.blks 1)))) (none)
def LS181_0 {β : Type} (N : Nat) : LSpec β := VLS181_0 N (zj151 N)
def VE181 {β : Type} (N : Nat) (zq149 : (a0 : Int) → (a1 : Int) → (a2 : Int) → (k : Int → Option β) → Option β) (zq151 : Nat → Int → Int → Int → Int → List Int → (List Int → Option β) → Option β) : Env β := ⟨[(206, VS206 N zq149)], [], [(0, VLS181_0 N zq151)], [], ⟨[], [], [], [61]⟩⟩
def E181 {β : Type} (N : Nat) : Env β := VE181 N (zj149 N) (zj151 N)
def zb150 {β : Type} (N : Nat) (zq149 : (a0 : Int) → (a1 : Int) → (a2 : Int) → (k : Int → Option β) → Option β)  (v0 : Int) (v1 : Int) (v2 : Int) (v3 : Int) (v4 : List Int) (rec_ : Int → Int → Int → Int → List Int → Option β) (k0 : List Int → Option β) : Option β :=
(cond ((decide (v1 < v0)))
(zq149 v2 v3 v1 fun r3 =>
(gd ((decide (0 ≤ v1)))
((gd ((decide (v1 < (v4.length : Int))))
(rec_ v0 ((w64 (v1 + 1))) v2 v3 ((wr v4 v1 r3)))))))
(k0 v4))
theorem zt150 {β : Type} (N : Nat)  (v0 : Int) (v1 : Int) (v2 : Int) (v3 : Int) (v4 : List Int) (rec_ : Int → Int → Int → Int → List Int → Option β) (k0 : List Int → Option β) : zj150 N v0 v1 v2 v3 v4 rec_ k0 = zb150 N (zj149 N) v0 v1 v2 v3 v4 rec_ k0 := by
  unfold zj150 zb150
  rfl
theorem vst181_0_0 {β : Type} (N : Nat) (zq149 : (a0 : Int) → (a1 : Int) → (a2 : Int) → (k : Int → Option β) → Option β) (zq151 : Nat → Int → Int → Int → Int → List Int → (List Int → Option β) → Option β)  (v0 : Int) (v1 : Int) (v2 : Int) (v3 : Int) (v4 : List Int) (rec_ : St → Option β) (K : Exit → St → Option β) :
    ev lay (VE181 N zq149 zq151) (retMask Try.f181) (lp Try.f181 0).body (lp Try.f181 0).ex ((lp Try.f181 0).lv (retMask Try.f181)) (h181_0_0  v0 v1 v2 v3 v4) (nextR (fun s' => rec_ (s'.tidy ((lp Try.f181 0).lv (retMask Try.f181)))) K) = zb150 N zq149  v0 v1 v2 v3 v4 (fun v0 v1 v2 v3 v4 => rec_ (h181_0_0  v0 v1 v2 v3 v4)) (fun y0 => K (.exit 0) (x181_0_0_k0  y0)) := by kernel_rfl
theorem st181_0_0 {β : Type} (N : Nat)  (v0 : Int) (v1 : Int) (v2 : Int) (v3 : Int) (v4 : List Int) (rec_ : St → Option β) (K : Exit → St → Option β) :
    ev lay (E181 N) (retMask Try.f181) (lp Try.f181 0).body (lp Try.f181 0).ex ((lp Try.f181 0).lv (retMask Try.f181)) (h181_0_0  v0 v1 v2 v3 v4) (nextR (fun s' => rec_ (s'.tidy ((lp Try.f181 0).lv (retMask Try.f181)))) K) = zj150 N  v0 v1 v2 v3 v4 (fun v0 v1 v2 v3 v4 => rec_ (h181_0_0  v0 v1 v2 v3 v4)) (fun y0 => K (.exit 0) (x181_0_0_k0  y0)) := (vst181_0_0 N (zj149 N) (zj151 N) v0 v1 v2 v3 v4 rec_ K).trans (zt150 N  v0 v1 v2 v3 v4 (fun v0 v1 v2 v3 v4 => rec_ (h181_0_0  v0 v1 v2 v3 v4)) (fun y0 => K (.exit 0) (x181_0_0_k0  y0))).symm
theorem ro181_0_0 {β : Type} (N : Nat)  (K : Exit → St → Option β) : ∀ (F : Nat) (v0 : Int) (v1 : Int) (v2 : Int) (v3 : Int) (v4 : List Int), (lp Try.f181 0).rounds lay (E181 N) (retMask Try.f181) F (h181_0_0  v0 v1 v2 v3 v4) K = zj151 N  F v0 v1 v2 v3 v4 (fun y0 => K (.exit 0) (x181_0_0_k0  y0)) := by
  intro F
  induction F with
  | zero => intros; rfl
  | succ F ih =>
    intros
    rw [rounds_next]
    refine (st181_0_0 N  _ _ _ _ _ (fun s => (lp Try.f181 0).rounds lay (E181 N) (retMask Try.f181) F s K) K).trans ?_
    simp only [ih]
    rfl
theorem lk181_0 {β : Type} (N : Nat) : lookL (E181 (β := β) N).loops (lp Try.f181 0).id = LS181_0 N := by kernel_rfl
theorem rk181_0 {β : Type} (N : Nat) : RoundsOK lay (E181 (β := β) N) (retMask Try.f181) (lp Try.f181 0) := by
  intro s K r h
  rw [lk181_0] at h
  unfold LS181_0 VLS181_0 at h
  cases hb : shpSt (h181_0_0 0 0 0 0 []) s with
  | true =>
    rw [hb, cond_true] at h
    exact ⟨N, by rw [← shpSt_ref hb, fl181_0_0 s]; exact (ro181_0_0 N  K N (intS (oneA (vT (nx tund s.tmps 9)))) (intS (oneA (vT (nx tund s.tmps 10)))) (intS (nx .und (cellsB (nx .dead s.blks 0)) 0)) (intS (nx .und (cellsB (nx .dead s.blks 0)) 1)) (rInts (rowB_ (nx .dead s.blks 1)))).trans h⟩
  | false =>
  rw [hb, cond_false] at h
  clear hb
  cases h
def zb152 {β : Type} (N : Nat) (zq151 : Nat → Int → Int → Int → Int → List Int → (List Int → Option β) → Option β) (a0 : Int) (a1 : Int) (k : List Int → Option β) : Option β :=
(gd ((decide (0 ≤ a0)))
((gd ((decide (a0 ≤ a0)))
((gd ((decide (8 * a0 ≤ 281474976710656)))
(zq151  N ((((List.replicate (Int.toNat a0) (0 : Int))).length : Int)) 0 a0 a1 ((List.replicate (Int.toNat a0) (0 : Int))) (fun e4_0 =>
k e4_0)))))))
theorem zt152 {β : Type} (N : Nat) (a0 : Int) (a1 : Int) (k : List Int → Option β) : zj152 N a0 a1 k = zb152 N (zj151 N) a0 a1 k := by
  unfold zj152 zb152
  rfl
theorem ve181_0 {β : Type} (N : Nat) (zq149 : (a0 : Int) → (a1 : Int) → (a2 : Int) → (k : Int → Option β) → Option β) (zq151 : Nat → Int → Int → Int → Int → List Int → (List Int → Option β) → Option β)  (a0 : Int) (a1 : Int) (K : TV → Option β) : evFn lay (VE181 N zq149 zq151) Try.f181 [.v (.agg [.int .i64 a0, .int .i64 a1])] K = zb152 N zq151 a0 a1 (fun z2 => K (.v (.one (.sl 3 (.ints .i64 z2))))) := by kernel_rfl
theorem e181_0 {β : Type} (N : Nat)  (a0 : Int) (a1 : Int) (K : TV → Option β) : evFn lay (E181 N) Try.f181 [.v (.agg [.int .i64 a0, .int .i64 a1])] K = zj152 N a0 a1 (fun z2 => K (.v (.one (.sl 3 (.ints .i64 z2))))) := (ve181_0 N (zj149 N) (zj151 N) a0 a1 K).trans (zt152 N a0 a1 (fun z2 => K (.v (.one (.sl 3 (.ints .i64 z2)))))).symm
theorem o181 {β : Type} (N : Nat) : SpecOK (β := β) inv Try.prog 181 (S181 N) := by
  refine spec_of lay_ok mixed (E := E181 N) (specs_loops (specs_cons (o206 N) specs_nil)) muts_nil gs_nil Try.func181 (by kernel_rfl) 1 (by kernel_rfl) ⟨trivial, rk181_0 N⟩ fun args K r h => ?_
  unfold S181 VS181 at h
  split at h
  · exact (e181_0 N _ _ _).trans h
  · cases h
end Go.Proofs.Ytfdggelojmofmaa
