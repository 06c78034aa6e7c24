/- The functions that the claims reach answer as their texts do. -/
import Derived.Test.YtddflpokemgnmaaDoorE6
namespace Go.Proofs.YtddflpokemgnmaaDoor
open Go.Rv
set_option maxRecDepth 100000
set_option maxHeartbeats 2000000
set_option linter.unusedVariables false
variable {β : Type}
def VS10 (N : Nat) (zq96 : (a0 : ByteArray) → (a1 : Int) → (a2 : Int) → (k : Int → Int → Bool → O β) → O β) : Rv.Spec β := fun args K => match args with
  | [.v (.one (.str a0)), .v (.one (.int .i64 a1)), .v (.one (.int .i64 a2))] => zq96 a0 a1 a2 (fun z3 z4 z5 => K (.tup [.one (.int .i64 z3), .one (.int .i64 z4), .one (.bool z5)]))
  | _ => none
def S10 (N : Nat) : Rv.Spec β := VS10 N (zj96 N)
def h10_0_0  (v0 : Int) (v1 : Int) (v2 : Tr) (v3 : Int) : St := ⟨tund :: .v (.one (.int .i64 v0)) :: .v (.one (.int .i64 v1)) :: tund :: tund :: tund :: tund :: tund :: tund :: .v (.one (.tr true v2)) :: tund :: .v (.one (.int .i64 v3)) :: tund :: tund :: tund :: tund :: tund :: tund :: tund :: tund :: tund :: tund :: tund :: tund :: tund :: tund :: tund :: tund :: tund :: tund :: tund :: tund :: tund :: tund :: tund :: tund :: tund :: tund :: tund :: tund :: tund :: tund :: tund :: tund :: tund :: tund :: tund :: tund :: tund :: tund :: tund :: tund :: tund :: tund :: tund :: tund :: tund :: tund :: tund :: tund :: tund :: tund :: tund :: tund :: tund :: tund :: tund :: [], []⟩
def x10_0_0_k0  (y0 : Tr) (y1 : Int) : St := ⟨tund :: tund :: tund :: tund :: tund :: tund :: tund :: tund :: tund :: .v (.one (.tr true y0)) :: tund :: .v (.one (.int .i64 y1)) :: tund :: tund :: tund :: tund :: tund :: tund :: tund :: tund :: tund :: tund :: tund :: tund :: tund :: tund :: tund :: tund :: tund :: tund :: tund :: tund :: tund :: tund :: tund :: tund :: tund :: tund :: tund :: tund :: tund :: tund :: tund :: tund :: tund :: tund :: tund :: tund :: tund :: tund :: tund :: tund :: tund :: tund :: tund :: tund :: tund :: tund :: tund :: tund :: tund :: tund :: tund :: tund :: tund :: tund :: tund :: [], []⟩
theorem fl10_0_0 (s : St) : refSt (h10_0_0 0 0 Tr.nil 0) s = h10_0_0 (intS (oneA (vT (nx tund s.tmps 1)))) (intS (oneA (vT (nx tund s.tmps 2)))) (trS (oneA (vT (nx tund s.tmps 9)))) (intS (oneA (vT (nx tund s.tmps 11)))) := by kernel_rfl
def VLS10_0 (N : Nat) (zq95 : Nat → Int → Int → Tr → Int → (Tr → Int → O β) → O β) : LSpec β := fun s K => cond (shpSt (h10_0_0 0 0 Tr.nil 0) s) ((fun (v0 : Int) (v1 : Int) (v2 : Tr) (v3 : Int) => zq95  N v0 v1 v2 v3 (fun y0 y1 => K (.exit 0) (x10_0_0_k0  y0 y1))) (intS (oneA (vT (nx tund s.tmps 1)))) (intS (oneA (vT (nx tund s.tmps 2)))) (trS (oneA (vT (nx tund s.tmps 9)))) (intS (oneA (vT (nx tund s.tmps 11))))) (none)
def LS10_0 (N : Nat) : LSpec β := VLS10_0 N (zj95 N)
def VE10 (N : Nat) (zq92 : (a0 : ByteArray) → (k : Tr → Bool → O β) → O β) (zq93 : (a0 : Int) → (a1 : Int) → (k : Bool → O β) → O β) (zq95 : Nat → Int → Int → Tr → Int → (Tr → Int → O β) → O β) : Env β := ⟨[(32, VS32 N zq92), (33, VS33 N zq93)], [], [(0, VLS10_0 N zq95)], [], ⟨[], [], [], []⟩⟩
def E10 (N : Nat) : Env β := VE10 N (zj92 N) (zj93 N) (zj95 N)
def zb94 (N : Nat)  (v0 : Int) (v1 : Int) (v2 : Tr) (v3 : Int) (rec_ : Int → Int → Tr → Int → O β) (k0 : Tr → Int → O β) : O β :=
(gd ((!(Tr.isNil v2)))
((gd ((!(Tr.isNil v2)))
((gd ((!(Tr.isNil v2)))
((cond ((!(Tr.isNil ((Tr.l v2)))))
((gd ((!(Tr.isNil v2)))
((gd ((!(Tr.isNil v2)))
((gd ((!(Tr.isNil v2)))
((cond (((Tr.a v2) == 66))
((gd ((!(Tr.isNil v2)))
((gd ((!(Tr.isNil v2)))
((gd ((!(Tr.isNil v2)))
((gd ((decide (0 ≤ v1)))
((cond (((bits .and .i64 (shrI .i64 (Tr.b v2) v1) 1) == 1))
((gd ((!(Tr.isNil v2)))
((gd ((!(Tr.isNil v2)))
((gd ((!(Tr.isNil v2)))
(rec_ v0 v1 ((Tr.r v2)) ((w64 (v3 + 1))))))))))
((gd ((!(Tr.isNil v2)))
((gd ((!(Tr.isNil v2)))
((gd ((!(Tr.isNil v2)))
(rec_ v0 v1 ((Tr.l v2)) ((w64 (v3 + 1))))))))))))))))))))
((gd ((!(Tr.isNil v2)))
((gd ((!(Tr.isNil v2)))
((gd ((!(Tr.isNil v2)))
((gd ((decide (0 ≤ v0)))
((cond (((bits .and .i64 (shrI .i64 (Tr.b v2) v0) 1) == 1))
((gd ((!(Tr.isNil v2)))
((gd ((!(Tr.isNil v2)))
((gd ((!(Tr.isNil v2)))
(rec_ v0 v1 ((Tr.r v2)) ((w64 (v3 + 1))))))))))
((gd ((!(Tr.isNil v2)))
((gd ((!(Tr.isNil v2)))
((gd ((!(Tr.isNil v2)))
(rec_ v0 v1 ((Tr.l v2)) ((w64 (v3 + 1))))))))))))))))))))))))))))
(k0 v2 v3))))))))
theorem zt94 (N : Nat)  (v0 : Int) (v1 : Int) (v2 : Tr) (v3 : Int) (rec_ : Int → Int → Tr → Int → O β) (k0 : Tr → Int → O β) : zj94 N v0 v1 v2 v3 rec_ k0 = zb94 N v0 v1 v2 v3 rec_ k0 := by
  unfold zj94 zb94
  rfl
theorem vst10_0_0 (N : Nat) (zq92 : (a0 : ByteArray) → (k : Tr → Bool → O β) → O β) (zq93 : (a0 : Int) → (a1 : Int) → (k : Bool → O β) → O β) (zq95 : Nat → Int → Int → Tr → Int → (Tr → Int → O β) → O β)  (v0 : Int) (v1 : Int) (v2 : Tr) (v3 : Int) (rec_ : St → O β) (K : Exit → St → O β) :
    ev lay (VE10 N zq92 zq93 zq95) (retMask Tryd.f10) (lp Tryd.f10 0).body (lp Tryd.f10 0).ex ((lp Tryd.f10 0).lv (retMask Tryd.f10)) (h10_0_0  v0 v1 v2 v3) (nextR (fun s' => rec_ (s'.tidy ((lp Tryd.f10 0).lv (retMask Tryd.f10)))) K) = zb94 N  v0 v1 v2 v3 (fun v0 v1 v2 v3 => rec_ (h10_0_0  v0 v1 v2 v3)) (fun y0 y1 => K (.exit 0) (x10_0_0_k0  y0 y1)) := by kernel_rfl
theorem st10_0_0 (N : Nat)  (v0 : Int) (v1 : Int) (v2 : Tr) (v3 : Int) (rec_ : St → O β) (K : Exit → St → O β) :
    ev lay (E10 N) (retMask Tryd.f10) (lp Tryd.f10 0).body (lp Tryd.f10 0).ex ((lp Tryd.f10 0).lv (retMask Tryd.f10)) (h10_0_0  v0 v1 v2 v3) (nextR (fun s' => rec_ (s'.tidy ((lp Tryd.f10 0).lv (retMask Tryd.f10)))) K) = zj94 N  v0 v1 v2 v3 (fun v0 v1 v2 v3 => rec_ (h10_0_0  v0 v1 v2 v3)) (fun y0 y1 => K (.exit 0) (x10_0_0_k0  y0 y1)) := (vst10_0_0 N (zj92 N) (zj93 N) (zj95 N) v0 v1 v2 v3 rec_ K).trans (zt94 N  v0 v1 v2 v3 (fun v0 v1 v2 v3 => rec_ (h10_0_0  v0 v1 v2 v3)) (fun y0 y1 => K (.exit 0) (x10_0_0_k0  y0 y1))).symm
theorem ro10_0_0 (N : Nat)  (K : Exit → St → O β) : ∀ (F : Nat) (v0 : Int) (v1 : Int) (v2 : Tr) (v3 : Int), (lp Tryd.f10 0).rounds lay (E10 N) (retMask Tryd.f10) F (h10_0_0  v0 v1 v2 v3) K = zj95 N  F v0 v1 v2 v3 (fun y0 y1 => K (.exit 0) (x10_0_0_k0  y0 y1)) := by
  intro F
  induction F with
  | zero => intros; rfl
  | succ F ih =>
    intros
    rw [rounds_next]
    refine (st10_0_0 N  _ _ _ _ (fun s => (lp Tryd.f10 0).rounds lay (E10 N) (retMask Tryd.f10) F s K) K).trans ?_
    simp only [ih]
    rfl
theorem lk10_0 (N : Nat) : lookL (E10 (β := β) N).loops (lp Tryd.f10 0).id = LS10_0 N := by kernel_rfl
theorem rk10_0 (N : Nat) : RoundsOK lay (E10 (β := β) N) (retMask Tryd.f10) (lp Tryd.f10 0) := by
  intro s K r h
  rw [lk10_0] at h
  unfold LS10_0 VLS10_0 at h
  cases hb : shpSt (h10_0_0 0 0 Tr.nil 0) s with
  | true =>
    rw [hb, cond_true] at h
    exact ⟨N, by rw [← shpSt_ref hb, fl10_0_0 s]; exact (ro10_0_0 N  K N (intS (oneA (vT (nx tund s.tmps 1)))) (intS (oneA (vT (nx tund s.tmps 2)))) (trS (oneA (vT (nx tund s.tmps 9)))) (intS (oneA (vT (nx tund s.tmps 11))))).trans h⟩
  | false =>
  rw [hb, cond_false] at h
  clear hb
  cases h
def zb96 (N : Nat) (zq92 : (a0 : ByteArray) → (k : Tr → Bool → O β) → O β) (zq93 : (a0 : Int) → (a1 : Int) → (k : Bool → O β) → O β) (zq95 : Nat → Int → Int → Tr → Int → (Tr → Int → O β) → O β) (a0 : ByteArray) (a1 : Int) (a2 : Int) (k : Int → Int → Bool → O β) : O β :=
zq92 a0 fun r6 r7 =>
(cond (!r7)
(k 0 0 false)
(zq93 2 a1 fun r8 =>
(cond (!r8)
(k 0 0 false)
(zq93 2 a2 fun r9 =>
(cond (!r9)
(k 0 0 false)
(zq95  N a1 a2 r6 0 (fun e10_0 e10_1 =>
(gd ((!(Tr.isNil e10_0)))
((gd ((!(Tr.isNil e10_0)))
((gd ((!(Tr.isNil e10_0)))
(k ((w64 ((w8 ((Tr.a e10_0) - 48))))) e10_1 true)))))))))))))
theorem zt96 (N : Nat) (a0 : ByteArray) (a1 : Int) (a2 : Int) (k : Int → Int → Bool → O β) : zj96 N a0 a1 a2 k = zb96 N (zj92 N) (zj93 N) (zj95 N) a0 a1 a2 k := by
  unfold zj96 zb96
  rfl
theorem ve10_0 (N : Nat) (zq92 : (a0 : ByteArray) → (k : Tr → Bool → O β) → O β) (zq93 : (a0 : Int) → (a1 : Int) → (k : Bool → O β) → O β) (zq95 : Nat → Int → Int → Tr → Int → (Tr → Int → O β) → O β)  (a0 : ByteArray) (a1 : Int) (a2 : Int) (K : TV → O β) : evFn lay (VE10 N zq92 zq93 zq95) Tryd.f10 [.v (.one (.str a0)), .v (.one (.int .i64 a1)), .v (.one (.int .i64 a2))] K = zb96 N zq92 zq93 zq95 a0 a1 a2 (fun z3 z4 z5 => K (.tup [.one (.int .i64 z3), .one (.int .i64 z4), .one (.bool z5)])) := by kernel_rfl
theorem e10_0 (N : Nat)  (a0 : ByteArray) (a1 : Int) (a2 : Int) (K : TV → O β) : evFn lay (E10 N) Tryd.f10 [.v (.one (.str a0)), .v (.one (.int .i64 a1)), .v (.one (.int .i64 a2))] K = zj96 N a0 a1 a2 (fun z3 z4 z5 => K (.tup [.one (.int .i64 z3), .one (.int .i64 z4), .one (.bool z5)])) := (ve10_0 N (zj92 N) (zj93 N) (zj95 N) a0 a1 a2 K).trans (zt96 N a0 a1 a2 (fun z3 z4 z5 => K (.tup [.one (.int .i64 z3), .one (.int .i64 z4), .one (.bool z5)]))).symm
theorem o10 (N : Nat) : SpecOK (β := β) inv Tryd.prog 10 (S10 N) := by
  refine spec_of lay_ok mixed (E := E10 N) (specs_loops (specs_cons (o32 N) (specs_cons (o33 N) specs_nil))) muts_nil gs_nil Tryd.func10 (by kernel_rfl) 1 (by kernel_rfl) ⟨trivial, rk10_0 N⟩ fun args K r h => ?_
  unfold S10 VS10 at h
  split at h
  · exact (e10_0 N _ _ _ _).trans h
  · cases h
def VS34 (N : Nat) (zq97 : (a0 : Int) → (a1 : Int) → (a2 : Int) → (k : Bool → O β) → O β) : Rv.Spec β := fun args K => match args with
  | [.v (.agg [.int .i64 a0, .int .i64 a1]), .v (.one (.int .i64 a2))] => zq97 a0 a1 a2 (fun z3 => K (.v (.one (.bool z3))))
  | _ => none
def S34 (N : Nat) : Rv.Spec β := VS34 N (zj97 N)
def VE34 (N : Nat) (zq30 : (a0 : Int) → (a1 : Int) → (k : Bool → O β) → O β) (zq93 : (a0 : Int) → (a1 : Int) → (k : Bool → O β) → O β) : Env β := ⟨[(63, VS63 N zq30), (33, VS33 N zq93)], [], [], [], ⟨[], [], [], []⟩⟩
def E34 (N : Nat) : Env β := VE34 N (zj30 N) (zj93 N)
def zb97 (N : Nat) (zq30 : (a0 : Int) → (a1 : Int) → (k : Bool → O β) → O β) (zq93 : (a0 : Int) → (a1 : Int) → (k : Bool → O β) → O β) (a0 : Int) (a1 : Int) (a2 : Int) (k : Bool → O β) : O β :=
zq30 a0 a1 fun r4 =>
(cond r4
(zq93 a0 a2 fun r5 =>
k r5)
(k false))
theorem zt97 (N : Nat) (a0 : Int) (a1 : Int) (a2 : Int) (k : Bool → O β) : zj97 N a0 a1 a2 k = zb97 N (zj30 N) (zj93 N) a0 a1 a2 k := by
  unfold zj97 zb97
  rfl
theorem ve34_0 (N : Nat) (zq30 : (a0 : Int) → (a1 : Int) → (k : Bool → O β) → O β) (zq93 : (a0 : Int) → (a1 : Int) → (k : Bool → O β) → O β)  (a0 : Int) (a1 : Int) (a2 : Int) (K : TV → O β) : evFn lay (VE34 N zq30 zq93) Tryd.f34 [.v (.agg [.int .i64 a0, .int .i64 a1]), .v (.one (.int .i64 a2))] K = zb97 N zq30 zq93 a0 a1 a2 (fun z3 => K (.v (.one (.bool z3)))) := by kernel_rfl
theorem e34_0 (N : Nat)  (a0 : Int) (a1 : Int) (a2 : Int) (K : TV → O β) : evFn lay (E34 N) Tryd.f34 [.v (.agg [.int .i64 a0, .int .i64 a1]), .v (.one (.int .i64 a2))] K = zj97 N a0 a1 a2 (fun z3 => K (.v (.one (.bool z3)))) := (ve34_0 N (zj30 N) (zj93 N) a0 a1 a2 K).trans (zt97 N a0 a1 a2 (fun z3 => K (.v (.one (.bool z3))))).symm
theorem o34 (N : Nat) : SpecOK (β := β) inv Tryd.prog 34 (S34 N) := by
  refine spec_of lay_ok mixed (E := E34 N) (specs_loops (specs_cons (o63 N) (specs_cons (o33 N) specs_nil))) muts_nil gs_nil Tryd.func34 (by kernel_rfl) 0 (by kernel_rfl) trivial fun args K r h => ?_
  unfold S34 VS34 at h
  split at h
  · exact (e34_0 N _ _ _ _).trans h
  · cases h
def VS11 (N : Nat) (zq98 : (a0 : Int) → (a1 : Int) → (a2 : Int) → (k : Int → O β) → O β) : Rv.Spec β := fun args K => match args with
  | [.v (.agg [.int .i64 a0, .int .i64 a1]), .v (.one (.int .i64 a2))] => zq98 a0 a1 a2 (fun z3 => K (.v (.one (.int .i64 z3))))
  | _ => none
def S11 (N : Nat) : Rv.Spec β := VS11 N (zj98 N)
def VE11 (N : Nat) (zq97 : (a0 : Int) → (a1 : Int) → (a2 : Int) → (k : Bool → O β) → O β) (zq38 : (a0 : Int) → (a1 : Int) → (a2 : Int) → (k : Int → O β) → O β) : Env β := ⟨[(34, VS34 N zq97), (35, VS35 N zq38)], [], [], [], ⟨[], [], [], []⟩⟩
def E11 (N : Nat) : Env β := VE11 N (zj97 N) (zj38 N)
def zb98 (N : Nat) (zq97 : (a0 : Int) → (a1 : Int) → (a2 : Int) → (k : Bool → O β) → O β) (zq38 : (a0 : Int) → (a1 : Int) → (a2 : Int) → (k : Int → O β) → O β) (a0 : Int) (a1 : Int) (a2 : Int) (k : Int → O β) : O β :=
zq97 a0 a1 a2 fun r4 =>
(cond (!r4)
(k (-1))
(zq38 a0 a1 a2 fun r5 =>
k r5))
theorem zt98 (N : Nat) (a0 : Int) (a1 : Int) (a2 : Int) (k : Int → O β) : zj98 N a0 a1 a2 k = zb98 N (zj97 N) (zj38 N) a0 a1 a2 k := by
  unfold zj98 zb98
  rfl
theorem ve11_0 (N : Nat) (zq97 : (a0 : Int) → (a1 : Int) → (a2 : Int) → (k : Bool → O β) → O β) (zq38 : (a0 : Int) → (a1 : Int) → (a2 : Int) → (k : Int → O β) → O β)  (a0 : Int) (a1 : Int) (a2 : Int) (K : TV → O β) : evFn lay (VE11 N zq97 zq38) Tryd.f11 [.v (.agg [.int .i64 a0, .int .i64 a1]), .v (.one (.int .i64 a2))] K = zb98 N zq97 zq38 a0 a1 a2 (fun z3 => K (.v (.one (.int .i64 z3)))) := by kernel_rfl
theorem e11_0 (N : Nat)  (a0 : Int) (a1 : Int) (a2 : Int) (K : TV → O β) : evFn lay (E11 N) Tryd.f11 [.v (.agg [.int .i64 a0, .int .i64 a1]), .v (.one (.int .i64 a2))] K = zj98 N a0 a1 a2 (fun z3 => K (.v (.one (.int .i64 z3)))) := (ve11_0 N (zj97 N) (zj38 N) a0 a1 a2 K).trans (zt98 N a0 a1 a2 (fun z3 => K (.v (.one (.int .i64 z3))))).symm
theorem o11 (N : Nat) : SpecOK (β := β) inv Tryd.prog 11 (S11 N) := by
  refine spec_of lay_ok mixed (E := E11 N) (specs_loops (specs_cons (o34 N) (specs_cons (o35 N) specs_nil))) muts_nil gs_nil Tryd.func11 (by kernel_rfl) 0 (by kernel_rfl) trivial fun args K r h => ?_
  unfold S11 VS11 at h
  split at h
  · exact (e11_0 N _ _ _ _).trans h
  · cases h
def VS37 (N : Nat) (zq101 : (a0 : Int) → (a1 : Int) → (a2 : Int) → (k : List Int → O β) → O β) : Rv.Spec β := fun args K => match args with
  | [.v (.agg [.int .i64 a0, .int .i64 a1]), .v (.one (.int .i64 a2))] => zq101 a0 a1 a2 (fun z3 => K (.v (.one (.sl 3 (.ints .i64 z3)))))
  | _ => none
def S37 (N : Nat) : Rv.Spec β := VS37 N (zj101 N)
def h37_0_0  (v0 : Int) (v1 : Int) (v2 : Int) (v3 : Int) (v4 : Int) (v5 : List Int) : St := ⟨tund :: .v (.one (.int .i64 v0)) :: .v (.one (.ptr 0 0)) :: tund :: tund :: .v (.one (.row 1)) :: tund :: tund :: tund :: tund :: tund :: .v (.one (.int .i64 v1)) :: .v (.one (.int .i64 v2)) :: tund :: tund :: tund :: tund :: tund :: tund :: tund :: tund :: tund :: tund :: tund :: tund :: tund :: tund :: tund :: tund :: tund :: tund :: tund :: tund :: tund :: [], [.cells 25 [.int .i64 v3, .int .i64 v4], .row 3 (.ints .i64 v5)]⟩
def x37_0_0_k0  (y0 : List Int) : St := ⟨tund :: tund :: tund :: tund :: tund :: .v (.one (.row 0)) :: tund :: tund :: tund :: tund :: tund :: tund :: tund :: tund :: tund :: tund :: tund :: tund :: tund :: tund :: tund :: tund :: tund :: tund :: tund :: tund :: tund :: tund :: tund :: tund :: tund :: tund :: tund :: tund :: [], [.row 3 (.ints .i64 y0)]⟩
theorem fl37_0_0 (s : St) : refSt (h37_0_0 0 0 0 0 0 []) s = h37_0_0 (intS (oneA (vT (nx tund s.tmps 1)))) (intS (oneA (vT (nx tund s.tmps 11)))) (intS (oneA (vT (nx tund s.tmps 12)))) (intS (nx .und (cellsB (nx .dead s.blks 0)) 0)) (intS (nx .und (cellsB (nx .dead s.blks 0)) 1)) (rInts (rowB_ (nx .dead s.blks 1))) := by kernel_rfl
def VLS37_0 (N : Nat) (zq100 : Nat → Int → Int → Int → Int → Int → List Int → (List Int → O β) → O β) : LSpec β := fun s K => cond (shpSt (h37_0_0 0 0 0 0 0 []) s) ((fun (v0 : Int) (v1 : Int) (v2 : Int) (v3 : Int) (v4 : Int) (v5 : List Int) => zq100  N v0 v1 v2 v3 v4 v5 (fun y0 => K (.exit 0) (x37_0_0_k0  y0))) (intS (oneA (vT (nx tund s.tmps 1)))) (intS (oneA (vT (nx tund s.tmps 11)))) (intS (oneA (vT (nx tund s.tmps 12)))) (intS (nx .und (cellsB (nx .dead s.blks 0)) 0)) (intS (nx .und (cellsB (nx .dead s.blks 0)) 1)) (rInts (rowB_ (nx .dead s.blks 1)))) (none)
def LS37_0 (N : Nat) : LSpec β := VLS37_0 N (zj100 N)
def VE37 (N : Nat) (zq29 : (a0 : Int) → (a1 : Int) → (k : Int → O β) → O β) (zq38 : (a0 : Int) → (a1 : Int) → (a2 : Int) → (k : Int → O β) → O β) (zq100 : Nat → Int → Int → Int → Int → Int → List Int → (List Int → O β) → O β) : Env β := ⟨[(64, VS64 N zq29), (35, VS35 N zq38)], [], [(0, VLS37_0 N zq100)], [], ⟨[], [], [], []⟩⟩
def E37 (N : Nat) : Env β := VE37 N (zj29 N) (zj38 N) (zj100 N)
def zb99 (N : Nat) (zq38 : (a0 : Int) → (a1 : Int) → (a2 : Int) → (k : Int → O β) → O β)  (v0 : Int) (v1 : Int) (v2 : Int) (v3 : Int) (v4 : Int) (v5 : List Int) (rec_ : Int → Int → Int → Int → Int → List Int → O β) (k0 : List Int → O β) : O β :=
(cond ((decide (v2 < v1)))
((gd ((decide (0 ≤ v0)))
((gd ((decide (0 ≤ (bits .and .i64 v2 (w64 ((shlI .i64 1 v0) - 1))))))
((gd ((decide ((bits .and .i64 v2 (w64 ((shlI .i64 1 v0) - 1))) < (v5.length : Int))))
((gd ((decide (0 ≤ v0)))
(zq38 v3 v4 v2 fun r5 =>
(gd ((decide (0 ≤ (shrI .i64 v2 v0))))
((gd ((decide (0 ≤ (bits .and .i64 v2 (w64 ((shlI .i64 1 v0) - 1))))))
((gd ((decide ((bits .and .i64 v2 (w64 ((shlI .i64 1 v0) - 1))) < (v5.length : Int))))
(rec_ v0 v1 ((w64 (v2 + 1))) v3 v4 ((wr v5 (bits .and .i64 v2 (w64 ((shlI .i64 1 v0) - 1))) (bits .or .i64 (rd 0 v5 (bits .and .i64 v2 (w64 ((shlI .i64 1 v0) - 1)))) (shlI .i64 r5 (shrI .i64 v2 v0))))))))))))))))))))
(k0 v5))
theorem zt99 (N : Nat)  (v0 : Int) (v1 : Int) (v2 : Int) (v3 : Int) (v4 : Int) (v5 : List Int) (rec_ : Int → Int → Int → Int → Int → List Int → O β) (k0 : List Int → O β) : zj99 N v0 v1 v2 v3 v4 v5 rec_ k0 = zb99 N (zj38 N) v0 v1 v2 v3 v4 v5 rec_ k0 := by
  unfold zj99 zb99
  rfl
theorem vst37_0_0 (N : Nat) (zq29 : (a0 : Int) → (a1 : Int) → (k : Int → O β) → O β) (zq38 : (a0 : Int) → (a1 : Int) → (a2 : Int) → (k : Int → O β) → O β) (zq100 : Nat → Int → Int → Int → Int → Int → List Int → (List Int → O β) → O β)  (v0 : Int) (v1 : Int) (v2 : Int) (v3 : Int) (v4 : Int) (v5 : List Int) (rec_ : St → O β) (K : Exit → St → O β) :
    ev lay (VE37 N zq29 zq38 zq100) (retMask Tryd.f37) (lp Tryd.f37 0).body (lp Tryd.f37 0).ex ((lp Tryd.f37 0).lv (retMask Tryd.f37)) (h37_0_0  v0 v1 v2 v3 v4 v5) (nextR (fun s' => rec_ (s'.tidy ((lp Tryd.f37 0).lv (retMask Tryd.f37)))) K) = zb99 N zq38  v0 v1 v2 v3 v4 v5 (fun v0 v1 v2 v3 v4 v5 => rec_ (h37_0_0  v0 v1 v2 v3 v4 v5)) (fun y0 => K (.exit 0) (x37_0_0_k0  y0)) := by kernel_rfl
theorem st37_0_0 (N : Nat)  (v0 : Int) (v1 : Int) (v2 : Int) (v3 : Int) (v4 : Int) (v5 : List Int) (rec_ : St → O β) (K : Exit → St → O β) :
    ev lay (E37 N) (retMask Tryd.f37) (lp Tryd.f37 0).body (lp Tryd.f37 0).ex ((lp Tryd.f37 0).lv (retMask Tryd.f37)) (h37_0_0  v0 v1 v2 v3 v4 v5) (nextR (fun s' => rec_ (s'.tidy ((lp Tryd.f37 0).lv (retMask Tryd.f37)))) K) = zj99 N  v0 v1 v2 v3 v4 v5 (fun v0 v1 v2 v3 v4 v5 => rec_ (h37_0_0  v0 v1 v2 v3 v4 v5)) (fun y0 => K (.exit 0) (x37_0_0_k0  y0)) := (vst37_0_0 N (zj29 N) (zj38 N) (zj100 N) v0 v1 v2 v3 v4 v5 rec_ K).trans (zt99 N  v0 v1 v2 v3 v4 v5 (fun v0 v1 v2 v3 v4 v5 => rec_ (h37_0_0  v0 v1 v2 v3 v4 v5)) (fun y0 => K (.exit 0) (x37_0_0_k0  y0))).symm
theorem ro37_0_0 (N : Nat)  (K : Exit → St → O β) : ∀ (F : Nat) (v0 : Int) (v1 : Int) (v2 : Int) (v3 : Int) (v4 : Int) (v5 : List Int), (lp Tryd.f37 0).rounds lay (E37 N) (retMask Tryd.f37) F (h37_0_0  v0 v1 v2 v3 v4 v5) K = zj100 N  F v0 v1 v2 v3 v4 v5 (fun y0 => K (.exit 0) (x37_0_0_k0  y0)) := by
  intro F
  induction F with
  | zero => intros; rfl
  | succ F ih =>
    intros
    rw [rounds_next]
    refine (st37_0_0 N  _ _ _ _ _ _ (fun s => (lp Tryd.f37 0).rounds lay (E37 N) (retMask Tryd.f37) F s K) K).trans ?_
    simp only [ih]
    rfl
theorem lk37_0 (N : Nat) : lookL (E37 (β := β) N).loops (lp Tryd.f37 0).id = LS37_0 N := by kernel_rfl
theorem rk37_0 (N : Nat) : RoundsOK lay (E37 (β := β) N) (retMask Tryd.f37) (lp Tryd.f37 0) := by
  intro s K r h
  rw [lk37_0] at h
  unfold LS37_0 VLS37_0 at h
  cases hb : shpSt (h37_0_0 0 0 0 0 0 []) s with
  | true =>
    rw [hb, cond_true] at h
    exact ⟨N, by rw [← shpSt_ref hb, fl37_0_0 s]; exact (ro37_0_0 N  K N (intS (oneA (vT (nx tund s.tmps 1)))) (intS (oneA (vT (nx tund s.tmps 11)))) (intS (oneA (vT (nx tund s.tmps 12)))) (intS (nx .und (cellsB (nx .dead s.blks 0)) 0)) (intS (nx .und (cellsB (nx .dead s.blks 0)) 1)) (rInts (rowB_ (nx .dead s.blks 1)))).trans h⟩
  | false =>
  rw [hb, cond_false] at h
  clear hb
  cases h
def zb101 (N : Nat) (zq29 : (a0 : Int) → (a1 : Int) → (k : Int → O β) → O β) (zq100 : Nat → Int → Int → Int → Int → Int → List Int → (List Int → O β) → O β) (a0 : Int) (a1 : Int) (a2 : Int) (k : List Int → O β) : O β :=
(gd ((decide (0 ≤ a2)))
((gd ((decide (0 ≤ (shlI .i64 1 a2))))
((gd ((decide ((shlI .i64 1 a2) ≤ (shlI .i64 1 a2))))
((gd ((decide (8 * (shlI .i64 1 a2) ≤ 281474976710656)))
(zq29 a0 a1 fun r4 =>
zq100  N a2 r4 0 a0 a1 ((List.replicate (Int.toNat (shlI .i64 1 a2)) (0 : Int))) (fun e6_0 =>
k e6_0)))))))))
theorem zt101 (N : Nat) (a0 : Int) (a1 : Int) (a2 : Int) (k : List Int → O β) : zj101 N a0 a1 a2 k = zb101 N (zj29 N) (zj100 N) a0 a1 a2 k := by
  unfold zj101 zb101
  rfl
theorem ve37_0 (N : Nat) (zq29 : (a0 : Int) → (a1 : Int) → (k : Int → O β) → O β) (zq38 : (a0 : Int) → (a1 : Int) → (a2 : Int) → (k : Int → O β) → O β) (zq100 : Nat → Int → Int → Int → Int → Int → List Int → (List Int → O β) → O β)  (a0 : Int) (a1 : Int) (a2 : Int) (K : TV → O β) : evFn lay (VE37 N zq29 zq38 zq100) Tryd.f37 [.v (.agg [.int .i64 a0, .int .i64 a1]), .v (.one (.int .i64 a2))] K = zb101 N zq29 zq100 a0 a1 a2 (fun z3 => K (.v (.one (.sl 3 (.ints .i64 z3))))) := by kernel_rfl
theorem e37_0 (N : Nat)  (a0 : Int) (a1 : Int) (a2 : Int) (K : TV → O β) : evFn lay (E37 N) Tryd.f37 [.v (.agg [.int .i64 a0, .int .i64 a1]), .v (.one (.int .i64 a2))] K = zj101 N a0 a1 a2 (fun z3 => K (.v (.one (.sl 3 (.ints .i64 z3))))) := (ve37_0 N (zj29 N) (zj38 N) (zj100 N) a0 a1 a2 K).trans (zt101 N a0 a1 a2 (fun z3 => K (.v (.one (.sl 3 (.ints .i64 z3)))))).symm
theorem o37 (N : Nat) : SpecOK (β := β) inv Tryd.prog 37 (S37 N) := by
  refine spec_of lay_ok mixed (E := E37 N) (specs_loops (specs_cons (o64 N) (specs_cons (o35 N) specs_nil))) muts_nil gs_nil Tryd.func37 (by kernel_rfl) 1 (by kernel_rfl) ⟨trivial, rk37_0 N⟩ fun args K r h => ?_
  unfold S37 VS37 at h
  split at h
  · exact (e37_0 N _ _ _ _).trans h
  · cases h
def VS12 (N : Nat) (zq102 : (a0 : Int) → (a1 : Int) → (a2 : Int) → (k : List Int → Bool → O β) → O β) : Rv.Spec β := fun args K => match args with
  | [.v (.agg [.int .i64 a0, .int .i64 a1]), .v (.one (.int .i64 a2))] => zq102 a0 a1 a2 (fun z3 z4 => K (.tup [.one (.sl 3 (.ints .i64 z3)), .one (.bool z4)]))
  | _ => none
def S12 (N : Nat) : Rv.Spec β := VS12 N (zj102 N)
def VE12 (N : Nat) (zq31 : (a0 : Int) → (a1 : Int) → (a2 : Int) → (k : Bool → O β) → O β) (zq101 : (a0 : Int) → (a1 : Int) → (a2 : Int) → (k : List Int → O β) → O β) : Env β := ⟨[(36, VS36 N zq31), (37, VS37 N zq101)], [], [], [], ⟨[], [], [], []⟩⟩
def E12 (N : Nat) : Env β := VE12 N (zj31 N) (zj101 N)
def zb102 (N : Nat) (zq31 : (a0 : Int) → (a1 : Int) → (a2 : Int) → (k : Bool → O β) → O β) (zq101 : (a0 : Int) → (a1 : Int) → (a2 : Int) → (k : List Int → O β) → O β) (a0 : Int) (a1 : Int) (a2 : Int) (k : List Int → Bool → O β) : O β :=
zq31 a0 a1 a2 fun r5 =>
(cond (!r5)
(k (([] : List Int)) false)
(zq101 a0 a1 a2 fun r6 =>
k r6 true))
theorem zt102 (N : Nat) (a0 : Int) (a1 : Int) (a2 : Int) (k : List Int → Bool → O β) : zj102 N a0 a1 a2 k = zb102 N (zj31 N) (zj101 N) a0 a1 a2 k := by
  unfold zj102 zb102
  rfl
theorem ve12_0 (N : Nat) (zq31 : (a0 : Int) → (a1 : Int) → (a2 : Int) → (k : Bool → O β) → O β) (zq101 : (a0 : Int) → (a1 : Int) → (a2 : Int) → (k : List Int → O β) → O β)  (a0 : Int) (a1 : Int) (a2 : Int) (K : TV → O β) : evFn lay (VE12 N zq31 zq101) Tryd.f12 [.v (.agg [.int .i64 a0, .int .i64 a1]), .v (.one (.int .i64 a2))] K = zb102 N zq31 zq101 a0 a1 a2 (fun z3 z4 => K (.tup [.one (.sl 3 (.ints .i64 z3)), .one (.bool z4)])) := by kernel_rfl
theorem e12_0 (N : Nat)  (a0 : Int) (a1 : Int) (a2 : Int) (K : TV → O β) : evFn lay (E12 N) Tryd.f12 [.v (.agg [.int .i64 a0, .int .i64 a1]), .v (.one (.int .i64 a2))] K = zj102 N a0 a1 a2 (fun z3 z4 => K (.tup [.one (.sl 3 (.ints .i64 z3)), .one (.bool z4)])) := (ve12_0 N (zj31 N) (zj101 N) a0 a1 a2 K).trans (zt102 N a0 a1 a2 (fun z3 z4 => K (.tup [.one (.sl 3 (.ints .i64 z3)), .one (.bool z4)]))).symm
theorem o12 (N : Nat) : SpecOK (β := β) inv Tryd.prog 12 (S12 N) := by
  refine spec_of lay_ok mixed (E := E12 N) (specs_loops (specs_cons (o36 N) (specs_cons (o37 N) specs_nil))) muts_nil gs_nil Tryd.func12 (by kernel_rfl) 0 (by kernel_rfl) trivial fun args K r h => ?_
  unfold S12 VS12 at h
  split at h
  · exact (e12_0 N _ _ _ _).trans h
  · cases h
def VS38 (N : Nat) (zq103 : (a0 : Int) → (k : Bool → O β) → O β) : Rv.Spec β := fun args K => match args with
  | [.v (.one (.int .i64 a0))] => zq103 a0 (fun z1 => K (.v (.one (.bool z1))))
  | _ => none
def S38 (N : Nat) : Rv.Spec β := VS38 N (zj103 N)
def VE38 (N : Nat) : Env β := ⟨[], [], [], [], ⟨[], [], [], []⟩⟩
def E38 (N : Nat) : Env β := VE38 N
def zb103 (N : Nat) (a0 : Int) (k : Bool → O β) : O β :=
(cond ((a0 == 0))
(k true)
(k ((a0 == 1))))
theorem zt103 (N : Nat) (a0 : Int) (k : Bool → O β) : zj103 N a0 k = zb103 N a0 k := by
  unfold zj103 zb103
  rfl
theorem ve38_0 (N : Nat)  (a0 : Int) (K : TV → O β) : evFn lay (VE38 N) Tryd.f38 [.v (.one (.int .i64 a0))] K = zb103 N a0 (fun z1 => K (.v (.one (.bool z1)))) := by kernel_rfl
theorem e38_0 (N : Nat)  (a0 : Int) (K : TV → O β) : evFn lay (E38 N) Tryd.f38 [.v (.one (.int .i64 a0))] K = zj103 N a0 (fun z1 => K (.v (.one (.bool z1)))) := (ve38_0 N a0 K).trans (zt103 N a0 (fun z1 => K (.v (.one (.bool z1))))).symm
theorem o38 (N : Nat) : SpecOK (β := β) inv Tryd.prog 38 (S38 N) := by
  refine spec_of lay_ok mixed (E := E38 N) (specs_loops specs_nil) muts_nil gs_nil Tryd.func38 (by kernel_rfl) 0 (by kernel_rfl) trivial fun args K r h => ?_
  unfold S38 VS38 at h
  split at h
  · exact (e38_0 N _ _).trans h
  · cases h
def VS67 (N : Nat) (zq104 : (a0 : Int) → (a1 : Int) → (a2 : Int) → (a3 : Int) → (a4 : Int) → (a5 : Int) → (k : Bool → O β) → O β) : Rv.Spec β := fun args K => match args with
  | [.v (.agg [.int .i64 a0, .int .i64 a1]), .v (.one (.int .i64 a2)), .v (.one (.int .i64 a3)), .v (.one (.int .i64 a4)), .v (.one (.int .i64 a5))] => zq104 a0 a1 a2 a3 a4 a5 (fun z6 => K (.v (.one (.bool z6))))
  | _ => none
def S67 (N : Nat) : Rv.Spec β := VS67 N (zj104 N)
def VE67 (N : Nat) (zq38 : (a0 : Int) → (a1 : Int) → (a2 : Int) → (k : Int → O β) → O β) : Env β := ⟨[(35, VS35 N zq38)], [], [], [], ⟨[], [], [], []⟩⟩
def E67 (N : Nat) : Env β := VE67 N (zj38 N)
def zb104 (N : Nat) (zq38 : (a0 : Int) → (a1 : Int) → (a2 : Int) → (k : Int → O β) → O β) (a0 : Int) (a1 : Int) (a2 : Int) (a3 : Int) (a4 : Int) (a5 : Int) (k : Bool → O β) : O β :=
(gd ((decide (0 ≤ a2)))
(zq38 a0 a1 ((bits .or .i64 (bits .and .i64 a4 (w64 ((shlI .i64 1 a2) - 1))) (bits .andNot .i64 a5 (w64 ((shlI .i64 1 a2) - 1))))) fun r7 =>
(cond ((r7 != a3))
(k true)
(zq38 a0 a1 ((bits .or .i64 (bits .and .i64 a5 (w64 ((shlI .i64 1 a2) - 1))) (bits .andNot .i64 a4 (w64 ((shlI .i64 1 a2) - 1))))) fun r8 =>
k ((r8 != a3))))))
theorem zt104 (N : Nat) (a0 : Int) (a1 : Int) (a2 : Int) (a3 : Int) (a4 : Int) (a5 : Int) (k : Bool → O β) : zj104 N a0 a1 a2 a3 a4 a5 k = zb104 N (zj38 N) a0 a1 a2 a3 a4 a5 k := by
  unfold zj104 zb104
  rfl
theorem ve67_0 (N : Nat) (zq38 : (a0 : Int) → (a1 : Int) → (a2 : Int) → (k : Int → O β) → O β)  (a0 : Int) (a1 : Int) (a2 : Int) (a3 : Int) (a4 : Int) (a5 : Int) (K : TV → O β) : evFn lay (VE67 N zq38) Tryd.f67 [.v (.agg [.int .i64 a0, .int .i64 a1]), .v (.one (.int .i64 a2)), .v (.one (.int .i64 a3)), .v (.one (.int .i64 a4)), .v (.one (.int .i64 a5))] K = zb104 N zq38 a0 a1 a2 a3 a4 a5 (fun z6 => K (.v (.one (.bool z6)))) := by kernel_rfl
theorem e67_0 (N : Nat)  (a0 : Int) (a1 : Int) (a2 : Int) (a3 : Int) (a4 : Int) (a5 : Int) (K : TV → O β) : evFn lay (E67 N) Tryd.f67 [.v (.agg [.int .i64 a0, .int .i64 a1]), .v (.one (.int .i64 a2)), .v (.one (.int .i64 a3)), .v (.one (.int .i64 a4)), .v (.one (.int .i64 a5))] K = zj104 N a0 a1 a2 a3 a4 a5 (fun z6 => K (.v (.one (.bool z6)))) := (ve67_0 N (zj38 N) a0 a1 a2 a3 a4 a5 K).trans (zt104 N a0 a1 a2 a3 a4 a5 (fun z6 => K (.v (.one (.bool z6))))).symm
theorem o67 (N : Nat) : SpecOK (β := β) inv Tryd.prog 67 (S67 N) := by
  refine spec_of lay_ok mixed (E := E67 N) (specs_loops (specs_cons (o35 N) specs_nil)) muts_nil gs_nil Tryd.func67 (by kernel_rfl) 0 (by kernel_rfl) trivial fun args K r h => ?_
  unfold S67 VS67 at h
  split at h
  · exact (e67_0 N _ _ _ _ _ _ _).trans h
  · cases h
def VS66 (N : Nat) (zq105 : (a0 : Int) → (c0 : Int) → (c1 : Int) → (c2 : Int) → (c3 : Int) → (c4 : List Int) → (c5 : Int) → (k : Bool → O β) → O β) : Rv.Spec β := fun args K => match args with
  | [.v (.one (.int .i64 a0)), .v (.one (.cref [.ptr [.int .i64 c0, .int .i64 c1, .int .i64 c2, .int .i64 c3, .sl 3 (.ints .i64 c4)] 0] 0)), .v (.one (.cref [.int .i64 c5] 0))] => zq105 a0 c0 c1 c2 c3 c4 c5 (fun z1 => K (.v (.one (.bool z1))))
  | _ => none
def S66 (N : Nat) : Rv.Spec β := VS66 N (zj105 N)
def VE66 (N : Nat) (zq104 : (a0 : Int) → (a1 : Int) → (a2 : Int) → (a3 : Int) → (a4 : Int) → (a5 : Int) → (k : Bool → O β) → O β) : Env β := ⟨[(67, VS67 N zq104)], [], [], [], ⟨[], [], [], []⟩⟩
def E66 (N : Nat) : Env β := VE66 N (zj104 N)
def zb105 (N : Nat) (zq104 : (a0 : Int) → (a1 : Int) → (a2 : Int) → (a3 : Int) → (a4 : Int) → (a5 : Int) → (k : Bool → O β) → O β) (a0 : Int) (c0 : Int) (c1 : Int) (c2 : Int) (c3 : Int) (c4 : List Int) (c5 : Int) (k : Bool → O β) : O β :=
zq104 c0 c1 c2 c3 a0 c5 fun r2 =>
k (!r2)
theorem zt105 (N : Nat) (a0 : Int) (c0 : Int) (c1 : Int) (c2 : Int) (c3 : Int) (c4 : List Int) (c5 : Int) (k : Bool → O β) : zj105 N a0 c0 c1 c2 c3 c4 c5 k = zb105 N (zj104 N) a0 c0 c1 c2 c3 c4 c5 k := by
  unfold zj105 zb105
  rfl
theorem ve66_0 (N : Nat) (zq104 : (a0 : Int) → (a1 : Int) → (a2 : Int) → (a3 : Int) → (a4 : Int) → (a5 : Int) → (k : Bool → O β) → O β)  (a0 : Int) (c0 : Int) (c1 : Int) (c2 : Int) (c3 : Int) (c4 : List Int) (c5 : Int) (K : TV → O β) : evFn lay (VE66 N zq104) Tryd.f66 [.v (.one (.int .i64 a0)), .v (.one (.cref [.ptr [.int .i64 c0, .int .i64 c1, .int .i64 c2, .int .i64 c3, .sl 3 (.ints .i64 c4)] 0] 0)), .v (.one (.cref [.int .i64 c5] 0))] K = zb105 N zq104 a0 c0 c1 c2 c3 c4 c5 (fun z1 => K (.v (.one (.bool z1)))) := by kernel_rfl
theorem e66_0 (N : Nat)  (a0 : Int) (c0 : Int) (c1 : Int) (c2 : Int) (c3 : Int) (c4 : List Int) (c5 : Int) (K : TV → O β) : evFn lay (E66 N) Tryd.f66 [.v (.one (.int .i64 a0)), .v (.one (.cref [.ptr [.int .i64 c0, .int .i64 c1, .int .i64 c2, .int .i64 c3, .sl 3 (.ints .i64 c4)] 0] 0)), .v (.one (.cref [.int .i64 c5] 0))] K = zj105 N a0 c0 c1 c2 c3 c4 c5 (fun z1 => K (.v (.one (.bool z1)))) := (ve66_0 N (zj104 N) a0 c0 c1 c2 c3 c4 c5 K).trans (zt105 N a0 c0 c1 c2 c3 c4 c5 (fun z1 => K (.v (.one (.bool z1))))).symm
theorem o66 (N : Nat) : SpecOK (β := β) inv Tryd.prog 66 (S66 N) := by
  refine spec_of lay_ok mixed (E := E66 N) (specs_loops (specs_cons (o67 N) specs_nil)) muts_nil gs_nil Tryd.func66 (by kernel_rfl) 0 (by kernel_rfl) trivial fun args K r h => ?_
  unfold S66 VS66 at h
  split at h
  · exact (e66_0 N _ _ _ _ _ _ _ _).trans h
  · cases h
def VS43 (N : Nat) (zq106 : (a0 : Int) → (k : Bool → O β) → O β) : Rv.Spec β := fun args K => match args with
  | [.v (.one (.int .i64 a0))] => zq106 a0 (fun z1 => K (.v (.one (.bool z1))))
  | _ => none
def S43 (N : Nat) : Rv.Spec β := VS43 N (zj106 N)
def VE43 (N : Nat) : Env β := ⟨[], [], [], [], ⟨[], [], [], []⟩⟩
def E43 (N : Nat) : Env β := VE43 N
def zb106 (N : Nat) (a0 : Int) (k : Bool → O β) : O β :=
(cond ((decide (a0 < 0)))
(k true)
(k (((shrI .i64 a0 32) != 0))))
theorem zt106 (N : Nat) (a0 : Int) (k : Bool → O β) : zj106 N a0 k = zb106 N a0 k := by
  unfold zj106 zb106
  rfl
theorem ve43_0 (N : Nat)  (a0 : Int) (K : TV → O β) : evFn lay (VE43 N) Tryd.f43 [.v (.one (.int .i64 a0))] K = zb106 N a0 (fun z1 => K (.v (.one (.bool z1)))) := by kernel_rfl
theorem e43_0 (N : Nat)  (a0 : Int) (K : TV → O β) : evFn lay (E43 N) Tryd.f43 [.v (.one (.int .i64 a0))] K = zj106 N a0 (fun z1 => K (.v (.one (.bool z1)))) := (ve43_0 N a0 K).trans (zt106 N a0 (fun z1 => K (.v (.one (.bool z1))))).symm
theorem o43 (N : Nat) : SpecOK (β := β) inv Tryd.prog 43 (S43 N) := by
  refine spec_of lay_ok mixed (E := E43 N) (specs_loops specs_nil) muts_nil gs_nil Tryd.func43 (by kernel_rfl) 0 (by kernel_rfl) trivial fun args K r h => ?_
  unfold S43 VS43 at h
  split at h
  · exact (e43_0 N _ _).trans h
  · cases h
def VS68 (N : Nat) (zq109 : (a0 : List Int) → (a1 : (Int → (Bool → O β) → O β)) → (k : Int → O β) → O β) (zq105 : (a0 : Int) → (c0 : Int) → (c1 : Int) → (c2 : Int) → (c3 : Int) → (c4 : List Int) → (c5 : Int) → (k : Bool → O β) → O β) (zq106 : (a0 : Int) → (k : Bool → O β) → O β) : Rv.Spec β := fun args K => match args with
  | [.v (.one (.sl 3 (.ints .i64 a0))), .v (.one (.dfn 66 [([.ptr [.int .i64 q0, .int .i64 q1, .int .i64 q2, .int .i64 q3, .sl 3 (.ints .i64 q4)] 0], 0), ([.int .i64 q5], 0)]))] => zq109 a0 (fun x0 k => zq105 x0 q0 q1 q2 q3 q4 q5 k) (fun z2 => K (.v (.one (.int .i64 z2))))
  | [.v (.one (.sl 3 (.ints .i64 a0))), .v (.one (.fn 43 []))] => zq109 a0 (fun x0 k => zq106 x0 k) (fun z2 => K (.v (.one (.int .i64 z2))))
  | _ => none
def S68 (N : Nat) : Rv.Spec β := VS68 N (zj109 N) (zj105 N) (zj106 N)
def h68_0_0 (q0 : Int) (q1 : Int) (q2 : Int) (q3 : Int) (q4 : List Int) (q5 : Int) (v0 : List Int) (v1 : Int) (v2 : Int) : St := ⟨.v (.one (.sl 3 (.ints .i64 v0))) :: .v (.one (.dfn 66 [([.ptr [.int .i64 q0, .int .i64 q1, .int .i64 q2, .int .i64 q3, .sl 3 (.ints .i64 q4)] 0], 0), ([.int .i64 q5], 0)])) :: tund :: tund :: tund :: tund :: tund :: .v (.one (.int .i64 v1)) :: .v (.one (.int .i64 v2)) :: tund :: tund :: tund :: tund :: tund :: tund :: tund :: tund :: tund :: tund :: [], []⟩
def x68_0_0_k0 (q0 : Int) (q1 : Int) (q2 : Int) (q3 : Int) (q4 : List Int) (q5 : Int) (y0 : Int) : St := ⟨tund :: tund :: tund :: tund :: .v (.one (.int .i64 y0)) :: tund :: tund :: tund :: tund :: tund :: tund :: tund :: tund :: tund :: tund :: tund :: tund :: tund :: tund :: [], []⟩
def x68_0_0_k1 (q0 : Int) (q1 : Int) (q2 : Int) (q3 : Int) (q4 : List Int) (q5 : Int)  : St := ⟨tund :: tund :: tund :: tund :: tund :: tund :: tund :: tund :: tund :: tund :: tund :: tund :: tund :: tund :: tund :: tund :: tund :: tund :: tund :: [], []⟩
def h68_0_1  (v0 : List Int) (v1 : Int) (v2 : Int) : St := ⟨.v (.one (.sl 3 (.ints .i64 v0))) :: .v (.one (.fn 43 [])) :: tund :: tund :: tund :: tund :: tund :: .v (.one (.int .i64 v1)) :: .v (.one (.int .i64 v2)) :: tund :: tund :: tund :: tund :: tund :: tund :: tund :: tund :: tund :: tund :: [], []⟩
def x68_0_1_k0  (y0 : Int) : St := ⟨tund :: tund :: tund :: tund :: .v (.one (.int .i64 y0)) :: tund :: tund :: tund :: tund :: tund :: tund :: tund :: tund :: tund :: tund :: tund :: tund :: tund :: tund :: [], []⟩
def x68_0_1_k1   : St := ⟨tund :: tund :: tund :: tund :: tund :: tund :: tund :: tund :: tund :: tund :: tund :: tund :: tund :: tund :: tund :: tund :: tund :: tund :: tund :: [], []⟩
theorem fl68_0_0 (s : St) : refSt (h68_0_0 0 0 0 0 [] 0 [] 0 0) s = h68_0_0 (intFf (nx .no (ptrF (nx .no (nx ([], 0) (dfnS (oneA (vT (nx tund s.tmps 1)))) 0).1 0)) 0)) (intFf (nx .no (ptrF (nx .no (nx ([], 0) (dfnS (oneA (vT (nx tund s.tmps 1)))) 0).1 0)) 1)) (intFf (nx .no (ptrF (nx .no (nx ([], 0) (dfnS (oneA (vT (nx tund s.tmps 1)))) 0).1 0)) 2)) (intFf (nx .no (ptrF (nx .no (nx ([], 0) (dfnS (oneA (vT (nx tund s.tmps 1)))) 0).1 0)) 3)) (rInts (rowFf (nx .no (ptrF (nx .no (nx ([], 0) (dfnS (oneA (vT (nx tund s.tmps 1)))) 0).1 0)) 4))) (intF (nx .no (nx ([], 0) (dfnS (oneA (vT (nx tund s.tmps 1)))) 1).1 0)) (rInts (rowV (oneA (vT (nx tund s.tmps 0))))) (intS (oneA (vT (nx tund s.tmps 7)))) (intS (oneA (vT (nx tund s.tmps 8)))) := by kernel_rfl
theorem fl68_0_1 (s : St) : refSt (h68_0_1 [] 0 0) s = h68_0_1 (rInts (rowV (oneA (vT (nx tund s.tmps 0))))) (intS (oneA (vT (nx tund s.tmps 7)))) (intS (oneA (vT (nx tund s.tmps 8)))) := by kernel_rfl
def VLS68_0 (N : Nat) (zq108 : (a1 : (Int → (Bool → O β) → O β)) → Nat → List Int → Int → Int → (Int → O β) → (O β) → O β) (zq105 : (a0 : Int) → (c0 : Int) → (c1 : Int) → (c2 : Int) → (c3 : Int) → (c4 : List Int) → (c5 : Int) → (k : Bool → O β) → O β) (zq106 : (a0 : Int) → (k : Bool → O β) → O β) : LSpec β := fun s K => cond (shpSt (h68_0_0 0 0 0 0 [] 0 [] 0 0) s) ((fun (q0 : Int) (q1 : Int) (q2 : Int) (q3 : Int) (q4 : List Int) (q5 : Int) (v0 : List Int) (v1 : Int) (v2 : Int) => zq108 (fun x0 k => zq105 x0 q0 q1 q2 q3 q4 q5 k) N v0 v1 v2 (fun y0 => K .ret (x68_0_0_k0 q0 q1 q2 q3 q4 q5 y0)) (K (.exit 0) (x68_0_0_k1 q0 q1 q2 q3 q4 q5 ))) (intFf (nx .no (ptrF (nx .no (nx ([], 0) (dfnS (oneA (vT (nx tund s.tmps 1)))) 0).1 0)) 0)) (intFf (nx .no (ptrF (nx .no (nx ([], 0) (dfnS (oneA (vT (nx tund s.tmps 1)))) 0).1 0)) 1)) (intFf (nx .no (ptrF (nx .no (nx ([], 0) (dfnS (oneA (vT (nx tund s.tmps 1)))) 0).1 0)) 2)) (intFf (nx .no (ptrF (nx .no (nx ([], 0) (dfnS (oneA (vT (nx tund s.tmps 1)))) 0).1 0)) 3)) (rInts (rowFf (nx .no (ptrF (nx .no (nx ([], 0) (dfnS (oneA (vT (nx tund s.tmps 1)))) 0).1 0)) 4))) (intF (nx .no (nx ([], 0) (dfnS (oneA (vT (nx tund s.tmps 1)))) 1).1 0)) (rInts (rowV (oneA (vT (nx tund s.tmps 0))))) (intS (oneA (vT (nx tund s.tmps 7)))) (intS (oneA (vT (nx tund s.tmps 8))))) (cond (shpSt (h68_0_1 [] 0 0) s) ((fun (v0 : List Int) (v1 : Int) (v2 : Int) => zq108 (fun x0 k => zq106 x0 k) N v0 v1 v2 (fun y0 => K .ret (x68_0_1_k0  y0)) (K (.exit 0) (x68_0_1_k1  ))) (rInts (rowV (oneA (vT (nx tund s.tmps 0))))) (intS (oneA (vT (nx tund s.tmps 7)))) (intS (oneA (vT (nx tund s.tmps 8))))) (none))
def LS68_0 (N : Nat) : LSpec β := VLS68_0 N (zj108 N) (zj105 N) (zj106 N)
def VE68 (N : Nat) (zq105 : (a0 : Int) → (c0 : Int) → (c1 : Int) → (c2 : Int) → (c3 : Int) → (c4 : List Int) → (c5 : Int) → (k : Bool → O β) → O β) (zq106 : (a0 : Int) → (k : Bool → O β) → O β) (zq108 : (a1 : (Int → (Bool → O β) → O β)) → Nat → List Int → Int → Int → (Int → O β) → (O β) → O β) : Env β := ⟨[(66, VS66 N zq105), (43, VS43 N zq106)], [], [(0, VLS68_0 N zq108 zq105 zq106)], [], ⟨[], [], [], []⟩⟩
def E68 (N : Nat) : Env β := VE68 N (zj105 N) (zj106 N) (zj108 N)
def zb107 (N : Nat) (a1 : (Int → (Bool → O β) → O β)) (v0 : List Int) (v1 : Int) (v2 : Int) (rec_ : List Int → Int → Int → O β) (k0 : Int → O β) (k1 : O β) : O β :=
(cond ((decide (v2 < v1)))
((gd ((decide (0 ≤ v2)))
((gd ((decide (v2 < (v0.length : Int))))
(a1 ((rd 0 v0 v2)) fun r3 =>
(cond r3
(k0 v2)
(rec_ v0 v1 ((w64 (v2 + 1))))))))))
(k1 ))
theorem zt107 (N : Nat) (a1 : (Int → (Bool → O β) → O β)) (v0 : List Int) (v1 : Int) (v2 : Int) (rec_ : List Int → Int → Int → O β) (k0 : Int → O β) (k1 : O β) : zj107 N a1 v0 v1 v2 rec_ k0 k1 = zb107 N a1 v0 v1 v2 rec_ k0 k1 := by
  unfold zj107 zb107
  rfl
theorem vst68_0_0 (N : Nat) (zq105 : (a0 : Int) → (c0 : Int) → (c1 : Int) → (c2 : Int) → (c3 : Int) → (c4 : List Int) → (c5 : Int) → (k : Bool → O β) → O β) (zq106 : (a0 : Int) → (k : Bool → O β) → O β) (zq108 : (a1 : (Int → (Bool → O β) → O β)) → Nat → List Int → Int → Int → (Int → O β) → (O β) → O β) (q0 : Int) (q1 : Int) (q2 : Int) (q3 : Int) (q4 : List Int) (q5 : Int) (v0 : List Int) (v1 : Int) (v2 : Int) (rec_ : St → O β) (K : Exit → St → O β) :
    ev lay (VE68 N zq105 zq106 zq108) (retMask Tryd.f68) (lp Tryd.f68 0).body (lp Tryd.f68 0).ex ((lp Tryd.f68 0).lv (retMask Tryd.f68)) (h68_0_0 q0 q1 q2 q3 q4 q5 v0 v1 v2) (nextR (fun s' => rec_ (s'.tidy ((lp Tryd.f68 0).lv (retMask Tryd.f68)))) K) = zb107 N (fun x0 k => zq105 x0 q0 q1 q2 q3 q4 q5 k) v0 v1 v2 (fun v0 v1 v2 => rec_ (h68_0_0 q0 q1 q2 q3 q4 q5 v0 v1 v2)) (fun y0 => K .ret (x68_0_0_k0 q0 q1 q2 q3 q4 q5 y0)) (K (.exit 0) (x68_0_0_k1 q0 q1 q2 q3 q4 q5 )) := by kernel_rfl
theorem st68_0_0 (N : Nat) (q0 : Int) (q1 : Int) (q2 : Int) (q3 : Int) (q4 : List Int) (q5 : Int) (v0 : List Int) (v1 : Int) (v2 : Int) (rec_ : St → O β) (K : Exit → St → O β) :
    ev lay (E68 N) (retMask Tryd.f68) (lp Tryd.f68 0).body (lp Tryd.f68 0).ex ((lp Tryd.f68 0).lv (retMask Tryd.f68)) (h68_0_0 q0 q1 q2 q3 q4 q5 v0 v1 v2) (nextR (fun s' => rec_ (s'.tidy ((lp Tryd.f68 0).lv (retMask Tryd.f68)))) K) = zj107 N (fun x0 k => zj105 N x0 q0 q1 q2 q3 q4 q5 k) v0 v1 v2 (fun v0 v1 v2 => rec_ (h68_0_0 q0 q1 q2 q3 q4 q5 v0 v1 v2)) (fun y0 => K .ret (x68_0_0_k0 q0 q1 q2 q3 q4 q5 y0)) (K (.exit 0) (x68_0_0_k1 q0 q1 q2 q3 q4 q5 )) := (vst68_0_0 N (zj105 N) (zj106 N) (zj108 N) q0 q1 q2 q3 q4 q5 v0 v1 v2 rec_ K).trans (zt107 N (fun x0 k => zj105 N x0 q0 q1 q2 q3 q4 q5 k) v0 v1 v2 (fun v0 v1 v2 => rec_ (h68_0_0 q0 q1 q2 q3 q4 q5 v0 v1 v2)) (fun y0 => K .ret (x68_0_0_k0 q0 q1 q2 q3 q4 q5 y0)) (K (.exit 0) (x68_0_0_k1 q0 q1 q2 q3 q4 q5 ))).symm
theorem ro68_0_0 (N : Nat) (q0 : Int) (q1 : Int) (q2 : Int) (q3 : Int) (q4 : List Int) (q5 : Int) (K : Exit → St → O β) : ∀ (F : Nat) (v0 : List Int) (v1 : Int) (v2 : Int), (lp Tryd.f68 0).rounds lay (E68 N) (retMask Tryd.f68) F (h68_0_0 q0 q1 q2 q3 q4 q5 v0 v1 v2) K = zj108 N (fun x0 k => zj105 N x0 q0 q1 q2 q3 q4 q5 k) F v0 v1 v2 (fun y0 => K .ret (x68_0_0_k0 q0 q1 q2 q3 q4 q5 y0)) (K (.exit 0) (x68_0_0_k1 q0 q1 q2 q3 q4 q5 )) := by
  intro F
  induction F with
  | zero => intros; rfl
  | succ F ih =>
    intros
    rw [rounds_next]
    refine (st68_0_0 N q0 q1 q2 q3 q4 q5 _ _ _ (fun s => (lp Tryd.f68 0).rounds lay (E68 N) (retMask Tryd.f68) F s K) K).trans ?_
    simp only [ih]
    rfl
theorem vst68_0_1 (N : Nat) (zq105 : (a0 : Int) → (c0 : Int) → (c1 : Int) → (c2 : Int) → (c3 : Int) → (c4 : List Int) → (c5 : Int) → (k : Bool → O β) → O β) (zq106 : (a0 : Int) → (k : Bool → O β) → O β) (zq108 : (a1 : (Int → (Bool → O β) → O β)) → Nat → List Int → Int → Int → (Int → O β) → (O β) → O β)  (v0 : List Int) (v1 : Int) (v2 : Int) (rec_ : St → O β) (K : Exit → St → O β) :
    ev lay (VE68 N zq105 zq106 zq108) (retMask Tryd.f68) (lp Tryd.f68 0).body (lp Tryd.f68 0).ex ((lp Tryd.f68 0).lv (retMask Tryd.f68)) (h68_0_1  v0 v1 v2) (nextR (fun s' => rec_ (s'.tidy ((lp Tryd.f68 0).lv (retMask Tryd.f68)))) K) = zb107 N (fun x0 k => zq106 x0 k) v0 v1 v2 (fun v0 v1 v2 => rec_ (h68_0_1  v0 v1 v2)) (fun y0 => K .ret (x68_0_1_k0  y0)) (K (.exit 0) (x68_0_1_k1  )) := by kernel_rfl
theorem st68_0_1 (N : Nat)  (v0 : List Int) (v1 : Int) (v2 : Int) (rec_ : St → O β) (K : Exit → St → O β) :
    ev lay (E68 N) (retMask Tryd.f68) (lp Tryd.f68 0).body (lp Tryd.f68 0).ex ((lp Tryd.f68 0).lv (retMask Tryd.f68)) (h68_0_1  v0 v1 v2) (nextR (fun s' => rec_ (s'.tidy ((lp Tryd.f68 0).lv (retMask Tryd.f68)))) K) = zj107 N (fun x0 k => zj106 N x0 k) v0 v1 v2 (fun v0 v1 v2 => rec_ (h68_0_1  v0 v1 v2)) (fun y0 => K .ret (x68_0_1_k0  y0)) (K (.exit 0) (x68_0_1_k1  )) := (vst68_0_1 N (zj105 N) (zj106 N) (zj108 N) v0 v1 v2 rec_ K).trans (zt107 N (fun x0 k => zj106 N x0 k) v0 v1 v2 (fun v0 v1 v2 => rec_ (h68_0_1  v0 v1 v2)) (fun y0 => K .ret (x68_0_1_k0  y0)) (K (.exit 0) (x68_0_1_k1  ))).symm
theorem ro68_0_1 (N : Nat)  (K : Exit → St → O β) : ∀ (F : Nat) (v0 : List Int) (v1 : Int) (v2 : Int), (lp Tryd.f68 0).rounds lay (E68 N) (retMask Tryd.f68) F (h68_0_1  v0 v1 v2) K = zj108 N (fun x0 k => zj106 N x0 k) F v0 v1 v2 (fun y0 => K .ret (x68_0_1_k0  y0)) (K (.exit 0) (x68_0_1_k1  )) := by
  intro F
  induction F with
  | zero => intros; rfl
  | succ F ih =>
    intros
    rw [rounds_next]
    refine (st68_0_1 N  _ _ _ (fun s => (lp Tryd.f68 0).rounds lay (E68 N) (retMask Tryd.f68) F s K) K).trans ?_
    simp only [ih]
    rfl
theorem lk68_0 (N : Nat) : lookL (E68 (β := β) N).loops (lp Tryd.f68 0).id = LS68_0 N := by kernel_rfl
theorem rk68_0 (N : Nat) : RoundsOK lay (E68 (β := β) N) (retMask Tryd.f68) (lp Tryd.f68 0) := by
  intro s K r h
  rw [lk68_0] at h
  unfold LS68_0 VLS68_0 at h
  cases hb : shpSt (h68_0_0 0 0 0 0 [] 0 [] 0 0) s with
  | true =>
    rw [hb, cond_true] at h
    exact ⟨N, by rw [← shpSt_ref hb, fl68_0_0 s]; exact (ro68_0_0 N (intFf (nx .no (ptrF (nx .no (nx ([], 0) (dfnS (oneA (vT (nx tund s.tmps 1)))) 0).1 0)) 0)) (intFf (nx .no (ptrF (nx .no (nx ([], 0) (dfnS (oneA (vT (nx tund s.tmps 1)))) 0).1 0)) 1)) (intFf (nx .no (ptrF (nx .no (nx ([], 0) (dfnS (oneA (vT (nx tund s.tmps 1)))) 0).1 0)) 2)) (intFf (nx .no (ptrF (nx .no (nx ([], 0) (dfnS (oneA (vT (nx tund s.tmps 1)))) 0).1 0)) 3)) (rInts (rowFf (nx .no (ptrF (nx .no (nx ([], 0) (dfnS (oneA (vT (nx tund s.tmps 1)))) 0).1 0)) 4))) (intF (nx .no (nx ([], 0) (dfnS (oneA (vT (nx tund s.tmps 1)))) 1).1 0)) K N (rInts (rowV (oneA (vT (nx tund s.tmps 0))))) (intS (oneA (vT (nx tund s.tmps 7)))) (intS (oneA (vT (nx tund s.tmps 8))))).trans h⟩
  | false =>
  rw [hb, cond_false] at h
  clear hb
  cases hb : shpSt (h68_0_1 [] 0 0) s with
  | true =>
    rw [hb, cond_true] at h
    exact ⟨N, by rw [← shpSt_ref hb, fl68_0_1 s]; exact (ro68_0_1 N  K N (rInts (rowV (oneA (vT (nx tund s.tmps 0))))) (intS (oneA (vT (nx tund s.tmps 7)))) (intS (oneA (vT (nx tund s.tmps 8))))).trans h⟩
  | false =>
  rw [hb, cond_false] at h
  clear hb
  cases h
def zb109 (N : Nat) (zq108 : (a1 : (Int → (Bool → O β) → O β)) → Nat → List Int → Int → Int → (Int → O β) → (O β) → O β) (a0 : List Int) (a1 : (Int → (Bool → O β) → O β)) (k : Int → O β) : O β :=
zq108 a1 N a0 ((a0.length : Int)) 0 (fun e4_0 =>
k e4_0) (k (-1))
theorem zt109 (N : Nat) (a0 : List Int) (a1 : (Int → (Bool → O β) → O β)) (k : Int → O β) : zj109 N a0 a1 k = zb109 N (zj108 N) a0 a1 k := by
  unfold zj109 zb109
  rfl
theorem ve68_0 (N : Nat) (zq105 : (a0 : Int) → (c0 : Int) → (c1 : Int) → (c2 : Int) → (c3 : Int) → (c4 : List Int) → (c5 : Int) → (k : Bool → O β) → O β) (zq106 : (a0 : Int) → (k : Bool → O β) → O β) (zq108 : (a1 : (Int → (Bool → O β) → O β)) → Nat → List Int → Int → Int → (Int → O β) → (O β) → O β) (q0 : Int) (q1 : Int) (q2 : Int) (q3 : Int) (q4 : List Int) (q5 : Int) (a0 : List Int) (K : TV → O β) : evFn lay (VE68 N zq105 zq106 zq108) Tryd.f68 [.v (.one (.sl 3 (.ints .i64 a0))), .v (.one (.dfn 66 [([.ptr [.int .i64 q0, .int .i64 q1, .int .i64 q2, .int .i64 q3, .sl 3 (.ints .i64 q4)] 0], 0), ([.int .i64 q5], 0)]))] K = zb109 N zq108 a0 (fun x0 k => zq105 x0 q0 q1 q2 q3 q4 q5 k) (fun z2 => K (.v (.one (.int .i64 z2)))) := by kernel_rfl
theorem e68_0 (N : Nat) (q0 : Int) (q1 : Int) (q2 : Int) (q3 : Int) (q4 : List Int) (q5 : Int) (a0 : List Int) (K : TV → O β) : evFn lay (E68 N) Tryd.f68 [.v (.one (.sl 3 (.ints .i64 a0))), .v (.one (.dfn 66 [([.ptr [.int .i64 q0, .int .i64 q1, .int .i64 q2, .int .i64 q3, .sl 3 (.ints .i64 q4)] 0], 0), ([.int .i64 q5], 0)]))] K = zj109 N a0 (fun x0 k => zj105 N x0 q0 q1 q2 q3 q4 q5 k) (fun z2 => K (.v (.one (.int .i64 z2)))) := (ve68_0 N (zj105 N) (zj106 N) (zj108 N) q0 q1 q2 q3 q4 q5 a0 K).trans (zt109 N a0 (fun x0 k => zj105 N x0 q0 q1 q2 q3 q4 q5 k) (fun z2 => K (.v (.one (.int .i64 z2))))).symm
theorem ve68_1 (N : Nat) (zq105 : (a0 : Int) → (c0 : Int) → (c1 : Int) → (c2 : Int) → (c3 : Int) → (c4 : List Int) → (c5 : Int) → (k : Bool → O β) → O β) (zq106 : (a0 : Int) → (k : Bool → O β) → O β) (zq108 : (a1 : (Int → (Bool → O β) → O β)) → Nat → List Int → Int → Int → (Int → O β) → (O β) → O β)  (a0 : List Int) (K : TV → O β) : evFn lay (VE68 N zq105 zq106 zq108) Tryd.f68 [.v (.one (.sl 3 (.ints .i64 a0))), .v (.one (.fn 43 []))] K = zb109 N zq108 a0 (fun x0 k => zq106 x0 k) (fun z2 => K (.v (.one (.int .i64 z2)))) := by kernel_rfl
theorem e68_1 (N : Nat)  (a0 : List Int) (K : TV → O β) : evFn lay (E68 N) Tryd.f68 [.v (.one (.sl 3 (.ints .i64 a0))), .v (.one (.fn 43 []))] K = zj109 N a0 (fun x0 k => zj106 N x0 k) (fun z2 => K (.v (.one (.int .i64 z2)))) := (ve68_1 N (zj105 N) (zj106 N) (zj108 N) a0 K).trans (zt109 N a0 (fun x0 k => zj106 N x0 k) (fun z2 => K (.v (.one (.int .i64 z2))))).symm
theorem o68 (N : Nat) : SpecOK (β := β) inv Tryd.prog 68 (S68 N) := by
  refine spec_of lay_ok mixed (E := E68 N) (specs_loops (specs_cons (o66 N) (specs_cons (o43 N) specs_nil))) muts_nil gs_nil Tryd.func68 (by kernel_rfl) 1 (by kernel_rfl) ⟨trivial, rk68_0 N⟩ fun args K r h => ?_
  unfold S68 VS68 at h
  split at h
  · exact (e68_0 N _ _ _ _ _ _ _ _).trans h
  · exact (e68_1 N _ _).trans h
  · cases h
def VS42 (N : Nat) (zq110 : (a0 : List Int) → (a1 : (Int → (Bool → O β) → O β)) → (k : Bool → O β) → O β) (zq105 : (a0 : Int) → (c0 : Int) → (c1 : Int) → (c2 : Int) → (c3 : Int) → (c4 : List Int) → (c5 : Int) → (k : Bool → O β) → O β) (zq106 : (a0 : Int) → (k : Bool → O β) → O β) : Rv.Spec β := fun args K => match args with
  | [.v (.one (.sl 3 (.ints .i64 a0))), .v (.one (.dfn 66 [([.ptr [.int .i64 q0, .int .i64 q1, .int .i64 q2, .int .i64 q3, .sl 3 (.ints .i64 q4)] 0], 0), ([.int .i64 q5], 0)]))] => zq110 a0 (fun x0 k => zq105 x0 q0 q1 q2 q3 q4 q5 k) (fun z2 => K (.v (.one (.bool z2))))
  | [.v (.one (.sl 3 (.ints .i64 a0))), .v (.one (.fn 43 []))] => zq110 a0 (fun x0 k => zq106 x0 k) (fun z2 => K (.v (.one (.bool z2))))
  | _ => none
def S42 (N : Nat) : Rv.Spec β := VS42 N (zj110 N) (zj105 N) (zj106 N)
def VE42 (N : Nat) (zq109 : (a0 : List Int) → (a1 : (Int → (Bool → O β) → O β)) → (k : Int → O β) → O β) (zq105 : (a0 : Int) → (c0 : Int) → (c1 : Int) → (c2 : Int) → (c3 : Int) → (c4 : List Int) → (c5 : Int) → (k : Bool → O β) → O β) (zq106 : (a0 : Int) → (k : Bool → O β) → O β) : Env β := ⟨[(68, VS68 N zq109 zq105 zq106), (66, VS66 N zq105), (43, VS43 N zq106)], [], [], [], ⟨[], [], [], []⟩⟩
def E42 (N : Nat) : Env β := VE42 N (zj109 N) (zj105 N) (zj106 N)
def zb110 (N : Nat) (zq109 : (a0 : List Int) → (a1 : (Int → (Bool → O β) → O β)) → (k : Int → O β) → O β) (a0 : List Int) (a1 : (Int → (Bool → O β) → O β)) (k : Bool → O β) : O β :=
zq109 a0 a1 fun r3 =>
k ((decide (r3 ≥ 0)))
theorem zt110 (N : Nat) (a0 : List Int) (a1 : (Int → (Bool → O β) → O β)) (k : Bool → O β) : zj110 N a0 a1 k = zb110 N (zj109 N) a0 a1 k := by
  unfold zj110 zb110
  rfl
theorem ve42_0 (N : Nat) (zq109 : (a0 : List Int) → (a1 : (Int → (Bool → O β) → O β)) → (k : Int → O β) → O β) (zq105 : (a0 : Int) → (c0 : Int) → (c1 : Int) → (c2 : Int) → (c3 : Int) → (c4 : List Int) → (c5 : Int) → (k : Bool → O β) → O β) (zq106 : (a0 : Int) → (k : Bool → O β) → O β) (q0 : Int) (q1 : Int) (q2 : Int) (q3 : Int) (q4 : List Int) (q5 : Int) (a0 : List Int) (K : TV → O β) : evFn lay (VE42 N zq109 zq105 zq106) Tryd.f42 [.v (.one (.sl 3 (.ints .i64 a0))), .v (.one (.dfn 66 [([.ptr [.int .i64 q0, .int .i64 q1, .int .i64 q2, .int .i64 q3, .sl 3 (.ints .i64 q4)] 0], 0), ([.int .i64 q5], 0)]))] K = zb110 N zq109 a0 (fun x0 k => zq105 x0 q0 q1 q2 q3 q4 q5 k) (fun z2 => K (.v (.one (.bool z2)))) := by kernel_rfl
theorem e42_0 (N : Nat) (q0 : Int) (q1 : Int) (q2 : Int) (q3 : Int) (q4 : List Int) (q5 : Int) (a0 : List Int) (K : TV → O β) : evFn lay (E42 N) Tryd.f42 [.v (.one (.sl 3 (.ints .i64 a0))), .v (.one (.dfn 66 [([.ptr [.int .i64 q0, .int .i64 q1, .int .i64 q2, .int .i64 q3, .sl 3 (.ints .i64 q4)] 0], 0), ([.int .i64 q5], 0)]))] K = zj110 N a0 (fun x0 k => zj105 N x0 q0 q1 q2 q3 q4 q5 k) (fun z2 => K (.v (.one (.bool z2)))) := (ve42_0 N (zj109 N) (zj105 N) (zj106 N) q0 q1 q2 q3 q4 q5 a0 K).trans (zt110 N a0 (fun x0 k => zj105 N x0 q0 q1 q2 q3 q4 q5 k) (fun z2 => K (.v (.one (.bool z2))))).symm
theorem ve42_1 (N : Nat) (zq109 : (a0 : List Int) → (a1 : (Int → (Bool → O β) → O β)) → (k : Int → O β) → O β) (zq105 : (a0 : Int) → (c0 : Int) → (c1 : Int) → (c2 : Int) → (c3 : Int) → (c4 : List Int) → (c5 : Int) → (k : Bool → O β) → O β) (zq106 : (a0 : Int) → (k : Bool → O β) → O β)  (a0 : List Int) (K : TV → O β) : evFn lay (VE42 N zq109 zq105 zq106) Tryd.f42 [.v (.one (.sl 3 (.ints .i64 a0))), .v (.one (.fn 43 []))] K = zb110 N zq109 a0 (fun x0 k => zq106 x0 k) (fun z2 => K (.v (.one (.bool z2)))) := by kernel_rfl
theorem e42_1 (N : Nat)  (a0 : List Int) (K : TV → O β) : evFn lay (E42 N) Tryd.f42 [.v (.one (.sl 3 (.ints .i64 a0))), .v (.one (.fn 43 []))] K = zj110 N a0 (fun x0 k => zj106 N x0 k) (fun z2 => K (.v (.one (.bool z2)))) := (ve42_1 N (zj109 N) (zj105 N) (zj106 N) a0 K).trans (zt110 N a0 (fun x0 k => zj106 N x0 k) (fun z2 => K (.v (.one (.bool z2))))).symm
theorem o42 (N : Nat) : SpecOK (β := β) inv Tryd.prog 42 (S42 N) := by
  refine spec_of lay_ok mixed (E := E42 N) (specs_loops (specs_cons (o68 N) (specs_cons (o66 N) (specs_cons (o43 N) specs_nil)))) muts_nil gs_nil Tryd.func42 (by kernel_rfl) 0 (by kernel_rfl) trivial fun args K r h => ?_
  unfold S42 VS42 at h
  split at h
  · exact (e42_0 N _ _ _ _ _ _ _ _).trans h
  · exact (e42_1 N _ _).trans h
  · cases h
end Go.Proofs.YtddflpokemgnmaaDoor
