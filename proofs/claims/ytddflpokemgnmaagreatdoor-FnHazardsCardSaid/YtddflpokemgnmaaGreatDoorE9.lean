/- The functions that the claims reach answer as their texts do. -/
import Derived.Test.YtddflpokemgnmaaGreatDoorE8
namespace Go.Proofs.YtddflpokemgnmaaGreatDoor
open Go.Rv
set_option maxRecDepth 100000
set_option maxHeartbeats 2000000
set_option linter.unusedVariables false
variable {β : Type}
def VS20 (N : Nat) (zq158 : (a0 : Int) → (a1 : ByteArray) → (k : List (Int × Int) → Bool → O β) → O β) : Rv.Spec β := fun args K => match args with
  | [.v (.one (.int .i64 a0)), .v (.one (.str a1))] => zq158 a0 a1 (fun z2 z3 => K (.tup [.one (.sl 50 (.pairs z2)), .one (.bool z3)]))
  | _ => none
def S20 (N : Nat) : Rv.Spec β := VS20 N (zj158 N)
def h20_0_0  (v0 : Int) (v1 : ByteArray) (v2 : ByteArray) (v3 : Int) (v4 : List (Int × Int)) : St := ⟨.v (.one (.int .i64 v0)) :: .v (.one (.str v1)) :: tund :: tund :: tund :: tund :: .v (.one (.row 0)) :: .v (.one (.str v2)) :: .v (.one (.int .i64 v3)) :: tund :: tund :: tund :: tund :: tund :: tund :: tund :: tund :: tund :: tund :: tund :: tund :: tund :: tund :: tund :: tund :: tund :: tund :: tund :: tund :: tund :: tund :: tund :: tund :: tund :: tund :: tund :: tund :: tund :: tund :: tund :: tund :: tund :: tund :: tund :: tund :: tund :: tund :: tund :: tund :: tund :: tund :: tund :: tund :: tund :: tund :: tund :: tund :: tund :: tund :: tund :: tund :: tund :: tund :: tund :: tund :: tund :: tund :: tund :: tund :: [], [.row 50 (.pairs v4)]⟩
def x20_0_0_k0  (y0 : Bool) (y1 : List (Int × Int)) : St := ⟨tund :: tund :: tund :: tund :: .v (.one (.row 0)) :: .v (.one (.bool y0)) :: tund :: tund :: tund :: tund :: tund :: tund :: tund :: tund :: tund :: tund :: tund :: tund :: tund :: tund :: tund :: tund :: tund :: tund :: tund :: tund :: tund :: tund :: tund :: tund :: tund :: tund :: tund :: tund :: tund :: tund :: tund :: tund :: tund :: tund :: tund :: tund :: tund :: tund :: tund :: tund :: tund :: tund :: tund :: tund :: tund :: tund :: tund :: tund :: tund :: tund :: tund :: tund :: tund :: tund :: tund :: tund :: tund :: tund :: tund :: tund :: tund :: tund :: tund :: [], [.row 50 (.pairs y1)]⟩
def x20_0_0_k1  (y0 : Int) (y1 : ByteArray) (y2 : List (Int × Int)) : St := ⟨.v (.one (.int .i64 y0)) :: .v (.one (.str y1)) :: tund :: tund :: tund :: tund :: .v (.one (.row 0)) :: tund :: tund :: tund :: tund :: tund :: tund :: tund :: tund :: tund :: tund :: tund :: tund :: tund :: tund :: tund :: tund :: tund :: tund :: tund :: tund :: tund :: tund :: tund :: tund :: tund :: tund :: tund :: tund :: tund :: tund :: tund :: tund :: tund :: tund :: tund :: tund :: tund :: tund :: tund :: tund :: tund :: tund :: tund :: tund :: tund :: tund :: tund :: tund :: tund :: tund :: tund :: tund :: tund :: tund :: tund :: tund :: tund :: tund :: tund :: tund :: tund :: tund :: [], [.row 50 (.pairs y2)]⟩
theorem fl20_0_0 (s : St) : refSt (h20_0_0 0 ByteArray.empty ByteArray.empty 0 []) s = h20_0_0 (intS (oneA (vT (nx tund s.tmps 0)))) (strS (oneA (vT (nx tund s.tmps 1)))) (strS (oneA (vT (nx tund s.tmps 7)))) (intS (oneA (vT (nx tund s.tmps 8)))) (rPairs (rowB_ (nx .dead s.blks 0))) := by kernel_rfl
def VLS20_0 (N : Nat) (zq157 : Nat → Int → ByteArray → ByteArray → Int → List (Int × Int) → (Bool → List (Int × Int) → O β) → (Int → ByteArray → List (Int × Int) → O β) → O β) : LSpec β := fun s K => cond (shpSt (h20_0_0 0 ByteArray.empty ByteArray.empty 0 []) s) ((fun (v0 : Int) (v1 : ByteArray) (v2 : ByteArray) (v3 : Int) (v4 : List (Int × Int)) => zq157  N v0 v1 v2 v3 v4 (fun y0 y1 => K .ret (x20_0_0_k0  y0 y1)) (fun y0 y1 y2 => K (.exit 0) (x20_0_0_k1  y0 y1 y2))) (intS (oneA (vT (nx tund s.tmps 0)))) (strS (oneA (vT (nx tund s.tmps 1)))) (strS (oneA (vT (nx tund s.tmps 7)))) (intS (oneA (vT (nx tund s.tmps 8)))) (rPairs (rowB_ (nx .dead s.blks 0)))) (none)
def LS20_0 (N : Nat) : LSpec β := VLS20_0 N (zj157 N)
def VE20 (N : Nat) (zq4 : (a0 : Int) → (a1 : Int) → (a2 : Int) → (k : Bool → O β) → O β) (zq155 : (a0 : Int) → (a1 : ByteArray) → (k : Int → Int → Bool → O β) → O β) (zq79 : (a0 : Int) → (a1 : List (Int × Int)) → (k : Bool → O β) → O β) (zq157 : Nat → Int → ByteArray → ByteArray → Int → List (Int × Int) → (Bool → List (Int × Int) → O β) → (Int → ByteArray → List (Int × Int) → O β) → O β) : Env β := ⟨[(46, VS46 N zq4), (47, VS47 N zq155), (30, VS30 N zq79)], [], [(0, VLS20_0 N zq157)], [], ⟨[], [], [], []⟩⟩
def E20 (N : Nat) : Env β := VE20 N (zj4 N) (zj155 N) (zj79 N) (zj157 N)
def zb156 (N : Nat) (zq155 : (a0 : Int) → (a1 : ByteArray) → (k : Int → Int → Bool → O β) → O β)  (v0 : Int) (v1 : ByteArray) (v2 : ByteArray) (v3 : Int) (v4 : List (Int × Int)) (rec_ : Int → ByteArray → ByteArray → Int → List (Int × Int) → O β) (k0 : Bool → List (Int × Int) → O β) (k1 : Int → ByteArray → List (Int × Int) → O β) : O β :=
(cond ((decide (v3 ≤ (v1.size : Int))))
((cond ((decide ((v1.size : Int) ≤ 200)))
((cond ((decide (v3 < (v1.size : Int))))
((gd ((decide (0 ≤ v3)))
((gd ((decide (v3 < (v1.size : Int))))
((cond (((bt v1 v3) != 124))
((gd ((decide (0 ≤ (w64 (v3 + 1)))))
((gd ((decide ((w64 (v3 + 1)) ≤ (v1.size : Int))))
((gd ((decide (0 ≤ v3)))
((gd ((decide (v3 ≤ (w64 (v3 + 1)))))
((gd ((decide (v2.size + ((v1.extract (Int.toNat v3) (Int.toNat (w64 (v3 + 1))))).size ≤ 9223372036854775807)))
(rec_ v0 v1 ((v2 ++ (v1.extract (Int.toNat v3) (Int.toNat (w64 (v3 + 1)))))) ((w64 (v3 + 1))) v4)))))))))))
(zq155 v0 v2 fun r5 r6 r7 =>
(cond (!r7)
(k0 false (([] : List (Int × Int))))
((gd ((decide ((v4.length + ((([] : List (Int × Int)) ++ [(r5, r6)])).length) * 16 ≤ 140737488355328)))
(rec_ v0 v1 ByteArray.empty ((w64 (v3 + 1))) ((v4 ++ (([] : List (Int × Int)) ++ [(r5, r6)]))))))))))))))
(zq155 v0 v2 fun r8 r9 r10 =>
(cond (!r10)
(k0 false (([] : List (Int × Int))))
((gd ((decide ((v4.length + ((([] : List (Int × Int)) ++ [(r8, r9)])).length) * 16 ≤ 140737488355328)))
(rec_ v0 v1 ByteArray.empty ((w64 (v3 + 1))) ((v4 ++ (([] : List (Int × Int)) ++ [(r8, r9)]))))))))))
(k1 v0 v1 v4)))
(k1 v0 v1 v4))
theorem zt156 (N : Nat)  (v0 : Int) (v1 : ByteArray) (v2 : ByteArray) (v3 : Int) (v4 : List (Int × Int)) (rec_ : Int → ByteArray → ByteArray → Int → List (Int × Int) → O β) (k0 : Bool → List (Int × Int) → O β) (k1 : Int → ByteArray → List (Int × Int) → O β) : zj156 N v0 v1 v2 v3 v4 rec_ k0 k1 = zb156 N (zj155 N) v0 v1 v2 v3 v4 rec_ k0 k1 := by
  unfold zj156 zb156
  rfl
theorem vst20_0_0 (N : Nat) (zq4 : (a0 : Int) → (a1 : Int) → (a2 : Int) → (k : Bool → O β) → O β) (zq155 : (a0 : Int) → (a1 : ByteArray) → (k : Int → Int → Bool → O β) → O β) (zq79 : (a0 : Int) → (a1 : List (Int × Int)) → (k : Bool → O β) → O β) (zq157 : Nat → Int → ByteArray → ByteArray → Int → List (Int × Int) → (Bool → List (Int × Int) → O β) → (Int → ByteArray → List (Int × Int) → O β) → O β)  (v0 : Int) (v1 : ByteArray) (v2 : ByteArray) (v3 : Int) (v4 : List (Int × Int)) (rec_ : St → O β) (K : Exit → St → O β) :
    ev lay (VE20 N zq4 zq155 zq79 zq157) (retMask Tryz.f20) (lp Tryz.f20 0).body (lp Tryz.f20 0).ex ((lp Tryz.f20 0).lv (retMask Tryz.f20)) (h20_0_0  v0 v1 v2 v3 v4) (nextR (fun s' => rec_ (s'.tidy ((lp Tryz.f20 0).lv (retMask Tryz.f20)))) K) = zb156 N zq155  v0 v1 v2 v3 v4 (fun v0 v1 v2 v3 v4 => rec_ (h20_0_0  v0 v1 v2 v3 v4)) (fun y0 y1 => K .ret (x20_0_0_k0  y0 y1)) (fun y0 y1 y2 => K (.exit 0) (x20_0_0_k1  y0 y1 y2)) := by kernel_rfl
theorem st20_0_0 (N : Nat)  (v0 : Int) (v1 : ByteArray) (v2 : ByteArray) (v3 : Int) (v4 : List (Int × Int)) (rec_ : St → O β) (K : Exit → St → O β) :
    ev lay (E20 N) (retMask Tryz.f20) (lp Tryz.f20 0).body (lp Tryz.f20 0).ex ((lp Tryz.f20 0).lv (retMask Tryz.f20)) (h20_0_0  v0 v1 v2 v3 v4) (nextR (fun s' => rec_ (s'.tidy ((lp Tryz.f20 0).lv (retMask Tryz.f20)))) K) = zj156 N  v0 v1 v2 v3 v4 (fun v0 v1 v2 v3 v4 => rec_ (h20_0_0  v0 v1 v2 v3 v4)) (fun y0 y1 => K .ret (x20_0_0_k0  y0 y1)) (fun y0 y1 y2 => K (.exit 0) (x20_0_0_k1  y0 y1 y2)) := (vst20_0_0 N (zj4 N) (zj155 N) (zj79 N) (zj157 N) v0 v1 v2 v3 v4 rec_ K).trans (zt156 N  v0 v1 v2 v3 v4 (fun v0 v1 v2 v3 v4 => rec_ (h20_0_0  v0 v1 v2 v3 v4)) (fun y0 y1 => K .ret (x20_0_0_k0  y0 y1)) (fun y0 y1 y2 => K (.exit 0) (x20_0_0_k1  y0 y1 y2))).symm
theorem ro20_0_0 (N : Nat)  (K : Exit → St → O β) : ∀ (F : Nat) (v0 : Int) (v1 : ByteArray) (v2 : ByteArray) (v3 : Int) (v4 : List (Int × Int)), (lp Tryz.f20 0).rounds lay (E20 N) (retMask Tryz.f20) F (h20_0_0  v0 v1 v2 v3 v4) K = zj157 N  F v0 v1 v2 v3 v4 (fun y0 y1 => K .ret (x20_0_0_k0  y0 y1)) (fun y0 y1 y2 => K (.exit 0) (x20_0_0_k1  y0 y1 y2)) := by
  intro F
  induction F with
  | zero => intros; rfl
  | succ F ih =>
    intros
    rw [rounds_next]
    refine (st20_0_0 N  _ _ _ _ _ (fun s => (lp Tryz.f20 0).rounds lay (E20 N) (retMask Tryz.f20) F s K) K).trans ?_
    simp only [ih]
    rfl
theorem lk20_0 (N : Nat) : lookL (E20 (β := β) N).loops (lp Tryz.f20 0).id = LS20_0 N := by kernel_rfl
theorem rk20_0 (N : Nat) : RoundsOK lay (E20 (β := β) N) (retMask Tryz.f20) (lp Tryz.f20 0) := by
  intro s K r h
  rw [lk20_0] at h
  unfold LS20_0 VLS20_0 at h
  cases hb : shpSt (h20_0_0 0 ByteArray.empty ByteArray.empty 0 []) s with
  | true =>
    rw [hb, cond_true] at h
    exact ⟨N, by rw [← shpSt_ref hb, fl20_0_0 s]; exact (ro20_0_0 N  K N (intS (oneA (vT (nx tund s.tmps 0)))) (strS (oneA (vT (nx tund s.tmps 1)))) (strS (oneA (vT (nx tund s.tmps 7)))) (intS (oneA (vT (nx tund s.tmps 8)))) (rPairs (rowB_ (nx .dead s.blks 0)))).trans h⟩
  | false =>
  rw [hb, cond_false] at h
  clear hb
  cases h
def zb158 (N : Nat) (zq4 : (a0 : Int) → (a1 : Int) → (a2 : Int) → (k : Bool → O β) → O β) (zq157 : Nat → Int → ByteArray → ByteArray → Int → List (Int × Int) → (Bool → List (Int × Int) → O β) → (Int → ByteArray → List (Int × Int) → O β) → O β) (zq79 : (a0 : Int) → (a1 : List (Int × Int)) → (k : Bool → O β) → O β) (a0 : Int) (a1 : ByteArray) (k : List (Int × Int) → Bool → O β) : O β :=
(cond ((a1.toList == ((strOf [48])).toList))
(zq4 a0 0 5 fun r4 =>
k (([] : List (Int × Int))) r4)
(zq157  N a0 a1 ByteArray.empty 0 (([] : List (Int × Int))) (fun e11_0 e11_1 =>
k e11_1 e11_0) (fun e12_0 e12_1 e12_2 =>
(cond ((decide ((e12_1.size : Int) > 200)))
(k (([] : List (Int × Int))) false)
(zq79 e12_0 e12_2 fun r13 =>
(cond (!r13)
(k (([] : List (Int × Int))) false)
(k e12_2 true)))))))
theorem zt158 (N : Nat) (a0 : Int) (a1 : ByteArray) (k : List (Int × Int) → Bool → O β) : zj158 N a0 a1 k = zb158 N (zj4 N) (zj157 N) (zj79 N) a0 a1 k := by
  unfold zj158 zb158
  rfl
theorem ve20_0 (N : Nat) (zq4 : (a0 : Int) → (a1 : Int) → (a2 : Int) → (k : Bool → O β) → O β) (zq155 : (a0 : Int) → (a1 : ByteArray) → (k : Int → Int → Bool → O β) → O β) (zq79 : (a0 : Int) → (a1 : List (Int × Int)) → (k : Bool → O β) → O β) (zq157 : Nat → Int → ByteArray → ByteArray → Int → List (Int × Int) → (Bool → List (Int × Int) → O β) → (Int → ByteArray → List (Int × Int) → O β) → O β)  (a0 : Int) (a1 : ByteArray) (K : TV → O β) : evFn lay (VE20 N zq4 zq155 zq79 zq157) Tryz.f20 [.v (.one (.int .i64 a0)), .v (.one (.str a1))] K = zb158 N zq4 zq157 zq79 a0 a1 (fun z2 z3 => K (.tup [.one (.sl 50 (.pairs z2)), .one (.bool z3)])) := by kernel_rfl
theorem e20_0 (N : Nat)  (a0 : Int) (a1 : ByteArray) (K : TV → O β) : evFn lay (E20 N) Tryz.f20 [.v (.one (.int .i64 a0)), .v (.one (.str a1))] K = zj158 N a0 a1 (fun z2 z3 => K (.tup [.one (.sl 50 (.pairs z2)), .one (.bool z3)])) := (ve20_0 N (zj4 N) (zj155 N) (zj79 N) (zj157 N) a0 a1 K).trans (zt158 N a0 a1 (fun z2 z3 => K (.tup [.one (.sl 50 (.pairs z2)), .one (.bool z3)]))).symm
theorem o20 (N : Nat) : SpecOK (β := β) inv Tryz.prog 20 (S20 N) := by
  refine spec_of lay_ok mixed (E := E20 N) (specs_loops (specs_cons (o46 N) (specs_cons (o47 N) (specs_cons (o30 N) specs_nil)))) muts_nil gs_nil Tryz.func20 (by kernel_rfl) 1 (by kernel_rfl) ⟨trivial, rk20_0 N⟩ fun args K r h => ?_
  unfold S20 VS20 at h
  split at h
  · exact (e20_0 N _ _ _).trans h
  · cases h
def VS21 (N : Nat) (zq161 : (a0 : List Int) → (k : Int → List (Int × Int) → Int → Int → O β) → O β) : Rv.Spec β := fun args K => match args with
  | [.v (.one (.sl 5 (.ints .u8 a0)))] => zq161 a0 (fun z1 z2 z3 z4 => K (.tup [.one (.int .i64 z1), .one (.sl 50 (.pairs z2)), .one (.int .i64 z3), .one (.int .i64 z4)]))
  | _ => none
def S21 (N : Nat) : Rv.Spec β := VS21 N (zj161 N)
def h21_0_0  (v0 : List Int) (v1 : Int) (v2 : Int) (v3 : List (Int × Int)) (v4 : List (List Int)) : St := ⟨.v (.one (.sl 5 (.ints .u8 v0))) :: tund :: tund :: tund :: tund :: tund :: .v (.one (.int .i64 v1)) :: .v (.one (.row 0)) :: .v (.one (.row 1)) :: tund :: .v (.one (.int .i64 v2)) :: tund :: tund :: tund :: tund :: tund :: tund :: tund :: tund :: tund :: tund :: tund :: tund :: tund :: tund :: tund :: tund :: tund :: tund :: tund :: tund :: tund :: tund :: tund :: tund :: tund :: tund :: tund :: tund :: tund :: tund :: tund :: tund :: tund :: tund :: tund :: tund :: tund :: tund :: tund :: tund :: tund :: tund :: tund :: tund :: tund :: tund :: tund :: tund :: tund :: tund :: tund :: tund :: tund :: tund :: tund :: tund :: tund :: tund :: tund :: tund :: tund :: tund :: tund :: tund :: tund :: tund :: tund :: [], [.row 50 (.pairs v3), .row 40 (.lists 3 v4)]⟩
def x21_0_0_k0  (y0 : Int) (y1 : Int) (y2 : Int) (y3 : List (Int × Int)) : St := ⟨tund :: tund :: .v (.one (.int .i64 y0)) :: .v (.one (.row 0)) :: .v (.one (.int .i64 y1)) :: .v (.one (.int .i64 y2)) :: tund :: tund :: tund :: tund :: tund :: tund :: tund :: tund :: tund :: tund :: tund :: tund :: tund :: tund :: tund :: tund :: tund :: tund :: tund :: tund :: tund :: tund :: tund :: tund :: tund :: tund :: tund :: tund :: tund :: tund :: tund :: tund :: tund :: tund :: tund :: tund :: tund :: tund :: tund :: tund :: tund :: tund :: tund :: tund :: tund :: tund :: tund :: tund :: tund :: tund :: tund :: tund :: tund :: tund :: tund :: tund :: tund :: tund :: tund :: tund :: tund :: tund :: tund :: tund :: tund :: tund :: tund :: tund :: tund :: tund :: tund :: tund :: [], [.row 50 (.pairs y3)]⟩
def x21_0_0_k1  (y0 : List Int) (y1 : Int) (y2 : List (Int × Int)) : St := ⟨.v (.one (.sl 5 (.ints .u8 y0))) :: tund :: tund :: tund :: tund :: tund :: .v (.one (.int .i64 y1)) :: .v (.one (.row 0)) :: tund :: tund :: tund :: tund :: tund :: tund :: tund :: tund :: tund :: tund :: tund :: tund :: tund :: tund :: tund :: tund :: tund :: tund :: tund :: tund :: tund :: tund :: tund :: tund :: tund :: tund :: tund :: tund :: tund :: tund :: tund :: tund :: tund :: tund :: tund :: tund :: tund :: tund :: tund :: tund :: tund :: tund :: tund :: tund :: tund :: tund :: tund :: tund :: tund :: tund :: tund :: tund :: tund :: tund :: tund :: tund :: tund :: tund :: tund :: tund :: tund :: tund :: tund :: tund :: tund :: tund :: tund :: tund :: tund :: tund :: [], [.row 50 (.pairs y2)]⟩
theorem fl21_0_0 (s : St) : refSt (h21_0_0 [] 0 0 [] []) s = h21_0_0 (rInts (rowV (oneA (vT (nx tund s.tmps 0))))) (intS (oneA (vT (nx tund s.tmps 6)))) (intS (oneA (vT (nx tund s.tmps 10)))) (rPairs (rowB_ (nx .dead s.blks 0))) (rLists (rowB_ (nx .dead s.blks 1))) := by kernel_rfl
def VLS21_0 (N : Nat) (zq160 : Nat → List Int → Int → Int → List (Int × Int) → List (List Int) → (Int → Int → Int → List (Int × Int) → O β) → (List Int → Int → List (Int × Int) → O β) → O β) : LSpec β := fun s K => cond (shpSt (h21_0_0 [] 0 0 [] []) s) ((fun (v0 : List Int) (v1 : Int) (v2 : Int) (v3 : List (Int × Int)) (v4 : List (List Int)) => zq160  N v0 v1 v2 v3 v4 (fun y0 y1 y2 y3 => K .ret (x21_0_0_k0  y0 y1 y2 y3)) (fun y0 y1 y2 => K (.exit 0) (x21_0_0_k1  y0 y1 y2))) (rInts (rowV (oneA (vT (nx tund s.tmps 0))))) (intS (oneA (vT (nx tund s.tmps 6)))) (intS (oneA (vT (nx tund s.tmps 10)))) (rPairs (rowB_ (nx .dead s.blks 0))) (rLists (rowB_ (nx .dead s.blks 1)))) (none)
def LS21_0 (N : Nat) : LSpec β := VLS21_0 N (zj160 N)
def VE21 (N : Nat) (zq51 : (a0 : List Int) → (k : Int → List (Int × Int) → O β) → O β) (zq87 : (a0 : Int) → (a1 : List (Int × Int)) → (k : List (List Int) → Bool → O β) → O β) (zq160 : Nat → List Int → Int → Int → List (Int × Int) → List (List Int) → (Int → Int → Int → List (Int × Int) → O β) → (List Int → Int → List (Int × Int) → O β) → O β) : Env β := ⟨[(24, VS24 N zq51), (9, VS9 N zq87)], [], [(0, VLS21_0 N zq160)], [], ⟨[], [], [], []⟩⟩
def E21 (N : Nat) : Env β := VE21 N (zj51 N) (zj87 N) (zj160 N)
def zb159 (N : Nat)  (v0 : List Int) (v1 : Int) (v2 : Int) (v3 : List (Int × Int)) (v4 : List (List Int)) (rec_ : List Int → Int → Int → List (Int × Int) → List (List Int) → O β) (k0 : Int → Int → Int → List (Int × Int) → O β) (k1 : List Int → Int → List (Int × Int) → O β) : O β :=
(cond ((decide (v2 < v1)))
((cond ((decide ((v4.length : Int) > 0)))
((cond (((remI (v0.length : Int) 2) == 0))
((gd (((v4.length : Int) != 0))
((gd ((decide (0 ≤ (remI (quoI .i64 (v0.length : Int) 2) (v4.length : Int)))))
((gd ((decide ((remI (quoI .i64 (v0.length : Int) 2) (v4.length : Int)) < (v4.length : Int))))
((gd ((decide (0 < (((rd [] v4 (remI (quoI .i64 (v0.length : Int) 2) (v4.length : Int)))).length : Int))))
((gd ((decide (1 < (((rd [] v4 (remI (quoI .i64 (v0.length : Int) 2) (v4.length : Int)))).length : Int))))
((gd ((decide (0 ≤ v2)))
((cond (((bits .xor .i64 (rd 0 ((rd [] v4 (remI (quoI .i64 (v0.length : Int) 2) (v4.length : Int)))) 0) (rd 0 ((rd [] v4 (remI (quoI .i64 (v0.length : Int) 2) (v4.length : Int)))) 1)) == (shlI .i64 1 v2)))
((gd ((decide (0 ≤ (remI (quoI .i64 (v0.length : Int) 4) 2))))
((gd ((decide ((remI (quoI .i64 (v0.length : Int) 4) 2) < (((rd [] v4 (remI (quoI .i64 (v0.length : Int) 2) (v4.length : Int)))).length : Int))))
(k0 v1 ((rd 0 ((rd [] v4 (remI (quoI .i64 (v0.length : Int) 2) (v4.length : Int)))) (remI (quoI .i64 (v0.length : Int) 4) 2))) v2 v3)))))
(rec_ v0 v1 ((w64 (v2 + 1))) v3 v4)))))))))))))))
(k1 v0 v1 v3)))
(k1 v0 v1 v3)))
(k1 v0 v1 v3))
theorem zt159 (N : Nat)  (v0 : List Int) (v1 : Int) (v2 : Int) (v3 : List (Int × Int)) (v4 : List (List Int)) (rec_ : List Int → Int → Int → List (Int × Int) → List (List Int) → O β) (k0 : Int → Int → Int → List (Int × Int) → O β) (k1 : List Int → Int → List (Int × Int) → O β) : zj159 N v0 v1 v2 v3 v4 rec_ k0 k1 = zb159 N v0 v1 v2 v3 v4 rec_ k0 k1 := by
  unfold zj159 zb159
  rfl
theorem vst21_0_0 (N : Nat) (zq51 : (a0 : List Int) → (k : Int → List (Int × Int) → O β) → O β) (zq87 : (a0 : Int) → (a1 : List (Int × Int)) → (k : List (List Int) → Bool → O β) → O β) (zq160 : Nat → List Int → Int → Int → List (Int × Int) → List (List Int) → (Int → Int → Int → List (Int × Int) → O β) → (List Int → Int → List (Int × Int) → O β) → O β)  (v0 : List Int) (v1 : Int) (v2 : Int) (v3 : List (Int × Int)) (v4 : List (List Int)) (rec_ : St → O β) (K : Exit → St → O β) :
    ev lay (VE21 N zq51 zq87 zq160) (retMask Tryz.f21) (lp Tryz.f21 0).body (lp Tryz.f21 0).ex ((lp Tryz.f21 0).lv (retMask Tryz.f21)) (h21_0_0  v0 v1 v2 v3 v4) (nextR (fun s' => rec_ (s'.tidy ((lp Tryz.f21 0).lv (retMask Tryz.f21)))) K) = zb159 N  v0 v1 v2 v3 v4 (fun v0 v1 v2 v3 v4 => rec_ (h21_0_0  v0 v1 v2 v3 v4)) (fun y0 y1 y2 y3 => K .ret (x21_0_0_k0  y0 y1 y2 y3)) (fun y0 y1 y2 => K (.exit 0) (x21_0_0_k1  y0 y1 y2)) := by kernel_rfl
theorem st21_0_0 (N : Nat)  (v0 : List Int) (v1 : Int) (v2 : Int) (v3 : List (Int × Int)) (v4 : List (List Int)) (rec_ : St → O β) (K : Exit → St → O β) :
    ev lay (E21 N) (retMask Tryz.f21) (lp Tryz.f21 0).body (lp Tryz.f21 0).ex ((lp Tryz.f21 0).lv (retMask Tryz.f21)) (h21_0_0  v0 v1 v2 v3 v4) (nextR (fun s' => rec_ (s'.tidy ((lp Tryz.f21 0).lv (retMask Tryz.f21)))) K) = zj159 N  v0 v1 v2 v3 v4 (fun v0 v1 v2 v3 v4 => rec_ (h21_0_0  v0 v1 v2 v3 v4)) (fun y0 y1 y2 y3 => K .ret (x21_0_0_k0  y0 y1 y2 y3)) (fun y0 y1 y2 => K (.exit 0) (x21_0_0_k1  y0 y1 y2)) := (vst21_0_0 N (zj51 N) (zj87 N) (zj160 N) v0 v1 v2 v3 v4 rec_ K).trans (zt159 N  v0 v1 v2 v3 v4 (fun v0 v1 v2 v3 v4 => rec_ (h21_0_0  v0 v1 v2 v3 v4)) (fun y0 y1 y2 y3 => K .ret (x21_0_0_k0  y0 y1 y2 y3)) (fun y0 y1 y2 => K (.exit 0) (x21_0_0_k1  y0 y1 y2))).symm
theorem ro21_0_0 (N : Nat)  (K : Exit → St → O β) : ∀ (F : Nat) (v0 : List Int) (v1 : Int) (v2 : Int) (v3 : List (Int × Int)) (v4 : List (List Int)), (lp Tryz.f21 0).rounds lay (E21 N) (retMask Tryz.f21) F (h21_0_0  v0 v1 v2 v3 v4) K = zj160 N  F v0 v1 v2 v3 v4 (fun y0 y1 y2 y3 => K .ret (x21_0_0_k0  y0 y1 y2 y3)) (fun y0 y1 y2 => K (.exit 0) (x21_0_0_k1  y0 y1 y2)) := by
  intro F
  induction F with
  | zero => intros; rfl
  | succ F ih =>
    intros
    rw [rounds_next]
    refine (st21_0_0 N  _ _ _ _ _ (fun s => (lp Tryz.f21 0).rounds lay (E21 N) (retMask Tryz.f21) F s K) K).trans ?_
    simp only [ih]
    rfl
theorem lk21_0 (N : Nat) : lookL (E21 (β := β) N).loops (lp Tryz.f21 0).id = LS21_0 N := by kernel_rfl
theorem rk21_0 (N : Nat) : RoundsOK lay (E21 (β := β) N) (retMask Tryz.f21) (lp Tryz.f21 0) := by
  intro s K r h
  rw [lk21_0] at h
  unfold LS21_0 VLS21_0 at h
  cases hb : shpSt (h21_0_0 [] 0 0 [] []) s with
  | true =>
    rw [hb, cond_true] at h
    exact ⟨N, by rw [← shpSt_ref hb, fl21_0_0 s]; exact (ro21_0_0 N  K N (rInts (rowV (oneA (vT (nx tund s.tmps 0))))) (intS (oneA (vT (nx tund s.tmps 6)))) (intS (oneA (vT (nx tund s.tmps 10)))) (rPairs (rowB_ (nx .dead s.blks 0))) (rLists (rowB_ (nx .dead s.blks 1)))).trans h⟩
  | false =>
  rw [hb, cond_false] at h
  clear hb
  cases h
def zb161 (N : Nat) (zq51 : (a0 : List Int) → (k : Int → List (Int × Int) → O β) → O β) (zq87 : (a0 : Int) → (a1 : List (Int × Int)) → (k : List (List Int) → Bool → O β) → O β) (zq160 : Nat → List Int → Int → Int → List (Int × Int) → List (List Int) → (Int → Int → Int → List (Int × Int) → O β) → (List Int → Int → List (Int × Int) → O β) → O β) (a0 : List Int) (k : Int → List (Int × Int) → Int → Int → O β) : O β :=
zq51 a0 fun r5 r6 =>
zq87 r5 r6 fun r7 r8 =>
zq160  N a0 r5 0 r6 r7 (fun e9_0 e9_1 e9_2 e9_3 =>
k e9_0 e9_3 e9_1 e9_2) (fun e10_0 e10_1 e10_2 =>
k e10_1 e10_2 ((w64 ((remI (e10_0.length : Int) 17) - 1))) ((w64 ((remI (e10_0.length : Int) 6) - 1))))
theorem zt161 (N : Nat) (a0 : List Int) (k : Int → List (Int × Int) → Int → Int → O β) : zj161 N a0 k = zb161 N (zj51 N) (zj87 N) (zj160 N) a0 k := by
  unfold zj161 zb161
  rfl
theorem ve21_0 (N : Nat) (zq51 : (a0 : List Int) → (k : Int → List (Int × Int) → O β) → O β) (zq87 : (a0 : Int) → (a1 : List (Int × Int)) → (k : List (List Int) → Bool → O β) → O β) (zq160 : Nat → List Int → Int → Int → List (Int × Int) → List (List Int) → (Int → Int → Int → List (Int × Int) → O β) → (List Int → Int → List (Int × Int) → O β) → O β)  (a0 : List Int) (K : TV → O β) : evFn lay (VE21 N zq51 zq87 zq160) Tryz.f21 [.v (.one (.sl 5 (.ints .u8 a0)))] K = zb161 N zq51 zq87 zq160 a0 (fun z1 z2 z3 z4 => K (.tup [.one (.int .i64 z1), .one (.sl 50 (.pairs z2)), .one (.int .i64 z3), .one (.int .i64 z4)])) := by kernel_rfl
theorem e21_0 (N : Nat)  (a0 : List Int) (K : TV → O β) : evFn lay (E21 N) Tryz.f21 [.v (.one (.sl 5 (.ints .u8 a0)))] K = zj161 N a0 (fun z1 z2 z3 z4 => K (.tup [.one (.int .i64 z1), .one (.sl 50 (.pairs z2)), .one (.int .i64 z3), .one (.int .i64 z4)])) := (ve21_0 N (zj51 N) (zj87 N) (zj160 N) a0 K).trans (zt161 N a0 (fun z1 z2 z3 z4 => K (.tup [.one (.int .i64 z1), .one (.sl 50 (.pairs z2)), .one (.int .i64 z3), .one (.int .i64 z4)]))).symm
theorem o21 (N : Nat) : SpecOK (β := β) inv Tryz.prog 21 (S21 N) := by
  refine spec_of lay_ok mixed (E := E21 N) (specs_loops (specs_cons (o24 N) (specs_cons (o9 N) specs_nil))) muts_nil gs_nil Tryz.func21 (by kernel_rfl) 1 (by kernel_rfl) ⟨trivial, rk21_0 N⟩ fun args K r h => ?_
  unfold S21 VS21 at h
  split at h
  · exact (e21_0 N _ _).trans h
  · cases h
def VS23 (N : Nat) (zq162 : (a0 : Int) → (a1 : List (Int × Int)) → (a2 : Int) → (a3 : Int) → (k : Bool → O β) → O β) : Rv.Spec β := fun args K => match args with
  | [.v (.one (.int .i64 a0)), .v (.one (.sl 50 (.pairs a1))), .v (.one (.int .i64 a2)), .v (.one (.int .i64 a3))] => zq162 a0 a1 a2 a3 (fun z4 => K (.v (.one (.bool z4))))
  | _ => none
def S23 (N : Nat) : Rv.Spec β := VS23 N (zj162 N)
def VE23 (N : Nat) (zq79 : (a0 : Int) → (a1 : List (Int × Int)) → (k : Bool → O β) → O β) (zq4 : (a0 : Int) → (a1 : Int) → (a2 : Int) → (k : Bool → O β) → O β) (zq82 : (a0 : List (Int × Int)) → (a1 : Int) → (a2 : Int) → (k : Bool → O β) → O β) : Env β := ⟨[(30, VS30 N zq79), (46, VS46 N zq4), (29, VS29 N zq82)], [], [], [], ⟨[], [], [], []⟩⟩
def E23 (N : Nat) : Env β := VE23 N (zj79 N) (zj4 N) (zj82 N)
def zb162 (N : Nat) (zq79 : (a0 : Int) → (a1 : List (Int × Int)) → (k : Bool → O β) → O β) (zq4 : (a0 : Int) → (a1 : Int) → (a2 : Int) → (k : Bool → O β) → O β) (zq82 : (a0 : List (Int × Int)) → (a1 : Int) → (a2 : Int) → (k : Bool → O β) → O β) (a0 : Int) (a1 : List (Int × Int)) (a2 : Int) (a3 : Int) (k : Bool → O β) : O β :=
zq79 a0 a1 fun r5 =>
(cond r5
((gd ((decide (0 ≤ a0)))
(zq4 a2 0 ((w64 ((shlI .i64 1 a0) - 1))) fun r6 =>
(cond r6
(zq4 a3 0 ((w64 (a0 - 1))) fun r7 =>
(cond r7
((gd ((decide (0 ≤ a3)))
(zq82 a1 a2 ((bits .xor .i64 a2 (shlI .i64 1 a3))) fun r8 =>
k r8)))
(k false)))
(k false)))))
(k false))
theorem zt162 (N : Nat) (a0 : Int) (a1 : List (Int × Int)) (a2 : Int) (a3 : Int) (k : Bool → O β) : zj162 N a0 a1 a2 a3 k = zb162 N (zj79 N) (zj4 N) (zj82 N) a0 a1 a2 a3 k := by
  unfold zj162 zb162
  rfl
theorem ve23_0 (N : Nat) (zq79 : (a0 : Int) → (a1 : List (Int × Int)) → (k : Bool → O β) → O β) (zq4 : (a0 : Int) → (a1 : Int) → (a2 : Int) → (k : Bool → O β) → O β) (zq82 : (a0 : List (Int × Int)) → (a1 : Int) → (a2 : Int) → (k : Bool → O β) → O β)  (a0 : Int) (a1 : List (Int × Int)) (a2 : Int) (a3 : Int) (K : TV → O β) : evFn lay (VE23 N zq79 zq4 zq82) Tryz.f23 [.v (.one (.int .i64 a0)), .v (.one (.sl 50 (.pairs a1))), .v (.one (.int .i64 a2)), .v (.one (.int .i64 a3))] K = zb162 N zq79 zq4 zq82 a0 a1 a2 a3 (fun z4 => K (.v (.one (.bool z4)))) := by kernel_rfl
theorem e23_0 (N : Nat)  (a0 : Int) (a1 : List (Int × Int)) (a2 : Int) (a3 : Int) (K : TV → O β) : evFn lay (E23 N) Tryz.f23 [.v (.one (.int .i64 a0)), .v (.one (.sl 50 (.pairs a1))), .v (.one (.int .i64 a2)), .v (.one (.int .i64 a3))] K = zj162 N a0 a1 a2 a3 (fun z4 => K (.v (.one (.bool z4)))) := (ve23_0 N (zj79 N) (zj4 N) (zj82 N) a0 a1 a2 a3 K).trans (zt162 N a0 a1 a2 a3 (fun z4 => K (.v (.one (.bool z4))))).symm
theorem o23 (N : Nat) : SpecOK (β := β) inv Tryz.prog 23 (S23 N) := by
  refine spec_of lay_ok mixed (E := E23 N) (specs_loops (specs_cons (o30 N) (specs_cons (o46 N) (specs_cons (o29 N) specs_nil)))) muts_nil gs_nil Tryz.func23 (by kernel_rfl) 0 (by kernel_rfl) trivial fun args K r h => ?_
  unfold S23 VS23 at h
  split at h
  · exact (e23_0 N _ _ _ _ _).trans h
  · cases h
end Go.Proofs.YtddflpokemgnmaaGreatDoor
