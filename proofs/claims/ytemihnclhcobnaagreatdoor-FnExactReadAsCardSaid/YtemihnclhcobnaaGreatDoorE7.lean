/- The functions that the claims reach answer as their texts do. -/
import Derived.Test.YtemihnclhcobnaaGreatDoorE6
namespace Go.Proofs.YtemihnclhcobnaaGreatDoor
open Go.Rv
set_option maxRecDepth 100000
set_option maxHeartbeats 2000000
set_option linter.unusedVariables false
def VS65 {β : Type} (N : Nat) (zq116 : (a0 : Int) → (a1 : ByteArray) → (k : Int → Int → Bool → Option β) → Option β) : Rv.Spec β := fun args K => match args with
  | [.v (.one (.int .i64 a0)), .v (.one (.str a1))] => zq116 a0 a1 (fun z2 z3 z4 => K (.tup [.agg [.int .i64 z2, .int .i64 z3], .one (.bool z4)]))
  | _ => none
def S65 {β : Type} (N : Nat) : Rv.Spec β := VS65 N (zj116 N)
def h65_0_0  (v0 : Int) (v1 : ByteArray) (v2 : Int) (v3 : Int) (v4 : Int) (v5 : Int) (v6 : Int) (v7 : Int) (v8 : List ByteArray) : St := ⟨.v (.one (.int .i64 v0)) :: .v (.one (.str v1)) :: tund :: tund :: .v (.one (.ptr 0 0)) :: tund :: .v (.one (.ptr 1 0)) :: tund :: tund :: tund :: tund :: tund :: tund :: tund :: tund :: tund :: tund :: tund :: tund :: tund :: tund :: tund :: tund :: tund :: tund :: tund :: .v (.one (.row 2)) :: .v (.one (.int .i64 v2)) :: .v (.one (.int .i64 v3)) :: tund :: tund :: tund :: tund :: tund :: tund :: tund :: tund :: tund :: tund :: tund :: tund :: tund :: tund :: tund :: tund :: tund :: tund :: tund :: tund :: tund :: tund :: tund :: tund :: tund :: tund :: tund :: tund :: [], [.cells 25 [.int .i64 v4, .int .i64 v5], .cells 25 [.int .i64 v6, .int .i64 v7], .row 9 (.strs v8)]⟩
def x65_0_0_k0  (y0 : Bool) (y1 : Int) (y2 : Int) : St := ⟨tund :: tund :: tund :: tund :: .v (.one (.ptr 0 0)) :: .v (.one (.bool y0)) :: tund :: tund :: tund :: tund :: tund :: tund :: tund :: tund :: tund :: tund :: tund :: tund :: tund :: tund :: tund :: tund :: tund :: tund :: tund :: tund :: tund :: tund :: tund :: tund :: tund :: tund :: tund :: tund :: tund :: tund :: tund :: tund :: tund :: tund :: tund :: tund :: tund :: tund :: tund :: tund :: tund :: tund :: tund :: tund :: tund :: tund :: tund :: tund :: tund :: tund :: tund :: [], [.cells 25 [.int .i64 y1, .int .i64 y2]]⟩
def x65_0_0_k1  (y0 : ByteArray) (y1 : Int) (y2 : Int) (y3 : Int) (y4 : Int) : St := ⟨tund :: .v (.one (.str y0)) :: tund :: tund :: .v (.one (.ptr 0 0)) :: tund :: .v (.one (.ptr 1 0)) :: tund :: tund :: tund :: tund :: tund :: tund :: tund :: tund :: tund :: tund :: tund :: tund :: tund :: tund :: tund :: tund :: tund :: tund :: tund :: tund :: tund :: tund :: tund :: tund :: tund :: tund :: tund :: tund :: tund :: tund :: tund :: tund :: tund :: tund :: tund :: tund :: tund :: tund :: tund :: tund :: tund :: tund :: tund :: tund :: tund :: tund :: tund :: tund :: tund :: tund :: [], [.cells 25 [.int .i64 y1, .int .i64 y2], .cells 25 [.int .i64 y3, .int .i64 y4]]⟩
theorem fl65_0_0 (s : St) : refSt (h65_0_0 0 ByteArray.empty 0 0 0 0 0 0 []) s = h65_0_0 (intS (oneA (vT (nx tund s.tmps 0)))) (strS (oneA (vT (nx tund s.tmps 1)))) (intS (oneA (vT (nx tund s.tmps 27)))) (intS (oneA (vT (nx tund s.tmps 28)))) (intS (nx .und (cellsB (nx .dead s.blks 0)) 0)) (intS (nx .und (cellsB (nx .dead s.blks 0)) 1)) (intS (nx .und (cellsB (nx .dead s.blks 1)) 0)) (intS (nx .und (cellsB (nx .dead s.blks 1)) 1)) (rStrs (rowB_ (nx .dead s.blks 2))) := by kernel_rfl
def VLS65_0 {β : Type} (N : Nat) (zq115 : Nat → Int → ByteArray → Int → Int → Int → Int → Int → Int → List ByteArray → (Bool → Int → Int → Option β) → (ByteArray → Int → Int → Int → Int → Option β) → Option β) : LSpec β := fun s K => cond (shpSt (h65_0_0 0 ByteArray.empty 0 0 0 0 0 0 []) s) ((fun (v0 : Int) (v1 : ByteArray) (v2 : Int) (v3 : Int) (v4 : Int) (v5 : Int) (v6 : Int) (v7 : Int) (v8 : List ByteArray) => zq115  N v0 v1 v2 v3 v4 v5 v6 v7 v8 (fun y0 y1 y2 => K .ret (x65_0_0_k0  y0 y1 y2)) (fun y0 y1 y2 y3 y4 => K (.exit 0) (x65_0_0_k1  y0 y1 y2 y3 y4))) (intS (oneA (vT (nx tund s.tmps 0)))) (strS (oneA (vT (nx tund s.tmps 1)))) (intS (oneA (vT (nx tund s.tmps 27)))) (intS (oneA (vT (nx tund s.tmps 28)))) (intS (nx .und (cellsB (nx .dead s.blks 0)) 0)) (intS (nx .und (cellsB (nx .dead s.blks 0)) 1)) (intS (nx .und (cellsB (nx .dead s.blks 1)) 0)) (intS (nx .und (cellsB (nx .dead s.blks 1)) 1)) (rStrs (rowB_ (nx .dead s.blks 2)))) (none)
def LS65_0 {β : Type} (N : Nat) : LSpec β := VLS65_0 N (zj115 N)
def VE65 {β : Type} (N : Nat) (zq71 : (a0 : Int) → (k : Bool → Option β) → Option β) (zq106 : (a0 : Int) → (a1 : ByteArray) → (k : Int → Int → Bool → Option β) → Option β) (zq107 : (a0 : Int) → (a1 : Int) → (k : Int → Int → Option β) → Option β) (zq113 : (a0 : Int) → (a1 : Int) → (k : ByteArray → Option β) → Option β) (zq115 : Nat → Int → ByteArray → Int → Int → Int → Int → Int → Int → List ByteArray → (Bool → Int → Int → Option β) → (ByteArray → Int → Int → Int → Int → Option β) → Option β) : Env β := ⟨[(99, VS99 N zq71), (131, S131 N), (132, VS132 N zq106), (133, VS133 N zq107), (75, VS75 N zq113)], [], [(0, VLS65_0 N zq115)], [], ⟨[], [], [], []⟩⟩
def E65 {β : Type} (N : Nat) : Env β := VE65 N (zj71 N) (zj106 N) (zj107 N) (zj113 N) (zj115 N)
def zb114 {β : Type} (N : Nat) (zq106 : (a0 : Int) → (a1 : ByteArray) → (k : Int → Int → Bool → Option β) → Option β)  (v0 : Int) (v1 : ByteArray) (v2 : Int) (v3 : Int) (v4 : Int) (v5 : Int) (v6 : Int) (v7 : Int) (v8 : List ByteArray) (rec_ : Int → ByteArray → Int → Int → Int → Int → Int → Int → List ByteArray → Option β) (k0 : Bool → Int → Int → Option β) (k1 : ByteArray → Int → Int → Int → Int → Option β) : Option β :=
(cond ((decide (v3 < v2)))
((gd ((decide (0 ≤ v3)))
((gd ((decide (v3 < (v8.length : Int))))
(zq106 v0 ((rd ByteArray.empty v8 v3)) fun r7 r8 r9 =>
(cond (!r9)
(k0 false 0 0)
((gd ((decide (0 ≤ r7)))
(rec_ v0 v1 v2 ((w64 (v3 + 1))) v4 v5 v6 ((bits .or .i64 v7 (shlI .i64 1 r7))) v8)))))))))
(k1 v1 v4 v5 v6 v7))
theorem zt114 {β : Type} (N : Nat)  (v0 : Int) (v1 : ByteArray) (v2 : Int) (v3 : Int) (v4 : Int) (v5 : Int) (v6 : Int) (v7 : Int) (v8 : List ByteArray) (rec_ : Int → ByteArray → Int → Int → Int → Int → Int → Int → List ByteArray → Option β) (k0 : Bool → Int → Int → Option β) (k1 : ByteArray → Int → Int → Int → Int → Option β) : zj114 N v0 v1 v2 v3 v4 v5 v6 v7 v8 rec_ k0 k1 = zb114 N (zj106 N) v0 v1 v2 v3 v4 v5 v6 v7 v8 rec_ k0 k1 := by
  unfold zj114 zb114
  rfl
theorem vst65_0_0 {β : Type} (N : Nat) (zq71 : (a0 : Int) → (k : Bool → Option β) → Option β) (zq106 : (a0 : Int) → (a1 : ByteArray) → (k : Int → Int → Bool → Option β) → Option β) (zq107 : (a0 : Int) → (a1 : Int) → (k : Int → Int → Option β) → Option β) (zq113 : (a0 : Int) → (a1 : Int) → (k : ByteArray → Option β) → Option β) (zq115 : Nat → Int → ByteArray → Int → Int → Int → Int → Int → Int → List ByteArray → (Bool → Int → Int → Option β) → (ByteArray → Int → Int → Int → Int → Option β) → Option β)  (v0 : Int) (v1 : ByteArray) (v2 : Int) (v3 : Int) (v4 : Int) (v5 : Int) (v6 : Int) (v7 : Int) (v8 : List ByteArray) (rec_ : St → Option β) (K : Exit → St → Option β) :
    ev lay (VE65 N zq71 zq106 zq107 zq113 zq115) (retMask Tryz.f65) (lp Tryz.f65 0).body (lp Tryz.f65 0).ex ((lp Tryz.f65 0).lv (retMask Tryz.f65)) (h65_0_0  v0 v1 v2 v3 v4 v5 v6 v7 v8) (nextR (fun s' => rec_ (s'.tidy ((lp Tryz.f65 0).lv (retMask Tryz.f65)))) K) = zb114 N zq106  v0 v1 v2 v3 v4 v5 v6 v7 v8 (fun v0 v1 v2 v3 v4 v5 v6 v7 v8 => rec_ (h65_0_0  v0 v1 v2 v3 v4 v5 v6 v7 v8)) (fun y0 y1 y2 => K .ret (x65_0_0_k0  y0 y1 y2)) (fun y0 y1 y2 y3 y4 => K (.exit 0) (x65_0_0_k1  y0 y1 y2 y3 y4)) := by kernel_rfl
theorem st65_0_0 {β : Type} (N : Nat)  (v0 : Int) (v1 : ByteArray) (v2 : Int) (v3 : Int) (v4 : Int) (v5 : Int) (v6 : Int) (v7 : Int) (v8 : List ByteArray) (rec_ : St → Option β) (K : Exit → St → Option β) :
    ev lay (E65 N) (retMask Tryz.f65) (lp Tryz.f65 0).body (lp Tryz.f65 0).ex ((lp Tryz.f65 0).lv (retMask Tryz.f65)) (h65_0_0  v0 v1 v2 v3 v4 v5 v6 v7 v8) (nextR (fun s' => rec_ (s'.tidy ((lp Tryz.f65 0).lv (retMask Tryz.f65)))) K) = zj114 N  v0 v1 v2 v3 v4 v5 v6 v7 v8 (fun v0 v1 v2 v3 v4 v5 v6 v7 v8 => rec_ (h65_0_0  v0 v1 v2 v3 v4 v5 v6 v7 v8)) (fun y0 y1 y2 => K .ret (x65_0_0_k0  y0 y1 y2)) (fun y0 y1 y2 y3 y4 => K (.exit 0) (x65_0_0_k1  y0 y1 y2 y3 y4)) := (vst65_0_0 N (zj71 N) (zj106 N) (zj107 N) (zj113 N) (zj115 N) v0 v1 v2 v3 v4 v5 v6 v7 v8 rec_ K).trans (zt114 N  v0 v1 v2 v3 v4 v5 v6 v7 v8 (fun v0 v1 v2 v3 v4 v5 v6 v7 v8 => rec_ (h65_0_0  v0 v1 v2 v3 v4 v5 v6 v7 v8)) (fun y0 y1 y2 => K .ret (x65_0_0_k0  y0 y1 y2)) (fun y0 y1 y2 y3 y4 => K (.exit 0) (x65_0_0_k1  y0 y1 y2 y3 y4))).symm
theorem ro65_0_0 {β : Type} (N : Nat)  (K : Exit → St → Option β) : ∀ (F : Nat) (v0 : Int) (v1 : ByteArray) (v2 : Int) (v3 : Int) (v4 : Int) (v5 : Int) (v6 : Int) (v7 : Int) (v8 : List ByteArray), (lp Tryz.f65 0).rounds lay (E65 N) (retMask Tryz.f65) F (h65_0_0  v0 v1 v2 v3 v4 v5 v6 v7 v8) K = zj115 N  F v0 v1 v2 v3 v4 v5 v6 v7 v8 (fun y0 y1 y2 => K .ret (x65_0_0_k0  y0 y1 y2)) (fun y0 y1 y2 y3 y4 => K (.exit 0) (x65_0_0_k1  y0 y1 y2 y3 y4)) := by
  intro F
  induction F with
  | zero => intros; rfl
  | succ F ih =>
    intros
    rw [rounds_next]
    refine (st65_0_0 N  _ _ _ _ _ _ _ _ _ (fun s => (lp Tryz.f65 0).rounds lay (E65 N) (retMask Tryz.f65) F s K) K).trans ?_
    simp only [ih]
    rfl
theorem lk65_0 {β : Type} (N : Nat) : lookL (E65 (β := β) N).loops (lp Tryz.f65 0).id = LS65_0 N := by kernel_rfl
theorem rk65_0 {β : Type} (N : Nat) : RoundsOK lay (E65 (β := β) N) (retMask Tryz.f65) (lp Tryz.f65 0) := by
  intro s K r h
  rw [lk65_0] at h
  unfold LS65_0 VLS65_0 at h
  cases hb : shpSt (h65_0_0 0 ByteArray.empty 0 0 0 0 0 0 []) s with
  | true =>
    rw [hb, cond_true] at h
    exact ⟨N, by rw [← shpSt_ref hb, fl65_0_0 s]; exact (ro65_0_0 N  K N (intS (oneA (vT (nx tund s.tmps 0)))) (strS (oneA (vT (nx tund s.tmps 1)))) (intS (oneA (vT (nx tund s.tmps 27)))) (intS (oneA (vT (nx tund s.tmps 28)))) (intS (nx .und (cellsB (nx .dead s.blks 0)) 0)) (intS (nx .und (cellsB (nx .dead s.blks 0)) 1)) (intS (nx .und (cellsB (nx .dead s.blks 1)) 0)) (intS (nx .und (cellsB (nx .dead s.blks 1)) 1)) (rStrs (rowB_ (nx .dead s.blks 2)))).trans h⟩
  | false =>
  rw [hb, cond_false] at h
  clear hb
  cases h
def zb116 {β : Type} (N : Nat) (zq71 : (a0 : Int) → (k : Bool → Option β) → Option β) (zq115 : Nat → Int → ByteArray → Int → Int → Int → Int → Int → Int → List ByteArray → (Bool → Int → Int → Option β) → (ByteArray → Int → Int → Int → Int → Option β) → Option β) (zq107 : (a0 : Int) → (a1 : Int) → (k : Int → Int → Option β) → Option β) (zq113 : (a0 : Int) → (a1 : Int) → (k : ByteArray → Option β) → Option β) (a0 : Int) (a1 : ByteArray) (k : Int → Int → Bool → Option β) : Option β :=
zq71 a0 fun r5 =>
(cond (!r5)
(k 0 0 false)
((cond ((decide ((a1.size : Int) > 200)))
(k 0 0 false)
((cond ((!(a1.toList == ((strOf [48])).toList)))
(strings_Split N a1 ((strOf [43])) fun r6 =>
zq115  N a0 a1 ((r6.length : Int)) 0 0 0 a0 0 r6 (fun e10_0 e10_1 e10_2 =>
k e10_1 e10_2 e10_0) (fun e11_0 e11_1 e11_2 e11_3 e11_4 =>
zq107 e11_3 e11_4 fun r12 r13 =>
zq113 r12 r13 fun r14 =>
(cond ((!(r14.toList == e11_0.toList)))
(k 0 0 false)
(k r12 r13 true))))
(zq107 a0 0 fun r15 r16 =>
zq113 r15 r16 fun r17 =>
(cond ((!(r17.toList == a1.toList)))
(k 0 0 false)
(k r15 r16 true))))))))
theorem zt116 {β : Type} (N : Nat) (a0 : Int) (a1 : ByteArray) (k : Int → Int → Bool → Option β) : zj116 N a0 a1 k = zb116 N (zj71 N) (zj115 N) (zj107 N) (zj113 N) a0 a1 k := by
  unfold zj116 zb116
  rfl
theorem ve65_0 {β : Type} (N : Nat) (zq71 : (a0 : Int) → (k : Bool → Option β) → Option β) (zq106 : (a0 : Int) → (a1 : ByteArray) → (k : Int → Int → Bool → Option β) → Option β) (zq107 : (a0 : Int) → (a1 : Int) → (k : Int → Int → Option β) → Option β) (zq113 : (a0 : Int) → (a1 : Int) → (k : ByteArray → Option β) → Option β) (zq115 : Nat → Int → ByteArray → Int → Int → Int → Int → Int → Int → List ByteArray → (Bool → Int → Int → Option β) → (ByteArray → Int → Int → Int → Int → Option β) → Option β)  (a0 : Int) (a1 : ByteArray) (K : TV → Option β) : evFn lay (VE65 N zq71 zq106 zq107 zq113 zq115) Tryz.f65 [.v (.one (.int .i64 a0)), .v (.one (.str a1))] K = zb116 N zq71 zq115 zq107 zq113 a0 a1 (fun z2 z3 z4 => K (.tup [.agg [.int .i64 z2, .int .i64 z3], .one (.bool z4)])) := by kernel_rfl
theorem e65_0 {β : Type} (N : Nat)  (a0 : Int) (a1 : ByteArray) (K : TV → Option β) : evFn lay (E65 N) Tryz.f65 [.v (.one (.int .i64 a0)), .v (.one (.str a1))] K = zj116 N a0 a1 (fun z2 z3 z4 => K (.tup [.agg [.int .i64 z2, .int .i64 z3], .one (.bool z4)])) := (ve65_0 N (zj71 N) (zj106 N) (zj107 N) (zj113 N) (zj115 N) a0 a1 K).trans (zt116 N a0 a1 (fun z2 z3 z4 => K (.tup [.agg [.int .i64 z2, .int .i64 z3], .one (.bool z4)]))).symm
theorem o65 {β : Type} (N : Nat) : SpecOK (β := β) inv Tryz.prog 65 (S65 N) := by
  refine spec_of lay_ok mixed (E := E65 N) (specs_loops (specs_cons (o99 N) (specs_cons (o131 N) (specs_cons (o132 N) (specs_cons (o133 N) (specs_cons (o75 N) specs_nil)))))) muts_nil gs_nil Tryz.func65 (by kernel_rfl) 1 (by kernel_rfl) ⟨trivial, rk65_0 N⟩ fun args K r h => ?_
  unfold S65 VS65 at h
  split at h
  · exact (e65_0 N _ _ _).trans h
  · cases h
def VS135 {β : Type} (N : Nat) (zq117 : (a0 : Int) → (a1 : List (Int × Int)) → (k : Bool → Option β) → Option β) : Rv.Spec β := fun args K => match args with
  | [.v (.one (.int .i64 a0)), .v (.one (.sl 93 (.pairs a1)))] => zq117 a0 a1 (fun z2 => K (.v (.one (.bool z2))))
  | _ => none
def S135 {β : Type} (N : Nat) : Rv.Spec β := VS135 N (zj117 N)
def VE135 {β : Type} (N : Nat) (zq71 : (a0 : Int) → (k : Bool → Option β) → Option β) (zq80 : (a0 : List (Int × Int)) → (a1 : (Int → Int → (Bool → Option β) → Option β)) → (k : Bool → Option β) → Option β) (zq74 : (a0 : Int) → (a1 : Int) → (c0 : Int) → (k : Bool → Option β) → Option β) (zq76 : (a0 : Int) → (a1 : Int) → (c0 : Int) → (k : Bool → Option β) → Option β) : Env β := ⟨[(99, VS99 N zq71), (190, VS190 N zq80 zq74 zq76), (191, VS191 N zq74)], [], [], [], ⟨[], [], [], []⟩⟩
def E135 {β : Type} (N : Nat) : Env β := VE135 N (zj71 N) (zj80 N) (zj74 N) (zj76 N)
def zb117 {β : Type} (N : Nat) (zq71 : (a0 : Int) → (k : Bool → Option β) → Option β) (zq80 : (a0 : List (Int × Int)) → (a1 : (Int → Int → (Bool → Option β) → Option β)) → (k : Bool → Option β) → Option β) (zq74 : (a0 : Int) → (a1 : Int) → (c0 : Int) → (k : Bool → Option β) → Option β) (a0 : Int) (a1 : List (Int × Int)) (k : Bool → Option β) : Option β :=
zq71 a0 fun r3 =>
(cond r3
(zq80 a1 (fun x0 x1 k => zq74 x0 x1 a0 k) fun r4 =>
k (!r4))
(k false))
theorem zt117 {β : Type} (N : Nat) (a0 : Int) (a1 : List (Int × Int)) (k : Bool → Option β) : zj117 N a0 a1 k = zb117 N (zj71 N) (zj80 N) (zj74 N) a0 a1 k := by
  unfold zj117 zb117
  rfl
theorem ve135_0 {β : Type} (N : Nat) (zq71 : (a0 : Int) → (k : Bool → Option β) → Option β) (zq80 : (a0 : List (Int × Int)) → (a1 : (Int → Int → (Bool → Option β) → Option β)) → (k : Bool → Option β) → Option β) (zq74 : (a0 : Int) → (a1 : Int) → (c0 : Int) → (k : Bool → Option β) → Option β) (zq76 : (a0 : Int) → (a1 : Int) → (c0 : Int) → (k : Bool → Option β) → Option β)  (a0 : Int) (a1 : List (Int × Int)) (K : TV → Option β) : evFn lay (VE135 N zq71 zq80 zq74 zq76) Tryz.f135 [.v (.one (.int .i64 a0)), .v (.one (.sl 93 (.pairs a1)))] K = zb117 N zq71 zq80 zq74 a0 a1 (fun z2 => K (.v (.one (.bool z2)))) := by kernel_rfl
theorem e135_0 {β : Type} (N : Nat)  (a0 : Int) (a1 : List (Int × Int)) (K : TV → Option β) : evFn lay (E135 N) Tryz.f135 [.v (.one (.int .i64 a0)), .v (.one (.sl 93 (.pairs a1)))] K = zj117 N a0 a1 (fun z2 => K (.v (.one (.bool z2)))) := (ve135_0 N (zj71 N) (zj80 N) (zj74 N) (zj76 N) a0 a1 K).trans (zt117 N a0 a1 (fun z2 => K (.v (.one (.bool z2))))).symm
theorem o135 {β : Type} (N : Nat) : SpecOK (β := β) inv Tryz.prog 135 (S135 N) := by
  refine spec_of lay_ok mixed (E := E135 N) (specs_loops (specs_cons (o99 N) (specs_cons (o190 N) (specs_cons (o191 N) specs_nil)))) muts_nil gs_nil Tryz.func135 (by kernel_rfl) 0 (by kernel_rfl) trivial fun args K r h => ?_
  unfold S135 VS135 at h
  split at h
  · exact (e135_0 N _ _ _).trans h
  · cases h
def VS134 {β : Type} (N : Nat) (zq118 : (a0 : Int) → (a1 : List (Int × Int)) → (k : Bool → Option β) → Option β) : Rv.Spec β := fun args K => match args with
  | [.v (.one (.int .i64 a0)), .v (.one (.sl 93 (.pairs a1)))] => zq118 a0 a1 (fun z2 => K (.v (.one (.bool z2))))
  | _ => none
def S134 {β : Type} (N : Nat) : Rv.Spec β := VS134 N (zj118 N)
def VE134 {β : Type} (N : Nat) (zq117 : (a0 : Int) → (a1 : List (Int × Int)) → (k : Bool → Option β) → Option β) : Env β := ⟨[(135, VS135 N zq117)], [], [], [], ⟨[], [], [], []⟩⟩
def E134 {β : Type} (N : Nat) : Env β := VE134 N (zj117 N)
def zb118 {β : Type} (N : Nat) (zq117 : (a0 : Int) → (a1 : List (Int × Int)) → (k : Bool → Option β) → Option β) (a0 : Int) (a1 : List (Int × Int)) (k : Bool → Option β) : Option β :=
zq117 a0 a1 fun r3 =>
(cond r3
(k ((decide ((a1.length : Int) ≤ 40))))
(k false))
theorem zt118 {β : Type} (N : Nat) (a0 : Int) (a1 : List (Int × Int)) (k : Bool → Option β) : zj118 N a0 a1 k = zb118 N (zj117 N) a0 a1 k := by
  unfold zj118 zb118
  rfl
theorem ve134_0 {β : Type} (N : Nat) (zq117 : (a0 : Int) → (a1 : List (Int × Int)) → (k : Bool → Option β) → Option β)  (a0 : Int) (a1 : List (Int × Int)) (K : TV → Option β) : evFn lay (VE134 N zq117) Tryz.f134 [.v (.one (.int .i64 a0)), .v (.one (.sl 93 (.pairs a1)))] K = zb118 N zq117 a0 a1 (fun z2 => K (.v (.one (.bool z2)))) := by kernel_rfl
theorem e134_0 {β : Type} (N : Nat)  (a0 : Int) (a1 : List (Int × Int)) (K : TV → Option β) : evFn lay (E134 N) Tryz.f134 [.v (.one (.int .i64 a0)), .v (.one (.sl 93 (.pairs a1)))] K = zj118 N a0 a1 (fun z2 => K (.v (.one (.bool z2)))) := (ve134_0 N (zj117 N) a0 a1 K).trans (zt118 N a0 a1 (fun z2 => K (.v (.one (.bool z2))))).symm
theorem o134 {β : Type} (N : Nat) : SpecOK (β := β) inv Tryz.prog 134 (S134 N) := by
  refine spec_of lay_ok mixed (E := E134 N) (specs_loops (specs_cons (o135 N) specs_nil)) muts_nil gs_nil Tryz.func134 (by kernel_rfl) 0 (by kernel_rfl) trivial fun args K r h => ?_
  unfold S134 VS134 at h
  split at h
  · exact (e134_0 N _ _ _).trans h
  · cases h
def VS66 {β : Type} (N : Nat) (zq121 : (a0 : Int) → (a1 : ByteArray) → (k : List (Int × Int) → Bool → Option β) → Option β) : Rv.Spec β := fun args K => match args with
  | [.v (.one (.int .i64 a0)), .v (.one (.str a1))] => zq121 a0 a1 (fun z2 z3 => K (.tup [.one (.sl 93 (.pairs z2)), .one (.bool z3)]))
  | _ => none
def S66 {β : Type} (N : Nat) : Rv.Spec β := VS66 N (zj121 N)
def h66_0_0  (v0 : Int) (v1 : Int) (v2 : Int) (v3 : List (Int × Int)) (v4 : List ByteArray) : St := ⟨.v (.one (.int .i64 v0)) :: tund :: tund :: tund :: tund :: tund :: .v (.one (.row 0)) :: tund :: tund :: tund :: tund :: tund :: tund :: tund :: tund :: tund :: tund :: tund :: tund :: tund :: tund :: tund :: .v (.one (.row 1)) :: .v (.one (.int .i64 v1)) :: .v (.one (.int .i64 v2)) :: tund :: tund :: tund :: tund :: tund :: tund :: tund :: tund :: tund :: tund :: tund :: tund :: tund :: tund :: tund :: tund :: tund :: tund :: tund :: tund :: tund :: [], [.row 93 (.pairs v3), .row 9 (.strs v4)]⟩
def x66_0_0_k0  (y0 : Bool) (y1 : List (Int × Int)) : St := ⟨tund :: tund :: tund :: tund :: .v (.one (.row 0)) :: .v (.one (.bool y0)) :: tund :: tund :: tund :: tund :: tund :: tund :: tund :: tund :: tund :: tund :: tund :: tund :: tund :: tund :: tund :: tund :: tund :: tund :: tund :: tund :: tund :: tund :: tund :: tund :: tund :: tund :: tund :: tund :: tund :: tund :: tund :: tund :: tund :: tund :: tund :: tund :: tund :: tund :: tund :: tund :: [], [.row 93 (.pairs y1)]⟩
def x66_0_0_k1  (y0 : Int) (y1 : List (Int × Int)) : St := ⟨.v (.one (.int .i64 y0)) :: tund :: tund :: tund :: tund :: tund :: .v (.one (.row 0)) :: tund :: tund :: tund :: tund :: tund :: tund :: tund :: tund :: tund :: tund :: tund :: tund :: tund :: tund :: tund :: tund :: tund :: tund :: tund :: tund :: tund :: tund :: tund :: tund :: tund :: tund :: tund :: tund :: tund :: tund :: tund :: tund :: tund :: tund :: tund :: tund :: tund :: tund :: tund :: [], [.row 93 (.pairs y1)]⟩
theorem fl66_0_0 (s : St) : refSt (h66_0_0 0 0 0 [] []) s = h66_0_0 (intS (oneA (vT (nx tund s.tmps 0)))) (intS (oneA (vT (nx tund s.tmps 23)))) (intS (oneA (vT (nx tund s.tmps 24)))) (rPairs (rowB_ (nx .dead s.blks 0))) (rStrs (rowB_ (nx .dead s.blks 1))) := by kernel_rfl
def VLS66_0 {β : Type} (N : Nat) (zq120 : Nat → Int → Int → Int → List (Int × Int) → List ByteArray → (Bool → List (Int × Int) → Option β) → (Int → List (Int × Int) → Option β) → Option β) : LSpec β := fun s K => cond (shpSt (h66_0_0 0 0 0 [] []) s) ((fun (v0 : Int) (v1 : Int) (v2 : Int) (v3 : List (Int × Int)) (v4 : List ByteArray) => zq120  N v0 v1 v2 v3 v4 (fun y0 y1 => K .ret (x66_0_0_k0  y0 y1)) (fun y0 y1 => K (.exit 0) (x66_0_0_k1  y0 y1))) (intS (oneA (vT (nx tund s.tmps 0)))) (intS (oneA (vT (nx tund s.tmps 23)))) (intS (oneA (vT (nx tund s.tmps 24)))) (rPairs (rowB_ (nx .dead s.blks 0))) (rStrs (rowB_ (nx .dead s.blks 1)))) (none)
def LS66_0 {β : Type} (N : Nat) : LSpec β := VLS66_0 N (zj120 N)
def VE66 {β : Type} (N : Nat) (zq71 : (a0 : Int) → (k : Bool → Option β) → Option β) (zq106 : (a0 : Int) → (a1 : ByteArray) → (k : Int → Int → Bool → Option β) → Option β) (zq118 : (a0 : Int) → (a1 : List (Int × Int)) → (k : Bool → Option β) → Option β) (zq120 : Nat → Int → Int → Int → List (Int × Int) → List ByteArray → (Bool → List (Int × Int) → Option β) → (Int → List (Int × Int) → Option β) → Option β) : Env β := ⟨[(99, VS99 N zq71), (131, S131 N), (132, VS132 N zq106), (134, VS134 N zq118)], [], [(0, VLS66_0 N zq120)], [], ⟨[], [], [], []⟩⟩
def E66 {β : Type} (N : Nat) : Env β := VE66 N (zj71 N) (zj106 N) (zj118 N) (zj120 N)
def zb119 {β : Type} (N : Nat) (zq106 : (a0 : Int) → (a1 : ByteArray) → (k : Int → Int → Bool → Option β) → Option β)  (v0 : Int) (v1 : Int) (v2 : Int) (v3 : List (Int × Int)) (v4 : List ByteArray) (rec_ : Int → Int → Int → List (Int × Int) → List ByteArray → Option β) (k0 : Bool → List (Int × Int) → Option β) (k1 : Int → List (Int × Int) → Option β) : Option β :=
(cond ((decide (v2 < v1)))
((gd ((decide (0 ≤ v2)))
((gd ((decide (v2 < (v4.length : Int))))
(zq106 v0 ((rd ByteArray.empty v4 v2)) fun r6 r7 r8 =>
(cond (!r8)
(k0 false (([] : List (Int × Int))))
((gd ((decide ((v3.length + ((([] : List (Int × Int)) ++ [(r6, r7)])).length) * 16 ≤ 140737488355328)))
(rec_ v0 v1 ((w64 (v2 + 1))) ((v3 ++ (([] : List (Int × Int)) ++ [(r6, r7)]))) v4)))))))))
(k1 v0 v3))
theorem zt119 {β : Type} (N : Nat)  (v0 : Int) (v1 : Int) (v2 : Int) (v3 : List (Int × Int)) (v4 : List ByteArray) (rec_ : Int → Int → Int → List (Int × Int) → List ByteArray → Option β) (k0 : Bool → List (Int × Int) → Option β) (k1 : Int → List (Int × Int) → Option β) : zj119 N v0 v1 v2 v3 v4 rec_ k0 k1 = zb119 N (zj106 N) v0 v1 v2 v3 v4 rec_ k0 k1 := by
  unfold zj119 zb119
  rfl
theorem vst66_0_0 {β : Type} (N : Nat) (zq71 : (a0 : Int) → (k : Bool → Option β) → Option β) (zq106 : (a0 : Int) → (a1 : ByteArray) → (k : Int → Int → Bool → Option β) → Option β) (zq118 : (a0 : Int) → (a1 : List (Int × Int)) → (k : Bool → Option β) → Option β) (zq120 : Nat → Int → Int → Int → List (Int × Int) → List ByteArray → (Bool → List (Int × Int) → Option β) → (Int → List (Int × Int) → Option β) → Option β)  (v0 : Int) (v1 : Int) (v2 : Int) (v3 : List (Int × Int)) (v4 : List ByteArray) (rec_ : St → Option β) (K : Exit → St → Option β) :
    ev lay (VE66 N zq71 zq106 zq118 zq120) (retMask Tryz.f66) (lp Tryz.f66 0).body (lp Tryz.f66 0).ex ((lp Tryz.f66 0).lv (retMask Tryz.f66)) (h66_0_0  v0 v1 v2 v3 v4) (nextR (fun s' => rec_ (s'.tidy ((lp Tryz.f66 0).lv (retMask Tryz.f66)))) K) = zb119 N zq106  v0 v1 v2 v3 v4 (fun v0 v1 v2 v3 v4 => rec_ (h66_0_0  v0 v1 v2 v3 v4)) (fun y0 y1 => K .ret (x66_0_0_k0  y0 y1)) (fun y0 y1 => K (.exit 0) (x66_0_0_k1  y0 y1)) := by kernel_rfl
theorem st66_0_0 {β : Type} (N : Nat)  (v0 : Int) (v1 : Int) (v2 : Int) (v3 : List (Int × Int)) (v4 : List ByteArray) (rec_ : St → Option β) (K : Exit → St → Option β) :
    ev lay (E66 N) (retMask Tryz.f66) (lp Tryz.f66 0).body (lp Tryz.f66 0).ex ((lp Tryz.f66 0).lv (retMask Tryz.f66)) (h66_0_0  v0 v1 v2 v3 v4) (nextR (fun s' => rec_ (s'.tidy ((lp Tryz.f66 0).lv (retMask Tryz.f66)))) K) = zj119 N  v0 v1 v2 v3 v4 (fun v0 v1 v2 v3 v4 => rec_ (h66_0_0  v0 v1 v2 v3 v4)) (fun y0 y1 => K .ret (x66_0_0_k0  y0 y1)) (fun y0 y1 => K (.exit 0) (x66_0_0_k1  y0 y1)) := (vst66_0_0 N (zj71 N) (zj106 N) (zj118 N) (zj120 N) v0 v1 v2 v3 v4 rec_ K).trans (zt119 N  v0 v1 v2 v3 v4 (fun v0 v1 v2 v3 v4 => rec_ (h66_0_0  v0 v1 v2 v3 v4)) (fun y0 y1 => K .ret (x66_0_0_k0  y0 y1)) (fun y0 y1 => K (.exit 0) (x66_0_0_k1  y0 y1))).symm
theorem ro66_0_0 {β : Type} (N : Nat)  (K : Exit → St → Option β) : ∀ (F : Nat) (v0 : Int) (v1 : Int) (v2 : Int) (v3 : List (Int × Int)) (v4 : List ByteArray), (lp Tryz.f66 0).rounds lay (E66 N) (retMask Tryz.f66) F (h66_0_0  v0 v1 v2 v3 v4) K = zj120 N  F v0 v1 v2 v3 v4 (fun y0 y1 => K .ret (x66_0_0_k0  y0 y1)) (fun y0 y1 => K (.exit 0) (x66_0_0_k1  y0 y1)) := by
  intro F
  induction F with
  | zero => intros; rfl
  | succ F ih =>
    intros
    rw [rounds_next]
    refine (st66_0_0 N  _ _ _ _ _ (fun s => (lp Tryz.f66 0).rounds lay (E66 N) (retMask Tryz.f66) F s K) K).trans ?_
    simp only [ih]
    rfl
theorem lk66_0 {β : Type} (N : Nat) : lookL (E66 (β := β) N).loops (lp Tryz.f66 0).id = LS66_0 N := by kernel_rfl
theorem rk66_0 {β : Type} (N : Nat) : RoundsOK lay (E66 (β := β) N) (retMask Tryz.f66) (lp Tryz.f66 0) := by
  intro s K r h
  rw [lk66_0] at h
  unfold LS66_0 VLS66_0 at h
  cases hb : shpSt (h66_0_0 0 0 0 [] []) s with
  | true =>
    rw [hb, cond_true] at h
    exact ⟨N, by rw [← shpSt_ref hb, fl66_0_0 s]; exact (ro66_0_0 N  K N (intS (oneA (vT (nx tund s.tmps 0)))) (intS (oneA (vT (nx tund s.tmps 23)))) (intS (oneA (vT (nx tund s.tmps 24)))) (rPairs (rowB_ (nx .dead s.blks 0))) (rStrs (rowB_ (nx .dead s.blks 1)))).trans h⟩
  | false =>
  rw [hb, cond_false] at h
  clear hb
  cases h
def zb121 {β : Type} (N : Nat) (zq71 : (a0 : Int) → (k : Bool → Option β) → Option β) (zq120 : Nat → Int → Int → Int → List (Int × Int) → List ByteArray → (Bool → List (Int × Int) → Option β) → (Int → List (Int × Int) → Option β) → Option β) (zq118 : (a0 : Int) → (a1 : List (Int × Int)) → (k : Bool → Option β) → Option β) (a0 : Int) (a1 : ByteArray) (k : List (Int × Int) → Bool → Option β) : Option β :=
zq71 a0 fun r4 =>
(cond (!r4)
(k (([] : List (Int × Int))) false)
((cond ((decide ((a1.size : Int) > 200)))
(k (([] : List (Int × Int))) false)
((cond ((a1.toList == ((strOf [48])).toList))
(k (([] : List (Int × Int))) true)
(strings_Split N a1 ((strOf [124])) fun r5 =>
zq120  N a0 ((r5.length : Int)) 0 (([] : List (Int × Int))) r5 (fun e9_0 e9_1 =>
k e9_1 e9_0) (fun e10_0 e10_1 =>
zq118 e10_0 e10_1 fun r11 =>
(cond (!r11)
(k (([] : List (Int × Int))) false)
(k e10_1 true)))))))))
theorem zt121 {β : Type} (N : Nat) (a0 : Int) (a1 : ByteArray) (k : List (Int × Int) → Bool → Option β) : zj121 N a0 a1 k = zb121 N (zj71 N) (zj120 N) (zj118 N) a0 a1 k := by
  unfold zj121 zb121
  rfl
theorem ve66_0 {β : Type} (N : Nat) (zq71 : (a0 : Int) → (k : Bool → Option β) → Option β) (zq106 : (a0 : Int) → (a1 : ByteArray) → (k : Int → Int → Bool → Option β) → Option β) (zq118 : (a0 : Int) → (a1 : List (Int × Int)) → (k : Bool → Option β) → Option β) (zq120 : Nat → Int → Int → Int → List (Int × Int) → List ByteArray → (Bool → List (Int × Int) → Option β) → (Int → List (Int × Int) → Option β) → Option β)  (a0 : Int) (a1 : ByteArray) (K : TV → Option β) : evFn lay (VE66 N zq71 zq106 zq118 zq120) Tryz.f66 [.v (.one (.int .i64 a0)), .v (.one (.str a1))] K = zb121 N zq71 zq120 zq118 a0 a1 (fun z2 z3 => K (.tup [.one (.sl 93 (.pairs z2)), .one (.bool z3)])) := by kernel_rfl
theorem e66_0 {β : Type} (N : Nat)  (a0 : Int) (a1 : ByteArray) (K : TV → Option β) : evFn lay (E66 N) Tryz.f66 [.v (.one (.int .i64 a0)), .v (.one (.str a1))] K = zj121 N a0 a1 (fun z2 z3 => K (.tup [.one (.sl 93 (.pairs z2)), .one (.bool z3)])) := (ve66_0 N (zj71 N) (zj106 N) (zj118 N) (zj120 N) a0 a1 K).trans (zt121 N a0 a1 (fun z2 z3 => K (.tup [.one (.sl 93 (.pairs z2)), .one (.bool z3)]))).symm
theorem o66 {β : Type} (N : Nat) : SpecOK (β := β) inv Tryz.prog 66 (S66 N) := by
  refine spec_of lay_ok mixed (E := E66 N) (specs_loops (specs_cons (o99 N) (specs_cons (o131 N) (specs_cons (o132 N) (specs_cons (o134 N) specs_nil))))) muts_nil gs_nil Tryz.func66 (by kernel_rfl) 1 (by kernel_rfl) ⟨trivial, rk66_0 N⟩ fun args K r h => ?_
  unfold S66 VS66 at h
  split at h
  · exact (e66_0 N _ _ _).trans h
  · cases h
def VS136 {β : Type} (N : Nat) (zq122 : (a0 : Int) → (a1 : List (Int × Int)) → (k : Int → Int → Option β) → Option β) : Rv.Spec β := fun args K => match args with
  | [.v (.one (.int .i64 a0)), .v (.one (.sl 93 (.pairs a1)))] => zq122 a0 a1 (fun z2 z3 => K (.v (.agg [.int .i64 z2, .int .i64 z3])))
  | _ => none
def S136 {β : Type} (N : Nat) : Rv.Spec β := VS136 N (zj122 N)
def VE136 {β : Type} (N : Nat) (zq92 : (a0 : Int) → (a1 : (Int → (Bool → Option β) → Option β)) → (k : Int → Int → Option β) → Option β) (zq65 : (a0 : Int) → (c0 : ByteArray) → (k : Bool → Option β) → Option β) (zq70 : (a0 : Int) → (c0 : Int) → (c1 : Int) → (k : Bool → Option β) → Option β) (zq81 : (a0 : Int) → (c0 : List (Int × Int)) → (k : Bool → Option β) → Option β) (zq87 : (a0 : Int) → (c0 : Tr) → (k : Bool → Option β) → Option β) (zq88 : (a0 : Int) → (c0 : Tr) → (k : Bool → Option β) → Option β) (zq89 : (a0 : Int) → (c0 : Int) → (k : Bool → Option β) → Option β) : Env β := ⟨[(129, VS129 N zq92 zq65 zq70 zq81 zq87 zq88 zq89), (193, VS193 N zq81)], [], [], [], ⟨[], [], [], []⟩⟩
def E136 {β : Type} (N : Nat) : Env β := VE136 N (zj92 N) (zj65 N) (zj70 N) (zj81 N) (zj87 N) (zj88 N) (zj89 N)
def zb122 {β : Type} (N : Nat) (zq92 : (a0 : Int) → (a1 : (Int → (Bool → Option β) → Option β)) → (k : Int → Int → Option β) → Option β) (zq81 : (a0 : Int) → (c0 : List (Int × Int)) → (k : Bool → Option β) → Option β) (a0 : Int) (a1 : List (Int × Int)) (k : Int → Int → Option β) : Option β :=
zq92 a0 (fun x0 k => zq81 x0 a1 k) fun r4 r5 =>
k r4 r5
theorem zt122 {β : Type} (N : Nat) (a0 : Int) (a1 : List (Int × Int)) (k : Int → Int → Option β) : zj122 N a0 a1 k = zb122 N (zj92 N) (zj81 N) a0 a1 k := by
  unfold zj122 zb122
  rfl
theorem ve136_0 {β : Type} (N : Nat) (zq92 : (a0 : Int) → (a1 : (Int → (Bool → Option β) → Option β)) → (k : Int → Int → Option β) → Option β) (zq65 : (a0 : Int) → (c0 : ByteArray) → (k : Bool → Option β) → Option β) (zq70 : (a0 : Int) → (c0 : Int) → (c1 : Int) → (k : Bool → Option β) → Option β) (zq81 : (a0 : Int) → (c0 : List (Int × Int)) → (k : Bool → Option β) → Option β) (zq87 : (a0 : Int) → (c0 : Tr) → (k : Bool → Option β) → Option β) (zq88 : (a0 : Int) → (c0 : Tr) → (k : Bool → Option β) → Option β) (zq89 : (a0 : Int) → (c0 : Int) → (k : Bool → Option β) → Option β)  (a0 : Int) (a1 : List (Int × Int)) (K : TV → Option β) : evFn lay (VE136 N zq92 zq65 zq70 zq81 zq87 zq88 zq89) Tryz.f136 [.v (.one (.int .i64 a0)), .v (.one (.sl 93 (.pairs a1)))] K = zb122 N zq92 zq81 a0 a1 (fun z2 z3 => K (.v (.agg [.int .i64 z2, .int .i64 z3]))) := by kernel_rfl
theorem e136_0 {β : Type} (N : Nat)  (a0 : Int) (a1 : List (Int × Int)) (K : TV → Option β) : evFn lay (E136 N) Tryz.f136 [.v (.one (.int .i64 a0)), .v (.one (.sl 93 (.pairs a1)))] K = zj122 N a0 a1 (fun z2 z3 => K (.v (.agg [.int .i64 z2, .int .i64 z3]))) := (ve136_0 N (zj92 N) (zj65 N) (zj70 N) (zj81 N) (zj87 N) (zj88 N) (zj89 N) a0 a1 K).trans (zt122 N a0 a1 (fun z2 z3 => K (.v (.agg [.int .i64 z2, .int .i64 z3])))).symm
theorem o136 {β : Type} (N : Nat) : SpecOK (β := β) inv Tryz.prog 136 (S136 N) := by
  refine spec_of lay_ok mixed (E := E136 N) (specs_loops (specs_cons (o129 N) (specs_cons (o193 N) specs_nil))) muts_nil gs_nil Tryz.func136 (by kernel_rfl) 0 (by kernel_rfl) trivial fun args K r h => ?_
  unfold S136 VS136 at h
  split at h
  · exact (e136_0 N _ _ _).trans h
  · cases h
def VS67 {β : Type} (N : Nat) (zq123 : (a0 : Int) → (a1 : List (Int × Int)) → (k : Int → Int → Bool → Option β) → Option β) : Rv.Spec β := fun args K => match args with
  | [.v (.one (.int .i64 a0)), .v (.one (.sl 93 (.pairs a1)))] => zq123 a0 a1 (fun z2 z3 z4 => K (.tup [.agg [.int .i64 z2, .int .i64 z3], .one (.bool z4)]))
  | _ => none
def S67 {β : Type} (N : Nat) : Rv.Spec β := VS67 N (zj123 N)
def VE67 {β : Type} (N : Nat) (zq117 : (a0 : Int) → (a1 : List (Int × Int)) → (k : Bool → Option β) → Option β) (zq122 : (a0 : Int) → (a1 : List (Int × Int)) → (k : Int → Int → Option β) → Option β) : Env β := ⟨[(135, VS135 N zq117), (136, VS136 N zq122)], [], [], [], ⟨[], [], [], []⟩⟩
def E67 {β : Type} (N : Nat) : Env β := VE67 N (zj117 N) (zj122 N)
def zb123 {β : Type} (N : Nat) (zq117 : (a0 : Int) → (a1 : List (Int × Int)) → (k : Bool → Option β) → Option β) (zq122 : (a0 : Int) → (a1 : List (Int × Int)) → (k : Int → Int → Option β) → Option β) (a0 : Int) (a1 : List (Int × Int)) (k : Int → Int → Bool → Option β) : Option β :=
zq117 a0 a1 fun r5 =>
(cond (!r5)
(k 0 0 false)
(zq122 a0 a1 fun r6 r7 =>
k r6 r7 true))
theorem zt123 {β : Type} (N : Nat) (a0 : Int) (a1 : List (Int × Int)) (k : Int → Int → Bool → Option β) : zj123 N a0 a1 k = zb123 N (zj117 N) (zj122 N) a0 a1 k := by
  unfold zj123 zb123
  rfl
theorem ve67_0 {β : Type} (N : Nat) (zq117 : (a0 : Int) → (a1 : List (Int × Int)) → (k : Bool → Option β) → Option β) (zq122 : (a0 : Int) → (a1 : List (Int × Int)) → (k : Int → Int → Option β) → Option β)  (a0 : Int) (a1 : List (Int × Int)) (K : TV → Option β) : evFn lay (VE67 N zq117 zq122) Tryz.f67 [.v (.one (.int .i64 a0)), .v (.one (.sl 93 (.pairs a1)))] K = zb123 N zq117 zq122 a0 a1 (fun z2 z3 z4 => K (.tup [.agg [.int .i64 z2, .int .i64 z3], .one (.bool z4)])) := by kernel_rfl
theorem e67_0 {β : Type} (N : Nat)  (a0 : Int) (a1 : List (Int × Int)) (K : TV → Option β) : evFn lay (E67 N) Tryz.f67 [.v (.one (.int .i64 a0)), .v (.one (.sl 93 (.pairs a1)))] K = zj123 N a0 a1 (fun z2 z3 z4 => K (.tup [.agg [.int .i64 z2, .int .i64 z3], .one (.bool z4)])) := (ve67_0 N (zj117 N) (zj122 N) a0 a1 K).trans (zt123 N a0 a1 (fun z2 z3 z4 => K (.tup [.agg [.int .i64 z2, .int .i64 z3], .one (.bool z4)]))).symm
theorem o67 {β : Type} (N : Nat) : SpecOK (β := β) inv Tryz.prog 67 (S67 N) := by
  refine spec_of lay_ok mixed (E := E67 N) (specs_loops (specs_cons (o135 N) (specs_cons (o136 N) specs_nil))) muts_nil gs_nil Tryz.func67 (by kernel_rfl) 0 (by kernel_rfl) trivial fun args K r h => ?_
  unfold S67 VS67 at h
  split at h
  · exact (e67_0 N _ _ _).trans h
  · cases h
def VSF234 {β : Type} (N : Nat) (zq125 : Nat → ByteArray → Int → (Tr → ByteArray → Option β) → Option β) (G : Nat) : Rv.Spec β := fun args K => match args with
  | [.v (.one (.str a0)), .v (.one (.int .i64 a1))] => zq125 G a0 a1 (fun z2 z3 => K (.tup [.one (.tr false z2), .one (.str z3)]))
  | _ => none
def SF234 {β : Type} (N : Nat) (G : Nat) : Rv.Spec β := VSF234 N (zj125 N) G
def VS234 {β : Type} (N : Nat) (zq125 : Nat → ByteArray → Int → (Tr → ByteArray → Option β) → Option β) : Rv.Spec β := VSF234 N zq125 N
def S234 {β : Type} (N : Nat) : Rv.Spec β := SF234 N N
def VE234 {β : Type} (N : Nat) (zq100 : (a0 : Int) → (k : Bool → Option β) → Option β) (zq125 : Nat → ByteArray → Int → (Tr → ByteArray → Option β) → Option β) (zq82 : (a0 : Int) → (k0 : Int → Int → Option β) → Option β) (zq83 : (a0 : Tr) → (k0 : Int → Option β) → Option β) (G : Nat) : Env β := ⟨[(187, VS187 N zq100), (234, VSF234 N zq125 G)], [], [], [(235, VS235 N zq82 zq83)], ⟨[], [], [], []⟩⟩
def E234 {β : Type} (N : Nat) (G : Nat) : Env β := VE234 N (zj100 N) (zj125 N) (zj82 N) (zj83 N) G
def zb124 {β : Type} (N : Nat) (zq100 : (a0 : Int) → (k : Bool → Option β) → Option β) (zq82 : (a0 : Int) → (k0 : Int → Int → Option β) → Option β) (self : ByteArray → Int → (Tr → ByteArray → Option β) → Option β) (a0 : ByteArray) (a1 : Int) (k : Tr → ByteArray → Option β) : Option β :=
(cond ((a0.toList == ByteArray.empty.toList))
(k Tr.nil ByteArray.empty)
((gd ((decide (0 < (a0.size : Int))))
((gd ((decide (1 ≤ (a0.size : Int))))
((cond (((bt a0 0) == 48))
(k ((Tr.node ((bt a0 0)) 0 Tr.nil Tr.nil)) ((a0.extract (Int.toNat 1) a0.size)))
((cond (((bt a0 0) == 49))
(k ((Tr.node ((bt a0 0)) 0 Tr.nil Tr.nil)) ((a0.extract (Int.toNat 1) a0.size)))
(zq100 ((bt a0 0)) fun r4 =>
(cond (!r4)
(k Tr.nil ByteArray.empty)
(zq82 ((bt a0 0)) (fun r5_0 r5_1 =>
(gd ((decide (0 ≤ r5_0)))
((cond (((bits .and .i64 (shrI .i64 a1 r5_0) 1) == 1))
(k Tr.nil ByteArray.empty)
(zq82 r5_1 (fun r6_0 r6_1 =>
(gd ((decide (0 ≤ r6_0)))
(self ((a0.extract (Int.toNat 1) a0.size)) ((bits .or .i64 a1 (shlI .i64 1 r6_0))) fun r7 r8 =>
(cond ((Tr.isNil r7))
(k Tr.nil ByteArray.empty)
(self r8 ((bits .or .i64 a1 (shlI .i64 1 r6_0))) fun r9 r10 =>
(cond ((Tr.isNil r9))
(k Tr.nil ByteArray.empty)
(k ((Tr.node r6_1 0 r7 r9)) r10))))))))))))))))))))))))
theorem zt124 {β : Type} (N : Nat) (self : ByteArray → Int → (Tr → ByteArray → Option β) → Option β) (a0 : ByteArray) (a1 : Int) (k : Tr → ByteArray → Option β) : zj124 N self a0 a1 k = zb124 N (zj100 N) (zj82 N) self a0 a1 k := by
  unfold zj124 zb124
  rfl
theorem ve234_0 {β : Type} (N : Nat) (zq100 : (a0 : Int) → (k : Bool → Option β) → Option β) (zq125 : Nat → ByteArray → Int → (Tr → ByteArray → Option β) → Option β) (zq82 : (a0 : Int) → (k0 : Int → Int → Option β) → Option β) (zq83 : (a0 : Tr) → (k0 : Int → Option β) → Option β) (G : Nat)  (a0 : ByteArray) (a1 : Int) (K : TV → Option β) : evFn lay (VE234 N zq100 zq125 zq82 zq83 G) Tryz.f234 [.v (.one (.str a0)), .v (.one (.int .i64 a1))] K = zb124 N zq100 zq82 (zq125 G) a0 a1 (fun z2 z3 => K (.tup [.one (.tr false z2), .one (.str z3)])) := by kernel_rfl
theorem e234_0 {β : Type} (N : Nat) (G : Nat)  (a0 : ByteArray) (a1 : Int) (K : TV → Option β) : evFn lay (E234 N G) Tryz.f234 [.v (.one (.str a0)), .v (.one (.int .i64 a1))] K = zj125 N (G + 1) a0 a1 (fun z2 z3 => K (.tup [.one (.tr false z2), .one (.str z3)])) := (ve234_0 N (zj100 N) (zj125 N) (zj82 N) (zj83 N) G a0 a1 K).trans (zt124 N (zj125 N G) a0 a1 (fun z2 z3 => K (.tup [.one (.tr false z2), .one (.str z3)]))).symm
theorem z234 {β : Type} (N : Nat) : ∀ args K r, SF234 (β := β) N 0 args K = some r → (none : Option β) = some r := by
  intro args K r h
  unfold SF234 VSF234 at h
  split at h <;> exact h
theorem of234 {β : Type} (N : Nat) : ∀ G, SpecOK (β := β) inv Tryz.prog 234 (SF234 N G) := by
  intro G
  induction G with
  | zero => exact s_zero Tryz.func234 (by kernel_rfl) (z234 N)
  | succ G ih =>
    refine spec_of lay_ok mixed (E := E234 N G) (specs_loops (specs_cons (o187 N) (specs_cons ih specs_nil))) muts_nil (gs_cons (o235 N) gs_nil) Tryz.func234 (by kernel_rfl) 0 (by kernel_rfl) trivial fun args K r h => ?_
    unfold SF234 VSF234 at h
    split at h
    · exact (e234_0 N G _ _ _).trans h
    · cases h
theorem o234 {β : Type} (N : Nat) : SpecOK (β := β) inv Tryz.prog 234 (S234 N) := of234 N N
def VS196 {β : Type} (N : Nat) (zq127 : (a0 : ByteArray) → (k : Tr → Bool → Option β) → Option β) : Rv.Spec β := fun args K => match args with
  | [.v (.one (.str a0))] => zq127 a0 (fun z1 z2 => K (.tup [.one (.tr false z1), .one (.bool z2)]))
  | _ => none
def S196 {β : Type} (N : Nat) : Rv.Spec β := VS196 N (zj127 N)
def VE196 {β : Type} (N : Nat) (zq125 : Nat → ByteArray → Int → (Tr → ByteArray → Option β) → Option β) : Env β := ⟨[(234, VS234 N zq125)], [], [], [], ⟨[], [], [], []⟩⟩
def E196 {β : Type} (N : Nat) : Env β := VE196 N (zj125 N)
def zb127 {β : Type} (N : Nat) (zq125 : Nat → ByteArray → Int → (Tr → ByteArray → Option β) → Option β) (a0 : ByteArray) (k : Tr → Bool → Option β) : Option β :=
zq125 N a0 0 fun r3 r4 =>
(cond ((!(Tr.isNil r3)))
(k r3 ((r4.toList == ByteArray.empty.toList)))
(k r3 false))
theorem zt127 {β : Type} (N : Nat) (a0 : ByteArray) (k : Tr → Bool → Option β) : zj127 N a0 k = zb127 N (zj125 N) a0 k := by
  unfold zj127 zb127
  rfl
theorem ve196_0 {β : Type} (N : Nat) (zq125 : Nat → ByteArray → Int → (Tr → ByteArray → Option β) → Option β)  (a0 : ByteArray) (K : TV → Option β) : evFn lay (VE196 N zq125) Tryz.f196 [.v (.one (.str a0))] K = zb127 N zq125 a0 (fun z1 z2 => K (.tup [.one (.tr false z1), .one (.bool z2)])) := by kernel_rfl
theorem e196_0 {β : Type} (N : Nat)  (a0 : ByteArray) (K : TV → Option β) : evFn lay (E196 N) Tryz.f196 [.v (.one (.str a0))] K = zj127 N a0 (fun z1 z2 => K (.tup [.one (.tr false z1), .one (.bool z2)])) := (ve196_0 N (zj125 N) a0 K).trans (zt127 N a0 (fun z1 z2 => K (.tup [.one (.tr false z1), .one (.bool z2)]))).symm
theorem o196 {β : Type} (N : Nat) : SpecOK (β := β) inv Tryz.prog 196 (S196 N) := by
  refine spec_of lay_ok mixed (E := E196 N) (specs_loops (specs_cons (o234 N) specs_nil)) muts_nil gs_nil Tryz.func196 (by kernel_rfl) 0 (by kernel_rfl) trivial fun args K r h => ?_
  unfold S196 VS196 at h
  split at h
  · exact (e196_0 N _ _).trans h
  · cases h
def VSF197 {β : Type} (N : Nat) (zq129 : Nat → Tr → Int → (Bool → Option β) → Option β) (G : Nat) : Rv.Spec β := fun args K => match args with
  | [.v (.one (.tr false a0)), .v (.one (.int .i64 a1))] => zq129 G a0 a1 (fun z2 => K (.v (.one (.bool z2))))
  | _ => none
def SF197 {β : Type} (N : Nat) (G : Nat) : Rv.Spec β := VSF197 N (zj129 N) G
def VS197 {β : Type} (N : Nat) (zq129 : Nat → Tr → Int → (Bool → Option β) → Option β) : Rv.Spec β := VSF197 N zq129 N
def S197 {β : Type} (N : Nat) : Rv.Spec β := SF197 N N
def VE197 {β : Type} (N : Nat) (zq129 : Nat → Tr → Int → (Bool → Option β) → Option β) (zq82 : (a0 : Int) → (k0 : Int → Int → Option β) → Option β) (zq83 : (a0 : Tr) → (k0 : Int → Option β) → Option β) (G : Nat) : Env β := ⟨[(197, VSF197 N zq129 G)], [], [], [(235, VS235 N zq82 zq83)], ⟨[], [], [], []⟩⟩
def E197 {β : Type} (N : Nat) (G : Nat) : Env β := VE197 N (zj129 N) (zj82 N) (zj83 N) G
def zb128 {β : Type} (N : Nat) (zq83 : (a0 : Tr) → (k0 : Int → Option β) → Option β) (self : Tr → Int → (Bool → Option β) → Option β) (a0 : Tr) (a1 : Int) (k : Bool → Option β) : Option β :=
(gd ((!(Tr.isNil a0)))
((gd ((!(Tr.isNil a0)))
((gd ((!(Tr.isNil a0)))
((cond ((Tr.isNil ((Tr.l a0))))
(k true)
(zq83 a0 (fun r3_0 =>
(cond ((decide (r3_0 < a1)))
((gd ((!(Tr.isNil a0)))
((gd ((!(Tr.isNil a0)))
((gd ((!(Tr.isNil a0)))
(self ((Tr.l a0)) a1 fun r4 =>
(cond r4
((gd ((!(Tr.isNil a0)))
((gd ((!(Tr.isNil a0)))
((gd ((!(Tr.isNil a0)))
(self ((Tr.r a0)) a1 fun r5 =>
k r5)))))))
(k false)))))))))
(k false)))))))))))
theorem zt128 {β : Type} (N : Nat) (self : Tr → Int → (Bool → Option β) → Option β) (a0 : Tr) (a1 : Int) (k : Bool → Option β) : zj128 N self a0 a1 k = zb128 N (zj83 N) self a0 a1 k := by
  unfold zj128 zb128
  rfl
theorem ve197_0 {β : Type} (N : Nat) (zq129 : Nat → Tr → Int → (Bool → Option β) → Option β) (zq82 : (a0 : Int) → (k0 : Int → Int → Option β) → Option β) (zq83 : (a0 : Tr) → (k0 : Int → Option β) → Option β) (G : Nat)  (a0 : Tr) (a1 : Int) (K : TV → Option β) : evFn lay (VE197 N zq129 zq82 zq83 G) Tryz.f197 [.v (.one (.tr false a0)), .v (.one (.int .i64 a1))] K = zb128 N zq83 (zq129 G) a0 a1 (fun z2 => K (.v (.one (.bool z2)))) := by kernel_rfl
theorem e197_0 {β : Type} (N : Nat) (G : Nat)  (a0 : Tr) (a1 : Int) (K : TV → Option β) : evFn lay (E197 N G) Tryz.f197 [.v (.one (.tr false a0)), .v (.one (.int .i64 a1))] K = zj129 N (G + 1) a0 a1 (fun z2 => K (.v (.one (.bool z2)))) := (ve197_0 N (zj129 N) (zj82 N) (zj83 N) G a0 a1 K).trans (zt128 N (zj129 N G) a0 a1 (fun z2 => K (.v (.one (.bool z2))))).symm
theorem z197 {β : Type} (N : Nat) : ∀ args K r, SF197 (β := β) N 0 args K = some r → (none : Option β) = some r := by
  intro args K r h
  unfold SF197 VSF197 at h
  split at h <;> exact h
theorem of197 {β : Type} (N : Nat) : ∀ G, SpecOK (β := β) inv Tryz.prog 197 (SF197 N G) := by
  intro G
  induction G with
  | zero => exact s_zero Tryz.func197 (by kernel_rfl) (z197 N)
  | succ G ih =>
    refine spec_of lay_ok mixed (E := E197 N G) (specs_loops (specs_cons ih specs_nil)) muts_nil (gs_cons (o235 N) gs_nil) Tryz.func197 (by kernel_rfl) 0 (by kernel_rfl) trivial fun args K r h => ?_
    unfold SF197 VSF197 at h
    split at h
    · exact (e197_0 N G _ _ _).trans h
    · cases h
theorem o197 {β : Type} (N : Nat) : SpecOK (β := β) inv Tryz.prog 197 (S197 N) := of197 N N
def VS137 {β : Type} (N : Nat) (zq131 : (a0 : ByteArray) → (a1 : Int) → (k : Tr → Int → Int → Bool → Option β) → Option β) : Rv.Spec β := fun args K => match args with
  | [.v (.one (.str a0)), .v (.one (.int .i64 a1))] => zq131 a0 a1 (fun z2 z3 z4 z5 => K (.tup [.one (.tr false z2), .agg [.int .i64 z3, .int .i64 z4], .one (.bool z5)]))
  | _ => none
def S137 {β : Type} (N : Nat) : Rv.Spec β := VS137 N (zj131 N)
def VE137 {β : Type} (N : Nat) (zq127 : (a0 : ByteArray) → (k : Tr → Bool → Option β) → Option β) (zq71 : (a0 : Int) → (k : Bool → Option β) → Option β) (zq129 : Nat → Tr → Int → (Bool → Option β) → Option β) (zq92 : (a0 : Int) → (a1 : (Int → (Bool → Option β) → Option β)) → (k : Int → Int → Option β) → Option β) (zq65 : (a0 : Int) → (c0 : ByteArray) → (k : Bool → Option β) → Option β) (zq70 : (a0 : Int) → (c0 : Int) → (c1 : Int) → (k : Bool → Option β) → Option β) (zq81 : (a0 : Int) → (c0 : List (Int × Int)) → (k : Bool → Option β) → Option β) (zq87 : (a0 : Int) → (c0 : Tr) → (k : Bool → Option β) → Option β) (zq88 : (a0 : Int) → (c0 : Tr) → (k : Bool → Option β) → Option β) (zq89 : (a0 : Int) → (c0 : Int) → (k : Bool → Option β) → Option β) : Env β := ⟨[(196, VS196 N zq127), (99, VS99 N zq71), (197, VS197 N zq129), (129, VS129 N zq92 zq65 zq70 zq81 zq87 zq88 zq89), (198, VS198 N zq87)], [], [], [], ⟨[], [], [], []⟩⟩
def E137 {β : Type} (N : Nat) : Env β := VE137 N (zj127 N) (zj71 N) (zj129 N) (zj92 N) (zj65 N) (zj70 N) (zj81 N) (zj87 N) (zj88 N) (zj89 N)
def zb131 {β : Type} (N : Nat) (zq127 : (a0 : ByteArray) → (k : Tr → Bool → Option β) → Option β) (zq71 : (a0 : Int) → (k : Bool → Option β) → Option β) (zq129 : Nat → Tr → Int → (Bool → Option β) → Option β) (zq92 : (a0 : Int) → (a1 : (Int → (Bool → Option β) → Option β)) → (k : Int → Int → Option β) → Option β) (zq87 : (a0 : Int) → (c0 : Tr) → (k : Bool → Option β) → Option β) (a0 : ByteArray) (a1 : Int) (k : Tr → Int → Int → Bool → Option β) : Option β :=
zq127 a0 fun r6 r7 =>
(cond (!r7)
(k Tr.nil 0 0 false)
(zq71 a1 fun r8 =>
(cond (!r8)
(k Tr.nil 0 0 false)
(zq129 N r6 a1 fun r9 =>
(cond (!r9)
(k Tr.nil 0 0 false)
(zq92 a1 (fun x0 k => zq87 x0 r6 k) fun r10 r11 =>
k r6 r10 r11 true))))))
theorem zt131 {β : Type} (N : Nat) (a0 : ByteArray) (a1 : Int) (k : Tr → Int → Int → Bool → Option β) : zj131 N a0 a1 k = zb131 N (zj127 N) (zj71 N) (zj129 N) (zj92 N) (zj87 N) a0 a1 k := by
  unfold zj131 zb131
  rfl
theorem ve137_0 {β : Type} (N : Nat) (zq127 : (a0 : ByteArray) → (k : Tr → Bool → Option β) → Option β) (zq71 : (a0 : Int) → (k : Bool → Option β) → Option β) (zq129 : Nat → Tr → Int → (Bool → Option β) → Option β) (zq92 : (a0 : Int) → (a1 : (Int → (Bool → Option β) → Option β)) → (k : Int → Int → Option β) → Option β) (zq65 : (a0 : Int) → (c0 : ByteArray) → (k : Bool → Option β) → Option β) (zq70 : (a0 : Int) → (c0 : Int) → (c1 : Int) → (k : Bool → Option β) → Option β) (zq81 : (a0 : Int) → (c0 : List (Int × Int)) → (k : Bool → Option β) → Option β) (zq87 : (a0 : Int) → (c0 : Tr) → (k : Bool → Option β) → Option β) (zq88 : (a0 : Int) → (c0 : Tr) → (k : Bool → Option β) → Option β) (zq89 : (a0 : Int) → (c0 : Int) → (k : Bool → Option β) → Option β)  (a0 : ByteArray) (a1 : Int) (K : TV → Option β) : evFn lay (VE137 N zq127 zq71 zq129 zq92 zq65 zq70 zq81 zq87 zq88 zq89) Tryz.f137 [.v (.one (.str a0)), .v (.one (.int .i64 a1))] K = zb131 N zq127 zq71 zq129 zq92 zq87 a0 a1 (fun z2 z3 z4 z5 => K (.tup [.one (.tr false z2), .agg [.int .i64 z3, .int .i64 z4], .one (.bool z5)])) := by kernel_rfl
theorem e137_0 {β : Type} (N : Nat)  (a0 : ByteArray) (a1 : Int) (K : TV → Option β) : evFn lay (E137 N) Tryz.f137 [.v (.one (.str a0)), .v (.one (.int .i64 a1))] K = zj131 N a0 a1 (fun z2 z3 z4 z5 => K (.tup [.one (.tr false z2), .agg [.int .i64 z3, .int .i64 z4], .one (.bool z5)])) := (ve137_0 N (zj127 N) (zj71 N) (zj129 N) (zj92 N) (zj65 N) (zj70 N) (zj81 N) (zj87 N) (zj88 N) (zj89 N) a0 a1 K).trans (zt131 N a0 a1 (fun z2 z3 z4 z5 => K (.tup [.one (.tr false z2), .agg [.int .i64 z3, .int .i64 z4], .one (.bool z5)]))).symm
theorem o137 {β : Type} (N : Nat) : SpecOK (β := β) inv Tryz.prog 137 (S137 N) := by
  refine spec_of lay_ok mixed (E := E137 N) (specs_loops (specs_cons (o196 N) (specs_cons (o99 N) (specs_cons (o197 N) (specs_cons (o129 N) (specs_cons (o198 N) specs_nil)))))) muts_nil gs_nil Tryz.func137 (by kernel_rfl) 0 (by kernel_rfl) trivial fun args K r h => ?_
  unfold S137 VS137 at h
  split at h
  · exact (e137_0 N _ _ _).trans h
  · cases h
def VS68 {β : Type} (N : Nat) (zq132 : (a0 : ByteArray) → (a1 : Int) → (k : Int → Int → Bool → Option β) → Option β) : Rv.Spec β := fun args K => match args with
  | [.v (.one (.str a0)), .v (.one (.int .i64 a1))] => zq132 a0 a1 (fun z2 z3 z4 => K (.tup [.agg [.int .i64 z2, .int .i64 z3], .one (.bool z4)]))
  | _ => none
def S68 {β : Type} (N : Nat) : Rv.Spec β := VS68 N (zj132 N)
def VE68 {β : Type} (N : Nat) (zq131 : (a0 : ByteArray) → (a1 : Int) → (k : Tr → Int → Int → Bool → Option β) → Option β) : Env β := ⟨[(137, VS137 N zq131)], [], [], [], ⟨[], [], [], []⟩⟩
def E68 {β : Type} (N : Nat) : Env β := VE68 N (zj131 N)
def zb132 {β : Type} (N : Nat) (zq131 : (a0 : ByteArray) → (a1 : Int) → (k : Tr → Int → Int → Bool → Option β) → Option β) (a0 : ByteArray) (a1 : Int) (k : Int → Int → Bool → Option β) : Option β :=
zq131 a0 a1 fun r5 r6 r7 r8 =>
k r6 r7 r8
theorem zt132 {β : Type} (N : Nat) (a0 : ByteArray) (a1 : Int) (k : Int → Int → Bool → Option β) : zj132 N a0 a1 k = zb132 N (zj131 N) a0 a1 k := by
  unfold zj132 zb132
  rfl
theorem ve68_0 {β : Type} (N : Nat) (zq131 : (a0 : ByteArray) → (a1 : Int) → (k : Tr → Int → Int → Bool → Option β) → Option β)  (a0 : ByteArray) (a1 : Int) (K : TV → Option β) : evFn lay (VE68 N zq131) Tryz.f68 [.v (.one (.str a0)), .v (.one (.int .i64 a1))] K = zb132 N zq131 a0 a1 (fun z2 z3 z4 => K (.tup [.agg [.int .i64 z2, .int .i64 z3], .one (.bool z4)])) := by kernel_rfl
theorem e68_0 {β : Type} (N : Nat)  (a0 : ByteArray) (a1 : Int) (K : TV → Option β) : evFn lay (E68 N) Tryz.f68 [.v (.one (.str a0)), .v (.one (.int .i64 a1))] K = zj132 N a0 a1 (fun z2 z3 z4 => K (.tup [.agg [.int .i64 z2, .int .i64 z3], .one (.bool z4)])) := (ve68_0 N (zj131 N) a0 a1 K).trans (zt132 N a0 a1 (fun z2 z3 z4 => K (.tup [.agg [.int .i64 z2, .int .i64 z3], .one (.bool z4)]))).symm
theorem o68 {β : Type} (N : Nat) : SpecOK (β := β) inv Tryz.prog 68 (S68 N) := by
  refine spec_of lay_ok mixed (E := E68 N) (specs_loops (specs_cons (o137 N) specs_nil)) muts_nil gs_nil Tryz.func68 (by kernel_rfl) 0 (by kernel_rfl) trivial fun args K r h => ?_
  unfold S68 VS68 at h
  split at h
  · exact (e68_0 N _ _ _).trans h
  · cases h
def VSF200 {β : Type} (N : Nat) (zq134 : Nat → ByteArray → (Tr → ByteArray → Option β) → Option β) (G : Nat) : Rv.Spec β := fun args K => match args with
  | [.v (.one (.str a0))] => zq134 G a0 (fun z1 z2 => K (.tup [.one (.tr false z1), .one (.str z2)]))
  | _ => none
def SF200 {β : Type} (N : Nat) (G : Nat) : Rv.Spec β := VSF200 N (zj134 N) G
def VS200 {β : Type} (N : Nat) (zq134 : Nat → ByteArray → (Tr → ByteArray → Option β) → Option β) : Rv.Spec β := VSF200 N zq134 N
def S200 {β : Type} (N : Nat) : Rv.Spec β := SF200 N N
def VE200 {β : Type} (N : Nat) (zq100 : (a0 : Int) → (k : Bool → Option β) → Option β) (zq134 : Nat → ByteArray → (Tr → ByteArray → Option β) → Option β) (G : Nat) : Env β := ⟨[(187, VS187 N zq100), (200, VSF200 N zq134 G)], [], [], [], ⟨[], [], [], []⟩⟩
def E200 {β : Type} (N : Nat) (G : Nat) : Env β := VE200 N (zj100 N) (zj134 N) G
def zb133 {β : Type} (N : Nat) (zq100 : (a0 : Int) → (k : Bool → Option β) → Option β) (self : ByteArray → (Tr → ByteArray → Option β) → Option β) (a0 : ByteArray) (k : Tr → ByteArray → Option β) : Option β :=
(cond ((a0.toList == ByteArray.empty.toList))
(k Tr.nil ByteArray.empty)
((gd ((decide (0 < (a0.size : Int))))
((gd ((decide (1 ≤ (a0.size : Int))))
(zq100 ((bt a0 0)) fun r3 =>
(cond r3
(k ((Tr.node ((bt a0 0)) 0 Tr.nil Tr.nil)) ((a0.extract (Int.toNat 1) a0.size)))
((cond (((bt a0 0) == 48))
(k ((Tr.node ((bt a0 0)) 0 Tr.nil Tr.nil)) ((a0.extract (Int.toNat 1) a0.size)))
((cond (((bt a0 0) == 49))
(k ((Tr.node ((bt a0 0)) 0 Tr.nil Tr.nil)) ((a0.extract (Int.toNat 1) a0.size)))
((cond (((bt a0 0) == 33))
(self ((a0.extract (Int.toNat 1) a0.size)) fun r4 r5 =>
(cond ((Tr.isNil r4))
(k Tr.nil ByteArray.empty)
(k ((Tr.node ((bt a0 0)) 0 r4 Tr.nil)) r5)))
((cond (((bt a0 0) == 38))
(self ((a0.extract (Int.toNat 1) a0.size)) fun r6 r7 =>
(cond ((Tr.isNil r6))
(k Tr.nil ByteArray.empty)
(self r7 fun r8 r9 =>
(cond ((Tr.isNil r8))
(k Tr.nil ByteArray.empty)
(k ((Tr.node ((bt a0 0)) 0 r6 r8)) r9)))))
((cond (((bt a0 0) == 124))
(self ((a0.extract (Int.toNat 1) a0.size)) fun r10 r11 =>
(cond ((Tr.isNil r10))
(k Tr.nil ByteArray.empty)
(self r11 fun r12 r13 =>
(cond ((Tr.isNil r12))
(k Tr.nil ByteArray.empty)
(k ((Tr.node ((bt a0 0)) 0 r10 r12)) r13)))))
((cond (((bt a0 0) == 94))
(self ((a0.extract (Int.toNat 1) a0.size)) fun r14 r15 =>
(cond ((Tr.isNil r14))
(k Tr.nil ByteArray.empty)
(self r15 fun r16 r17 =>
(cond ((Tr.isNil r16))
(k Tr.nil ByteArray.empty)
(k ((Tr.node ((bt a0 0)) 0 r14 r16)) r17)))))
(k Tr.nil ByteArray.empty))))))))))))))))))))
theorem zt133 {β : Type} (N : Nat) (self : ByteArray → (Tr → ByteArray → Option β) → Option β) (a0 : ByteArray) (k : Tr → ByteArray → Option β) : zj133 N self a0 k = zb133 N (zj100 N) self a0 k := by
  unfold zj133 zb133
  rfl
theorem ve200_0 {β : Type} (N : Nat) (zq100 : (a0 : Int) → (k : Bool → Option β) → Option β) (zq134 : Nat → ByteArray → (Tr → ByteArray → Option β) → Option β) (G : Nat)  (a0 : ByteArray) (K : TV → Option β) : evFn lay (VE200 N zq100 zq134 G) Tryz.f200 [.v (.one (.str a0))] K = zb133 N zq100 (zq134 G) a0 (fun z1 z2 => K (.tup [.one (.tr false z1), .one (.str z2)])) := by kernel_rfl
theorem e200_0 {β : Type} (N : Nat) (G : Nat)  (a0 : ByteArray) (K : TV → Option β) : evFn lay (E200 N G) Tryz.f200 [.v (.one (.str a0))] K = zj134 N (G + 1) a0 (fun z1 z2 => K (.tup [.one (.tr false z1), .one (.str z2)])) := (ve200_0 N (zj100 N) (zj134 N) G a0 K).trans (zt133 N (zj134 N G) a0 (fun z1 z2 => K (.tup [.one (.tr false z1), .one (.str z2)]))).symm
theorem z200 {β : Type} (N : Nat) : ∀ args K r, SF200 (β := β) N 0 args K = some r → (none : Option β) = some r := by
  intro args K r h
  unfold SF200 VSF200 at h
  split at h <;> exact h
theorem of200 {β : Type} (N : Nat) : ∀ G, SpecOK (β := β) inv Tryz.prog 200 (SF200 N G) := by
  intro G
  induction G with
  | zero => exact s_zero Tryz.func200 (by kernel_rfl) (z200 N)
  | succ G ih =>
    refine spec_of lay_ok mixed (E := E200 N G) (specs_loops (specs_cons (o187 N) (specs_cons ih specs_nil))) muts_nil gs_nil Tryz.func200 (by kernel_rfl) 0 (by kernel_rfl) trivial fun args K r h => ?_
    unfold SF200 VSF200 at h
    split at h
    · exact (e200_0 N G _ _).trans h
    · cases h
theorem o200 {β : Type} (N : Nat) : SpecOK (β := β) inv Tryz.prog 200 (S200 N) := of200 N N
def VS138 {β : Type} (N : Nat) (zq136 : (a0 : ByteArray) → (k : Tr → Bool → Option β) → Option β) : Rv.Spec β := fun args K => match args with
  | [.v (.one (.str a0))] => zq136 a0 (fun z1 z2 => K (.tup [.one (.tr false z1), .one (.bool z2)]))
  | _ => none
def S138 {β : Type} (N : Nat) : Rv.Spec β := VS138 N (zj136 N)
def VE138 {β : Type} (N : Nat) (zq134 : Nat → ByteArray → (Tr → ByteArray → Option β) → Option β) : Env β := ⟨[(200, VS200 N zq134)], [], [], [], ⟨[], [], [], []⟩⟩
def E138 {β : Type} (N : Nat) : Env β := VE138 N (zj134 N)
def zb136 {β : Type} (N : Nat) (zq134 : Nat → ByteArray → (Tr → ByteArray → Option β) → Option β) (a0 : ByteArray) (k : Tr → Bool → Option β) : Option β :=
(cond ((decide ((a0.size : Int) > 60)))
(k Tr.nil false)
(zq134 N a0 fun r3 r4 =>
(cond ((!(Tr.isNil r3)))
(k r3 ((r4.toList == ByteArray.empty.toList)))
(k r3 false))))
theorem zt136 {β : Type} (N : Nat) (a0 : ByteArray) (k : Tr → Bool → Option β) : zj136 N a0 k = zb136 N (zj134 N) a0 k := by
  unfold zj136 zb136
  rfl
theorem ve138_0 {β : Type} (N : Nat) (zq134 : Nat → ByteArray → (Tr → ByteArray → Option β) → Option β)  (a0 : ByteArray) (K : TV → Option β) : evFn lay (VE138 N zq134) Tryz.f138 [.v (.one (.str a0))] K = zb136 N zq134 a0 (fun z1 z2 => K (.tup [.one (.tr false z1), .one (.bool z2)])) := by kernel_rfl
theorem e138_0 {β : Type} (N : Nat)  (a0 : ByteArray) (K : TV → Option β) : evFn lay (E138 N) Tryz.f138 [.v (.one (.str a0))] K = zj136 N a0 (fun z1 z2 => K (.tup [.one (.tr false z1), .one (.bool z2)])) := (ve138_0 N (zj134 N) a0 K).trans (zt136 N a0 (fun z1 z2 => K (.tup [.one (.tr false z1), .one (.bool z2)]))).symm
theorem o138 {β : Type} (N : Nat) : SpecOK (β := β) inv Tryz.prog 138 (S138 N) := by
  refine spec_of lay_ok mixed (E := E138 N) (specs_loops (specs_cons (o200 N) specs_nil)) muts_nil gs_nil Tryz.func138 (by kernel_rfl) 0 (by kernel_rfl) trivial fun args K r h => ?_
  unfold S138 VS138 at h
  split at h
  · exact (e138_0 N _ _).trans h
  · cases h
end Go.Proofs.YtemihnclhcobnaaGreatDoor
