/- The functions that the claims reach answer as their texts do. -/
import Derived.Test.YtemihnclhcobnaaGreatDoorE5
namespace Go.Proofs.YtemihnclhcobnaaGreatDoor
open Go.Rv
set_option maxRecDepth 100000
set_option maxHeartbeats 2000000
set_option linter.unusedVariables false
def VS64 {β : Type} (N : Nat) (zq99 : (a0 : ByteArray) → (k : Int → Int → Bool → Option β) → Option β) : Rv.Spec β := fun args K => match args with
  | [.v (.one (.str a0))] => zq99 a0 (fun z1 z2 z3 => K (.tup [.agg [.int .i64 z1, .int .i64 z2], .one (.bool z3)]))
  | _ => none
def S64 {β : Type} (N : Nat) : Rv.Spec β := VS64 N (zj99 N)
def h64_0_0  (v0 : Int) (v1 : ByteArray) (v2 : Int) (v3 : Int) : St := ⟨tund :: .v (.one (.ptr 0 0)) :: .v (.one (.ptr 1 0)) :: tund :: tund :: tund :: .v (.one (.int .i64 v0)) :: tund :: tund :: tund :: tund :: tund :: tund :: tund :: tund :: tund :: tund :: tund :: tund :: tund :: tund :: tund :: tund :: tund :: tund :: [], [.cells 9 [.str v1], .cells 25 [.int .i64 v2, .int .i64 v3]]⟩
def x64_0_0_k0  (y0 : Bool) (y1 : Int) (y2 : Int) : St := ⟨tund :: tund :: .v (.one (.ptr 0 0)) :: .v (.one (.bool y0)) :: tund :: tund :: tund :: tund :: tund :: tund :: tund :: tund :: tund :: tund :: tund :: tund :: tund :: tund :: tund :: tund :: tund :: tund :: tund :: tund :: tund :: [], [.cells 25 [.int .i64 y1, .int .i64 y2]]⟩
def x64_0_0_k1  (y0 : Int) (y1 : Int) : St := ⟨tund :: tund :: .v (.one (.ptr 0 0)) :: tund :: tund :: tund :: tund :: tund :: tund :: tund :: tund :: tund :: tund :: tund :: tund :: tund :: tund :: tund :: tund :: tund :: tund :: tund :: tund :: tund :: tund :: [], [.cells 25 [.int .i64 y0, .int .i64 y1]]⟩
theorem fl64_0_0 (s : St) : refSt (h64_0_0 0 ByteArray.empty 0 0) s = h64_0_0 (intS (oneA (vT (nx tund s.tmps 6)))) (strS (nx .und (cellsB (nx .dead s.blks 0)) 0)) (intS (nx .und (cellsB (nx .dead s.blks 1)) 0)) (intS (nx .und (cellsB (nx .dead s.blks 1)) 1)) := by kernel_rfl
def VLS64_0 {β : Type} (N : Nat) (zq98 : Nat → Int → ByteArray → Int → Int → (Bool → Int → Int → Option β) → (Int → Int → Option β) → Option β) : LSpec β := fun s K => cond (shpSt (h64_0_0 0 ByteArray.empty 0 0) s) ((fun (v0 : Int) (v1 : ByteArray) (v2 : Int) (v3 : Int) => zq98  N v0 v1 v2 v3 (fun y0 y1 y2 => K .ret (x64_0_0_k0  y0 y1 y2)) (fun y0 y1 => K (.exit 0) (x64_0_0_k1  y0 y1))) (intS (oneA (vT (nx tund s.tmps 6)))) (strS (nx .und (cellsB (nx .dead s.blks 0)) 0)) (intS (nx .und (cellsB (nx .dead s.blks 1)) 0)) (intS (nx .und (cellsB (nx .dead s.blks 1)) 1))) (none)
def LS64_0 {β : Type} (N : Nat) : LSpec β := VLS64_0 N (zj98 N)
def VE64 {β : Type} (N : Nat) (zq92 : (a0 : Int) → (a1 : (Int → (Bool → Option β) → Option β)) → (k : Int → Int → Option β) → Option β) (zq65 : (a0 : Int) → (c0 : ByteArray) → (k : Bool → Option β) → Option β) (zq70 : (a0 : Int) → (c0 : Int) → (c1 : Int) → (k : Bool → Option β) → Option β) (zq81 : (a0 : Int) → (c0 : List (Int × Int)) → (k : Bool → Option β) → Option β) (zq87 : (a0 : Int) → (c0 : Tr) → (k : Bool → Option β) → Option β) (zq88 : (a0 : Int) → (c0 : Tr) → (k : Bool → Option β) → Option β) (zq89 : (a0 : Int) → (c0 : Int) → (k : Bool → Option β) → Option β) (zq96 : (a0 : Int) → (a1 : Int) → (k : ByteArray → Option β) → Option β) (zq98 : Nat → Int → ByteArray → Int → Int → (Bool → Int → Int → Option β) → (Int → Int → Option β) → Option β) : Env β := ⟨[(129, VS129 N zq92 zq65 zq70 zq81 zq87 zq88 zq89), (130, VS130 N zq65), (40, VS40 N zq96)], [], [(0, VLS64_0 N zq98)], [], ⟨[], [], [], []⟩⟩
def E64 {β : Type} (N : Nat) : Env β := VE64 N (zj92 N) (zj65 N) (zj70 N) (zj81 N) (zj87 N) (zj88 N) (zj89 N) (zj96 N) (zj98 N)
def zb97 {β : Type} (N : Nat) (zq92 : (a0 : Int) → (a1 : (Int → (Bool → Option β) → Option β)) → (k : Int → Int → Option β) → Option β) (zq65 : (a0 : Int) → (c0 : ByteArray) → (k : Bool → Option β) → Option β) (zq96 : (a0 : Int) → (a1 : Int) → (k : ByteArray → Option β) → Option β)  (v0 : Int) (v1 : ByteArray) (v2 : Int) (v3 : Int) (rec_ : Int → ByteArray → Int → Int → Option β) (k0 : Bool → Int → Int → Option β) (k1 : Int → Int → Option β) : Option β :=
(cond ((decide (v0 < 6)))
((gd ((decide (0 ≤ v0)))
((cond (((v1.size : Int) == (shlI .i64 1 v0)))
(zq92 v0 (fun x0 k => zq65 x0 v1 k) fun r4 r5 =>
zq96 r4 r5 fun r6 =>
(cond ((!(r6.toList == v1.toList)))
(k0 false 0 0)
(k0 true r4 r5)))
(rec_ ((w64 (v0 + 1))) v1 v2 v3)))))
(k1 v2 v3))
theorem zt97 {β : Type} (N : Nat)  (v0 : Int) (v1 : ByteArray) (v2 : Int) (v3 : Int) (rec_ : Int → ByteArray → Int → Int → Option β) (k0 : Bool → Int → Int → Option β) (k1 : Int → Int → Option β) : zj97 N v0 v1 v2 v3 rec_ k0 k1 = zb97 N (zj92 N) (zj65 N) (zj96 N) v0 v1 v2 v3 rec_ k0 k1 := by
  unfold zj97 zb97
  rfl
theorem vst64_0_0 {β : Type} (N : Nat) (zq92 : (a0 : Int) → (a1 : (Int → (Bool → Option β) → Option β)) → (k : Int → Int → Option β) → Option β) (zq65 : (a0 : Int) → (c0 : ByteArray) → (k : Bool → Option β) → Option β) (zq70 : (a0 : Int) → (c0 : Int) → (c1 : Int) → (k : Bool → Option β) → Option β) (zq81 : (a0 : Int) → (c0 : List (Int × Int)) → (k : Bool → Option β) → Option β) (zq87 : (a0 : Int) → (c0 : Tr) → (k : Bool → Option β) → Option β) (zq88 : (a0 : Int) → (c0 : Tr) → (k : Bool → Option β) → Option β) (zq89 : (a0 : Int) → (c0 : Int) → (k : Bool → Option β) → Option β) (zq96 : (a0 : Int) → (a1 : Int) → (k : ByteArray → Option β) → Option β) (zq98 : Nat → Int → ByteArray → Int → Int → (Bool → Int → Int → Option β) → (Int → Int → Option β) → Option β)  (v0 : Int) (v1 : ByteArray) (v2 : Int) (v3 : Int) (rec_ : St → Option β) (K : Exit → St → Option β) :
    ev lay (VE64 N zq92 zq65 zq70 zq81 zq87 zq88 zq89 zq96 zq98) (retMask Tryz.f64) (lp Tryz.f64 0).body (lp Tryz.f64 0).ex ((lp Tryz.f64 0).lv (retMask Tryz.f64)) (h64_0_0  v0 v1 v2 v3) (nextR (fun s' => rec_ (s'.tidy ((lp Tryz.f64 0).lv (retMask Tryz.f64)))) K) = zb97 N zq92 zq65 zq96  v0 v1 v2 v3 (fun v0 v1 v2 v3 => rec_ (h64_0_0  v0 v1 v2 v3)) (fun y0 y1 y2 => K .ret (x64_0_0_k0  y0 y1 y2)) (fun y0 y1 => K (.exit 0) (x64_0_0_k1  y0 y1)) := by kernel_rfl
theorem st64_0_0 {β : Type} (N : Nat)  (v0 : Int) (v1 : ByteArray) (v2 : Int) (v3 : Int) (rec_ : St → Option β) (K : Exit → St → Option β) :
    ev lay (E64 N) (retMask Tryz.f64) (lp Tryz.f64 0).body (lp Tryz.f64 0).ex ((lp Tryz.f64 0).lv (retMask Tryz.f64)) (h64_0_0  v0 v1 v2 v3) (nextR (fun s' => rec_ (s'.tidy ((lp Tryz.f64 0).lv (retMask Tryz.f64)))) K) = zj97 N  v0 v1 v2 v3 (fun v0 v1 v2 v3 => rec_ (h64_0_0  v0 v1 v2 v3)) (fun y0 y1 y2 => K .ret (x64_0_0_k0  y0 y1 y2)) (fun y0 y1 => K (.exit 0) (x64_0_0_k1  y0 y1)) := (vst64_0_0 N (zj92 N) (zj65 N) (zj70 N) (zj81 N) (zj87 N) (zj88 N) (zj89 N) (zj96 N) (zj98 N) v0 v1 v2 v3 rec_ K).trans (zt97 N  v0 v1 v2 v3 (fun v0 v1 v2 v3 => rec_ (h64_0_0  v0 v1 v2 v3)) (fun y0 y1 y2 => K .ret (x64_0_0_k0  y0 y1 y2)) (fun y0 y1 => K (.exit 0) (x64_0_0_k1  y0 y1))).symm
theorem ro64_0_0 {β : Type} (N : Nat)  (K : Exit → St → Option β) : ∀ (F : Nat) (v0 : Int) (v1 : ByteArray) (v2 : Int) (v3 : Int), (lp Tryz.f64 0).rounds lay (E64 N) (retMask Tryz.f64) F (h64_0_0  v0 v1 v2 v3) K = zj98 N  F v0 v1 v2 v3 (fun y0 y1 y2 => K .ret (x64_0_0_k0  y0 y1 y2)) (fun y0 y1 => K (.exit 0) (x64_0_0_k1  y0 y1)) := by
  intro F
  induction F with
  | zero => intros; rfl
  | succ F ih =>
    intros
    rw [rounds_next]
    refine (st64_0_0 N  _ _ _ _ (fun s => (lp Tryz.f64 0).rounds lay (E64 N) (retMask Tryz.f64) F s K) K).trans ?_
    simp only [ih]
    rfl
theorem lk64_0 {β : Type} (N : Nat) : lookL (E64 (β := β) N).loops (lp Tryz.f64 0).id = LS64_0 N := by kernel_rfl
theorem rk64_0 {β : Type} (N : Nat) : RoundsOK lay (E64 (β := β) N) (retMask Tryz.f64) (lp Tryz.f64 0) := by
  intro s K r h
  rw [lk64_0] at h
  unfold LS64_0 VLS64_0 at h
  cases hb : shpSt (h64_0_0 0 ByteArray.empty 0 0) s with
  | true =>
    rw [hb, cond_true] at h
    exact ⟨N, by rw [← shpSt_ref hb, fl64_0_0 s]; exact (ro64_0_0 N  K N (intS (oneA (vT (nx tund s.tmps 6)))) (strS (nx .und (cellsB (nx .dead s.blks 0)) 0)) (intS (nx .und (cellsB (nx .dead s.blks 1)) 0)) (intS (nx .und (cellsB (nx .dead s.blks 1)) 1))).trans h⟩
  | false =>
  rw [hb, cond_false] at h
  clear hb
  cases h
def zb99 {β : Type} (N : Nat) (zq98 : Nat → Int → ByteArray → Int → Int → (Bool → Int → Int → Option β) → (Int → Int → Option β) → Option β) (a0 : ByteArray) (k : Int → Int → Bool → Option β) : Option β :=
zq98  N 0 a0 0 0 (fun e7_0 e7_1 e7_2 =>
k e7_1 e7_2 e7_0) (fun e8_0 e8_1 =>
k 0 0 false)
theorem zt99 {β : Type} (N : Nat) (a0 : ByteArray) (k : Int → Int → Bool → Option β) : zj99 N a0 k = zb99 N (zj98 N) a0 k := by
  unfold zj99 zb99
  rfl
theorem ve64_0 {β : Type} (N : Nat) (zq92 : (a0 : Int) → (a1 : (Int → (Bool → Option β) → Option β)) → (k : Int → Int → Option β) → Option β) (zq65 : (a0 : Int) → (c0 : ByteArray) → (k : Bool → Option β) → Option β) (zq70 : (a0 : Int) → (c0 : Int) → (c1 : Int) → (k : Bool → Option β) → Option β) (zq81 : (a0 : Int) → (c0 : List (Int × Int)) → (k : Bool → Option β) → Option β) (zq87 : (a0 : Int) → (c0 : Tr) → (k : Bool → Option β) → Option β) (zq88 : (a0 : Int) → (c0 : Tr) → (k : Bool → Option β) → Option β) (zq89 : (a0 : Int) → (c0 : Int) → (k : Bool → Option β) → Option β) (zq96 : (a0 : Int) → (a1 : Int) → (k : ByteArray → Option β) → Option β) (zq98 : Nat → Int → ByteArray → Int → Int → (Bool → Int → Int → Option β) → (Int → Int → Option β) → Option β)  (a0 : ByteArray) (K : TV → Option β) : evFn lay (VE64 N zq92 zq65 zq70 zq81 zq87 zq88 zq89 zq96 zq98) Tryz.f64 [.v (.one (.str a0))] K = zb99 N zq98 a0 (fun z1 z2 z3 => K (.tup [.agg [.int .i64 z1, .int .i64 z2], .one (.bool z3)])) := by kernel_rfl
theorem e64_0 {β : Type} (N : Nat)  (a0 : ByteArray) (K : TV → Option β) : evFn lay (E64 N) Tryz.f64 [.v (.one (.str a0))] K = zj99 N a0 (fun z1 z2 z3 => K (.tup [.agg [.int .i64 z1, .int .i64 z2], .one (.bool z3)])) := (ve64_0 N (zj92 N) (zj65 N) (zj70 N) (zj81 N) (zj87 N) (zj88 N) (zj89 N) (zj96 N) (zj98 N) a0 K).trans (zt99 N a0 (fun z1 z2 z3 => K (.tup [.agg [.int .i64 z1, .int .i64 z2], .one (.bool z3)]))).symm
theorem o64 {β : Type} (N : Nat) : SpecOK (β := β) inv Tryz.prog 64 (S64 N) := by
  refine spec_of lay_ok mixed (E := E64 N) (specs_loops (specs_cons (o129 N) (specs_cons (o130 N) (specs_cons (o40 N) specs_nil)))) muts_nil gs_nil Tryz.func64 (by kernel_rfl) 1 (by kernel_rfl) ⟨trivial, rk64_0 N⟩ fun args K r h => ?_
  unfold S64 VS64 at h
  split at h
  · exact (e64_0 N _ _).trans h
  · cases h
def VS187 {β : Type} (N : Nat) (zq100 : (a0 : Int) → (k : Bool → Option β) → Option β) : Rv.Spec β := fun args K => match args with
  | [.v (.one (.int .u8 a0))] => zq100 a0 (fun z1 => K (.v (.one (.bool z1))))
  | _ => none
def S187 {β : Type} (N : Nat) : Rv.Spec β := VS187 N (zj100 N)
def VE187 {β : Type} (N : Nat) : Env β := ⟨[], [], [], [], ⟨[], [], [], []⟩⟩
def E187 {β : Type} (N : Nat) : Env β := VE187 N
def zb100 {β : Type} (N : Nat) (a0 : Int) (k : Bool → Option β) : Option β :=
(cond ((decide (a0 ≥ 97)))
(k ((decide (a0 < 102))))
(k false))
theorem zt100 {β : Type} (N : Nat) (a0 : Int) (k : Bool → Option β) : zj100 N a0 k = zb100 N a0 k := by
  unfold zj100 zb100
  rfl
theorem ve187_0 {β : Type} (N : Nat)  (a0 : Int) (K : TV → Option β) : evFn lay (VE187 N) Tryz.f187 [.v (.one (.int .u8 a0))] K = zb100 N a0 (fun z1 => K (.v (.one (.bool z1)))) := by kernel_rfl
theorem e187_0 {β : Type} (N : Nat)  (a0 : Int) (K : TV → Option β) : evFn lay (E187 N) Tryz.f187 [.v (.one (.int .u8 a0))] K = zj100 N a0 (fun z1 => K (.v (.one (.bool z1)))) := (ve187_0 N a0 K).trans (zt100 N a0 (fun z1 => K (.v (.one (.bool z1))))).symm
theorem o187 {β : Type} (N : Nat) : SpecOK (β := β) inv Tryz.prog 187 (S187 N) := by
  refine spec_of lay_ok mixed (E := E187 N) (specs_loops specs_nil) muts_nil gs_nil Tryz.func187 (by kernel_rfl) 0 (by kernel_rfl) trivial fun args K r h => ?_
  unfold S187 VS187 at h
  split at h
  · exact (e187_0 N _ _).trans h
  · cases h
def VS188 {β : Type} (N : Nat) (zq103 : (a0 : Int) → (a1 : Int) → (a2 : Int) → (k : ByteArray → Option β) → Option β) : Rv.Spec β := fun args K => match args with
  | [.v (.one (.int .i64 a0)), .v (.agg [.int .i64 a1, .int .i64 a2])] => zq103 a0 a1 a2 (fun z3 => K (.v (.one (.str z3))))
  | _ => none
def S188 {β : Type} (N : Nat) : Rv.Spec β := VS188 N (zj103 N)
def h188_0_0  (v0 : Int) (v1 : Int) (v2 : Int) (v3 : Int) (v4 : List Int) : St := ⟨tund :: tund :: tund :: .v (.one (.ptr 0 0)) :: tund :: .v (.one (.row 1)) :: tund :: tund :: tund :: tund :: tund :: .v (.one (.int .i64 v0)) :: .v (.one (.int .i64 v1)) :: tund :: tund :: tund :: tund :: tund :: tund :: tund :: tund :: tund :: tund :: tund :: tund :: tund :: tund :: tund :: tund :: tund :: tund :: tund :: tund :: tund :: tund :: tund :: tund :: tund :: tund :: tund :: tund :: tund :: [], [.cells 93 [.int .i64 v2, .int .i64 v3], .row 5 (.ints .u8 v4)]⟩
def x188_0_0_k0  (y0 : List Int) : St := ⟨tund :: tund :: tund :: tund :: tund :: .v (.one (.row 0)) :: tund :: tund :: tund :: tund :: tund :: tund :: tund :: tund :: tund :: tund :: tund :: tund :: tund :: tund :: tund :: tund :: tund :: tund :: tund :: tund :: tund :: tund :: tund :: tund :: tund :: tund :: tund :: tund :: tund :: tund :: tund :: tund :: tund :: tund :: tund :: tund :: [], [.row 5 (.ints .u8 y0)]⟩
theorem fl188_0_0 (s : St) : refSt (h188_0_0 0 0 0 0 []) s = h188_0_0 (intS (oneA (vT (nx tund s.tmps 11)))) (intS (oneA (vT (nx tund s.tmps 12)))) (intS (nx .und (cellsB (nx .dead s.blks 0)) 0)) (intS (nx .und (cellsB (nx .dead s.blks 0)) 1)) (rInts (rowB_ (nx .dead s.blks 1))) := by kernel_rfl
def VLS188_0 {β : Type} (N : Nat) (zq102 : Nat → Int → Int → Int → Int → List Int → (List Int → Option β) → Option β) : LSpec β := fun s K => cond (shpSt (h188_0_0 0 0 0 0 []) s) ((fun (v0 : Int) (v1 : Int) (v2 : Int) (v3 : Int) (v4 : List Int) => zq102  N v0 v1 v2 v3 v4 (fun y0 => K (.exit 0) (x188_0_0_k0  y0))) (intS (oneA (vT (nx tund s.tmps 11)))) (intS (oneA (vT (nx tund s.tmps 12)))) (intS (nx .und (cellsB (nx .dead s.blks 0)) 0)) (intS (nx .und (cellsB (nx .dead s.blks 0)) 1)) (rInts (rowB_ (nx .dead s.blks 1)))) (none)
def LS188_0 {β : Type} (N : Nat) : LSpec β := VLS188_0 N (zj102 N)
def VE188 {β : Type} (N : Nat) (zq73 : (a0 : Int) → (a1 : Int) → (a2 : Int) → (k : Bool → Option β) → Option β) (zq102 : Nat → Int → Int → Int → Int → List Int → (List Int → Option β) → Option β) : Env β := ⟨[(192, VS192 N zq73)], [], [(0, VLS188_0 N zq102)], [], ⟨[], [], [], []⟩⟩
def E188 {β : Type} (N : Nat) : Env β := VE188 N (zj73 N) (zj102 N)
def zb101 {β : Type} (N : Nat)  (v0 : Int) (v1 : Int) (v2 : Int) (v3 : Int) (v4 : List Int) (rec_ : Int → Int → Int → Int → List Int → Option β) (k0 : List Int → Option β) : Option β :=
(cond ((decide (v1 < v0)))
((gd ((decide (0 ≤ v1)))
((cond (((bits .and .i64 (shrI .i64 v2 v1) 1) == 0))
(rec_ v0 ((w64 (v1 + 1))) v2 v3 v4)
((gd ((decide (0 ≤ v1)))
((cond (((bits .and .i64 (shrI .i64 v3 v1) 1) == 0))
((gd ((decide ((v4.length + ((([] : List Int) ++ [33])).length) * 1 ≤ 140737488355328)))
((gd ((decide ((((v4 ++ (([] : List Int) ++ [33]))).length + ((([] : List Int) ++ [(w8 (97 + (w8 (v1))))])).length) * 1 ≤ 140737488355328)))
(rec_ v0 ((w64 (v1 + 1))) v2 v3 (((v4 ++ (([] : List Int) ++ [33])) ++ (([] : List Int) ++ [(w8 (97 + (w8 (v1))))]))))))))
((gd ((decide ((v4.length + ((([] : List Int) ++ [(w8 (97 + (w8 (v1))))])).length) * 1 ≤ 140737488355328)))
(rec_ v0 ((w64 (v1 + 1))) v2 v3 ((v4 ++ (([] : List Int) ++ [(w8 (97 + (w8 (v1))))]))))))))))))))
(k0 v4))
theorem zt101 {β : Type} (N : Nat)  (v0 : Int) (v1 : Int) (v2 : Int) (v3 : Int) (v4 : List Int) (rec_ : Int → Int → Int → Int → List Int → Option β) (k0 : List Int → Option β) : zj101 N v0 v1 v2 v3 v4 rec_ k0 = zb101 N v0 v1 v2 v3 v4 rec_ k0 := by
  unfold zj101 zb101
  rfl
theorem vst188_0_0 {β : Type} (N : Nat) (zq73 : (a0 : Int) → (a1 : Int) → (a2 : Int) → (k : Bool → Option β) → Option β) (zq102 : Nat → Int → Int → Int → Int → List Int → (List Int → Option β) → Option β)  (v0 : Int) (v1 : Int) (v2 : Int) (v3 : Int) (v4 : List Int) (rec_ : St → Option β) (K : Exit → St → Option β) :
    ev lay (VE188 N zq73 zq102) (retMask Tryz.f188) (lp Tryz.f188 0).body (lp Tryz.f188 0).ex ((lp Tryz.f188 0).lv (retMask Tryz.f188)) (h188_0_0  v0 v1 v2 v3 v4) (nextR (fun s' => rec_ (s'.tidy ((lp Tryz.f188 0).lv (retMask Tryz.f188)))) K) = zb101 N  v0 v1 v2 v3 v4 (fun v0 v1 v2 v3 v4 => rec_ (h188_0_0  v0 v1 v2 v3 v4)) (fun y0 => K (.exit 0) (x188_0_0_k0  y0)) := by kernel_rfl
theorem st188_0_0 {β : Type} (N : Nat)  (v0 : Int) (v1 : Int) (v2 : Int) (v3 : Int) (v4 : List Int) (rec_ : St → Option β) (K : Exit → St → Option β) :
    ev lay (E188 N) (retMask Tryz.f188) (lp Tryz.f188 0).body (lp Tryz.f188 0).ex ((lp Tryz.f188 0).lv (retMask Tryz.f188)) (h188_0_0  v0 v1 v2 v3 v4) (nextR (fun s' => rec_ (s'.tidy ((lp Tryz.f188 0).lv (retMask Tryz.f188)))) K) = zj101 N  v0 v1 v2 v3 v4 (fun v0 v1 v2 v3 v4 => rec_ (h188_0_0  v0 v1 v2 v3 v4)) (fun y0 => K (.exit 0) (x188_0_0_k0  y0)) := (vst188_0_0 N (zj73 N) (zj102 N) v0 v1 v2 v3 v4 rec_ K).trans (zt101 N  v0 v1 v2 v3 v4 (fun v0 v1 v2 v3 v4 => rec_ (h188_0_0  v0 v1 v2 v3 v4)) (fun y0 => K (.exit 0) (x188_0_0_k0  y0))).symm
theorem ro188_0_0 {β : Type} (N : Nat)  (K : Exit → St → Option β) : ∀ (F : Nat) (v0 : Int) (v1 : Int) (v2 : Int) (v3 : Int) (v4 : List Int), (lp Tryz.f188 0).rounds lay (E188 N) (retMask Tryz.f188) F (h188_0_0  v0 v1 v2 v3 v4) K = zj102 N  F v0 v1 v2 v3 v4 (fun y0 => K (.exit 0) (x188_0_0_k0  y0)) := by
  intro F
  induction F with
  | zero => intros; rfl
  | succ F ih =>
    intros
    rw [rounds_next]
    refine (st188_0_0 N  _ _ _ _ _ (fun s => (lp Tryz.f188 0).rounds lay (E188 N) (retMask Tryz.f188) F s K) K).trans ?_
    simp only [ih]
    rfl
theorem lk188_0 {β : Type} (N : Nat) : lookL (E188 (β := β) N).loops (lp Tryz.f188 0).id = LS188_0 N := by kernel_rfl
theorem rk188_0 {β : Type} (N : Nat) : RoundsOK lay (E188 (β := β) N) (retMask Tryz.f188) (lp Tryz.f188 0) := by
  intro s K r h
  rw [lk188_0] at h
  unfold LS188_0 VLS188_0 at h
  cases hb : shpSt (h188_0_0 0 0 0 0 []) s with
  | true =>
    rw [hb, cond_true] at h
    exact ⟨N, by rw [← shpSt_ref hb, fl188_0_0 s]; exact (ro188_0_0 N  K N (intS (oneA (vT (nx tund s.tmps 11)))) (intS (oneA (vT (nx tund s.tmps 12)))) (intS (nx .und (cellsB (nx .dead s.blks 0)) 0)) (intS (nx .und (cellsB (nx .dead s.blks 0)) 1)) (rInts (rowB_ (nx .dead s.blks 1)))).trans h⟩
  | false =>
  rw [hb, cond_false] at h
  clear hb
  cases h
def zb103 {β : Type} (N : Nat) (zq73 : (a0 : Int) → (a1 : Int) → (a2 : Int) → (k : Bool → Option β) → Option β) (zq102 : Nat → Int → Int → Int → Int → List Int → (List Int → Option β) → Option β) (a0 : Int) (a1 : Int) (a2 : Int) (k : ByteArray → Option β) : Option β :=
zq73 a0 a1 a2 fun r4 =>
(cond (!r4)
(k ByteArray.empty)
(zq102  N a0 0 a1 a2 (([] : List Int)) (fun e5_0 =>
(cond (((e5_0.length : Int) == 0))
(k ((strOf [49])))
(k ((strOf e5_0)))))))
theorem zt103 {β : Type} (N : Nat) (a0 : Int) (a1 : Int) (a2 : Int) (k : ByteArray → Option β) : zj103 N a0 a1 a2 k = zb103 N (zj73 N) (zj102 N) a0 a1 a2 k := by
  unfold zj103 zb103
  rfl
theorem ve188_0 {β : Type} (N : Nat) (zq73 : (a0 : Int) → (a1 : Int) → (a2 : Int) → (k : Bool → Option β) → Option β) (zq102 : Nat → Int → Int → Int → Int → List Int → (List Int → Option β) → Option β)  (a0 : Int) (a1 : Int) (a2 : Int) (K : TV → Option β) : evFn lay (VE188 N zq73 zq102) Tryz.f188 [.v (.one (.int .i64 a0)), .v (.agg [.int .i64 a1, .int .i64 a2])] K = zb103 N zq73 zq102 a0 a1 a2 (fun z3 => K (.v (.one (.str z3)))) := by kernel_rfl
theorem e188_0 {β : Type} (N : Nat)  (a0 : Int) (a1 : Int) (a2 : Int) (K : TV → Option β) : evFn lay (E188 N) Tryz.f188 [.v (.one (.int .i64 a0)), .v (.agg [.int .i64 a1, .int .i64 a2])] K = zj103 N a0 a1 a2 (fun z3 => K (.v (.one (.str z3)))) := (ve188_0 N (zj73 N) (zj102 N) a0 a1 a2 K).trans (zt103 N a0 a1 a2 (fun z3 => K (.v (.one (.str z3))))).symm
theorem o188 {β : Type} (N : Nat) : SpecOK (β := β) inv Tryz.prog 188 (S188 N) := by
  refine spec_of lay_ok mixed (E := E188 N) (specs_loops (specs_cons (o192 N) specs_nil)) muts_nil gs_nil Tryz.func188 (by kernel_rfl) 1 (by kernel_rfl) ⟨trivial, rk188_0 N⟩ fun args K r h => ?_
  unfold S188 VS188 at h
  split at h
  · exact (e188_0 N _ _ _ _).trans h
  · cases h
def VS132 {β : Type} (N : Nat) (zq106 : (a0 : Int) → (a1 : ByteArray) → (k : Int → Int → Bool → Option β) → Option β) : Rv.Spec β := fun args K => match args with
  | [.v (.one (.int .i64 a0)), .v (.one (.str a1))] => zq106 a0 a1 (fun z2 z3 z4 => K (.tup [.agg [.int .i64 z2, .int .i64 z3], .one (.bool z4)]))
  | _ => none
def S132 {β : Type} (N : Nat) : Rv.Spec β := VS132 N (zj106 N)
def h132_0_0  (v0 : Int) (v1 : ByteArray) (v2 : Int) (v3 : Int) (v4 : Int) (v5 : Int) (v6 : Int) (v7 : Int) (v8 : Int) : St := ⟨.v (.one (.int .i64 v0)) :: .v (.one (.str v1)) :: tund :: tund :: .v (.one (.ptr 0 0)) :: tund :: .v (.one (.ptr 1 0)) :: .v (.one (.int .i64 v2)) :: tund :: tund :: tund :: tund :: .v (.one (.int .i64 v3)) :: .v (.one (.int .i64 v4)) :: tund :: tund :: tund :: tund :: tund :: tund :: tund :: tund :: tund :: tund :: tund :: tund :: tund :: tund :: tund :: tund :: tund :: tund :: tund :: tund :: tund :: tund :: tund :: tund :: tund :: tund :: tund :: tund :: tund :: tund :: tund :: tund :: tund :: tund :: tund :: tund :: tund :: tund :: tund :: tund :: tund :: tund :: tund :: [], [.cells 93 [.int .i64 v5, .int .i64 v6], .cells 93 [.int .i64 v7, .int .i64 v8]]⟩
def x132_0_0_k0  (y0 : Int) (y1 : ByteArray) (y2 : Int) (y3 : Int) (y4 : Int) (y5 : Int) : St := ⟨.v (.one (.int .i64 y0)) :: .v (.one (.str y1)) :: tund :: tund :: .v (.one (.ptr 0 0)) :: tund :: .v (.one (.ptr 1 0)) :: tund :: tund :: tund :: tund :: tund :: tund :: tund :: tund :: tund :: tund :: tund :: tund :: tund :: tund :: tund :: tund :: tund :: tund :: tund :: tund :: tund :: tund :: tund :: tund :: tund :: tund :: tund :: tund :: tund :: tund :: tund :: tund :: tund :: tund :: tund :: tund :: tund :: tund :: tund :: tund :: tund :: tund :: tund :: tund :: tund :: tund :: tund :: tund :: tund :: tund :: [], [.cells 93 [.int .i64 y2, .int .i64 y3], .cells 93 [.int .i64 y4, .int .i64 y5]]⟩
theorem fl132_0_0 (s : St) : refSt (h132_0_0 0 ByteArray.empty 0 0 0 0 0 0 0) s = h132_0_0 (intS (oneA (vT (nx tund s.tmps 0)))) (strS (oneA (vT (nx tund s.tmps 1)))) (intS (oneA (vT (nx tund s.tmps 7)))) (intS (oneA (vT (nx tund s.tmps 12)))) (intS (oneA (vT (nx tund s.tmps 13)))) (intS (nx .und (cellsB (nx .dead s.blks 0)) 0)) (intS (nx .und (cellsB (nx .dead s.blks 0)) 1)) (intS (nx .und (cellsB (nx .dead s.blks 1)) 0)) (intS (nx .und (cellsB (nx .dead s.blks 1)) 1)) := by kernel_rfl
def VLS132_0 {β : Type} (N : Nat) (zq105 : Nat → Int → ByteArray → Int → Int → Int → Int → Int → Int → Int → (Int → ByteArray → Int → Int → Int → Int → Option β) → Option β) : LSpec β := fun s K => cond (shpSt (h132_0_0 0 ByteArray.empty 0 0 0 0 0 0 0) s) ((fun (v0 : Int) (v1 : ByteArray) (v2 : Int) (v3 : Int) (v4 : Int) (v5 : Int) (v6 : Int) (v7 : Int) (v8 : Int) => zq105  N v0 v1 v2 v3 v4 v5 v6 v7 v8 (fun y0 y1 y2 y3 y4 y5 => K (.exit 0) (x132_0_0_k0  y0 y1 y2 y3 y4 y5))) (intS (oneA (vT (nx tund s.tmps 0)))) (strS (oneA (vT (nx tund s.tmps 1)))) (intS (oneA (vT (nx tund s.tmps 7)))) (intS (oneA (vT (nx tund s.tmps 12)))) (intS (oneA (vT (nx tund s.tmps 13)))) (intS (nx .und (cellsB (nx .dead s.blks 0)) 0)) (intS (nx .und (cellsB (nx .dead s.blks 0)) 1)) (intS (nx .und (cellsB (nx .dead s.blks 1)) 0)) (intS (nx .und (cellsB (nx .dead s.blks 1)) 1))) (none)
def LS132_0 {β : Type} (N : Nat) : LSpec β := VLS132_0 N (zj105 N)
def VE132 {β : Type} (N : Nat) (zq100 : (a0 : Int) → (k : Bool → Option β) → Option β) (zq103 : (a0 : Int) → (a1 : Int) → (a2 : Int) → (k : ByteArray → Option β) → Option β) (zq105 : Nat → Int → ByteArray → Int → Int → Int → Int → Int → Int → Int → (Int → ByteArray → Int → Int → Int → Int → Option β) → Option β) : Env β := ⟨[(187, VS187 N zq100), (188, VS188 N zq103)], [], [(0, VLS132_0 N zq105)], [], ⟨[], [], [], []⟩⟩
def E132 {β : Type} (N : Nat) : Env β := VE132 N (zj100 N) (zj103 N) (zj105 N)
def zb104 {β : Type} (N : Nat) (zq100 : (a0 : Int) → (k : Bool → Option β) → Option β)  (v0 : Int) (v1 : ByteArray) (v2 : Int) (v3 : Int) (v4 : Int) (v5 : Int) (v6 : Int) (v7 : Int) (v8 : Int) (rec_ : Int → ByteArray → Int → Int → Int → Int → Int → Int → Int → Option β) (k0 : Int → ByteArray → Int → Int → Int → Int → Option β) : Option β :=
(cond ((decide (v4 < v3)))
((gd ((decide (0 ≤ v4)))
((gd ((decide (v4 < (v1.size : Int))))
((cond (((bt v1 v4) == 33))
(rec_ v0 v1 0 v3 ((w64 (v4 + 1))) v5 v6 v7 v8)
((gd ((decide (0 ≤ v4)))
((gd ((decide (v4 < (v1.size : Int))))
(zq100 ((bt v1 v4)) fun r5 =>
(cond r5
((gd ((decide (0 ≤ v4)))
((gd ((decide (v4 < (v1.size : Int))))
((gd ((decide (0 ≤ (w8 ((bt v1 v4) - 97)))))
((gd ((decide (0 ≤ v4)))
((gd ((decide (v4 < (v1.size : Int))))
((gd ((decide (0 ≤ (w8 ((bt v1 v4) - 97)))))
(rec_ v0 v1 1 v3 ((w64 (v4 + 1))) v5 v6 ((bits .or .i64 v7 (shlI .i64 1 (w8 ((bt v1 v4) - 97))))) ((bits .or .i64 v8 (shlI .i64 v2 (w8 ((bt v1 v4) - 97))))))))))))))))))
(rec_ v0 v1 v2 v3 ((w64 (v4 + 1))) v5 v6 v7 v8)))))))))))))
(k0 v0 v1 v5 v6 v7 v8))
theorem zt104 {β : Type} (N : Nat)  (v0 : Int) (v1 : ByteArray) (v2 : Int) (v3 : Int) (v4 : Int) (v5 : Int) (v6 : Int) (v7 : Int) (v8 : Int) (rec_ : Int → ByteArray → Int → Int → Int → Int → Int → Int → Int → Option β) (k0 : Int → ByteArray → Int → Int → Int → Int → Option β) : zj104 N v0 v1 v2 v3 v4 v5 v6 v7 v8 rec_ k0 = zb104 N (zj100 N) v0 v1 v2 v3 v4 v5 v6 v7 v8 rec_ k0 := by
  unfold zj104 zb104
  rfl
theorem vst132_0_0 {β : Type} (N : Nat) (zq100 : (a0 : Int) → (k : Bool → Option β) → Option β) (zq103 : (a0 : Int) → (a1 : Int) → (a2 : Int) → (k : ByteArray → Option β) → Option β) (zq105 : Nat → Int → ByteArray → Int → Int → Int → Int → Int → Int → Int → (Int → ByteArray → Int → Int → Int → Int → Option β) → Option β)  (v0 : Int) (v1 : ByteArray) (v2 : Int) (v3 : Int) (v4 : Int) (v5 : Int) (v6 : Int) (v7 : Int) (v8 : Int) (rec_ : St → Option β) (K : Exit → St → Option β) :
    ev lay (VE132 N zq100 zq103 zq105) (retMask Tryz.f132) (lp Tryz.f132 0).body (lp Tryz.f132 0).ex ((lp Tryz.f132 0).lv (retMask Tryz.f132)) (h132_0_0  v0 v1 v2 v3 v4 v5 v6 v7 v8) (nextR (fun s' => rec_ (s'.tidy ((lp Tryz.f132 0).lv (retMask Tryz.f132)))) K) = zb104 N zq100  v0 v1 v2 v3 v4 v5 v6 v7 v8 (fun v0 v1 v2 v3 v4 v5 v6 v7 v8 => rec_ (h132_0_0  v0 v1 v2 v3 v4 v5 v6 v7 v8)) (fun y0 y1 y2 y3 y4 y5 => K (.exit 0) (x132_0_0_k0  y0 y1 y2 y3 y4 y5)) := by kernel_rfl
theorem st132_0_0 {β : Type} (N : Nat)  (v0 : Int) (v1 : ByteArray) (v2 : Int) (v3 : Int) (v4 : Int) (v5 : Int) (v6 : Int) (v7 : Int) (v8 : Int) (rec_ : St → Option β) (K : Exit → St → Option β) :
    ev lay (E132 N) (retMask Tryz.f132) (lp Tryz.f132 0).body (lp Tryz.f132 0).ex ((lp Tryz.f132 0).lv (retMask Tryz.f132)) (h132_0_0  v0 v1 v2 v3 v4 v5 v6 v7 v8) (nextR (fun s' => rec_ (s'.tidy ((lp Tryz.f132 0).lv (retMask Tryz.f132)))) K) = zj104 N  v0 v1 v2 v3 v4 v5 v6 v7 v8 (fun v0 v1 v2 v3 v4 v5 v6 v7 v8 => rec_ (h132_0_0  v0 v1 v2 v3 v4 v5 v6 v7 v8)) (fun y0 y1 y2 y3 y4 y5 => K (.exit 0) (x132_0_0_k0  y0 y1 y2 y3 y4 y5)) := (vst132_0_0 N (zj100 N) (zj103 N) (zj105 N) v0 v1 v2 v3 v4 v5 v6 v7 v8 rec_ K).trans (zt104 N  v0 v1 v2 v3 v4 v5 v6 v7 v8 (fun v0 v1 v2 v3 v4 v5 v6 v7 v8 => rec_ (h132_0_0  v0 v1 v2 v3 v4 v5 v6 v7 v8)) (fun y0 y1 y2 y3 y4 y5 => K (.exit 0) (x132_0_0_k0  y0 y1 y2 y3 y4 y5))).symm
theorem ro132_0_0 {β : Type} (N : Nat)  (K : Exit → St → Option β) : ∀ (F : Nat) (v0 : Int) (v1 : ByteArray) (v2 : Int) (v3 : Int) (v4 : Int) (v5 : Int) (v6 : Int) (v7 : Int) (v8 : Int), (lp Tryz.f132 0).rounds lay (E132 N) (retMask Tryz.f132) F (h132_0_0  v0 v1 v2 v3 v4 v5 v6 v7 v8) K = zj105 N  F v0 v1 v2 v3 v4 v5 v6 v7 v8 (fun y0 y1 y2 y3 y4 y5 => K (.exit 0) (x132_0_0_k0  y0 y1 y2 y3 y4 y5)) := by
  intro F
  induction F with
  | zero => intros; rfl
  | succ F ih =>
    intros
    rw [rounds_next]
    refine (st132_0_0 N  _ _ _ _ _ _ _ _ _ (fun s => (lp Tryz.f132 0).rounds lay (E132 N) (retMask Tryz.f132) F s K) K).trans ?_
    simp only [ih]
    rfl
theorem lk132_0 {β : Type} (N : Nat) : lookL (E132 (β := β) N).loops (lp Tryz.f132 0).id = LS132_0 N := by kernel_rfl
theorem rk132_0 {β : Type} (N : Nat) : RoundsOK lay (E132 (β := β) N) (retMask Tryz.f132) (lp Tryz.f132 0) := by
  intro s K r h
  rw [lk132_0] at h
  unfold LS132_0 VLS132_0 at h
  cases hb : shpSt (h132_0_0 0 ByteArray.empty 0 0 0 0 0 0 0) s with
  | true =>
    rw [hb, cond_true] at h
    exact ⟨N, by rw [← shpSt_ref hb, fl132_0_0 s]; exact (ro132_0_0 N  K N (intS (oneA (vT (nx tund s.tmps 0)))) (strS (oneA (vT (nx tund s.tmps 1)))) (intS (oneA (vT (nx tund s.tmps 7)))) (intS (oneA (vT (nx tund s.tmps 12)))) (intS (oneA (vT (nx tund s.tmps 13)))) (intS (nx .und (cellsB (nx .dead s.blks 0)) 0)) (intS (nx .und (cellsB (nx .dead s.blks 0)) 1)) (intS (nx .und (cellsB (nx .dead s.blks 1)) 0)) (intS (nx .und (cellsB (nx .dead s.blks 1)) 1))).trans h⟩
  | false =>
  rw [hb, cond_false] at h
  clear hb
  cases h
def zb106 {β : Type} (N : Nat) (zq105 : Nat → Int → ByteArray → Int → Int → Int → Int → Int → Int → Int → (Int → ByteArray → Int → Int → Int → Int → Option β) → Option β) (zq103 : (a0 : Int) → (a1 : Int) → (a2 : Int) → (k : ByteArray → Option β) → Option β) (a0 : Int) (a1 : ByteArray) (k : Int → Int → Bool → Option β) : Option β :=
(cond ((!(a1.toList == ((strOf [49])).toList)))
(zq105  N a0 a1 1 ((a1.size : Int)) 0 0 0 0 0 (fun e6_0 e6_1 e6_2 e6_3 e6_4 e6_5 =>
(cond ((e6_1.toList == ByteArray.empty.toList))
(k 0 0 false)
(zq103 e6_0 e6_4 e6_5 fun r7 =>
(cond ((!(r7.toList == e6_1.toList)))
(k 0 0 false)
(k e6_4 e6_5 true))))))
((cond ((a1.toList == ByteArray.empty.toList))
(k 0 0 false)
(zq103 a0 0 0 fun r8 =>
(cond ((!(r8.toList == a1.toList)))
(k 0 0 false)
(k 0 0 true))))))
theorem zt106 {β : Type} (N : Nat) (a0 : Int) (a1 : ByteArray) (k : Int → Int → Bool → Option β) : zj106 N a0 a1 k = zb106 N (zj105 N) (zj103 N) a0 a1 k := by
  unfold zj106 zb106
  rfl
theorem ve132_0 {β : Type} (N : Nat) (zq100 : (a0 : Int) → (k : Bool → Option β) → Option β) (zq103 : (a0 : Int) → (a1 : Int) → (a2 : Int) → (k : ByteArray → Option β) → Option β) (zq105 : Nat → Int → ByteArray → Int → Int → Int → Int → Int → Int → Int → (Int → ByteArray → Int → Int → Int → Int → Option β) → Option β)  (a0 : Int) (a1 : ByteArray) (K : TV → Option β) : evFn lay (VE132 N zq100 zq103 zq105) Tryz.f132 [.v (.one (.int .i64 a0)), .v (.one (.str a1))] K = zb106 N zq105 zq103 a0 a1 (fun z2 z3 z4 => K (.tup [.agg [.int .i64 z2, .int .i64 z3], .one (.bool z4)])) := by kernel_rfl
theorem e132_0 {β : Type} (N : Nat)  (a0 : Int) (a1 : ByteArray) (K : TV → Option β) : evFn lay (E132 N) Tryz.f132 [.v (.one (.int .i64 a0)), .v (.one (.str a1))] K = zj106 N a0 a1 (fun z2 z3 z4 => K (.tup [.agg [.int .i64 z2, .int .i64 z3], .one (.bool z4)])) := (ve132_0 N (zj100 N) (zj103 N) (zj105 N) a0 a1 K).trans (zt106 N a0 a1 (fun z2 z3 z4 => K (.tup [.agg [.int .i64 z2, .int .i64 z3], .one (.bool z4)]))).symm
theorem o132 {β : Type} (N : Nat) : SpecOK (β := β) inv Tryz.prog 132 (S132 N) := by
  refine spec_of lay_ok mixed (E := E132 N) (specs_loops (specs_cons (o187 N) (specs_cons (o188 N) specs_nil))) muts_nil gs_nil Tryz.func132 (by kernel_rfl) 1 (by kernel_rfl) ⟨trivial, rk132_0 N⟩ fun args K r h => ?_
  unfold S132 VS132 at h
  split at h
  · exact (e132_0 N _ _ _).trans h
  · cases h
def VS133 {β : Type} (N : Nat) (zq107 : (a0 : Int) → (a1 : Int) → (k : Int → Int → Option β) → Option β) : Rv.Spec β := fun args K => match args with
  | [.v (.agg [.int .i64 a0, .int .i64 a1])] => zq107 a0 a1 (fun z2 z3 => K (.v (.agg [.int .i64 z2, .int .i64 z3])))
  | _ => none
def S133 {β : Type} (N : Nat) : Rv.Spec β := VS133 N (zj107 N)
def VE133 {β : Type} (N : Nat) (zq92 : (a0 : Int) → (a1 : (Int → (Bool → Option β) → Option β)) → (k : Int → Int → Option β) → Option β) (zq65 : (a0 : Int) → (c0 : ByteArray) → (k : Bool → Option β) → Option β) (zq70 : (a0 : Int) → (c0 : Int) → (c1 : Int) → (k : Bool → Option β) → Option β) (zq81 : (a0 : Int) → (c0 : List (Int × Int)) → (k : Bool → Option β) → Option β) (zq87 : (a0 : Int) → (c0 : Tr) → (k : Bool → Option β) → Option β) (zq88 : (a0 : Int) → (c0 : Tr) → (k : Bool → Option β) → Option β) (zq89 : (a0 : Int) → (c0 : Int) → (k : Bool → Option β) → Option β) : Env β := ⟨[(129, VS129 N zq92 zq65 zq70 zq81 zq87 zq88 zq89), (189, VS189 N zq70)], [], [], [], ⟨[], [], [], []⟩⟩
def E133 {β : Type} (N : Nat) : Env β := VE133 N (zj92 N) (zj65 N) (zj70 N) (zj81 N) (zj87 N) (zj88 N) (zj89 N)
def zb107 {β : Type} (N : Nat) (zq92 : (a0 : Int) → (a1 : (Int → (Bool → Option β) → Option β)) → (k : Int → Int → Option β) → Option β) (zq70 : (a0 : Int) → (c0 : Int) → (c1 : Int) → (k : Bool → Option β) → Option β) (a0 : Int) (a1 : Int) (k : Int → Int → Option β) : Option β :=
zq92 a0 (fun x0 k => zq70 x0 a0 a1 k) fun r4 r5 =>
k r4 r5
theorem zt107 {β : Type} (N : Nat) (a0 : Int) (a1 : Int) (k : Int → Int → Option β) : zj107 N a0 a1 k = zb107 N (zj92 N) (zj70 N) a0 a1 k := by
  unfold zj107 zb107
  rfl
theorem ve133_0 {β : Type} (N : Nat) (zq92 : (a0 : Int) → (a1 : (Int → (Bool → Option β) → Option β)) → (k : Int → Int → Option β) → Option β) (zq65 : (a0 : Int) → (c0 : ByteArray) → (k : Bool → Option β) → Option β) (zq70 : (a0 : Int) → (c0 : Int) → (c1 : Int) → (k : Bool → Option β) → Option β) (zq81 : (a0 : Int) → (c0 : List (Int × Int)) → (k : Bool → Option β) → Option β) (zq87 : (a0 : Int) → (c0 : Tr) → (k : Bool → Option β) → Option β) (zq88 : (a0 : Int) → (c0 : Tr) → (k : Bool → Option β) → Option β) (zq89 : (a0 : Int) → (c0 : Int) → (k : Bool → Option β) → Option β)  (a0 : Int) (a1 : Int) (K : TV → Option β) : evFn lay (VE133 N zq92 zq65 zq70 zq81 zq87 zq88 zq89) Tryz.f133 [.v (.agg [.int .i64 a0, .int .i64 a1])] K = zb107 N zq92 zq70 a0 a1 (fun z2 z3 => K (.v (.agg [.int .i64 z2, .int .i64 z3]))) := by kernel_rfl
theorem e133_0 {β : Type} (N : Nat)  (a0 : Int) (a1 : Int) (K : TV → Option β) : evFn lay (E133 N) Tryz.f133 [.v (.agg [.int .i64 a0, .int .i64 a1])] K = zj107 N a0 a1 (fun z2 z3 => K (.v (.agg [.int .i64 z2, .int .i64 z3]))) := (ve133_0 N (zj92 N) (zj65 N) (zj70 N) (zj81 N) (zj87 N) (zj88 N) (zj89 N) a0 a1 K).trans (zt107 N a0 a1 (fun z2 z3 => K (.v (.agg [.int .i64 z2, .int .i64 z3])))).symm
theorem o133 {β : Type} (N : Nat) : SpecOK (β := β) inv Tryz.prog 133 (S133 N) := by
  refine spec_of lay_ok mixed (E := E133 N) (specs_loops (specs_cons (o129 N) (specs_cons (o189 N) specs_nil))) muts_nil gs_nil Tryz.func133 (by kernel_rfl) 0 (by kernel_rfl) trivial fun args K r h => ?_
  unfold S133 VS133 at h
  split at h
  · exact (e133_0 N _ _ _).trans h
  · cases h
def VS146 {β : Type} (N : Nat) (zq110 : (a0 : Int) → (a1 : List (Int × Int)) → (a2 : ByteArray) → (k : ByteArray → Option β) → Option β) : Rv.Spec β := fun args K => match args with
  | [.v (.one (.int .i64 a0)), .v (.one (.sl 93 (.pairs a1))), .v (.one (.str a2))] => zq110 a0 a1 a2 (fun z3 => K (.v (.one (.str z3))))
  | _ => none
def S146 {β : Type} (N : Nat) : Rv.Spec β := VS146 N (zj110 N)
def h146_0_0  (v0 : Int) (v1 : ByteArray) (v2 : List (Int × Int)) (v3 : Int) (v4 : Int) (v5 : List ByteArray) : St := ⟨.v (.one (.int .i64 v0)) :: tund :: .v (.one (.str v1)) :: tund :: tund :: tund :: tund :: .v (.one (.row 0)) :: tund :: tund :: tund :: tund :: tund :: .v (.one (.sl 93 (.pairs v2))) :: .v (.one (.int .i64 v3)) :: .v (.one (.int .i64 v4)) :: tund :: tund :: tund :: tund :: tund :: tund :: tund :: tund :: tund :: tund :: tund :: tund :: tund :: tund :: [], [.row 9 (.strs v5)]⟩
def x146_0_0_k0  (y0 : ByteArray) (y1 : List ByteArray) : St := ⟨tund :: tund :: .v (.one (.str y0)) :: tund :: tund :: tund :: tund :: .v (.one (.row 0)) :: tund :: tund :: tund :: tund :: tund :: tund :: tund :: tund :: tund :: tund :: tund :: tund :: tund :: tund :: tund :: tund :: tund :: tund :: tund :: tund :: tund :: tund :: [], [.row 9 (.strs y1)]⟩
theorem fl146_0_0 (s : St) : refSt (h146_0_0 0 ByteArray.empty [] 0 0 []) s = h146_0_0 (intS (oneA (vT (nx tund s.tmps 0)))) (strS (oneA (vT (nx tund s.tmps 2)))) (rPairs (rowV (oneA (vT (nx tund s.tmps 13))))) (intS (oneA (vT (nx tund s.tmps 14)))) (intS (oneA (vT (nx tund s.tmps 15)))) (rStrs (rowB_ (nx .dead s.blks 0))) := by kernel_rfl
def VLS146_0 {β : Type} (N : Nat) (zq109 : Nat → Int → ByteArray → List (Int × Int) → Int → Int → List ByteArray → (ByteArray → List ByteArray → Option β) → Option β) : LSpec β := fun s K => cond (shpSt (h146_0_0 0 ByteArray.empty [] 0 0 []) s) ((fun (v0 : Int) (v1 : ByteArray) (v2 : List (Int × Int)) (v3 : Int) (v4 : Int) (v5 : List ByteArray) => zq109  N v0 v1 v2 v3 v4 v5 (fun y0 y1 => K (.exit 0) (x146_0_0_k0  y0 y1))) (intS (oneA (vT (nx tund s.tmps 0)))) (strS (oneA (vT (nx tund s.tmps 2)))) (rPairs (rowV (oneA (vT (nx tund s.tmps 13))))) (intS (oneA (vT (nx tund s.tmps 14)))) (intS (oneA (vT (nx tund s.tmps 15)))) (rStrs (rowB_ (nx .dead s.blks 0)))) (none)
def LS146_0 {β : Type} (N : Nat) : LSpec β := VLS146_0 N (zj109 N)
def VE146 {β : Type} (N : Nat) (zq103 : (a0 : Int) → (a1 : Int) → (a2 : Int) → (k : ByteArray → Option β) → Option β) (zq109 : Nat → Int → ByteArray → List (Int × Int) → Int → Int → List ByteArray → (ByteArray → List ByteArray → Option β) → Option β) : Env β := ⟨[(188, VS188 N zq103), (106, S106 N)], [], [(0, VLS146_0 N zq109)], [], ⟨[], [], [], []⟩⟩
def E146 {β : Type} (N : Nat) : Env β := VE146 N (zj103 N) (zj109 N)
def zb108 {β : Type} (N : Nat) (zq103 : (a0 : Int) → (a1 : Int) → (a2 : Int) → (k : ByteArray → Option β) → Option β)  (v0 : Int) (v1 : ByteArray) (v2 : List (Int × Int)) (v3 : Int) (v4 : Int) (v5 : List ByteArray) (rec_ : Int → ByteArray → List (Int × Int) → Int → Int → List ByteArray → Option β) (k0 : ByteArray → List ByteArray → Option β) : Option β :=
(cond ((decide (v4 < v3)))
((gd ((decide (0 ≤ v4)))
((gd ((decide (v4 < (v2.length : Int))))
(zq103 v0 ((rd (0, 0) v2 v4).1) ((rd (0, 0) v2 v4).2) fun r4 =>
(gd ((decide (0 ≤ v4)))
((gd ((decide (v4 < (v5.length : Int))))
(rec_ v0 v1 v2 v3 ((w64 (v4 + 1))) ((wr v5 v4 r4)))))))))))
(k0 v1 v5))
theorem zt108 {β : Type} (N : Nat)  (v0 : Int) (v1 : ByteArray) (v2 : List (Int × Int)) (v3 : Int) (v4 : Int) (v5 : List ByteArray) (rec_ : Int → ByteArray → List (Int × Int) → Int → Int → List ByteArray → Option β) (k0 : ByteArray → List ByteArray → Option β) : zj108 N v0 v1 v2 v3 v4 v5 rec_ k0 = zb108 N (zj103 N) v0 v1 v2 v3 v4 v5 rec_ k0 := by
  unfold zj108 zb108
  rfl
theorem vst146_0_0 {β : Type} (N : Nat) (zq103 : (a0 : Int) → (a1 : Int) → (a2 : Int) → (k : ByteArray → Option β) → Option β) (zq109 : Nat → Int → ByteArray → List (Int × Int) → Int → Int → List ByteArray → (ByteArray → List ByteArray → Option β) → Option β)  (v0 : Int) (v1 : ByteArray) (v2 : List (Int × Int)) (v3 : Int) (v4 : Int) (v5 : List ByteArray) (rec_ : St → Option β) (K : Exit → St → Option β) :
    ev lay (VE146 N zq103 zq109) (retMask Tryz.f146) (lp Tryz.f146 0).body (lp Tryz.f146 0).ex ((lp Tryz.f146 0).lv (retMask Tryz.f146)) (h146_0_0  v0 v1 v2 v3 v4 v5) (nextR (fun s' => rec_ (s'.tidy ((lp Tryz.f146 0).lv (retMask Tryz.f146)))) K) = zb108 N zq103  v0 v1 v2 v3 v4 v5 (fun v0 v1 v2 v3 v4 v5 => rec_ (h146_0_0  v0 v1 v2 v3 v4 v5)) (fun y0 y1 => K (.exit 0) (x146_0_0_k0  y0 y1)) := by kernel_rfl
theorem st146_0_0 {β : Type} (N : Nat)  (v0 : Int) (v1 : ByteArray) (v2 : List (Int × Int)) (v3 : Int) (v4 : Int) (v5 : List ByteArray) (rec_ : St → Option β) (K : Exit → St → Option β) :
    ev lay (E146 N) (retMask Tryz.f146) (lp Tryz.f146 0).body (lp Tryz.f146 0).ex ((lp Tryz.f146 0).lv (retMask Tryz.f146)) (h146_0_0  v0 v1 v2 v3 v4 v5) (nextR (fun s' => rec_ (s'.tidy ((lp Tryz.f146 0).lv (retMask Tryz.f146)))) K) = zj108 N  v0 v1 v2 v3 v4 v5 (fun v0 v1 v2 v3 v4 v5 => rec_ (h146_0_0  v0 v1 v2 v3 v4 v5)) (fun y0 y1 => K (.exit 0) (x146_0_0_k0  y0 y1)) := (vst146_0_0 N (zj103 N) (zj109 N) v0 v1 v2 v3 v4 v5 rec_ K).trans (zt108 N  v0 v1 v2 v3 v4 v5 (fun v0 v1 v2 v3 v4 v5 => rec_ (h146_0_0  v0 v1 v2 v3 v4 v5)) (fun y0 y1 => K (.exit 0) (x146_0_0_k0  y0 y1))).symm
theorem ro146_0_0 {β : Type} (N : Nat)  (K : Exit → St → Option β) : ∀ (F : Nat) (v0 : Int) (v1 : ByteArray) (v2 : List (Int × Int)) (v3 : Int) (v4 : Int) (v5 : List ByteArray), (lp Tryz.f146 0).rounds lay (E146 N) (retMask Tryz.f146) F (h146_0_0  v0 v1 v2 v3 v4 v5) K = zj109 N  F v0 v1 v2 v3 v4 v5 (fun y0 y1 => K (.exit 0) (x146_0_0_k0  y0 y1)) := by
  intro F
  induction F with
  | zero => intros; rfl
  | succ F ih =>
    intros
    rw [rounds_next]
    refine (st146_0_0 N  _ _ _ _ _ _ (fun s => (lp Tryz.f146 0).rounds lay (E146 N) (retMask Tryz.f146) F s K) K).trans ?_
    simp only [ih]
    rfl
theorem lk146_0 {β : Type} (N : Nat) : lookL (E146 (β := β) N).loops (lp Tryz.f146 0).id = LS146_0 N := by kernel_rfl
theorem rk146_0 {β : Type} (N : Nat) : RoundsOK lay (E146 (β := β) N) (retMask Tryz.f146) (lp Tryz.f146 0) := by
  intro s K r h
  rw [lk146_0] at h
  unfold LS146_0 VLS146_0 at h
  cases hb : shpSt (h146_0_0 0 ByteArray.empty [] 0 0 []) s with
  | true =>
    rw [hb, cond_true] at h
    exact ⟨N, by rw [← shpSt_ref hb, fl146_0_0 s]; exact (ro146_0_0 N  K N (intS (oneA (vT (nx tund s.tmps 0)))) (strS (oneA (vT (nx tund s.tmps 2)))) (rPairs (rowV (oneA (vT (nx tund s.tmps 13))))) (intS (oneA (vT (nx tund s.tmps 14)))) (intS (oneA (vT (nx tund s.tmps 15)))) (rStrs (rowB_ (nx .dead s.blks 0)))).trans h⟩
  | false =>
  rw [hb, cond_false] at h
  clear hb
  cases h
def zb110 {β : Type} (N : Nat) (zq109 : Nat → Int → ByteArray → List (Int × Int) → Int → Int → List ByteArray → (ByteArray → List ByteArray → Option β) → Option β) (a0 : Int) (a1 : List (Int × Int)) (a2 : ByteArray) (k : ByteArray → Option β) : Option β :=
(gd ((decide (0 ≤ (a1.length : Int))))
((gd ((decide ((a1.length : Int) ≤ (a1.length : Int))))
((gd ((decide (16 * (a1.length : Int) ≤ 281474976710656)))
(zq109  N a0 a2 a1 ((a1.length : Int)) 0 ((List.replicate (Int.toNat (a1.length : Int)) ByteArray.empty)) (fun e5_0 e5_1 =>
strings_Join N e5_1 e5_0 fun r6 =>
k r6)))))))
theorem zt110 {β : Type} (N : Nat) (a0 : Int) (a1 : List (Int × Int)) (a2 : ByteArray) (k : ByteArray → Option β) : zj110 N a0 a1 a2 k = zb110 N (zj109 N) a0 a1 a2 k := by
  unfold zj110 zb110
  rfl
theorem ve146_0 {β : Type} (N : Nat) (zq103 : (a0 : Int) → (a1 : Int) → (a2 : Int) → (k : ByteArray → Option β) → Option β) (zq109 : Nat → Int → ByteArray → List (Int × Int) → Int → Int → List ByteArray → (ByteArray → List ByteArray → Option β) → Option β)  (a0 : Int) (a1 : List (Int × Int)) (a2 : ByteArray) (K : TV → Option β) : evFn lay (VE146 N zq103 zq109) Tryz.f146 [.v (.one (.int .i64 a0)), .v (.one (.sl 93 (.pairs a1))), .v (.one (.str a2))] K = zb110 N zq109 a0 a1 a2 (fun z3 => K (.v (.one (.str z3)))) := by kernel_rfl
theorem e146_0 {β : Type} (N : Nat)  (a0 : Int) (a1 : List (Int × Int)) (a2 : ByteArray) (K : TV → Option β) : evFn lay (E146 N) Tryz.f146 [.v (.one (.int .i64 a0)), .v (.one (.sl 93 (.pairs a1))), .v (.one (.str a2))] K = zj110 N a0 a1 a2 (fun z3 => K (.v (.one (.str z3)))) := (ve146_0 N (zj103 N) (zj109 N) a0 a1 a2 K).trans (zt110 N a0 a1 a2 (fun z3 => K (.v (.one (.str z3))))).symm
theorem o146 {β : Type} (N : Nat) : SpecOK (β := β) inv Tryz.prog 146 (S146 N) := by
  refine spec_of lay_ok mixed (E := E146 N) (specs_loops (specs_cons (o188 N) (specs_cons (o106 N) specs_nil))) muts_nil gs_nil Tryz.func146 (by kernel_rfl) 1 (by kernel_rfl) ⟨trivial, rk146_0 N⟩ fun args K r h => ?_
  unfold S146 VS146 at h
  split at h
  · exact (e146_0 N _ _ _ _).trans h
  · cases h
def VS75 {β : Type} (N : Nat) (zq113 : (a0 : Int) → (a1 : Int) → (k : ByteArray → Option β) → Option β) : Rv.Spec β := fun args K => match args with
  | [.v (.agg [.int .i64 a0, .int .i64 a1])] => zq113 a0 a1 (fun z2 => K (.v (.one (.str z2))))
  | _ => none
def S75 {β : Type} (N : Nat) : Rv.Spec β := VS75 N (zj113 N)
def h75_0_0  (v0 : Int) (v1 : Int) (v2 : Int) (v3 : Int) (v4 : Int) (v5 : Int) (v6 : List (Int × Int)) : St := ⟨tund :: .v (.one (.ptr 0 0)) :: tund :: .v (.one (.ptr 1 0)) :: .v (.one (.row 2)) :: tund :: tund :: tund :: tund :: tund :: tund :: tund :: .v (.one (.int .i64 v0)) :: .v (.one (.int .i64 v1)) :: tund :: tund :: tund :: tund :: tund :: tund :: tund :: tund :: tund :: tund :: tund :: tund :: tund :: tund :: tund :: tund :: tund :: tund :: tund :: tund :: [], [.cells 25 [.int .i64 v2, .int .i64 v3], .cells 25 [.int .i64 v4, .int .i64 v5], .row 93 (.pairs v6)]⟩
def x75_0_0_k0  (y0 : Int) (y1 : Int) (y2 : List (Int × Int)) : St := ⟨tund :: .v (.one (.ptr 0 0)) :: tund :: tund :: .v (.one (.row 1)) :: tund :: tund :: tund :: tund :: tund :: tund :: tund :: tund :: tund :: tund :: tund :: tund :: tund :: tund :: tund :: tund :: tund :: tund :: tund :: tund :: tund :: tund :: tund :: tund :: tund :: tund :: tund :: tund :: tund :: [], [.cells 25 [.int .i64 y0, .int .i64 y1], .row 93 (.pairs y2)]⟩
theorem fl75_0_0 (s : St) : refSt (h75_0_0 0 0 0 0 0 0 []) s = h75_0_0 (intS (oneA (vT (nx tund s.tmps 12)))) (intS (oneA (vT (nx tund s.tmps 13)))) (intS (nx .und (cellsB (nx .dead s.blks 0)) 0)) (intS (nx .und (cellsB (nx .dead s.blks 0)) 1)) (intS (nx .und (cellsB (nx .dead s.blks 1)) 0)) (intS (nx .und (cellsB (nx .dead s.blks 1)) 1)) (rPairs (rowB_ (nx .dead s.blks 2))) := by kernel_rfl
def VLS75_0 {β : Type} (N : Nat) (zq112 : Nat → Int → Int → Int → Int → Int → Int → List (Int × Int) → (Int → Int → List (Int × Int) → Option β) → Option β) : LSpec β := fun s K => cond (shpSt (h75_0_0 0 0 0 0 0 0 []) s) ((fun (v0 : Int) (v1 : Int) (v2 : Int) (v3 : Int) (v4 : Int) (v5 : Int) (v6 : List (Int × Int)) => zq112  N v0 v1 v2 v3 v4 v5 v6 (fun y0 y1 y2 => K (.exit 0) (x75_0_0_k0  y0 y1 y2))) (intS (oneA (vT (nx tund s.tmps 12)))) (intS (oneA (vT (nx tund s.tmps 13)))) (intS (nx .und (cellsB (nx .dead s.blks 0)) 0)) (intS (nx .und (cellsB (nx .dead s.blks 0)) 1)) (intS (nx .und (cellsB (nx .dead s.blks 1)) 0)) (intS (nx .und (cellsB (nx .dead s.blks 1)) 1)) (rPairs (rowB_ (nx .dead s.blks 2)))) (none)
def LS75_0 {β : Type} (N : Nat) : LSpec β := VLS75_0 N (zj112 N)
def VE75 {β : Type} (N : Nat) (zq93 : (a0 : Int) → (a1 : Int) → (k : Bool → Option β) → Option β) (zq107 : (a0 : Int) → (a1 : Int) → (k : Int → Int → Option β) → Option β) (zq66 : (a0 : Int) → (a1 : Int) → (k : Int → Option β) → Option β) (zq67 : (a0 : Int) → (a1 : Int) → (a2 : Int) → (k : Int → Option β) → Option β) (zq110 : (a0 : Int) → (a1 : List (Int × Int)) → (a2 : ByteArray) → (k : ByteArray → Option β) → Option β) (zq112 : Nat → Int → Int → Int → Int → Int → Int → List (Int × Int) → (Int → Int → List (Int × Int) → Option β) → Option β) : Env β := ⟨[(37, VS37 N zq93), (133, VS133 N zq107), (100, VS100 N zq66), (103, VS103 N zq67), (146, VS146 N zq110)], [], [(0, VLS75_0 N zq112)], [], ⟨[], [], [], []⟩⟩
def E75 {β : Type} (N : Nat) : Env β := VE75 N (zj93 N) (zj107 N) (zj66 N) (zj67 N) (zj110 N) (zj112 N)
def zb111 {β : Type} (N : Nat) (zq67 : (a0 : Int) → (a1 : Int) → (a2 : Int) → (k : Int → Option β) → Option β)  (v0 : Int) (v1 : Int) (v2 : Int) (v3 : Int) (v4 : Int) (v5 : Int) (v6 : List (Int × Int)) (rec_ : Int → Int → Int → Int → Int → Int → List (Int × Int) → Option β) (k0 : Int → Int → List (Int × Int) → Option β) : Option β :=
(cond ((decide (v1 < v0)))
(zq67 v4 v5 v1 fun r7 =>
(cond ((r7 == 1))
((gd ((decide ((v6.length + ((([] : List (Int × Int)) ++ [(v1, v1)])).length) * 16 ≤ 140737488355328)))
(rec_ v0 ((w64 (v1 + 1))) v2 v3 v4 v5 ((v6 ++ (([] : List (Int × Int)) ++ [(v1, v1)]))))))
(rec_ v0 ((w64 (v1 + 1))) v2 v3 v4 v5 v6)))
(k0 v2 v3 v6))
theorem zt111 {β : Type} (N : Nat)  (v0 : Int) (v1 : Int) (v2 : Int) (v3 : Int) (v4 : Int) (v5 : Int) (v6 : List (Int × Int)) (rec_ : Int → Int → Int → Int → Int → Int → List (Int × Int) → Option β) (k0 : Int → Int → List (Int × Int) → Option β) : zj111 N v0 v1 v2 v3 v4 v5 v6 rec_ k0 = zb111 N (zj67 N) v0 v1 v2 v3 v4 v5 v6 rec_ k0 := by
  unfold zj111 zb111
  rfl
theorem vst75_0_0 {β : Type} (N : Nat) (zq93 : (a0 : Int) → (a1 : Int) → (k : Bool → Option β) → Option β) (zq107 : (a0 : Int) → (a1 : Int) → (k : Int → Int → Option β) → Option β) (zq66 : (a0 : Int) → (a1 : Int) → (k : Int → Option β) → Option β) (zq67 : (a0 : Int) → (a1 : Int) → (a2 : Int) → (k : Int → Option β) → Option β) (zq110 : (a0 : Int) → (a1 : List (Int × Int)) → (a2 : ByteArray) → (k : ByteArray → Option β) → Option β) (zq112 : Nat → Int → Int → Int → Int → Int → Int → List (Int × Int) → (Int → Int → List (Int × Int) → Option β) → Option β)  (v0 : Int) (v1 : Int) (v2 : Int) (v3 : Int) (v4 : Int) (v5 : Int) (v6 : List (Int × Int)) (rec_ : St → Option β) (K : Exit → St → Option β) :
    ev lay (VE75 N zq93 zq107 zq66 zq67 zq110 zq112) (retMask Tryz.f75) (lp Tryz.f75 0).body (lp Tryz.f75 0).ex ((lp Tryz.f75 0).lv (retMask Tryz.f75)) (h75_0_0  v0 v1 v2 v3 v4 v5 v6) (nextR (fun s' => rec_ (s'.tidy ((lp Tryz.f75 0).lv (retMask Tryz.f75)))) K) = zb111 N zq67  v0 v1 v2 v3 v4 v5 v6 (fun v0 v1 v2 v3 v4 v5 v6 => rec_ (h75_0_0  v0 v1 v2 v3 v4 v5 v6)) (fun y0 y1 y2 => K (.exit 0) (x75_0_0_k0  y0 y1 y2)) := by kernel_rfl
theorem st75_0_0 {β : Type} (N : Nat)  (v0 : Int) (v1 : Int) (v2 : Int) (v3 : Int) (v4 : Int) (v5 : Int) (v6 : List (Int × Int)) (rec_ : St → Option β) (K : Exit → St → Option β) :
    ev lay (E75 N) (retMask Tryz.f75) (lp Tryz.f75 0).body (lp Tryz.f75 0).ex ((lp Tryz.f75 0).lv (retMask Tryz.f75)) (h75_0_0  v0 v1 v2 v3 v4 v5 v6) (nextR (fun s' => rec_ (s'.tidy ((lp Tryz.f75 0).lv (retMask Tryz.f75)))) K) = zj111 N  v0 v1 v2 v3 v4 v5 v6 (fun v0 v1 v2 v3 v4 v5 v6 => rec_ (h75_0_0  v0 v1 v2 v3 v4 v5 v6)) (fun y0 y1 y2 => K (.exit 0) (x75_0_0_k0  y0 y1 y2)) := (vst75_0_0 N (zj93 N) (zj107 N) (zj66 N) (zj67 N) (zj110 N) (zj112 N) v0 v1 v2 v3 v4 v5 v6 rec_ K).trans (zt111 N  v0 v1 v2 v3 v4 v5 v6 (fun v0 v1 v2 v3 v4 v5 v6 => rec_ (h75_0_0  v0 v1 v2 v3 v4 v5 v6)) (fun y0 y1 y2 => K (.exit 0) (x75_0_0_k0  y0 y1 y2))).symm
theorem ro75_0_0 {β : Type} (N : Nat)  (K : Exit → St → Option β) : ∀ (F : Nat) (v0 : Int) (v1 : Int) (v2 : Int) (v3 : Int) (v4 : Int) (v5 : Int) (v6 : List (Int × Int)), (lp Tryz.f75 0).rounds lay (E75 N) (retMask Tryz.f75) F (h75_0_0  v0 v1 v2 v3 v4 v5 v6) K = zj112 N  F v0 v1 v2 v3 v4 v5 v6 (fun y0 y1 y2 => K (.exit 0) (x75_0_0_k0  y0 y1 y2)) := by
  intro F
  induction F with
  | zero => intros; rfl
  | succ F ih =>
    intros
    rw [rounds_next]
    refine (st75_0_0 N  _ _ _ _ _ _ _ (fun s => (lp Tryz.f75 0).rounds lay (E75 N) (retMask Tryz.f75) F s K) K).trans ?_
    simp only [ih]
    rfl
theorem lk75_0 {β : Type} (N : Nat) : lookL (E75 (β := β) N).loops (lp Tryz.f75 0).id = LS75_0 N := by kernel_rfl
theorem rk75_0 {β : Type} (N : Nat) : RoundsOK lay (E75 (β := β) N) (retMask Tryz.f75) (lp Tryz.f75 0) := by
  intro s K r h
  rw [lk75_0] at h
  unfold LS75_0 VLS75_0 at h
  cases hb : shpSt (h75_0_0 0 0 0 0 0 0 []) s with
  | true =>
    rw [hb, cond_true] at h
    exact ⟨N, by rw [← shpSt_ref hb, fl75_0_0 s]; exact (ro75_0_0 N  K N (intS (oneA (vT (nx tund s.tmps 12)))) (intS (oneA (vT (nx tund s.tmps 13)))) (intS (nx .und (cellsB (nx .dead s.blks 0)) 0)) (intS (nx .und (cellsB (nx .dead s.blks 0)) 1)) (intS (nx .und (cellsB (nx .dead s.blks 1)) 0)) (intS (nx .und (cellsB (nx .dead s.blks 1)) 1)) (rPairs (rowB_ (nx .dead s.blks 2)))).trans h⟩
  | false =>
  rw [hb, cond_false] at h
  clear hb
  cases h
def zb113 {β : Type} (N : Nat) (zq93 : (a0 : Int) → (a1 : Int) → (k : Bool → Option β) → Option β) (zq107 : (a0 : Int) → (a1 : Int) → (k : Int → Int → Option β) → Option β) (zq66 : (a0 : Int) → (a1 : Int) → (k : Int → Option β) → Option β) (zq112 : Nat → Int → Int → Int → Int → Int → Int → List (Int × Int) → (Int → Int → List (Int × Int) → Option β) → Option β) (zq110 : (a0 : Int) → (a1 : List (Int × Int)) → (a2 : ByteArray) → (k : ByteArray → Option β) → Option β) (a0 : Int) (a1 : Int) (k : ByteArray → Option β) : Option β :=
zq93 a0 a1 fun r3 =>
(cond (!r3)
(k ByteArray.empty)
(zq107 a0 a1 fun r4 r5 =>
zq66 r4 r5 fun r6 =>
zq112  N r6 0 a0 a1 r4 r5 (([] : List (Int × Int))) (fun e8_0 e8_1 e8_2 =>
(cond (((e8_2.length : Int) == 0))
(k ((strOf [48])))
(zq110 e8_0 e8_2 ((strOf [43])) fun r9 =>
k r9)))))
theorem zt113 {β : Type} (N : Nat) (a0 : Int) (a1 : Int) (k : ByteArray → Option β) : zj113 N a0 a1 k = zb113 N (zj93 N) (zj107 N) (zj66 N) (zj112 N) (zj110 N) a0 a1 k := by
  unfold zj113 zb113
  rfl
theorem ve75_0 {β : Type} (N : Nat) (zq93 : (a0 : Int) → (a1 : Int) → (k : Bool → Option β) → Option β) (zq107 : (a0 : Int) → (a1 : Int) → (k : Int → Int → Option β) → Option β) (zq66 : (a0 : Int) → (a1 : Int) → (k : Int → Option β) → Option β) (zq67 : (a0 : Int) → (a1 : Int) → (a2 : Int) → (k : Int → Option β) → Option β) (zq110 : (a0 : Int) → (a1 : List (Int × Int)) → (a2 : ByteArray) → (k : ByteArray → Option β) → Option β) (zq112 : Nat → Int → Int → Int → Int → Int → Int → List (Int × Int) → (Int → Int → List (Int × Int) → Option β) → Option β)  (a0 : Int) (a1 : Int) (K : TV → Option β) : evFn lay (VE75 N zq93 zq107 zq66 zq67 zq110 zq112) Tryz.f75 [.v (.agg [.int .i64 a0, .int .i64 a1])] K = zb113 N zq93 zq107 zq66 zq112 zq110 a0 a1 (fun z2 => K (.v (.one (.str z2)))) := by kernel_rfl
theorem e75_0 {β : Type} (N : Nat)  (a0 : Int) (a1 : Int) (K : TV → Option β) : evFn lay (E75 N) Tryz.f75 [.v (.agg [.int .i64 a0, .int .i64 a1])] K = zj113 N a0 a1 (fun z2 => K (.v (.one (.str z2)))) := (ve75_0 N (zj93 N) (zj107 N) (zj66 N) (zj67 N) (zj110 N) (zj112 N) a0 a1 K).trans (zt113 N a0 a1 (fun z2 => K (.v (.one (.str z2))))).symm
theorem o75 {β : Type} (N : Nat) : SpecOK (β := β) inv Tryz.prog 75 (S75 N) := by
  refine spec_of lay_ok mixed (E := E75 N) (specs_loops (specs_cons (o37 N) (specs_cons (o133 N) (specs_cons (o100 N) (specs_cons (o103 N) (specs_cons (o146 N) specs_nil)))))) muts_nil gs_nil Tryz.func75 (by kernel_rfl) 1 (by kernel_rfl) ⟨trivial, rk75_0 N⟩ fun args K r h => ?_
  unfold S75 VS75 at h
  split at h
  · exact (e75_0 N _ _ _).trans h
  · cases h
end Go.Proofs.YtemihnclhcobnaaGreatDoor
