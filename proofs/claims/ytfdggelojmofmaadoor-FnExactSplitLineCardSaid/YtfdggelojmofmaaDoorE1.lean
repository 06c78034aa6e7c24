/- The functions that the claims reach answer as their texts do. -/
import Derived.Test.YtfdggelojmofmaaDoorE0
namespace Go.Proofs.YtfdggelojmofmaaDoor
open Go.Rv
set_option maxRecDepth 100000
set_option maxHeartbeats 2000000
set_option linter.unusedVariables false
def VSF153 {β : Type} (N : Nat) (zq16 : Nat → Int → Int → Int → Int → List Int → Int → (List Int → Option β) → Option β) (G : Nat) : Rv.Spec β := fun args K => match args with
  | [.v (.agg [.int .i64 a0, .int .i64 a1]), .v (.one (.int .i64 a2)), .v (.one (.int .i64 a3)), .v (.one (.fsl 3 (.ints .i64 a4))), .v (.one (.int .i64 a5))] => zq16 G a0 a1 a2 a3 a4 a5 (fun z6 => K (.v (.one (.fsl 3 (.ints .i64 z6)))))
  | _ => none
def SF153 {β : Type} (N : Nat) (G : Nat) : Rv.Spec β := VSF153 N (zj16 N) G
def VS153 {β : Type} (N : Nat) (zq16 : Nat → Int → Int → Int → Int → List Int → Int → (List Int → Option β) → Option β) : Rv.Spec β := VSF153 N zq16 N
def S153 {β : Type} (N : Nat) : Rv.Spec β := SF153 N N
def h153_0_0  (v0 : Int) (v1 : Int) (v2 : List Int) (v3 : List Int) (v4 : Int) (v5 : Int) (v6 : Int) : St := ⟨tund :: .v (.one (.int .i64 v0)) :: .v (.one (.int .i64 v1)) :: .v (.one (.fsl 3 (.ints .i64 v2))) :: tund :: .v (.one (.ptr 0 0)) :: tund :: tund :: tund :: tund :: tund :: .v (.one (.fsl 3 (.ints .i64 v3))) :: .v (.one (.int .i64 v4)) :: tund :: tund :: tund :: tund :: tund :: tund :: tund :: tund :: tund :: tund :: tund :: tund :: tund :: tund :: tund :: tund :: tund :: tund :: tund :: tund :: tund :: tund :: tund :: tund :: tund :: tund :: tund :: tund :: tund :: tund :: tund :: tund :: tund :: tund :: tund :: tund :: tund :: [], [.cells 24 [.int .i64 v5, .int .i64 v6]]⟩
def x153_0_0_k0  (y0 : List Int) : St := ⟨tund :: tund :: tund :: tund :: tund :: tund :: tund :: tund :: tund :: tund :: tund :: .v (.one (.fsl 3 (.ints .i64 y0))) :: tund :: tund :: tund :: tund :: tund :: tund :: tund :: tund :: tund :: tund :: tund :: tund :: tund :: tund :: tund :: tund :: tund :: tund :: tund :: tund :: tund :: tund :: tund :: tund :: tund :: tund :: tund :: tund :: tund :: tund :: tund :: tund :: tund :: tund :: tund :: tund :: tund :: tund :: [], []⟩
theorem fl153_0_0 (s : St) : refSt (h153_0_0 0 0 [] [] 0 0 0) s = h153_0_0 (intS (oneA (vT (nx tund s.tmps 1)))) (intS (oneA (vT (nx tund s.tmps 2)))) (rInts (rowV (oneA (vT (nx tund s.tmps 3))))) (rInts (rowV (oneA (vT (nx tund s.tmps 11))))) (intS (oneA (vT (nx tund s.tmps 12)))) (intS (nx .und (cellsB (nx .dead s.blks 0)) 0)) (intS (nx .und (cellsB (nx .dead s.blks 0)) 1)) := by kernel_rfl
def VLS153_0 {β : Type} (N : Nat) (zq14 : (self : Int → Int → Int → Int → List Int → Int → (List Int → Option β) → Option β) → Nat → Int → Int → List Int → List Int → Int → Int → Int → (List Int → Option β) → Option β) (zq16 : Nat → Int → Int → Int → Int → List Int → Int → (List Int → Option β) → Option β) (G : Nat) : LSpec β := fun s K => cond (shpSt (h153_0_0 0 0 [] [] 0 0 0) s) ((fun (v0 : Int) (v1 : Int) (v2 : List Int) (v3 : List Int) (v4 : Int) (v5 : Int) (v6 : Int) => zq14 (zq16 G)  N v0 v1 v2 v3 v4 v5 v6 (fun y0 => K (.exit 0) (x153_0_0_k0  y0))) (intS (oneA (vT (nx tund s.tmps 1)))) (intS (oneA (vT (nx tund s.tmps 2)))) (rInts (rowV (oneA (vT (nx tund s.tmps 3))))) (rInts (rowV (oneA (vT (nx tund s.tmps 11))))) (intS (oneA (vT (nx tund s.tmps 12)))) (intS (nx .und (cellsB (nx .dead s.blks 0)) 0)) (intS (nx .und (cellsB (nx .dead s.blks 0)) 1))) (none)
def LS153_0 {β : Type} (N : Nat) (G : Nat) : LSpec β := VLS153_0 N (zj14 N) (zj16 N) G
def VE153 {β : Type} (N : Nat) (zq12 : (a0 : Int) → (a1 : Int) → (a2 : Int) → (a3 : Int) → (a4 : List Int) → (k : Bool → Option β) → Option β) (zq16 : Nat → Int → Int → Int → Int → List Int → Int → (List Int → Option β) → Option β) (zq14 : (self : Int → Int → Int → Int → List Int → Int → (List Int → Option β) → Option β) → Nat → Int → Int → List Int → List Int → Int → Int → Int → (List Int → Option β) → Option β) (G : Nat) : Env β := ⟨[(202, VS202 N zq12), (153, VSF153 N zq16 G)], [], [(0, VLS153_0 N zq14 zq16 G)], [], ⟨[153], [], [153]⟩⟩
def E153 {β : Type} (N : Nat) (G : Nat) : Env β := VE153 N (zj12 N) (zj16 N) (zj14 N) G
def zb13 {β : Type} (N : Nat) (zq12 : (a0 : Int) → (a1 : Int) → (a2 : Int) → (a3 : Int) → (a4 : List Int) → (k : Bool → Option β) → Option β) (self : Int → Int → Int → Int → List Int → Int → (List Int → Option β) → Option β)  (v0 : Int) (v1 : Int) (v2 : List Int) (v3 : List Int) (v4 : Int) (v5 : Int) (v6 : Int) (rec_ : Int → Int → List Int → List Int → Int → Int → Int → Option β) (k0 : List Int → Option β) : Option β :=
(gd ((decide (0 ≤ v5)))
((cond ((decide (v4 < (shlI .i64 1 v5))))
((gd ((decide (((([] : List Int)).length + v2.length) * 8 ≤ 140737488355328)))
((gd ((decide ((((([] : List Int) ++ v2)).length + ((([] : List Int) ++ [v4])).length) * 8 ≤ 140737488355328)))
(zq12 v5 v6 v0 v1 (((([] : List Int) ++ v2) ++ (([] : List Int) ++ [v4]))) fun r7 =>
(cond (!r7)
(rec_ v0 v1 v2 v3 ((w64 (v4 + 1))) v5 v6)
(self v5 v6 v0 v1 (((([] : List Int) ++ v2) ++ (([] : List Int) ++ [v4]))) ((w64 (v4 + 1))) fun r8 =>
(cond ((decide ((r8.length : Int) > (v3.length : Int))))
(rec_ v0 v1 v2 r8 ((w64 (v4 + 1))) v5 v6)
(rec_ v0 v1 v2 v3 ((w64 (v4 + 1))) v5 v6)))))))))
(k0 v3))))
theorem zt13 {β : Type} (N : Nat) (self : Int → Int → Int → Int → List Int → Int → (List Int → Option β) → Option β)  (v0 : Int) (v1 : Int) (v2 : List Int) (v3 : List Int) (v4 : Int) (v5 : Int) (v6 : Int) (rec_ : Int → Int → List Int → List Int → Int → Int → Int → Option β) (k0 : List Int → Option β) : zj13 N self v0 v1 v2 v3 v4 v5 v6 rec_ k0 = zb13 N (zj12 N) self v0 v1 v2 v3 v4 v5 v6 rec_ k0 := by
  unfold zj13 zb13
  rfl
theorem vst153_0_0 {β : Type} (N : Nat) (zq12 : (a0 : Int) → (a1 : Int) → (a2 : Int) → (a3 : Int) → (a4 : List Int) → (k : Bool → Option β) → Option β) (zq16 : Nat → Int → Int → Int → Int → List Int → Int → (List Int → Option β) → Option β) (zq14 : (self : Int → Int → Int → Int → List Int → Int → (List Int → Option β) → Option β) → Nat → Int → Int → List Int → List Int → Int → Int → Int → (List Int → Option β) → Option β) (G : Nat)  (v0 : Int) (v1 : Int) (v2 : List Int) (v3 : List Int) (v4 : Int) (v5 : Int) (v6 : Int) (rec_ : St → Option β) (K : Exit → St → Option β) :
    ev lay (VE153 N zq12 zq16 zq14 G) (retMask Tryd.f153) (lp Tryd.f153 0).body (lp Tryd.f153 0).ex ((lp Tryd.f153 0).lv (retMask Tryd.f153)) (h153_0_0  v0 v1 v2 v3 v4 v5 v6) (nextR (fun s' => rec_ (s'.tidy ((lp Tryd.f153 0).lv (retMask Tryd.f153)))) K) = zb13 N zq12 (zq16 G)  v0 v1 v2 v3 v4 v5 v6 (fun v0 v1 v2 v3 v4 v5 v6 => rec_ (h153_0_0  v0 v1 v2 v3 v4 v5 v6)) (fun y0 => K (.exit 0) (x153_0_0_k0  y0)) := by kernel_rfl
theorem st153_0_0 {β : Type} (N : Nat) (G : Nat)  (v0 : Int) (v1 : Int) (v2 : List Int) (v3 : List Int) (v4 : Int) (v5 : Int) (v6 : Int) (rec_ : St → Option β) (K : Exit → St → Option β) :
    ev lay (E153 N G) (retMask Tryd.f153) (lp Tryd.f153 0).body (lp Tryd.f153 0).ex ((lp Tryd.f153 0).lv (retMask Tryd.f153)) (h153_0_0  v0 v1 v2 v3 v4 v5 v6) (nextR (fun s' => rec_ (s'.tidy ((lp Tryd.f153 0).lv (retMask Tryd.f153)))) K) = zj13 N (zj16 N G)  v0 v1 v2 v3 v4 v5 v6 (fun v0 v1 v2 v3 v4 v5 v6 => rec_ (h153_0_0  v0 v1 v2 v3 v4 v5 v6)) (fun y0 => K (.exit 0) (x153_0_0_k0  y0)) := (vst153_0_0 N (zj12 N) (zj16 N) (zj14 N) G v0 v1 v2 v3 v4 v5 v6 rec_ K).trans (zt13 N (zj16 N G)  v0 v1 v2 v3 v4 v5 v6 (fun v0 v1 v2 v3 v4 v5 v6 => rec_ (h153_0_0  v0 v1 v2 v3 v4 v5 v6)) (fun y0 => K (.exit 0) (x153_0_0_k0  y0))).symm
theorem ro153_0_0 {β : Type} (N : Nat) (G : Nat)  (K : Exit → St → Option β) : ∀ (F : Nat) (v0 : Int) (v1 : Int) (v2 : List Int) (v3 : List Int) (v4 : Int) (v5 : Int) (v6 : Int), (lp Tryd.f153 0).rounds lay (E153 N G) (retMask Tryd.f153) F (h153_0_0  v0 v1 v2 v3 v4 v5 v6) K = zj14 N (zj16 N G)  F v0 v1 v2 v3 v4 v5 v6 (fun y0 => K (.exit 0) (x153_0_0_k0  y0)) := by
  intro F
  induction F with
  | zero => intros; rfl
  | succ F ih =>
    intros
    rw [rounds_next]
    refine (st153_0_0 N G  _ _ _ _ _ _ _ (fun s => (lp Tryd.f153 0).rounds lay (E153 N G) (retMask Tryd.f153) F s K) K).trans ?_
    simp only [ih]
    rfl
theorem lk153_0 {β : Type} (N : Nat) (G : Nat) : lookL (E153 (β := β) N G).loops (lp Tryd.f153 0).id = LS153_0 N G := by kernel_rfl
theorem rk153_0 {β : Type} (N : Nat) (G : Nat) : RoundsOK lay (E153 (β := β) N G) (retMask Tryd.f153) (lp Tryd.f153 0) := by
  intro s K r h
  rw [lk153_0] at h
  unfold LS153_0 VLS153_0 at h
  cases hb : shpSt (h153_0_0 0 0 [] [] 0 0 0) s with
  | true =>
    rw [hb, cond_true] at h
    exact ⟨N, by rw [← shpSt_ref hb, fl153_0_0 s]; exact (ro153_0_0 N G  K N (intS (oneA (vT (nx tund s.tmps 1)))) (intS (oneA (vT (nx tund s.tmps 2)))) (rInts (rowV (oneA (vT (nx tund s.tmps 3))))) (rInts (rowV (oneA (vT (nx tund s.tmps 11))))) (intS (oneA (vT (nx tund s.tmps 12)))) (intS (nx .und (cellsB (nx .dead s.blks 0)) 0)) (intS (nx .und (cellsB (nx .dead s.blks 0)) 1))).trans h⟩
  | false =>
  rw [hb, cond_false] at h
  clear hb
  cases h
def zb15 {β : Type} (N : Nat) (zq14 : (self : Int → Int → Int → Int → List Int → Int → (List Int → Option β) → Option β) → Nat → Int → Int → List Int → List Int → Int → Int → Int → (List Int → Option β) → Option β) (self : Int → Int → Int → Int → List Int → Int → (List Int → Option β) → Option β) (a0 : Int) (a1 : Int) (a2 : Int) (a3 : Int) (a4 : List Int) (a5 : Int) (k : List Int → Option β) : Option β :=
zq14 self  N a2 a3 a4 a4 a5 a0 a1 (fun e9_0 =>
k e9_0)
theorem zt15 {β : Type} (N : Nat) (self : Int → Int → Int → Int → List Int → Int → (List Int → Option β) → Option β) (a0 : Int) (a1 : Int) (a2 : Int) (a3 : Int) (a4 : List Int) (a5 : Int) (k : List Int → Option β) : zj15 N self a0 a1 a2 a3 a4 a5 k = zb15 N (zj14 N) self a0 a1 a2 a3 a4 a5 k := by
  unfold zj15 zb15
  rfl
theorem ve153_0 {β : Type} (N : Nat) (zq12 : (a0 : Int) → (a1 : Int) → (a2 : Int) → (a3 : Int) → (a4 : List Int) → (k : Bool → Option β) → Option β) (zq16 : Nat → Int → Int → Int → Int → List Int → Int → (List Int → Option β) → Option β) (zq14 : (self : Int → Int → Int → Int → List Int → Int → (List Int → Option β) → Option β) → Nat → Int → Int → List Int → List Int → Int → Int → Int → (List Int → Option β) → Option β) (G : Nat)  (a0 : Int) (a1 : Int) (a2 : Int) (a3 : Int) (a4 : List Int) (a5 : Int) (K : TV → Option β) : evFn lay (VE153 N zq12 zq16 zq14 G) Tryd.f153 [.v (.agg [.int .i64 a0, .int .i64 a1]), .v (.one (.int .i64 a2)), .v (.one (.int .i64 a3)), .v (.one (.fsl 3 (.ints .i64 a4))), .v (.one (.int .i64 a5))] K = zb15 N zq14 (zq16 G) a0 a1 a2 a3 a4 a5 (fun z6 => K (.v (.one (.fsl 3 (.ints .i64 z6))))) := by kernel_rfl
theorem e153_0 {β : Type} (N : Nat) (G : Nat)  (a0 : Int) (a1 : Int) (a2 : Int) (a3 : Int) (a4 : List Int) (a5 : Int) (K : TV → Option β) : evFn lay (E153 N G) Tryd.f153 [.v (.agg [.int .i64 a0, .int .i64 a1]), .v (.one (.int .i64 a2)), .v (.one (.int .i64 a3)), .v (.one (.fsl 3 (.ints .i64 a4))), .v (.one (.int .i64 a5))] K = zj16 N (G + 1) a0 a1 a2 a3 a4 a5 (fun z6 => K (.v (.one (.fsl 3 (.ints .i64 z6))))) := (ve153_0 N (zj12 N) (zj16 N) (zj14 N) G a0 a1 a2 a3 a4 a5 K).trans (zt15 N (zj16 N G) a0 a1 a2 a3 a4 a5 (fun z6 => K (.v (.one (.fsl 3 (.ints .i64 z6)))))).symm
theorem z153 {β : Type} (N : Nat) : ∀ args K r, SF153 (β := β) N 0 args K = some r → (none : Option β) = some r := by
  intro args K r h
  unfold SF153 VSF153 at h
  split at h <;> exact h
theorem of153 {β : Type} (N : Nat) : ∀ G, SpecOK (β := β) inv Tryd.prog 153 (SF153 N G) := by
  intro G
  induction G with
  | zero => exact s_zero Tryd.func153 (by kernel_rfl) (z153 N)
  | succ G ih =>
    refine spec_of lay_ok mixed (E := E153 N G) (specs_loops (specs_cons (o202 N) (specs_cons ih specs_nil))) muts_nil gs_nil Tryd.func153 (by kernel_rfl) 1 (by kernel_rfl) ⟨trivial, rk153_0 N G⟩ fun args K r h => ?_
    unfold SF153 VSF153 at h
    split at h
    · exact (e153_0 N G _ _ _ _ _ _ _).trans h
    · cases h
theorem o153 {β : Type} (N : Nat) : SpecOK (β := β) inv Tryd.prog 153 (S153 N) := of153 N N
def VS92 {β : Type} (N : Nat) (zq18 : (a0 : Int) → (a1 : Int) → (a2 : Int) → (a3 : Int) → (k : List Int → Bool → Option β) → Option β) : Rv.Spec β := fun args K => match args with
  | [.v (.agg [.int .i64 a0, .int .i64 a1]), .v (.one (.int .i64 a2)), .v (.one (.int .i64 a3))] => zq18 a0 a1 a2 a3 (fun z4 z5 => K (.tup [.one (.fsl 3 (.ints .i64 z4)), .one (.bool z5)]))
  | _ => none
def S92 {β : Type} (N : Nat) : Rv.Spec β := VS92 N (zj18 N)
def VE92 {β : Type} (N : Nat) (zq2 : (a0 : Int) → (a1 : Int) → (k : Bool → Option β) → Option β) (zq1 : (a0 : Int) → (a1 : Int) → (a2 : Int) → (k : Bool → Option β) → Option β) (zq16 : Nat → Int → Int → Int → Int → List Int → Int → (List Int → Option β) → Option β) : Env β := ⟨[(51, VS51 N zq2), (43, VS43 N zq1), (153, VS153 N zq16)], [], [], [], ⟨[153], [], [153]⟩⟩
def E92 {β : Type} (N : Nat) : Env β := VE92 N (zj2 N) (zj1 N) (zj16 N)
def zb18 {β : Type} (N : Nat) (zq2 : (a0 : Int) → (a1 : Int) → (k : Bool → Option β) → Option β) (zq1 : (a0 : Int) → (a1 : Int) → (a2 : Int) → (k : Bool → Option β) → Option β) (zq16 : Nat → Int → Int → Int → Int → List Int → Int → (List Int → Option β) → Option β) (a0 : Int) (a1 : Int) (a2 : Int) (a3 : Int) (k : List Int → Bool → Option β) : Option β :=
zq2 a0 a1 fun r6 =>
(cond (!r6)
(k (([] : List Int)) false)
((cond ((decide (a0 > 4)))
(k (([] : List Int)) false)
(zq1 a2 0 a0 fun r7 =>
(cond (!r7)
(k (([] : List Int)) false)
(zq1 a3 0 1 fun r8 =>
(cond (!r8)
(k (([] : List Int)) false)
(zq16 N a0 a1 a2 a3 (([] : List Int)) 0 fun r9 =>
k r9 true))))))))
theorem zt18 {β : Type} (N : Nat) (a0 : Int) (a1 : Int) (a2 : Int) (a3 : Int) (k : List Int → Bool → Option β) : zj18 N a0 a1 a2 a3 k = zb18 N (zj2 N) (zj1 N) (zj16 N) a0 a1 a2 a3 k := by
  unfold zj18 zb18
  rfl
theorem ve92_0 {β : Type} (N : Nat) (zq2 : (a0 : Int) → (a1 : Int) → (k : Bool → Option β) → Option β) (zq1 : (a0 : Int) → (a1 : Int) → (a2 : Int) → (k : Bool → Option β) → Option β) (zq16 : Nat → Int → Int → Int → Int → List Int → Int → (List Int → Option β) → Option β)  (a0 : Int) (a1 : Int) (a2 : Int) (a3 : Int) (K : TV → Option β) : evFn lay (VE92 N zq2 zq1 zq16) Tryd.f92 [.v (.agg [.int .i64 a0, .int .i64 a1]), .v (.one (.int .i64 a2)), .v (.one (.int .i64 a3))] (frzK K) = zb18 N zq2 zq1 zq16 a0 a1 a2 a3 (fun z4 z5 => K (.tup [.one (.fsl 3 (.ints .i64 z4)), .one (.bool z5)])) := by kernel_rfl
theorem e92_0 {β : Type} (N : Nat)  (a0 : Int) (a1 : Int) (a2 : Int) (a3 : Int) (K : TV → Option β) : evFn lay (E92 N) Tryd.f92 [.v (.agg [.int .i64 a0, .int .i64 a1]), .v (.one (.int .i64 a2)), .v (.one (.int .i64 a3))] (frzK K) = zj18 N a0 a1 a2 a3 (fun z4 z5 => K (.tup [.one (.fsl 3 (.ints .i64 z4)), .one (.bool z5)])) := (ve92_0 N (zj2 N) (zj1 N) (zj16 N) a0 a1 a2 a3 K).trans (zt18 N a0 a1 a2 a3 (fun z4 z5 => K (.tup [.one (.fsl 3 (.ints .i64 z4)), .one (.bool z5)]))).symm
theorem o92 {β : Type} (N : Nat) : SpecOK (β := β) inv Tryd.prog 92 (S92 N) := by
  refine spec_of_frz lay_ok mixed (E := E92 N) (specs_loops (specs_cons (o51 N) (specs_cons (o43 N) (specs_cons (o153 N) specs_nil)))) muts_nil gs_nil Tryd.func92 (by kernel_rfl) 0 (by kernel_rfl) trivial fun args K r h => ?_
  unfold S92 VS92 at h
  split at h
  · exact (e92_0 N _ _ _ _ _).trans h
  · cases h
def VS55 {β : Type} (N : Nat) (zq21 : (a0 : Int) → (k : ByteArray → Option β) → Option β) : Rv.Spec β := fun args K => match args with
  | [.v (.one (.int .i64 a0))] => zq21 a0 (fun z1 => K (.v (.one (.str z1))))
  | _ => none
def S55 {β : Type} (N : Nat) : Rv.Spec β := VS55 N (zj21 N)
def h55_0_0  (v0 : Int) (v1 : ByteArray) (v2 : Bool) : St := ⟨.v (.one (.int .i64 v0)) :: tund :: tund :: .v (.one (.str v1)) :: .v (.one (.bool v2)) :: tund :: tund :: tund :: tund :: tund :: tund :: tund :: tund :: tund :: tund :: tund :: tund :: tund :: tund :: tund :: tund :: tund :: tund :: tund :: tund :: tund :: tund :: tund :: tund :: tund :: tund :: [], []⟩
def x55_0_0_k0  (y0 : ByteArray) (y1 : Bool) : St := ⟨tund :: tund :: tund :: .v (.one (.str y0)) :: .v (.one (.bool y1)) :: tund :: tund :: tund :: tund :: tund :: tund :: tund :: tund :: tund :: tund :: tund :: tund :: tund :: tund :: tund :: tund :: tund :: tund :: tund :: tund :: tund :: tund :: tund :: tund :: tund :: tund :: [], []⟩
theorem fl55_0_0 (s : St) : refSt (h55_0_0 0 ByteArray.empty false) s = h55_0_0 (intS (oneA (vT (nx tund s.tmps 0)))) (strS (oneA (vT (nx tund s.tmps 3)))) (boolS (oneA (vT (nx tund s.tmps 4)))) := by kernel_rfl
def VLS55_0 {β : Type} (N : Nat) (zq20 : Nat → Int → ByteArray → Bool → (ByteArray → Bool → Option β) → Option β) : LSpec β := fun s K => cond (shpSt (h55_0_0 0 ByteArray.empty false) s) ((fun (v0 : Int) (v1 : ByteArray) (v2 : Bool) => zq20  N v0 v1 v2 (fun y0 y1 => K (.exit 0) (x55_0_0_k0  y0 y1))) (intS (oneA (vT (nx tund s.tmps 0)))) (strS (oneA (vT (nx tund s.tmps 3)))) (boolS (oneA (vT (nx tund s.tmps 4))))) (none)
def LS55_0 {β : Type} (N : Nat) : LSpec β := VLS55_0 N (zj20 N)
def VE55 {β : Type} (N : Nat) (zq20 : Nat → Int → ByteArray → Bool → (ByteArray → Bool → Option β) → Option β) : Env β := ⟨[], [], [(0, VLS55_0 N zq20)], [], ⟨[], [], [153]⟩⟩
def E55 {β : Type} (N : Nat) : Env β := VE55 N (zj20 N)
def zb19 {β : Type} (N : Nat)  (v0 : Int) (v1 : ByteArray) (v2 : Bool) (rec_ : Int → ByteArray → Bool → Option β) (k0 : ByteArray → Bool → Option β) : Option β :=
(cond ((v0 != 0))
((cond ((decide ((remI v0 10) < 0)))
((gd ((decide (((strOf ((([] : List Int) ++ [(w8 ((w64 (48 + (w64 (0 - (remI v0 10)))))))])))).size + v1.size ≤ 9223372036854775807)))
(rec_ ((quoI .i64 v0 10)) (((strOf ((([] : List Int) ++ [(w8 ((w64 (48 + (w64 (0 - (remI v0 10)))))))]))) ++ v1)) v2)))
((gd ((decide (((strOf ((([] : List Int) ++ [(w8 ((w64 (48 + (remI v0 10)))))])))).size + v1.size ≤ 9223372036854775807)))
(rec_ ((quoI .i64 v0 10)) (((strOf ((([] : List Int) ++ [(w8 ((w64 (48 + (remI v0 10)))))]))) ++ v1)) v2)))))
(k0 v1 v2))
theorem zt19 {β : Type} (N : Nat)  (v0 : Int) (v1 : ByteArray) (v2 : Bool) (rec_ : Int → ByteArray → Bool → Option β) (k0 : ByteArray → Bool → Option β) : zj19 N v0 v1 v2 rec_ k0 = zb19 N v0 v1 v2 rec_ k0 := by
  unfold zj19 zb19
  rfl
theorem vst55_0_0 {β : Type} (N : Nat) (zq20 : Nat → Int → ByteArray → Bool → (ByteArray → Bool → Option β) → Option β)  (v0 : Int) (v1 : ByteArray) (v2 : Bool) (rec_ : St → Option β) (K : Exit → St → Option β) :
    ev lay (VE55 N zq20) (retMask Tryd.f55) (lp Tryd.f55 0).body (lp Tryd.f55 0).ex ((lp Tryd.f55 0).lv (retMask Tryd.f55)) (h55_0_0  v0 v1 v2) (nextR (fun s' => rec_ (s'.tidy ((lp Tryd.f55 0).lv (retMask Tryd.f55)))) K) = zb19 N  v0 v1 v2 (fun v0 v1 v2 => rec_ (h55_0_0  v0 v1 v2)) (fun y0 y1 => K (.exit 0) (x55_0_0_k0  y0 y1)) := by kernel_rfl
theorem st55_0_0 {β : Type} (N : Nat)  (v0 : Int) (v1 : ByteArray) (v2 : Bool) (rec_ : St → Option β) (K : Exit → St → Option β) :
    ev lay (E55 N) (retMask Tryd.f55) (lp Tryd.f55 0).body (lp Tryd.f55 0).ex ((lp Tryd.f55 0).lv (retMask Tryd.f55)) (h55_0_0  v0 v1 v2) (nextR (fun s' => rec_ (s'.tidy ((lp Tryd.f55 0).lv (retMask Tryd.f55)))) K) = zj19 N  v0 v1 v2 (fun v0 v1 v2 => rec_ (h55_0_0  v0 v1 v2)) (fun y0 y1 => K (.exit 0) (x55_0_0_k0  y0 y1)) := (vst55_0_0 N (zj20 N) v0 v1 v2 rec_ K).trans (zt19 N  v0 v1 v2 (fun v0 v1 v2 => rec_ (h55_0_0  v0 v1 v2)) (fun y0 y1 => K (.exit 0) (x55_0_0_k0  y0 y1))).symm
theorem ro55_0_0 {β : Type} (N : Nat)  (K : Exit → St → Option β) : ∀ (F : Nat) (v0 : Int) (v1 : ByteArray) (v2 : Bool), (lp Tryd.f55 0).rounds lay (E55 N) (retMask Tryd.f55) F (h55_0_0  v0 v1 v2) K = zj20 N  F v0 v1 v2 (fun y0 y1 => K (.exit 0) (x55_0_0_k0  y0 y1)) := by
  intro F
  induction F with
  | zero => intros; rfl
  | succ F ih =>
    intros
    rw [rounds_next]
    refine (st55_0_0 N  _ _ _ (fun s => (lp Tryd.f55 0).rounds lay (E55 N) (retMask Tryd.f55) F s K) K).trans ?_
    simp only [ih]
    rfl
theorem lk55_0 {β : Type} (N : Nat) : lookL (E55 (β := β) N).loops (lp Tryd.f55 0).id = LS55_0 N := by kernel_rfl
theorem rk55_0 {β : Type} (N : Nat) : RoundsOK lay (E55 (β := β) N) (retMask Tryd.f55) (lp Tryd.f55 0) := by
  intro s K r h
  rw [lk55_0] at h
  unfold LS55_0 VLS55_0 at h
  cases hb : shpSt (h55_0_0 0 ByteArray.empty false) s with
  | true =>
    rw [hb, cond_true] at h
    exact ⟨N, by rw [← shpSt_ref hb, fl55_0_0 s]; exact (ro55_0_0 N  K N (intS (oneA (vT (nx tund s.tmps 0)))) (strS (oneA (vT (nx tund s.tmps 3)))) (boolS (oneA (vT (nx tund s.tmps 4))))).trans h⟩
  | false =>
  rw [hb, cond_false] at h
  clear hb
  cases h
def zb21 {β : Type} (N : Nat) (zq20 : Nat → Int → ByteArray → Bool → (ByteArray → Bool → Option β) → Option β) (a0 : Int) (k : ByteArray → Option β) : Option β :=
(cond ((a0 == 0))
(k ((strOf [48])))
(zq20  N a0 ByteArray.empty ((decide (a0 < 0))) (fun e2_0 e2_1 =>
(cond e2_1
((gd ((decide (((strOf [45])).size + e2_0.size ≤ 9223372036854775807)))
(k (((strOf [45]) ++ e2_0)))))
(k e2_0)))))
theorem zt21 {β : Type} (N : Nat) (a0 : Int) (k : ByteArray → Option β) : zj21 N a0 k = zb21 N (zj20 N) a0 k := by
  unfold zj21 zb21
  rfl
theorem ve55_0 {β : Type} (N : Nat) (zq20 : Nat → Int → ByteArray → Bool → (ByteArray → Bool → Option β) → Option β)  (a0 : Int) (K : TV → Option β) : evFn lay (VE55 N zq20) Tryd.f55 [.v (.one (.int .i64 a0))] K = zb21 N zq20 a0 (fun z1 => K (.v (.one (.str z1)))) := by kernel_rfl
theorem e55_0 {β : Type} (N : Nat)  (a0 : Int) (K : TV → Option β) : evFn lay (E55 N) Tryd.f55 [.v (.one (.int .i64 a0))] K = zj21 N a0 (fun z1 => K (.v (.one (.str z1)))) := (ve55_0 N (zj20 N) a0 K).trans (zt21 N a0 (fun z1 => K (.v (.one (.str z1))))).symm
theorem o55 {β : Type} (N : Nat) : SpecOK (β := β) inv Tryd.prog 55 (S55 N) := by
  refine spec_of lay_ok mixed (E := E55 N) (specs_loops specs_nil) muts_nil gs_nil Tryd.func55 (by kernel_rfl) 1 (by kernel_rfl) ⟨trivial, rk55_0 N⟩ fun args K r h => ?_
  unfold S55 VS55 at h
  split at h
  · exact (e55_0 N _ _).trans h
  · cases h
def VS52 {β : Type} (N : Nat) (zq24 : (a0 : List Int) → (k : ByteArray → Option β) → Option β) : Rv.Spec β := fun args K => match args with
  | [.v (.one (.sl 3 (.ints .i64 a0)))] => zq24 a0 (fun z1 => K (.v (.one (.str z1))))
  | _ => none
def S52 {β : Type} (N : Nat) : Rv.Spec β := VS52 N (zj24 N)
def h52_0_0  (v0 : List Int) (v1 : ByteArray) (v2 : Int) : St := ⟨.v (.one (.sl 3 (.ints .i64 v0))) :: tund :: tund :: .v (.one (.str v1)) :: .v (.one (.int .i64 v2)) :: tund :: tund :: tund :: tund :: tund :: tund :: tund :: tund :: tund :: tund :: tund :: tund :: tund :: tund :: tund :: tund :: tund :: tund :: tund :: tund :: [], []⟩
def x52_0_0_k0  (y0 : ByteArray) : St := ⟨tund :: tund :: tund :: .v (.one (.str y0)) :: tund :: tund :: tund :: tund :: tund :: tund :: tund :: tund :: tund :: tund :: tund :: tund :: tund :: tund :: tund :: tund :: tund :: tund :: tund :: tund :: tund :: [], []⟩
theorem fl52_0_0 (s : St) : refSt (h52_0_0 [] ByteArray.empty 0) s = h52_0_0 (rInts (rowV (oneA (vT (nx tund s.tmps 0))))) (strS (oneA (vT (nx tund s.tmps 3)))) (intS (oneA (vT (nx tund s.tmps 4)))) := by kernel_rfl
def VLS52_0 {β : Type} (N : Nat) (zq23 : Nat → List Int → ByteArray → Int → (ByteArray → Option β) → Option β) : LSpec β := fun s K => cond (shpSt (h52_0_0 [] ByteArray.empty 0) s) ((fun (v0 : List Int) (v1 : ByteArray) (v2 : Int) => zq23  N v0 v1 v2 (fun y0 => K (.exit 0) (x52_0_0_k0  y0))) (rInts (rowV (oneA (vT (nx tund s.tmps 0))))) (strS (oneA (vT (nx tund s.tmps 3)))) (intS (oneA (vT (nx tund s.tmps 4))))) (none)
def LS52_0 {β : Type} (N : Nat) : LSpec β := VLS52_0 N (zj23 N)
def VE52 {β : Type} (N : Nat) (zq21 : (a0 : Int) → (k : ByteArray → Option β) → Option β) (zq23 : Nat → List Int → ByteArray → Int → (ByteArray → Option β) → Option β) : Env β := ⟨[(55, VS55 N zq21)], [], [(0, VLS52_0 N zq23)], [], ⟨[], [], [153]⟩⟩
def E52 {β : Type} (N : Nat) : Env β := VE52 N (zj21 N) (zj23 N)
def zb22 {β : Type} (N : Nat) (zq21 : (a0 : Int) → (k : ByteArray → Option β) → Option β)  (v0 : List Int) (v1 : ByteArray) (v2 : Int) (rec_ : List Int → ByteArray → Int → Option β) (k0 : ByteArray → Option β) : Option β :=
(cond ((decide (v2 < (v0.length : Int))))
((cond ((decide (v2 > 0)))
((gd ((decide (v1.size + ((strOf [44])).size ≤ 9223372036854775807)))
((gd ((decide (0 ≤ v2)))
((gd ((decide (v2 < (v0.length : Int))))
(zq21 ((rd 0 v0 v2)) fun r2 =>
(gd ((decide (((v1 ++ (strOf [44]))).size + r2.size ≤ 9223372036854775807)))
(rec_ v0 (((v1 ++ (strOf [44])) ++ r2)) ((w64 (v2 + 1))))))))))))
((gd ((decide (0 ≤ v2)))
((gd ((decide (v2 < (v0.length : Int))))
(zq21 ((rd 0 v0 v2)) fun r3 =>
(gd ((decide (v1.size + r3.size ≤ 9223372036854775807)))
(rec_ v0 ((v1 ++ r3)) ((w64 (v2 + 1))))))))))))
(k0 v1))
theorem zt22 {β : Type} (N : Nat)  (v0 : List Int) (v1 : ByteArray) (v2 : Int) (rec_ : List Int → ByteArray → Int → Option β) (k0 : ByteArray → Option β) : zj22 N v0 v1 v2 rec_ k0 = zb22 N (zj21 N) v0 v1 v2 rec_ k0 := by
  unfold zj22 zb22
  rfl
theorem vst52_0_0 {β : Type} (N : Nat) (zq21 : (a0 : Int) → (k : ByteArray → Option β) → Option β) (zq23 : Nat → List Int → ByteArray → Int → (ByteArray → Option β) → Option β)  (v0 : List Int) (v1 : ByteArray) (v2 : Int) (rec_ : St → Option β) (K : Exit → St → Option β) :
    ev lay (VE52 N zq21 zq23) (retMask Tryd.f52) (lp Tryd.f52 0).body (lp Tryd.f52 0).ex ((lp Tryd.f52 0).lv (retMask Tryd.f52)) (h52_0_0  v0 v1 v2) (nextR (fun s' => rec_ (s'.tidy ((lp Tryd.f52 0).lv (retMask Tryd.f52)))) K) = zb22 N zq21  v0 v1 v2 (fun v0 v1 v2 => rec_ (h52_0_0  v0 v1 v2)) (fun y0 => K (.exit 0) (x52_0_0_k0  y0)) := by kernel_rfl
theorem st52_0_0 {β : Type} (N : Nat)  (v0 : List Int) (v1 : ByteArray) (v2 : Int) (rec_ : St → Option β) (K : Exit → St → Option β) :
    ev lay (E52 N) (retMask Tryd.f52) (lp Tryd.f52 0).body (lp Tryd.f52 0).ex ((lp Tryd.f52 0).lv (retMask Tryd.f52)) (h52_0_0  v0 v1 v2) (nextR (fun s' => rec_ (s'.tidy ((lp Tryd.f52 0).lv (retMask Tryd.f52)))) K) = zj22 N  v0 v1 v2 (fun v0 v1 v2 => rec_ (h52_0_0  v0 v1 v2)) (fun y0 => K (.exit 0) (x52_0_0_k0  y0)) := (vst52_0_0 N (zj21 N) (zj23 N) v0 v1 v2 rec_ K).trans (zt22 N  v0 v1 v2 (fun v0 v1 v2 => rec_ (h52_0_0  v0 v1 v2)) (fun y0 => K (.exit 0) (x52_0_0_k0  y0))).symm
theorem ro52_0_0 {β : Type} (N : Nat)  (K : Exit → St → Option β) : ∀ (F : Nat) (v0 : List Int) (v1 : ByteArray) (v2 : Int), (lp Tryd.f52 0).rounds lay (E52 N) (retMask Tryd.f52) F (h52_0_0  v0 v1 v2) K = zj23 N  F v0 v1 v2 (fun y0 => K (.exit 0) (x52_0_0_k0  y0)) := by
  intro F
  induction F with
  | zero => intros; rfl
  | succ F ih =>
    intros
    rw [rounds_next]
    refine (st52_0_0 N  _ _ _ (fun s => (lp Tryd.f52 0).rounds lay (E52 N) (retMask Tryd.f52) F s K) K).trans ?_
    simp only [ih]
    rfl
theorem lk52_0 {β : Type} (N : Nat) : lookL (E52 (β := β) N).loops (lp Tryd.f52 0).id = LS52_0 N := by kernel_rfl
theorem rk52_0 {β : Type} (N : Nat) : RoundsOK lay (E52 (β := β) N) (retMask Tryd.f52) (lp Tryd.f52 0) := by
  intro s K r h
  rw [lk52_0] at h
  unfold LS52_0 VLS52_0 at h
  cases hb : shpSt (h52_0_0 [] ByteArray.empty 0) s with
  | true =>
    rw [hb, cond_true] at h
    exact ⟨N, by rw [← shpSt_ref hb, fl52_0_0 s]; exact (ro52_0_0 N  K N (rInts (rowV (oneA (vT (nx tund s.tmps 0))))) (strS (oneA (vT (nx tund s.tmps 3)))) (intS (oneA (vT (nx tund s.tmps 4))))).trans h⟩
  | false =>
  rw [hb, cond_false] at h
  clear hb
  cases h
def zb24 {β : Type} (N : Nat) (zq23 : Nat → List Int → ByteArray → Int → (ByteArray → Option β) → Option β) (a0 : List Int) (k : ByteArray → Option β) : Option β :=
zq23  N a0 ByteArray.empty 0 (fun e4_0 =>
(cond ((e4_0.toList == ByteArray.empty.toList))
(k ((strOf [110, 111, 110, 101])))
(k e4_0)))
theorem zt24 {β : Type} (N : Nat) (a0 : List Int) (k : ByteArray → Option β) : zj24 N a0 k = zb24 N (zj23 N) a0 k := by
  unfold zj24 zb24
  rfl
theorem ve52_0 {β : Type} (N : Nat) (zq21 : (a0 : Int) → (k : ByteArray → Option β) → Option β) (zq23 : Nat → List Int → ByteArray → Int → (ByteArray → Option β) → Option β)  (a0 : List Int) (K : TV → Option β) : evFn lay (VE52 N zq21 zq23) Tryd.f52 [.v (.one (.sl 3 (.ints .i64 a0)))] K = zb24 N zq23 a0 (fun z1 => K (.v (.one (.str z1)))) := by kernel_rfl
theorem e52_0 {β : Type} (N : Nat)  (a0 : List Int) (K : TV → Option β) : evFn lay (E52 N) Tryd.f52 [.v (.one (.sl 3 (.ints .i64 a0)))] K = zj24 N a0 (fun z1 => K (.v (.one (.str z1)))) := (ve52_0 N (zj21 N) (zj23 N) a0 K).trans (zt24 N a0 (fun z1 => K (.v (.one (.str z1))))).symm
theorem o52 {β : Type} (N : Nat) : SpecOK (β := β) inv Tryd.prog 52 (S52 N) := by
  refine spec_of lay_ok mixed (E := E52 N) (specs_loops (specs_cons (o55 N) specs_nil)) muts_nil gs_nil Tryd.func52 (by kernel_rfl) 1 (by kernel_rfl) ⟨trivial, rk52_0 N⟩ fun args K r h => ?_
  unfold S52 VS52 at h
  split at h
  · exact (e52_0 N _ _).trans h
  · cases h
def VS93 {β : Type} (N : Nat) (zq29 : (a0 : List Int) → (k : Int → Option β) → Option β) : Rv.Spec β := fun args K => match args with
  | [.v (.one (.sl 3 (.ints .i64 a0)))] => zq29 a0 (fun z1 => K (.v (.one (.int .i64 z1))))
  | _ => none
def S93 {β : Type} (N : Nat) : Rv.Spec β := VS93 N (zj29 N)
def h93_0_0  (v0 : List Int) (v1 : Int) (v2 : List Int) : St := ⟨.v (.one (.sl 3 (.ints .i64 v0))) :: tund :: tund :: .v (.one (.row 0)) :: .v (.one (.int .i64 v1)) :: tund :: tund :: tund :: tund :: tund :: tund :: tund :: tund :: tund :: tund :: tund :: tund :: tund :: tund :: tund :: tund :: tund :: tund :: tund :: tund :: tund :: tund :: tund :: tund :: tund :: tund :: tund :: tund :: tund :: tund :: tund :: tund :: tund :: tund :: tund :: tund :: tund :: tund :: tund :: tund :: tund :: tund :: tund :: tund :: tund :: [], [.row 3 (.ints .i64 v2)]⟩
def x93_0_0_k0  (y0 : Int) : St := ⟨tund :: tund :: .v (.one (.int .i64 y0)) :: tund :: tund :: tund :: tund :: tund :: tund :: tund :: tund :: tund :: tund :: tund :: tund :: tund :: tund :: tund :: tund :: tund :: tund :: tund :: tund :: tund :: tund :: tund :: tund :: tund :: tund :: tund :: tund :: tund :: tund :: tund :: tund :: tund :: tund :: tund :: tund :: tund :: tund :: tund :: tund :: tund :: tund :: tund :: tund :: tund :: tund :: tund :: [], []⟩
def x93_0_0_k1  (y0 : List Int) : St := ⟨tund :: tund :: tund :: .v (.one (.row 0)) :: tund :: tund :: tund :: tund :: tund :: tund :: tund :: tund :: tund :: tund :: tund :: tund :: tund :: tund :: tund :: tund :: tund :: tund :: tund :: tund :: tund :: tund :: tund :: tund :: tund :: tund :: tund :: tund :: tund :: tund :: tund :: tund :: tund :: tund :: tund :: tund :: tund :: tund :: tund :: tund :: tund :: tund :: tund :: tund :: tund :: tund :: [], [.row 3 (.ints .i64 y0)]⟩
def h93_1_0  (v0 : List Int) (v1 : Int) (v2 : Int) (v3 : Int) (v4 : List Int) : St := ⟨.v (.one (.sl 3 (.ints .i64 v0))) :: tund :: tund :: .v (.one (.row 0)) :: .v (.one (.int .i64 v1)) :: .v (.one (.int .i64 v2)) :: .v (.one (.int .i64 v3)) :: tund :: tund :: tund :: tund :: tund :: tund :: tund :: tund :: tund :: tund :: tund :: tund :: tund :: tund :: tund :: tund :: tund :: tund :: tund :: tund :: tund :: tund :: tund :: tund :: tund :: tund :: tund :: tund :: tund :: tund :: tund :: tund :: tund :: tund :: tund :: tund :: tund :: tund :: tund :: tund :: tund :: tund :: tund :: [], [.row 3 (.ints .i64 v4)]⟩
def x93_1_0_k0  (y0 : List Int) (y1 : Int) (y2 : Int) (y3 : List Int) : St := ⟨.v (.one (.sl 3 (.ints .i64 y0))) :: tund :: tund :: .v (.one (.row 0)) :: .v (.one (.int .i64 y1)) :: .v (.one (.int .i64 y2)) :: tund :: tund :: tund :: tund :: tund :: tund :: tund :: tund :: tund :: tund :: tund :: tund :: tund :: tund :: tund :: tund :: tund :: tund :: tund :: tund :: tund :: tund :: tund :: tund :: tund :: tund :: tund :: tund :: tund :: tund :: tund :: tund :: tund :: tund :: tund :: tund :: tund :: tund :: tund :: tund :: tund :: tund :: tund :: tund :: [], [.row 3 (.ints .i64 y3)]⟩
theorem fl93_0_0 (s : St) : refSt (h93_0_0 [] 0 []) s = h93_0_0 (rInts (rowV (oneA (vT (nx tund s.tmps 0))))) (intS (oneA (vT (nx tund s.tmps 4)))) (rInts (rowB_ (nx .dead s.blks 0))) := by kernel_rfl
def VLS93_0 {β : Type} (N : Nat) (zq28 : Nat → List Int → Int → List Int → (Int → Option β) → (List Int → Option β) → Option β) : LSpec β := fun s K => cond (shpSt (h93_0_0 [] 0 []) s) ((fun (v0 : List Int) (v1 : Int) (v2 : List Int) => zq28  N v0 v1 v2 (fun y0 => K .ret (x93_0_0_k0  y0)) (fun y0 => K (.exit 0) (x93_0_0_k1  y0))) (rInts (rowV (oneA (vT (nx tund s.tmps 0))))) (intS (oneA (vT (nx tund s.tmps 4)))) (rInts (rowB_ (nx .dead s.blks 0)))) (none)
def LS93_0 {β : Type} (N : Nat) : LSpec β := VLS93_0 N (zj28 N)
theorem fl93_1_0 (s : St) : refSt (h93_1_0 [] 0 0 0 []) s = h93_1_0 (rInts (rowV (oneA (vT (nx tund s.tmps 0))))) (intS (oneA (vT (nx tund s.tmps 4)))) (intS (oneA (vT (nx tund s.tmps 5)))) (intS (oneA (vT (nx tund s.tmps 6)))) (rInts (rowB_ (nx .dead s.blks 0))) := by kernel_rfl
def VLS93_2 {β : Type} (N : Nat) (zq26 : Nat → List Int → Int → Int → Int → List Int → (List Int → Int → Int → List Int → Option β) → Option β) : LSpec β := fun s K => cond (shpSt (h93_1_0 [] 0 0 0 []) s) ((fun (v0 : List Int) (v1 : Int) (v2 : Int) (v3 : Int) (v4 : List Int) => zq26  N v0 v1 v2 v3 v4 (fun y0 y1 y2 y3 => K (.exit 2) (x93_1_0_k0  y0 y1 y2 y3))) (rInts (rowV (oneA (vT (nx tund s.tmps 0))))) (intS (oneA (vT (nx tund s.tmps 4)))) (intS (oneA (vT (nx tund s.tmps 5)))) (intS (oneA (vT (nx tund s.tmps 6)))) (rInts (rowB_ (nx .dead s.blks 0)))) (none)
def LS93_2 {β : Type} (N : Nat) : LSpec β := VLS93_2 N (zj26 N)
def VE93 {β : Type} (N : Nat) (zq1 : (a0 : Int) → (a1 : Int) → (a2 : Int) → (k : Bool → Option β) → Option β) (zq28 : Nat → List Int → Int → List Int → (Int → Option β) → (List Int → Option β) → Option β) (zq26 : Nat → List Int → Int → Int → Int → List Int → (List Int → Int → Int → List Int → Option β) → Option β) : Env β := ⟨[(43, VS43 N zq1)], [], [(0, VLS93_0 N zq28), (2, VLS93_2 N zq26)], [], ⟨[], [], [153]⟩⟩
def E93 {β : Type} (N : Nat) : Env β := VE93 N (zj1 N) (zj28 N) (zj26 N)
def zb27 {β : Type} (N : Nat) (zq1 : (a0 : Int) → (a1 : Int) → (a2 : Int) → (k : Bool → Option β) → Option β) (zq26 : Nat → List Int → Int → Int → Int → List Int → (List Int → Int → Int → List Int → Option β) → Option β)  (v0 : List Int) (v1 : Int) (v2 : List Int) (rec_ : List Int → Int → List Int → Option β) (k0 : Int → Option β) (k1 : List Int → Option β) : Option β :=
(cond ((decide (v1 < (v0.length : Int))))
((gd ((decide (0 ≤ v1)))
((gd ((decide (v1 < (v0.length : Int))))
(zq1 ((rd 0 v0 v1)) 0 4294967295 fun r2 =>
(cond (!r2)
(k0 (-1))
((cond ((decide (v1 > 31)))
(k0 (-1))
((gd ((decide (0 ≤ v1)))
((gd ((decide (v1 < (v0.length : Int))))
(zq26  N v0 v1 ((rd 0 v0 v1)) 0 v2 (fun e3_0 e3_1 e3_2 e3_3 =>
(cond ((decide (e3_2 > 0)))
((gd ((decide ((e3_3.length + ((([] : List Int) ++ [e3_2])).length) * 8 ≤ 140737488355328)))
(rec_ e3_0 ((w64 (e3_1 + 1))) ((e3_3 ++ (([] : List Int) ++ [e3_2]))))))
(rec_ e3_0 ((w64 (e3_1 + 1))) e3_3))))))))))))))))
(k1 v2))
theorem zt27 {β : Type} (N : Nat)  (v0 : List Int) (v1 : Int) (v2 : List Int) (rec_ : List Int → Int → List Int → Option β) (k0 : Int → Option β) (k1 : List Int → Option β) : zj27 N v0 v1 v2 rec_ k0 k1 = zb27 N (zj1 N) (zj26 N) v0 v1 v2 rec_ k0 k1 := by
  unfold zj27 zb27
  rfl
theorem vst93_0_0 {β : Type} (N : Nat) (zq1 : (a0 : Int) → (a1 : Int) → (a2 : Int) → (k : Bool → Option β) → Option β) (zq28 : Nat → List Int → Int → List Int → (Int → Option β) → (List Int → Option β) → Option β) (zq26 : Nat → List Int → Int → Int → Int → List Int → (List Int → Int → Int → List Int → Option β) → Option β)  (v0 : List Int) (v1 : Int) (v2 : List Int) (rec_ : St → Option β) (K : Exit → St → Option β) :
    ev lay (VE93 N zq1 zq28 zq26) (retMask Tryd.f93) (lp Tryd.f93 0).body (lp Tryd.f93 0).ex ((lp Tryd.f93 0).lv (retMask Tryd.f93)) (h93_0_0  v0 v1 v2) (nextR (fun s' => rec_ (s'.tidy ((lp Tryd.f93 0).lv (retMask Tryd.f93)))) K) = zb27 N zq1 zq26  v0 v1 v2 (fun v0 v1 v2 => rec_ (h93_0_0  v0 v1 v2)) (fun y0 => K .ret (x93_0_0_k0  y0)) (fun y0 => K (.exit 0) (x93_0_0_k1  y0)) := by kernel_rfl
theorem st93_0_0 {β : Type} (N : Nat)  (v0 : List Int) (v1 : Int) (v2 : List Int) (rec_ : St → Option β) (K : Exit → St → Option β) :
    ev lay (E93 N) (retMask Tryd.f93) (lp Tryd.f93 0).body (lp Tryd.f93 0).ex ((lp Tryd.f93 0).lv (retMask Tryd.f93)) (h93_0_0  v0 v1 v2) (nextR (fun s' => rec_ (s'.tidy ((lp Tryd.f93 0).lv (retMask Tryd.f93)))) K) = zj27 N  v0 v1 v2 (fun v0 v1 v2 => rec_ (h93_0_0  v0 v1 v2)) (fun y0 => K .ret (x93_0_0_k0  y0)) (fun y0 => K (.exit 0) (x93_0_0_k1  y0)) := (vst93_0_0 N (zj1 N) (zj28 N) (zj26 N) v0 v1 v2 rec_ K).trans (zt27 N  v0 v1 v2 (fun v0 v1 v2 => rec_ (h93_0_0  v0 v1 v2)) (fun y0 => K .ret (x93_0_0_k0  y0)) (fun y0 => K (.exit 0) (x93_0_0_k1  y0))).symm
theorem ro93_0_0 {β : Type} (N : Nat)  (K : Exit → St → Option β) : ∀ (F : Nat) (v0 : List Int) (v1 : Int) (v2 : List Int), (lp Tryd.f93 0).rounds lay (E93 N) (retMask Tryd.f93) F (h93_0_0  v0 v1 v2) K = zj28 N  F v0 v1 v2 (fun y0 => K .ret (x93_0_0_k0  y0)) (fun y0 => K (.exit 0) (x93_0_0_k1  y0)) := by
  intro F
  induction F with
  | zero => intros; rfl
  | succ F ih =>
    intros
    rw [rounds_next]
    refine (st93_0_0 N  _ _ _ (fun s => (lp Tryd.f93 0).rounds lay (E93 N) (retMask Tryd.f93) F s K) K).trans ?_
    simp only [ih]
    rfl
theorem lk93_0 {β : Type} (N : Nat) : lookL (E93 (β := β) N).loops (lp Tryd.f93 0).id = LS93_0 N := by kernel_rfl
theorem rk93_0 {β : Type} (N : Nat) : RoundsOK lay (E93 (β := β) N) (retMask Tryd.f93) (lp Tryd.f93 0) := by
  intro s K r h
  rw [lk93_0] at h
  unfold LS93_0 VLS93_0 at h
  cases hb : shpSt (h93_0_0 [] 0 []) s with
  | true =>
    rw [hb, cond_true] at h
    exact ⟨N, by rw [← shpSt_ref hb, fl93_0_0 s]; exact (ro93_0_0 N  K N (rInts (rowV (oneA (vT (nx tund s.tmps 0))))) (intS (oneA (vT (nx tund s.tmps 4)))) (rInts (rowB_ (nx .dead s.blks 0)))).trans h⟩
  | false =>
  rw [hb, cond_false] at h
  clear hb
  cases h
def zb25 {β : Type} (N : Nat)  (v0 : List Int) (v1 : Int) (v2 : Int) (v3 : Int) (v4 : List Int) (rec_ : List Int → Int → Int → Int → List Int → Option β) (k0 : List Int → Int → Int → List Int → Option β) : Option β :=
(cond ((decide (v3 < (v4.length : Int))))
((gd ((decide (0 ≤ v3)))
((gd ((decide (v3 < (v4.length : Int))))
(rec_ v0 v1 ((mnI v2 (bits .xor .i64 v2 (rd 0 v4 v3)))) ((w64 (v3 + 1))) v4)))))
(k0 v0 v1 v2 v4))
theorem zt25 {β : Type} (N : Nat)  (v0 : List Int) (v1 : Int) (v2 : Int) (v3 : Int) (v4 : List Int) (rec_ : List Int → Int → Int → Int → List Int → Option β) (k0 : List Int → Int → Int → List Int → Option β) : zj25 N v0 v1 v2 v3 v4 rec_ k0 = zb25 N v0 v1 v2 v3 v4 rec_ k0 := by
  unfold zj25 zb25
  rfl
theorem vst93_1_0 {β : Type} (N : Nat) (zq1 : (a0 : Int) → (a1 : Int) → (a2 : Int) → (k : Bool → Option β) → Option β) (zq28 : Nat → List Int → Int → List Int → (Int → Option β) → (List Int → Option β) → Option β) (zq26 : Nat → List Int → Int → Int → Int → List Int → (List Int → Int → Int → List Int → Option β) → Option β)  (v0 : List Int) (v1 : Int) (v2 : Int) (v3 : Int) (v4 : List Int) (rec_ : St → Option β) (K : Exit → St → Option β) :
    ev lay (VE93 N zq1 zq28 zq26) (retMask Tryd.f93) (lp Tryd.f93 1).body (lp Tryd.f93 1).ex ((lp Tryd.f93 1).lv (retMask Tryd.f93)) (h93_1_0  v0 v1 v2 v3 v4) (nextR (fun s' => rec_ (s'.tidy ((lp Tryd.f93 1).lv (retMask Tryd.f93)))) K) = zb25 N  v0 v1 v2 v3 v4 (fun v0 v1 v2 v3 v4 => rec_ (h93_1_0  v0 v1 v2 v3 v4)) (fun y0 y1 y2 y3 => K (.exit 2) (x93_1_0_k0  y0 y1 y2 y3)) := by kernel_rfl
theorem st93_1_0 {β : Type} (N : Nat)  (v0 : List Int) (v1 : Int) (v2 : Int) (v3 : Int) (v4 : List Int) (rec_ : St → Option β) (K : Exit → St → Option β) :
    ev lay (E93 N) (retMask Tryd.f93) (lp Tryd.f93 1).body (lp Tryd.f93 1).ex ((lp Tryd.f93 1).lv (retMask Tryd.f93)) (h93_1_0  v0 v1 v2 v3 v4) (nextR (fun s' => rec_ (s'.tidy ((lp Tryd.f93 1).lv (retMask Tryd.f93)))) K) = zj25 N  v0 v1 v2 v3 v4 (fun v0 v1 v2 v3 v4 => rec_ (h93_1_0  v0 v1 v2 v3 v4)) (fun y0 y1 y2 y3 => K (.exit 2) (x93_1_0_k0  y0 y1 y2 y3)) := (vst93_1_0 N (zj1 N) (zj28 N) (zj26 N) v0 v1 v2 v3 v4 rec_ K).trans (zt25 N  v0 v1 v2 v3 v4 (fun v0 v1 v2 v3 v4 => rec_ (h93_1_0  v0 v1 v2 v3 v4)) (fun y0 y1 y2 y3 => K (.exit 2) (x93_1_0_k0  y0 y1 y2 y3))).symm
theorem ro93_1_0 {β : Type} (N : Nat)  (K : Exit → St → Option β) : ∀ (F : Nat) (v0 : List Int) (v1 : Int) (v2 : Int) (v3 : Int) (v4 : List Int), (lp Tryd.f93 1).rounds lay (E93 N) (retMask Tryd.f93) F (h93_1_0  v0 v1 v2 v3 v4) K = zj26 N  F v0 v1 v2 v3 v4 (fun y0 y1 y2 y3 => K (.exit 2) (x93_1_0_k0  y0 y1 y2 y3)) := by
  intro F
  induction F with
  | zero => intros; rfl
  | succ F ih =>
    intros
    rw [rounds_next]
    refine (st93_1_0 N  _ _ _ _ _ (fun s => (lp Tryd.f93 1).rounds lay (E93 N) (retMask Tryd.f93) F s K) K).trans ?_
    simp only [ih]
    rfl
theorem lk93_2 {β : Type} (N : Nat) : lookL (E93 (β := β) N).loops (lp Tryd.f93 1).id = LS93_2 N := by kernel_rfl
theorem rk93_2 {β : Type} (N : Nat) : RoundsOK lay (E93 (β := β) N) (retMask Tryd.f93) (lp Tryd.f93 1) := by
  intro s K r h
  rw [lk93_2] at h
  unfold LS93_2 VLS93_2 at h
  cases hb : shpSt (h93_1_0 [] 0 0 0 []) s with
  | true =>
    rw [hb, cond_true] at h
    exact ⟨N, by rw [← shpSt_ref hb, fl93_1_0 s]; exact (ro93_1_0 N  K N (rInts (rowV (oneA (vT (nx tund s.tmps 0))))) (intS (oneA (vT (nx tund s.tmps 4)))) (intS (oneA (vT (nx tund s.tmps 5)))) (intS (oneA (vT (nx tund s.tmps 6)))) (rInts (rowB_ (nx .dead s.blks 0)))).trans h⟩
  | false =>
  rw [hb, cond_false] at h
  clear hb
  cases h
def zb29 {β : Type} (N : Nat) (zq28 : Nat → List Int → Int → List Int → (Int → Option β) → (List Int → Option β) → Option β) (a0 : List Int) (k : Int → Option β) : Option β :=
zq28  N a0 0 (([] : List Int)) (fun e4_0 =>
k e4_0) (fun e5_0 =>
k ((e5_0.length : Int)))
theorem zt29 {β : Type} (N : Nat) (a0 : List Int) (k : Int → Option β) : zj29 N a0 k = zb29 N (zj28 N) a0 k := by
  unfold zj29 zb29
  rfl
theorem ve93_0 {β : Type} (N : Nat) (zq1 : (a0 : Int) → (a1 : Int) → (a2 : Int) → (k : Bool → Option β) → Option β) (zq28 : Nat → List Int → Int → List Int → (Int → Option β) → (List Int → Option β) → Option β) (zq26 : Nat → List Int → Int → Int → Int → List Int → (List Int → Int → Int → List Int → Option β) → Option β)  (a0 : List Int) (K : TV → Option β) : evFn lay (VE93 N zq1 zq28 zq26) Tryd.f93 [.v (.one (.sl 3 (.ints .i64 a0)))] K = zb29 N zq28 a0 (fun z1 => K (.v (.one (.int .i64 z1)))) := by kernel_rfl
theorem e93_0 {β : Type} (N : Nat)  (a0 : List Int) (K : TV → Option β) : evFn lay (E93 N) Tryd.f93 [.v (.one (.sl 3 (.ints .i64 a0)))] K = zj29 N a0 (fun z1 => K (.v (.one (.int .i64 z1)))) := (ve93_0 N (zj1 N) (zj28 N) (zj26 N) a0 K).trans (zt29 N a0 (fun z1 => K (.v (.one (.int .i64 z1))))).symm
theorem o93 {β : Type} (N : Nat) : SpecOK (β := β) inv Tryd.prog 93 (S93 N) := by
  refine spec_of lay_ok mixed (E := E93 N) (specs_loops (specs_cons (o43 N) specs_nil)) muts_nil gs_nil Tryd.func93 (by kernel_rfl) 2 (by kernel_rfl) ⟨⟨trivial, rk93_0 N⟩, rk93_2 N⟩ fun args K r h => ?_
  unfold S93 VS93 at h
  split at h
  · exact (e93_0 N _ _).trans h
  · cases h
def VS94 {β : Type} (N : Nat) (zq34 : (a0 : List Int) → (k : Int → Option β) → Option β) : Rv.Spec β := fun args K => match args with
  | [.v (.one (.sl 3 (.ints .i64 a0)))] => zq34 a0 (fun z1 => K (.v (.one (.int .i64 z1))))
  | _ => none
def S94 {β : Type} (N : Nat) : Rv.Spec β := VS94 N (zj34 N)
def h94_0_0  (v0 : List Int) (v1 : Int) (v2 : Int) : St := ⟨.v (.one (.sl 3 (.ints .i64 v0))) :: tund :: tund :: .v (.one (.int .i64 v1)) :: .v (.one (.int .i64 v2)) :: tund :: tund :: tund :: tund :: tund :: tund :: tund :: tund :: tund :: tund :: tund :: tund :: tund :: tund :: tund :: tund :: tund :: tund :: tund :: tund :: tund :: tund :: tund :: tund :: tund :: tund :: tund :: tund :: tund :: [], []⟩
def x94_0_0_k0  (y0 : Int) : St := ⟨tund :: tund :: tund :: .v (.one (.int .i64 y0)) :: tund :: tund :: tund :: tund :: tund :: tund :: tund :: tund :: tund :: tund :: tund :: tund :: tund :: tund :: tund :: tund :: tund :: tund :: tund :: tund :: tund :: tund :: tund :: tund :: tund :: tund :: tund :: tund :: tund :: tund :: [], []⟩
def h94_1_0  (v0 : List Int) (v1 : Int) (v2 : Int) (v3 : Bool) (v4 : Int) : St := ⟨.v (.one (.sl 3 (.ints .i64 v0))) :: tund :: tund :: .v (.one (.int .i64 v1)) :: .v (.one (.int .i64 v2)) :: .v (.one (.bool v3)) :: .v (.one (.int .i64 v4)) :: tund :: tund :: tund :: tund :: tund :: tund :: tund :: tund :: tund :: tund :: tund :: tund :: tund :: tund :: tund :: tund :: tund :: tund :: tund :: tund :: tund :: tund :: tund :: tund :: tund :: tund :: tund :: [], []⟩
def x94_1_0_k0  (y0 : List Int) (y1 : Int) (y2 : Int) (y3 : Bool) : St := ⟨.v (.one (.sl 3 (.ints .i64 y0))) :: tund :: tund :: .v (.one (.int .i64 y1)) :: .v (.one (.int .i64 y2)) :: .v (.one (.bool y3)) :: tund :: tund :: tund :: tund :: tund :: tund :: tund :: tund :: tund :: tund :: tund :: tund :: tund :: tund :: tund :: tund :: tund :: tund :: tund :: tund :: tund :: tund :: tund :: tund :: tund :: tund :: tund :: tund :: [], []⟩
theorem fl94_0_0 (s : St) : refSt (h94_0_0 [] 0 0) s = h94_0_0 (rInts (rowV (oneA (vT (nx tund s.tmps 0))))) (intS (oneA (vT (nx tund s.tmps 3)))) (intS (oneA (vT (nx tund s.tmps 4)))) := by kernel_rfl
def VLS94_0 {β : Type} (N : Nat) (zq33 : Nat → List Int → Int → Int → (Int → Option β) → Option β) : LSpec β := fun s K => cond (shpSt (h94_0_0 [] 0 0) s) ((fun (v0 : List Int) (v1 : Int) (v2 : Int) => zq33  N v0 v1 v2 (fun y0 => K (.exit 0) (x94_0_0_k0  y0))) (rInts (rowV (oneA (vT (nx tund s.tmps 0))))) (intS (oneA (vT (nx tund s.tmps 3)))) (intS (oneA (vT (nx tund s.tmps 4))))) (none)
def LS94_0 {β : Type} (N : Nat) : LSpec β := VLS94_0 N (zj33 N)
theorem fl94_1_0 (s : St) : refSt (h94_1_0 [] 0 0 false 0) s = h94_1_0 (rInts (rowV (oneA (vT (nx tund s.tmps 0))))) (intS (oneA (vT (nx tund s.tmps 3)))) (intS (oneA (vT (nx tund s.tmps 4)))) (boolS (oneA (vT (nx tund s.tmps 5)))) (intS (oneA (vT (nx tund s.tmps 6)))) := by kernel_rfl
def VLS94_2 {β : Type} (N : Nat) (zq31 : Nat → List Int → Int → Int → Bool → Int → (List Int → Int → Int → Bool → Option β) → Option β) : LSpec β := fun s K => cond (shpSt (h94_1_0 [] 0 0 false 0) s) ((fun (v0 : List Int) (v1 : Int) (v2 : Int) (v3 : Bool) (v4 : Int) => zq31  N v0 v1 v2 v3 v4 (fun y0 y1 y2 y3 => K (.exit 2) (x94_1_0_k0  y0 y1 y2 y3))) (rInts (rowV (oneA (vT (nx tund s.tmps 0))))) (intS (oneA (vT (nx tund s.tmps 3)))) (intS (oneA (vT (nx tund s.tmps 4)))) (boolS (oneA (vT (nx tund s.tmps 5)))) (intS (oneA (vT (nx tund s.tmps 6))))) (none)
def LS94_2 {β : Type} (N : Nat) : LSpec β := VLS94_2 N (zj31 N)
def VE94 {β : Type} (N : Nat) (zq33 : Nat → List Int → Int → Int → (Int → Option β) → Option β) (zq31 : Nat → List Int → Int → Int → Bool → Int → (List Int → Int → Int → Bool → Option β) → Option β) : Env β := ⟨[], [], [(0, VLS94_0 N zq33), (2, VLS94_2 N zq31)], [], ⟨[], [], [153]⟩⟩
def E94 {β : Type} (N : Nat) : Env β := VE94 N (zj33 N) (zj31 N)
def zb32 {β : Type} (N : Nat) (zq31 : Nat → List Int → Int → Int → Bool → Int → (List Int → Int → Int → Bool → Option β) → Option β)  (v0 : List Int) (v1 : Int) (v2 : Int) (rec_ : List Int → Int → Int → Option β) (k0 : Int → Option β) : Option β :=
(cond ((decide (v2 < (v0.length : Int))))
(zq31  N v0 v1 v2 true 0 (fun e2_0 e2_1 e2_2 e2_3 =>
(cond e2_3
(rec_ e2_0 ((w64 (e2_1 + 1))) ((w64 (e2_2 + 1))))
(rec_ e2_0 e2_1 ((w64 (e2_2 + 1)))))))
(k0 v1))
theorem zt32 {β : Type} (N : Nat)  (v0 : List Int) (v1 : Int) (v2 : Int) (rec_ : List Int → Int → Int → Option β) (k0 : Int → Option β) : zj32 N v0 v1 v2 rec_ k0 = zb32 N (zj31 N) v0 v1 v2 rec_ k0 := by
  unfold zj32 zb32
  rfl
theorem vst94_0_0 {β : Type} (N : Nat) (zq33 : Nat → List Int → Int → Int → (Int → Option β) → Option β) (zq31 : Nat → List Int → Int → Int → Bool → Int → (List Int → Int → Int → Bool → Option β) → Option β)  (v0 : List Int) (v1 : Int) (v2 : Int) (rec_ : St → Option β) (K : Exit → St → Option β) :
    ev lay (VE94 N zq33 zq31) (retMask Tryd.f94) (lp Tryd.f94 0).body (lp Tryd.f94 0).ex ((lp Tryd.f94 0).lv (retMask Tryd.f94)) (h94_0_0  v0 v1 v2) (nextR (fun s' => rec_ (s'.tidy ((lp Tryd.f94 0).lv (retMask Tryd.f94)))) K) = zb32 N zq31  v0 v1 v2 (fun v0 v1 v2 => rec_ (h94_0_0  v0 v1 v2)) (fun y0 => K (.exit 0) (x94_0_0_k0  y0)) := by kernel_rfl
theorem st94_0_0 {β : Type} (N : Nat)  (v0 : List Int) (v1 : Int) (v2 : Int) (rec_ : St → Option β) (K : Exit → St → Option β) :
    ev lay (E94 N) (retMask Tryd.f94) (lp Tryd.f94 0).body (lp Tryd.f94 0).ex ((lp Tryd.f94 0).lv (retMask Tryd.f94)) (h94_0_0  v0 v1 v2) (nextR (fun s' => rec_ (s'.tidy ((lp Tryd.f94 0).lv (retMask Tryd.f94)))) K) = zj32 N  v0 v1 v2 (fun v0 v1 v2 => rec_ (h94_0_0  v0 v1 v2)) (fun y0 => K (.exit 0) (x94_0_0_k0  y0)) := (vst94_0_0 N (zj33 N) (zj31 N) v0 v1 v2 rec_ K).trans (zt32 N  v0 v1 v2 (fun v0 v1 v2 => rec_ (h94_0_0  v0 v1 v2)) (fun y0 => K (.exit 0) (x94_0_0_k0  y0))).symm
theorem ro94_0_0 {β : Type} (N : Nat)  (K : Exit → St → Option β) : ∀ (F : Nat) (v0 : List Int) (v1 : Int) (v2 : Int), (lp Tryd.f94 0).rounds lay (E94 N) (retMask Tryd.f94) F (h94_0_0  v0 v1 v2) K = zj33 N  F v0 v1 v2 (fun y0 => K (.exit 0) (x94_0_0_k0  y0)) := by
  intro F
  induction F with
  | zero => intros; rfl
  | succ F ih =>
    intros
    rw [rounds_next]
    refine (st94_0_0 N  _ _ _ (fun s => (lp Tryd.f94 0).rounds lay (E94 N) (retMask Tryd.f94) F s K) K).trans ?_
    simp only [ih]
    rfl
theorem lk94_0 {β : Type} (N : Nat) : lookL (E94 (β := β) N).loops (lp Tryd.f94 0).id = LS94_0 N := by kernel_rfl
theorem rk94_0 {β : Type} (N : Nat) : RoundsOK lay (E94 (β := β) N) (retMask Tryd.f94) (lp Tryd.f94 0) := by
  intro s K r h
  rw [lk94_0] at h
  unfold LS94_0 VLS94_0 at h
  cases hb : shpSt (h94_0_0 [] 0 0) s with
  | true =>
    rw [hb, cond_true] at h
    exact ⟨N, by rw [← shpSt_ref hb, fl94_0_0 s]; exact (ro94_0_0 N  K N (rInts (rowV (oneA (vT (nx tund s.tmps 0))))) (intS (oneA (vT (nx tund s.tmps 3)))) (intS (oneA (vT (nx tund s.tmps 4))))).trans h⟩
  | false =>
  rw [hb, cond_false] at h
  clear hb
  cases h
def zb30 {β : Type} (N : Nat)  (v0 : List Int) (v1 : Int) (v2 : Int) (v3 : Bool) (v4 : Int) (rec_ : List Int → Int → Int → Bool → Int → Option β) (k0 : List Int → Int → Int → Bool → Option β) : Option β :=
(cond ((decide (v4 < v2)))
((cond v3
((gd ((decide (0 ≤ v4)))
((gd ((decide (v4 < (v0.length : Int))))
((gd ((decide (0 ≤ v2)))
((gd ((decide (v2 < (v0.length : Int))))
(rec_ v0 v1 v2 (((rd 0 v0 v4) != (rd 0 v0 v2))) ((w64 (v4 + 1))))))))))))
(rec_ v0 v1 v2 false ((w64 (v4 + 1))))))
(k0 v0 v1 v2 v3))
theorem zt30 {β : Type} (N : Nat)  (v0 : List Int) (v1 : Int) (v2 : Int) (v3 : Bool) (v4 : Int) (rec_ : List Int → Int → Int → Bool → Int → Option β) (k0 : List Int → Int → Int → Bool → Option β) : zj30 N v0 v1 v2 v3 v4 rec_ k0 = zb30 N v0 v1 v2 v3 v4 rec_ k0 := by
  unfold zj30 zb30
  rfl
theorem vst94_1_0 {β : Type} (N : Nat) (zq33 : Nat → List Int → Int → Int → (Int → Option β) → Option β) (zq31 : Nat → List Int → Int → Int → Bool → Int → (List Int → Int → Int → Bool → Option β) → Option β)  (v0 : List Int) (v1 : Int) (v2 : Int) (v3 : Bool) (v4 : Int) (rec_ : St → Option β) (K : Exit → St → Option β) :
    ev lay (VE94 N zq33 zq31) (retMask Tryd.f94) (lp Tryd.f94 1).body (lp Tryd.f94 1).ex ((lp Tryd.f94 1).lv (retMask Tryd.f94)) (h94_1_0  v0 v1 v2 v3 v4) (nextR (fun s' => rec_ (s'.tidy ((lp Tryd.f94 1).lv (retMask Tryd.f94)))) K) = zb30 N  v0 v1 v2 v3 v4 (fun v0 v1 v2 v3 v4 => rec_ (h94_1_0  v0 v1 v2 v3 v4)) (fun y0 y1 y2 y3 => K (.exit 2) (x94_1_0_k0  y0 y1 y2 y3)) := by kernel_rfl
theorem st94_1_0 {β : Type} (N : Nat)  (v0 : List Int) (v1 : Int) (v2 : Int) (v3 : Bool) (v4 : Int) (rec_ : St → Option β) (K : Exit → St → Option β) :
    ev lay (E94 N) (retMask Tryd.f94) (lp Tryd.f94 1).body (lp Tryd.f94 1).ex ((lp Tryd.f94 1).lv (retMask Tryd.f94)) (h94_1_0  v0 v1 v2 v3 v4) (nextR (fun s' => rec_ (s'.tidy ((lp Tryd.f94 1).lv (retMask Tryd.f94)))) K) = zj30 N  v0 v1 v2 v3 v4 (fun v0 v1 v2 v3 v4 => rec_ (h94_1_0  v0 v1 v2 v3 v4)) (fun y0 y1 y2 y3 => K (.exit 2) (x94_1_0_k0  y0 y1 y2 y3)) := (vst94_1_0 N (zj33 N) (zj31 N) v0 v1 v2 v3 v4 rec_ K).trans (zt30 N  v0 v1 v2 v3 v4 (fun v0 v1 v2 v3 v4 => rec_ (h94_1_0  v0 v1 v2 v3 v4)) (fun y0 y1 y2 y3 => K (.exit 2) (x94_1_0_k0  y0 y1 y2 y3))).symm
theorem ro94_1_0 {β : Type} (N : Nat)  (K : Exit → St → Option β) : ∀ (F : Nat) (v0 : List Int) (v1 : Int) (v2 : Int) (v3 : Bool) (v4 : Int), (lp Tryd.f94 1).rounds lay (E94 N) (retMask Tryd.f94) F (h94_1_0  v0 v1 v2 v3 v4) K = zj31 N  F v0 v1 v2 v3 v4 (fun y0 y1 y2 y3 => K (.exit 2) (x94_1_0_k0  y0 y1 y2 y3)) := by
  intro F
  induction F with
  | zero => intros; rfl
  | succ F ih =>
    intros
    rw [rounds_next]
    refine (st94_1_0 N  _ _ _ _ _ (fun s => (lp Tryd.f94 1).rounds lay (E94 N) (retMask Tryd.f94) F s K) K).trans ?_
    simp only [ih]
    rfl
theorem lk94_2 {β : Type} (N : Nat) : lookL (E94 (β := β) N).loops (lp Tryd.f94 1).id = LS94_2 N := by kernel_rfl
theorem rk94_2 {β : Type} (N : Nat) : RoundsOK lay (E94 (β := β) N) (retMask Tryd.f94) (lp Tryd.f94 1) := by
  intro s K r h
  rw [lk94_2] at h
  unfold LS94_2 VLS94_2 at h
  cases hb : shpSt (h94_1_0 [] 0 0 false 0) s with
  | true =>
    rw [hb, cond_true] at h
    exact ⟨N, by rw [← shpSt_ref hb, fl94_1_0 s]; exact (ro94_1_0 N  K N (rInts (rowV (oneA (vT (nx tund s.tmps 0))))) (intS (oneA (vT (nx tund s.tmps 3)))) (intS (oneA (vT (nx tund s.tmps 4)))) (boolS (oneA (vT (nx tund s.tmps 5)))) (intS (oneA (vT (nx tund s.tmps 6))))).trans h⟩
  | false =>
  rw [hb, cond_false] at h
  clear hb
  cases h
def zb34 {β : Type} (N : Nat) (zq33 : Nat → List Int → Int → Int → (Int → Option β) → Option β) (a0 : List Int) (k : Int → Option β) : Option β :=
zq33  N a0 0 0 (fun e3_0 =>
k e3_0)
theorem zt34 {β : Type} (N : Nat) (a0 : List Int) (k : Int → Option β) : zj34 N a0 k = zb34 N (zj33 N) a0 k := by
  unfold zj34 zb34
  rfl
theorem ve94_0 {β : Type} (N : Nat) (zq33 : Nat → List Int → Int → Int → (Int → Option β) → Option β) (zq31 : Nat → List Int → Int → Int → Bool → Int → (List Int → Int → Int → Bool → Option β) → Option β)  (a0 : List Int) (K : TV → Option β) : evFn lay (VE94 N zq33 zq31) Tryd.f94 [.v (.one (.sl 3 (.ints .i64 a0)))] K = zb34 N zq33 a0 (fun z1 => K (.v (.one (.int .i64 z1)))) := by kernel_rfl
theorem e94_0 {β : Type} (N : Nat)  (a0 : List Int) (K : TV → Option β) : evFn lay (E94 N) Tryd.f94 [.v (.one (.sl 3 (.ints .i64 a0)))] K = zj34 N a0 (fun z1 => K (.v (.one (.int .i64 z1)))) := (ve94_0 N (zj33 N) (zj31 N) a0 K).trans (zt34 N a0 (fun z1 => K (.v (.one (.int .i64 z1))))).symm
theorem o94 {β : Type} (N : Nat) : SpecOK (β := β) inv Tryd.prog 94 (S94 N) := by
  refine spec_of lay_ok mixed (E := E94 N) (specs_loops specs_nil) muts_nil gs_nil Tryd.func94 (by kernel_rfl) 2 (by kernel_rfl) ⟨⟨trivial, rk94_0 N⟩, rk94_2 N⟩ fun args K r h => ?_
  unfold S94 VS94 at h
  split at h
  · exact (e94_0 N _ _).trans h
  · cases h
end Go.Proofs.YtfdggelojmofmaaDoor
