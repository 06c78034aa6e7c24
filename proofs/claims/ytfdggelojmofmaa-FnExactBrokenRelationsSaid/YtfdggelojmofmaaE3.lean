/- The functions that the claims reach answer as their texts do. -/
import Derived.Test.YtfdggelojmofmaaE2
namespace Go.Proofs.Ytfdggelojmofmaa
open Go.Rv
set_option maxRecDepth 100000
set_option maxHeartbeats 2000000
set_option linter.unusedVariables false
def VS99 {β : Type} (N : Nat) (zq65 : (a0 : ByteArray) → (a1 : Int) → (a2 : Int) → (k : Int → Option β) → Option β) : Rv.Spec β := fun args K => match args with
  | [.v (.one (.str a0)), .v (.agg [.int .i64 a1, .int .i64 a2])] => zq65 a0 a1 a2 (fun z3 => K (.v (.one (.int .i64 z3))))
  | _ => none
def S99 {β : Type} (N : Nat) : Rv.Spec β := VS99 N (zj65 N)
def VE99 {β : Type} (N : Nat) (zq2 : (a0 : Int) → (a1 : Int) → (k : Bool → Option β) → Option β) (zq9 : (a0 : Int) → (a1 : Int) → (k : Int → Option β) → Option β) (zq24 : (a0 : Int) → (a1 : Int) → (k : Int → Option β) → Option β) (zq37 : (a0 : Int) → (a1 : Int) → (a2 : Int) → (k : Int → Option β) → Option β) (zq43 : (a0 : Int) → (a1 : Int) → (k : Int → Option β) → Option β) (zq51 : (a0 : Int) → (a1 : Int) → (k : Int → Option β) → Option β) (zq59 : (a0 : Int) → (a1 : Int) → (k : Int → Option β) → Option β) (zq60 : (a0 : Int) → (a1 : Int) → (k : Int → Option β) → Option β) (zq64 : (a0 : Int) → (a1 : Int) → (k : Int → Option β) → Option β) : Env β := ⟨[(58, VS58 N zq2), (127, VS127 N zq9), (128, VS128 N zq24), (100, VS100 N zq37), (129, VS129 N zq43), (130, VS130 N zq51), (131, VS131 N zq59), (132, VS132 N zq60), (133, VS133 N zq64)], [], [], [], ⟨[], [], [], [61]⟩⟩
def E99 {β : Type} (N : Nat) : Env β := VE99 N (zj2 N) (zj9 N) (zj24 N) (zj37 N) (zj43 N) (zj51 N) (zj59 N) (zj60 N) (zj64 N)
def zb65 {β : Type} (N : Nat) (zq2 : (a0 : Int) → (a1 : Int) → (k : Bool → Option β) → Option β) (zq9 : (a0 : Int) → (a1 : Int) → (k : Int → Option β) → Option β) (zq24 : (a0 : Int) → (a1 : Int) → (k : Int → Option β) → Option β) (zq37 : (a0 : Int) → (a1 : Int) → (a2 : Int) → (k : Int → Option β) → Option β) (zq43 : (a0 : Int) → (a1 : Int) → (k : Int → Option β) → Option β) (zq51 : (a0 : Int) → (a1 : Int) → (k : Int → Option β) → Option β) (zq59 : (a0 : Int) → (a1 : Int) → (k : Int → Option β) → Option β) (zq60 : (a0 : Int) → (a1 : Int) → (k : Int → Option β) → Option β) (zq64 : (a0 : Int) → (a1 : Int) → (k : Int → Option β) → Option β) (a0 : ByteArray) (a1 : Int) (a2 : Int) (k : Int → Option β) : Option β :=
zq2 a1 a2 fun r4 =>
(cond (!r4)
(k (-1))
((cond ((decide (a1 > 4)))
(k (-1))
((cond ((a0.toList == ((strOf [115, 101, 110, 115, 105, 116, 105, 118, 105, 116, 121])).toList))
(zq9 a1 a2 fun r5 =>
k r5)
((cond ((a0.toList == ((strOf [98, 108, 111, 99, 107, 115])).toList))
(zq24 a1 a2 fun r6 =>
k r6)
((cond ((a0.toList == ((strOf [99, 101, 114, 116, 105, 102, 105, 99, 97, 116, 101])).toList))
(zq37 a1 a2 0 fun r7 =>
zq37 a1 a2 1 fun r8 =>
k ((mxI r7 r8)))
((cond ((a0.toList == ((strOf [100, 101, 112, 116, 104])).toList))
(zq43 a1 a2 fun r9 =>
k r9)
((cond ((a0.toList == ((strOf [100, 101, 103, 114, 101, 101])).toList))
(zq51 a1 a2 fun r10 =>
k ((mxI 0 r10)))
((cond ((a0.toList == ((strOf [100, 101, 103, 114, 101, 101, 50])).toList))
(zq59 a1 a2 fun r11 =>
k ((mxI 0 r11)))
((cond ((a0.toList == ((strOf [111, 110, 101, 115])).toList))
(zq60 a1 a2 fun r12 =>
k r12)
((cond ((a0.toList == ((strOf [105, 110, 102, 108, 117, 101, 110, 99, 101])).toList))
(zq64 a1 a2 fun r13 =>
k r13)
(k (-1)))))))))))))))))))))
theorem zt65 {β : Type} (N : Nat) (a0 : ByteArray) (a1 : Int) (a2 : Int) (k : Int → Option β) : zj65 N a0 a1 a2 k = zb65 N (zj2 N) (zj9 N) (zj24 N) (zj37 N) (zj43 N) (zj51 N) (zj59 N) (zj60 N) (zj64 N) a0 a1 a2 k := by
  unfold zj65 zb65
  rfl
theorem ve99_0 {β : Type} (N : Nat) (zq2 : (a0 : Int) → (a1 : Int) → (k : Bool → Option β) → Option β) (zq9 : (a0 : Int) → (a1 : Int) → (k : Int → Option β) → Option β) (zq24 : (a0 : Int) → (a1 : Int) → (k : Int → Option β) → Option β) (zq37 : (a0 : Int) → (a1 : Int) → (a2 : Int) → (k : Int → Option β) → Option β) (zq43 : (a0 : Int) → (a1 : Int) → (k : Int → Option β) → Option β) (zq51 : (a0 : Int) → (a1 : Int) → (k : Int → Option β) → Option β) (zq59 : (a0 : Int) → (a1 : Int) → (k : Int → Option β) → Option β) (zq60 : (a0 : Int) → (a1 : Int) → (k : Int → Option β) → Option β) (zq64 : (a0 : Int) → (a1 : Int) → (k : Int → Option β) → Option β)  (a0 : ByteArray) (a1 : Int) (a2 : Int) (K : TV → Option β) : evFn lay (VE99 N zq2 zq9 zq24 zq37 zq43 zq51 zq59 zq60 zq64) Try.f99 [.v (.one (.str a0)), .v (.agg [.int .i64 a1, .int .i64 a2])] K = zb65 N zq2 zq9 zq24 zq37 zq43 zq51 zq59 zq60 zq64 a0 a1 a2 (fun z3 => K (.v (.one (.int .i64 z3)))) := by kernel_rfl
theorem e99_0 {β : Type} (N : Nat)  (a0 : ByteArray) (a1 : Int) (a2 : Int) (K : TV → Option β) : evFn lay (E99 N) Try.f99 [.v (.one (.str a0)), .v (.agg [.int .i64 a1, .int .i64 a2])] K = zj65 N a0 a1 a2 (fun z3 => K (.v (.one (.int .i64 z3)))) := (ve99_0 N (zj2 N) (zj9 N) (zj24 N) (zj37 N) (zj43 N) (zj51 N) (zj59 N) (zj60 N) (zj64 N) a0 a1 a2 K).trans (zt65 N a0 a1 a2 (fun z3 => K (.v (.one (.int .i64 z3))))).symm
theorem o99 {β : Type} (N : Nat) : SpecOK (β := β) inv Try.prog 99 (S99 N) := by
  refine spec_of lay_ok mixed (E := E99 N) (specs_loops (specs_cons (o58 N) (specs_cons (o127 N) (specs_cons (o128 N) (specs_cons (o100 N) (specs_cons (o129 N) (specs_cons (o130 N) (specs_cons (o131 N) (specs_cons (o132 N) (specs_cons (o133 N) specs_nil)))))))))) muts_nil gs_nil Try.func99 (by kernel_rfl) 0 (by kernel_rfl) trivial fun args K r h => ?_
  unfold S99 VS99 at h
  split at h
  · exact (e99_0 N _ _ _ _).trans h
  · cases h
def VS200 {β : Type} (N : Nat) (zq66 : (a0 : Int) → (a1 : Int) → (a2 : Int) → (k : Int → Option β) → Option β) : Rv.Spec β := fun args K => match args with
  | [.v (.one (.int .i64 a0)), .v (.one (.int .i64 a1)), .v (.one (.int .i64 a2))] => zq66 a0 a1 a2 (fun z3 => K (.v (.one (.int .i64 z3))))
  | _ => none
def S200 {β : Type} (N : Nat) : Rv.Spec β := VS200 N (zj66 N)
def VE200 {β : Type} (N : Nat) : Env β := ⟨[], [], [], [], ⟨[], [], [], [61]⟩⟩
def E200 {β : Type} (N : Nat) : Env β := VE200 N
def zb66 {β : Type} (N : Nat) (a0 : Int) (a1 : Int) (a2 : Int) (k : Int → Option β) : Option β :=
(gd ((decide (0 ≤ a1)))
((gd ((decide (0 ≤ a1)))
((gd ((decide (0 ≤ (w64 (a1 + 1)))))
((gd ((decide (0 ≤ a1)))
(k ((bits .or .i64 (bits .or .i64 (shlI .i64 (shrI .i64 a0 a1) (w64 (a1 + 1))) (shlI .i64 a2 a1)) (bits .and .i64 a0 (w64 ((shlI .i64 1 a1) - 1)))))))))))))
theorem zt66 {β : Type} (N : Nat) (a0 : Int) (a1 : Int) (a2 : Int) (k : Int → Option β) : zj66 N a0 a1 a2 k = zb66 N a0 a1 a2 k := by
  unfold zj66 zb66
  rfl
theorem ve200_0 {β : Type} (N : Nat)  (a0 : Int) (a1 : Int) (a2 : Int) (K : TV → Option β) : evFn lay (VE200 N) Try.f200 [.v (.one (.int .i64 a0)), .v (.one (.int .i64 a1)), .v (.one (.int .i64 a2))] K = zb66 N a0 a1 a2 (fun z3 => K (.v (.one (.int .i64 z3)))) := by kernel_rfl
theorem e200_0 {β : Type} (N : Nat)  (a0 : Int) (a1 : Int) (a2 : Int) (K : TV → Option β) : evFn lay (E200 N) Try.f200 [.v (.one (.int .i64 a0)), .v (.one (.int .i64 a1)), .v (.one (.int .i64 a2))] K = zj66 N a0 a1 a2 (fun z3 => K (.v (.one (.int .i64 z3)))) := (ve200_0 N a0 a1 a2 K).trans (zt66 N a0 a1 a2 (fun z3 => K (.v (.one (.int .i64 z3))))).symm
theorem o200 {β : Type} (N : Nat) : SpecOK (β := β) inv Try.prog 200 (S200 N) := by
  refine spec_of lay_ok mixed (E := E200 N) (specs_loops specs_nil) muts_nil gs_nil Try.func200 (by kernel_rfl) 0 (by kernel_rfl) trivial fun args K r h => ?_
  unfold S200 VS200 at h
  split at h
  · exact (e200_0 N _ _ _ _).trans h
  · cases h
def VS171 {β : Type} (N : Nat) (zq69 : (a0 : Int) → (a1 : Int) → (a2 : Int) → (a3 : Int) → (k : Int → Int → Option β) → Option β) : Rv.Spec β := fun args K => match args with
  | [.v (.agg [.int .i64 a0, .int .i64 a1]), .v (.one (.int .i64 a2)), .v (.one (.int .i64 a3))] => zq69 a0 a1 a2 a3 (fun z4 z5 => K (.v (.agg [.int .i64 z4, .int .i64 z5])))
  | _ => none
def S171 {β : Type} (N : Nat) : Rv.Spec β := VS171 N (zj69 N)
def h171_0_0  (v0 : Int) (v1 : Int) (v2 : Int) (v3 : Int) (v4 : Int) (v5 : Int) (v6 : Int) (v7 : Int) : St := ⟨tund :: .v (.one (.int .i64 v0)) :: .v (.one (.int .i64 v1)) :: .v (.one (.ptr 0 0)) :: tund :: tund :: .v (.one (.ptr 1 0)) :: .v (.one (.int .i64 v2)) :: .v (.one (.int .i64 v3)) :: tund :: tund :: tund :: tund :: tund :: tund :: tund :: tund :: tund :: tund :: tund :: tund :: tund :: tund :: tund :: tund :: tund :: tund :: tund :: tund :: tund :: tund :: tund :: tund :: tund :: [], [.cells 27 [.int .i64 v4, .int .i64 v5], .cells 27 [.int .i64 v6, .int .i64 v7]]⟩
def x171_0_0_k0  (y0 : Int) (y1 : Int) (y2 : Int) (y3 : Int) (y4 : Int) : St := ⟨tund :: tund :: tund :: .v (.one (.ptr 0 0)) :: tund :: tund :: .v (.one (.ptr 1 0)) :: .v (.one (.int .i64 y0)) :: tund :: tund :: tund :: tund :: tund :: tund :: tund :: tund :: tund :: tund :: tund :: tund :: tund :: tund :: tund :: tund :: tund :: tund :: tund :: tund :: tund :: tund :: tund :: tund :: tund :: tund :: [], [.cells 27 [.int .i64 y1, .int .i64 y2], .cells 27 [.int .i64 y3, .int .i64 y4]]⟩
theorem fl171_0_0 (s : St) : refSt (h171_0_0 0 0 0 0 0 0 0 0) s = h171_0_0 (intS (oneA (vT (nx tund s.tmps 1)))) (intS (oneA (vT (nx tund s.tmps 2)))) (intS (oneA (vT (nx tund s.tmps 7)))) (intS (oneA (vT (nx tund s.tmps 8)))) (intS (nx .und (cellsB (nx .dead s.blks 0)) 0)) (intS (nx .und (cellsB (nx .dead s.blks 0)) 1)) (intS (nx .und (cellsB (nx .dead s.blks 1)) 0)) (intS (nx .und (cellsB (nx .dead s.blks 1)) 1)) := by kernel_rfl
def VLS171_0 {β : Type} (N : Nat) (zq68 : Nat → Int → Int → Int → Int → Int → Int → Int → Int → (Int → Int → Int → Int → Int → Option β) → Option β) : LSpec β := fun s K => cond (shpSt (h171_0_0 0 0 0 0 0 0 0 0) s) ((fun (v0 : Int) (v1 : Int) (v2 : Int) (v3 : Int) (v4 : Int) (v5 : Int) (v6 : Int) (v7 : Int) => zq68  N v0 v1 v2 v3 v4 v5 v6 v7 (fun y0 y1 y2 y3 y4 => K (.exit 0) (x171_0_0_k0  y0 y1 y2 y3 y4))) (intS (oneA (vT (nx tund s.tmps 1)))) (intS (oneA (vT (nx tund s.tmps 2)))) (intS (oneA (vT (nx tund s.tmps 7)))) (intS (oneA (vT (nx tund s.tmps 8)))) (intS (nx .und (cellsB (nx .dead s.blks 0)) 0)) (intS (nx .und (cellsB (nx .dead s.blks 0)) 1)) (intS (nx .und (cellsB (nx .dead s.blks 1)) 0)) (intS (nx .und (cellsB (nx .dead s.blks 1)) 1))) (none)
def LS171_0 {β : Type} (N : Nat) : LSpec β := VLS171_0 N (zj68 N)
def VE171 {β : Type} (N : Nat) (zq66 : (a0 : Int) → (a1 : Int) → (a2 : Int) → (k : Int → Option β) → Option β) (zq68 : Nat → Int → Int → Int → Int → Int → Int → Int → Int → (Int → Int → Int → Int → Int → Option β) → Option β) : Env β := ⟨[(200, VS200 N zq66)], [], [(0, VLS171_0 N zq68)], [], ⟨[], [], [], [61]⟩⟩
def E171 {β : Type} (N : Nat) : Env β := VE171 N (zj66 N) (zj68 N)
def zb67 {β : Type} (N : Nat) (zq66 : (a0 : Int) → (a1 : Int) → (a2 : Int) → (k : Int → Option β) → Option β)  (v0 : Int) (v1 : Int) (v2 : Int) (v3 : Int) (v4 : Int) (v5 : Int) (v6 : Int) (v7 : Int) (rec_ : Int → Int → Int → Int → Int → Int → Int → Int → Option β) (k0 : Int → Int → Int → Int → Int → Option β) : Option β :=
(gd ((decide (0 ≤ (w64 (v4 - 1)))))
((cond ((decide (v3 < (shlI .i64 1 (w64 (v4 - 1))))))
(zq66 v3 v0 v1 fun r6 =>
(gd ((decide (0 ≤ r6)))
((gd ((decide (0 ≤ v3)))
(rec_ v0 v1 ((bits .or .i64 v2 (shlI .i64 (bits .and .i64 (shrI .i64 v5 r6) 1) v3))) ((w64 (v3 + 1))) v4 v5 v6 v7)))))
(k0 v2 v4 v5 v6 v7))))
theorem zt67 {β : Type} (N : Nat)  (v0 : Int) (v1 : Int) (v2 : Int) (v3 : Int) (v4 : Int) (v5 : Int) (v6 : Int) (v7 : Int) (rec_ : Int → Int → Int → Int → Int → Int → Int → Int → Option β) (k0 : Int → Int → Int → Int → Int → Option β) : zj67 N v0 v1 v2 v3 v4 v5 v6 v7 rec_ k0 = zb67 N (zj66 N) v0 v1 v2 v3 v4 v5 v6 v7 rec_ k0 := by
  unfold zj67 zb67
  rfl
theorem vst171_0_0 {β : Type} (N : Nat) (zq66 : (a0 : Int) → (a1 : Int) → (a2 : Int) → (k : Int → Option β) → Option β) (zq68 : Nat → Int → Int → Int → Int → Int → Int → Int → Int → (Int → Int → Int → Int → Int → Option β) → Option β)  (v0 : Int) (v1 : Int) (v2 : Int) (v3 : Int) (v4 : Int) (v5 : Int) (v6 : Int) (v7 : Int) (rec_ : St → Option β) (K : Exit → St → Option β) :
    ev lay (VE171 N zq66 zq68) (retMask Try.f171) (lp Try.f171 0).body (lp Try.f171 0).ex ((lp Try.f171 0).lv (retMask Try.f171)) (h171_0_0  v0 v1 v2 v3 v4 v5 v6 v7) (nextR (fun s' => rec_ (s'.tidy ((lp Try.f171 0).lv (retMask Try.f171)))) K) = zb67 N zq66  v0 v1 v2 v3 v4 v5 v6 v7 (fun v0 v1 v2 v3 v4 v5 v6 v7 => rec_ (h171_0_0  v0 v1 v2 v3 v4 v5 v6 v7)) (fun y0 y1 y2 y3 y4 => K (.exit 0) (x171_0_0_k0  y0 y1 y2 y3 y4)) := by kernel_rfl
theorem st171_0_0 {β : Type} (N : Nat)  (v0 : Int) (v1 : Int) (v2 : Int) (v3 : Int) (v4 : Int) (v5 : Int) (v6 : Int) (v7 : Int) (rec_ : St → Option β) (K : Exit → St → Option β) :
    ev lay (E171 N) (retMask Try.f171) (lp Try.f171 0).body (lp Try.f171 0).ex ((lp Try.f171 0).lv (retMask Try.f171)) (h171_0_0  v0 v1 v2 v3 v4 v5 v6 v7) (nextR (fun s' => rec_ (s'.tidy ((lp Try.f171 0).lv (retMask Try.f171)))) K) = zj67 N  v0 v1 v2 v3 v4 v5 v6 v7 (fun v0 v1 v2 v3 v4 v5 v6 v7 => rec_ (h171_0_0  v0 v1 v2 v3 v4 v5 v6 v7)) (fun y0 y1 y2 y3 y4 => K (.exit 0) (x171_0_0_k0  y0 y1 y2 y3 y4)) := (vst171_0_0 N (zj66 N) (zj68 N) v0 v1 v2 v3 v4 v5 v6 v7 rec_ K).trans (zt67 N  v0 v1 v2 v3 v4 v5 v6 v7 (fun v0 v1 v2 v3 v4 v5 v6 v7 => rec_ (h171_0_0  v0 v1 v2 v3 v4 v5 v6 v7)) (fun y0 y1 y2 y3 y4 => K (.exit 0) (x171_0_0_k0  y0 y1 y2 y3 y4))).symm
theorem ro171_0_0 {β : Type} (N : Nat)  (K : Exit → St → Option β) : ∀ (F : Nat) (v0 : Int) (v1 : Int) (v2 : Int) (v3 : Int) (v4 : Int) (v5 : Int) (v6 : Int) (v7 : Int), (lp Try.f171 0).rounds lay (E171 N) (retMask Try.f171) F (h171_0_0  v0 v1 v2 v3 v4 v5 v6 v7) K = zj68 N  F v0 v1 v2 v3 v4 v5 v6 v7 (fun y0 y1 y2 y3 y4 => K (.exit 0) (x171_0_0_k0  y0 y1 y2 y3 y4)) := by
  intro F
  induction F with
  | zero => intros; rfl
  | succ F ih =>
    intros
    rw [rounds_next]
    refine (st171_0_0 N  _ _ _ _ _ _ _ _ (fun s => (lp Try.f171 0).rounds lay (E171 N) (retMask Try.f171) F s K) K).trans ?_
    simp only [ih]
    rfl
theorem lk171_0 {β : Type} (N : Nat) : lookL (E171 (β := β) N).loops (lp Try.f171 0).id = LS171_0 N := by kernel_rfl
theorem rk171_0 {β : Type} (N : Nat) : RoundsOK lay (E171 (β := β) N) (retMask Try.f171) (lp Try.f171 0) := by
  intro s K r h
  rw [lk171_0] at h
  unfold LS171_0 VLS171_0 at h
  cases hb : shpSt (h171_0_0 0 0 0 0 0 0 0 0) s with
  | true =>
    rw [hb, cond_true] at h
    exact ⟨N, by rw [← shpSt_ref hb, fl171_0_0 s]; exact (ro171_0_0 N  K N (intS (oneA (vT (nx tund s.tmps 1)))) (intS (oneA (vT (nx tund s.tmps 2)))) (intS (oneA (vT (nx tund s.tmps 7)))) (intS (oneA (vT (nx tund s.tmps 8)))) (intS (nx .und (cellsB (nx .dead s.blks 0)) 0)) (intS (nx .und (cellsB (nx .dead s.blks 0)) 1)) (intS (nx .und (cellsB (nx .dead s.blks 1)) 0)) (intS (nx .und (cellsB (nx .dead s.blks 1)) 1))).trans h⟩
  | false =>
  rw [hb, cond_false] at h
  clear hb
  cases h
def zb69 {β : Type} (N : Nat) (zq68 : Nat → Int → Int → Int → Int → Int → Int → Int → Int → (Int → Int → Int → Int → Int → Option β) → Option β) (a0 : Int) (a1 : Int) (a2 : Int) (a3 : Int) (k : Int → Int → Option β) : Option β :=
zq68  N a2 a3 0 0 a0 a1 0 0 (fun e7_0 e7_1 e7_2 e7_3 e7_4 =>
k ((w64 (e7_1 - 1))) e7_0)
theorem zt69 {β : Type} (N : Nat) (a0 : Int) (a1 : Int) (a2 : Int) (a3 : Int) (k : Int → Int → Option β) : zj69 N a0 a1 a2 a3 k = zb69 N (zj68 N) a0 a1 a2 a3 k := by
  unfold zj69 zb69
  rfl
theorem ve171_0 {β : Type} (N : Nat) (zq66 : (a0 : Int) → (a1 : Int) → (a2 : Int) → (k : Int → Option β) → Option β) (zq68 : Nat → Int → Int → Int → Int → Int → Int → Int → Int → (Int → Int → Int → Int → Int → Option β) → Option β)  (a0 : Int) (a1 : Int) (a2 : Int) (a3 : Int) (K : TV → Option β) : evFn lay (VE171 N zq66 zq68) Try.f171 [.v (.agg [.int .i64 a0, .int .i64 a1]), .v (.one (.int .i64 a2)), .v (.one (.int .i64 a3))] K = zb69 N zq68 a0 a1 a2 a3 (fun z4 z5 => K (.v (.agg [.int .i64 z4, .int .i64 z5]))) := by kernel_rfl
theorem e171_0 {β : Type} (N : Nat)  (a0 : Int) (a1 : Int) (a2 : Int) (a3 : Int) (K : TV → Option β) : evFn lay (E171 N) Try.f171 [.v (.agg [.int .i64 a0, .int .i64 a1]), .v (.one (.int .i64 a2)), .v (.one (.int .i64 a3))] K = zj69 N a0 a1 a2 a3 (fun z4 z5 => K (.v (.agg [.int .i64 z4, .int .i64 z5]))) := (ve171_0 N (zj66 N) (zj68 N) a0 a1 a2 a3 K).trans (zt69 N a0 a1 a2 a3 (fun z4 z5 => K (.v (.agg [.int .i64 z4, .int .i64 z5])))).symm
theorem o171 {β : Type} (N : Nat) : SpecOK (β := β) inv Try.prog 171 (S171 N) := by
  refine spec_of lay_ok mixed (E := E171 N) (specs_loops (specs_cons (o200 N) specs_nil)) muts_nil gs_nil Try.func171 (by kernel_rfl) 1 (by kernel_rfl) ⟨trivial, rk171_0 N⟩ fun args K r h => ?_
  unfold S171 VS171 at h
  split at h
  · exact (e171_0 N _ _ _ _ _).trans h
  · cases h
def VS135 {β : Type} (N : Nat) (zq70 : (a0 : Int) → (a1 : Int) → (a2 : Int) → (k : Bool → Option β) → Option β) : Rv.Spec β := fun args K => match args with
  | [.v (.agg [.int .i64 a0, .int .i64 a1]), .v (.one (.int .i64 a2))] => zq70 a0 a1 a2 (fun z3 => K (.v (.one (.bool z3))))
  | _ => none
def S135 {β : Type} (N : Nat) : Rv.Spec β := VS135 N (zj70 N)
def VE135 {β : Type} (N : Nat) (zq69 : (a0 : Int) → (a1 : Int) → (a2 : Int) → (a3 : Int) → (k : Int → Int → Option β) → Option β) : Env β := ⟨[(171, VS171 N zq69)], [], [], [], ⟨[], [], [], [61]⟩⟩
def E135 {β : Type} (N : Nat) : Env β := VE135 N (zj69 N)
def zb70 {β : Type} (N : Nat) (zq69 : (a0 : Int) → (a1 : Int) → (a2 : Int) → (a3 : Int) → (k : Int → Int → Option β) → Option β) (a0 : Int) (a1 : Int) (a2 : Int) (k : Bool → Option β) : Option β :=
zq69 a0 a1 a2 0 fun r4 r5 =>
zq69 a0 a1 a2 1 fun r6 r7 =>
k ((r5 != r7))
theorem zt70 {β : Type} (N : Nat) (a0 : Int) (a1 : Int) (a2 : Int) (k : Bool → Option β) : zj70 N a0 a1 a2 k = zb70 N (zj69 N) a0 a1 a2 k := by
  unfold zj70 zb70
  rfl
theorem ve135_0 {β : Type} (N : Nat) (zq69 : (a0 : Int) → (a1 : Int) → (a2 : Int) → (a3 : Int) → (k : Int → Int → Option β) → Option β)  (a0 : Int) (a1 : Int) (a2 : Int) (K : TV → Option β) : evFn lay (VE135 N zq69) Try.f135 [.v (.agg [.int .i64 a0, .int .i64 a1]), .v (.one (.int .i64 a2))] K = zb70 N zq69 a0 a1 a2 (fun z3 => K (.v (.one (.bool z3)))) := by kernel_rfl
theorem e135_0 {β : Type} (N : Nat)  (a0 : Int) (a1 : Int) (a2 : Int) (K : TV → Option β) : evFn lay (E135 N) Try.f135 [.v (.agg [.int .i64 a0, .int .i64 a1]), .v (.one (.int .i64 a2))] K = zj70 N a0 a1 a2 (fun z3 => K (.v (.one (.bool z3)))) := (ve135_0 N (zj69 N) a0 a1 a2 K).trans (zt70 N a0 a1 a2 (fun z3 => K (.v (.one (.bool z3))))).symm
theorem o135 {β : Type} (N : Nat) : SpecOK (β := β) inv Try.prog 135 (S135 N) := by
  refine spec_of lay_ok mixed (E := E135 N) (specs_loops (specs_cons (o171 N) specs_nil)) muts_nil gs_nil Try.func135 (by kernel_rfl) 0 (by kernel_rfl) trivial fun args K r h => ?_
  unfold S135 VS135 at h
  split at h
  · exact (e135_0 N _ _ _ _).trans h
  · cases h
def VS101 {β : Type} (N : Nat) (zq73 : (a0 : Int) → (a1 : Int) → (k : List Int → Option β) → Option β) : Rv.Spec β := fun args K => match args with
  | [.v (.agg [.int .i64 a0, .int .i64 a1])] => zq73 a0 a1 (fun z2 => K (.v (.one (.sl 3 (.ints .i64 z2)))))
  | _ => none
def S101 {β : Type} (N : Nat) : Rv.Spec β := VS101 N (zj73 N)
def h101_0_0  (v0 : Int) (v1 : Int) (v2 : Int) (v3 : List Int) : St := ⟨tund :: .v (.one (.ptr 0 0)) :: tund :: .v (.one (.row 1)) :: .v (.one (.int .i64 v0)) :: tund :: tund :: tund :: tund :: tund :: tund :: tund :: tund :: tund :: tund :: tund :: tund :: tund :: tund :: tund :: tund :: tund :: tund :: tund :: [], [.cells 27 [.int .i64 v1, .int .i64 v2], .row 3 (.ints .i64 v3)]⟩
def x101_0_0_k0  (y0 : List Int) : St := ⟨tund :: tund :: tund :: .v (.one (.row 0)) :: tund :: tund :: tund :: tund :: tund :: tund :: tund :: tund :: tund :: tund :: tund :: tund :: tund :: tund :: tund :: tund :: tund :: tund :: tund :: tund :: [], [.row 3 (.ints .i64 y0)]⟩
theorem fl101_0_0 (s : St) : refSt (h101_0_0 0 0 0 []) s = h101_0_0 (intS (oneA (vT (nx tund s.tmps 4)))) (intS (nx .und (cellsB (nx .dead s.blks 0)) 0)) (intS (nx .und (cellsB (nx .dead s.blks 0)) 1)) (rInts (rowB_ (nx .dead s.blks 1))) := by kernel_rfl
def VLS101_0 {β : Type} (N : Nat) (zq72 : Nat → Int → Int → Int → List Int → (List Int → Option β) → Option β) : LSpec β := fun s K => cond (shpSt (h101_0_0 0 0 0 []) s) ((fun (v0 : Int) (v1 : Int) (v2 : Int) (v3 : List Int) => zq72  N v0 v1 v2 v3 (fun y0 => K (.exit 0) (x101_0_0_k0  y0))) (intS (oneA (vT (nx tund s.tmps 4)))) (intS (nx .und (cellsB (nx .dead s.blks 0)) 0)) (intS (nx .und (cellsB (nx .dead s.blks 0)) 1)) (rInts (rowB_ (nx .dead s.blks 1)))) (none)
def LS101_0 {β : Type} (N : Nat) : LSpec β := VLS101_0 N (zj72 N)
def VE101 {β : Type} (N : Nat) (zq2 : (a0 : Int) → (a1 : Int) → (k : Bool → Option β) → Option β) (zq70 : (a0 : Int) → (a1 : Int) → (a2 : Int) → (k : Bool → Option β) → Option β) (zq72 : Nat → Int → Int → Int → List Int → (List Int → Option β) → Option β) : Env β := ⟨[(58, VS58 N zq2), (135, VS135 N zq70)], [], [(0, VLS101_0 N zq72)], [], ⟨[], [], [], [61]⟩⟩
def E101 {β : Type} (N : Nat) : Env β := VE101 N (zj2 N) (zj70 N) (zj72 N)
def zb71 {β : Type} (N : Nat) (zq2 : (a0 : Int) → (a1 : Int) → (k : Bool → Option β) → Option β) (zq70 : (a0 : Int) → (a1 : Int) → (a2 : Int) → (k : Bool → Option β) → Option β)  (v0 : Int) (v1 : Int) (v2 : Int) (v3 : List Int) (rec_ : Int → Int → Int → List Int → Option β) (k0 : List Int → Option β) : Option β :=
zq2 v1 v2 fun r3 =>
(cond r3
((cond ((decide (v0 < v1)))
(zq70 v1 v2 v0 fun r4 =>
(cond r4
((gd ((decide ((v3.length + ((([] : List Int) ++ [v0])).length) * 8 ≤ 140737488355328)))
(rec_ ((w64 (v0 + 1))) v1 v2 ((v3 ++ (([] : List Int) ++ [v0]))))))
(rec_ ((w64 (v0 + 1))) v1 v2 v3)))
(k0 v3)))
(k0 v3))
theorem zt71 {β : Type} (N : Nat)  (v0 : Int) (v1 : Int) (v2 : Int) (v3 : List Int) (rec_ : Int → Int → Int → List Int → Option β) (k0 : List Int → Option β) : zj71 N v0 v1 v2 v3 rec_ k0 = zb71 N (zj2 N) (zj70 N) v0 v1 v2 v3 rec_ k0 := by
  unfold zj71 zb71
  rfl
theorem vst101_0_0 {β : Type} (N : Nat) (zq2 : (a0 : Int) → (a1 : Int) → (k : Bool → Option β) → Option β) (zq70 : (a0 : Int) → (a1 : Int) → (a2 : Int) → (k : Bool → Option β) → Option β) (zq72 : Nat → Int → Int → Int → List Int → (List Int → Option β) → Option β)  (v0 : Int) (v1 : Int) (v2 : Int) (v3 : List Int) (rec_ : St → Option β) (K : Exit → St → Option β) :
    ev lay (VE101 N zq2 zq70 zq72) (retMask Try.f101) (lp Try.f101 0).body (lp Try.f101 0).ex ((lp Try.f101 0).lv (retMask Try.f101)) (h101_0_0  v0 v1 v2 v3) (nextR (fun s' => rec_ (s'.tidy ((lp Try.f101 0).lv (retMask Try.f101)))) K) = zb71 N zq2 zq70  v0 v1 v2 v3 (fun v0 v1 v2 v3 => rec_ (h101_0_0  v0 v1 v2 v3)) (fun y0 => K (.exit 0) (x101_0_0_k0  y0)) := by kernel_rfl
theorem st101_0_0 {β : Type} (N : Nat)  (v0 : Int) (v1 : Int) (v2 : Int) (v3 : List Int) (rec_ : St → Option β) (K : Exit → St → Option β) :
    ev lay (E101 N) (retMask Try.f101) (lp Try.f101 0).body (lp Try.f101 0).ex ((lp Try.f101 0).lv (retMask Try.f101)) (h101_0_0  v0 v1 v2 v3) (nextR (fun s' => rec_ (s'.tidy ((lp Try.f101 0).lv (retMask Try.f101)))) K) = zj71 N  v0 v1 v2 v3 (fun v0 v1 v2 v3 => rec_ (h101_0_0  v0 v1 v2 v3)) (fun y0 => K (.exit 0) (x101_0_0_k0  y0)) := (vst101_0_0 N (zj2 N) (zj70 N) (zj72 N) v0 v1 v2 v3 rec_ K).trans (zt71 N  v0 v1 v2 v3 (fun v0 v1 v2 v3 => rec_ (h101_0_0  v0 v1 v2 v3)) (fun y0 => K (.exit 0) (x101_0_0_k0  y0))).symm
theorem ro101_0_0 {β : Type} (N : Nat)  (K : Exit → St → Option β) : ∀ (F : Nat) (v0 : Int) (v1 : Int) (v2 : Int) (v3 : List Int), (lp Try.f101 0).rounds lay (E101 N) (retMask Try.f101) F (h101_0_0  v0 v1 v2 v3) K = zj72 N  F v0 v1 v2 v3 (fun y0 => K (.exit 0) (x101_0_0_k0  y0)) := by
  intro F
  induction F with
  | zero => intros; rfl
  | succ F ih =>
    intros
    rw [rounds_next]
    refine (st101_0_0 N  _ _ _ _ (fun s => (lp Try.f101 0).rounds lay (E101 N) (retMask Try.f101) F s K) K).trans ?_
    simp only [ih]
    rfl
theorem lk101_0 {β : Type} (N : Nat) : lookL (E101 (β := β) N).loops (lp Try.f101 0).id = LS101_0 N := by kernel_rfl
theorem rk101_0 {β : Type} (N : Nat) : RoundsOK lay (E101 (β := β) N) (retMask Try.f101) (lp Try.f101 0) := by
  intro s K r h
  rw [lk101_0] at h
  unfold LS101_0 VLS101_0 at h
  cases hb : shpSt (h101_0_0 0 0 0 []) s with
  | true =>
    rw [hb, cond_true] at h
    exact ⟨N, by rw [← shpSt_ref hb, fl101_0_0 s]; exact (ro101_0_0 N  K N (intS (oneA (vT (nx tund s.tmps 4)))) (intS (nx .und (cellsB (nx .dead s.blks 0)) 0)) (intS (nx .und (cellsB (nx .dead s.blks 0)) 1)) (rInts (rowB_ (nx .dead s.blks 1)))).trans h⟩
  | false =>
  rw [hb, cond_false] at h
  clear hb
  cases h
def zb73 {β : Type} (N : Nat) (zq72 : Nat → Int → Int → Int → List Int → (List Int → Option β) → Option β) (a0 : Int) (a1 : Int) (k : List Int → Option β) : Option β :=
zq72  N 0 a0 a1 (([] : List Int)) (fun e5_0 =>
k e5_0)
theorem zt73 {β : Type} (N : Nat) (a0 : Int) (a1 : Int) (k : List Int → Option β) : zj73 N a0 a1 k = zb73 N (zj72 N) a0 a1 k := by
  unfold zj73 zb73
  rfl
theorem ve101_0 {β : Type} (N : Nat) (zq2 : (a0 : Int) → (a1 : Int) → (k : Bool → Option β) → Option β) (zq70 : (a0 : Int) → (a1 : Int) → (a2 : Int) → (k : Bool → Option β) → Option β) (zq72 : Nat → Int → Int → Int → List Int → (List Int → Option β) → Option β)  (a0 : Int) (a1 : Int) (K : TV → Option β) : evFn lay (VE101 N zq2 zq70 zq72) Try.f101 [.v (.agg [.int .i64 a0, .int .i64 a1])] K = zb73 N zq72 a0 a1 (fun z2 => K (.v (.one (.sl 3 (.ints .i64 z2))))) := by kernel_rfl
theorem e101_0 {β : Type} (N : Nat)  (a0 : Int) (a1 : Int) (K : TV → Option β) : evFn lay (E101 N) Try.f101 [.v (.agg [.int .i64 a0, .int .i64 a1])] K = zj73 N a0 a1 (fun z2 => K (.v (.one (.sl 3 (.ints .i64 z2))))) := (ve101_0 N (zj2 N) (zj70 N) (zj72 N) a0 a1 K).trans (zt73 N a0 a1 (fun z2 => K (.v (.one (.sl 3 (.ints .i64 z2)))))).symm
theorem o101 {β : Type} (N : Nat) : SpecOK (β := β) inv Try.prog 101 (S101 N) := by
  refine spec_of lay_ok mixed (E := E101 N) (specs_loops (specs_cons (o58 N) (specs_cons (o135 N) specs_nil))) muts_nil gs_nil Try.func101 (by kernel_rfl) 1 (by kernel_rfl) ⟨trivial, rk101_0 N⟩ fun args K r h => ?_
  unfold S101 VS101 at h
  split at h
  · exact (e101_0 N _ _ _).trans h
  · cases h
def VS60 {β : Type} (N : Nat) (zq74 : (a0 : ByteArray) → (a1 : Int) → (a2 : Int) → (k : Bool → Option β) → Option β) : Rv.Spec β := fun args K => match args with
  | [.v (.one (.str a0)), .v (.agg [.int .i64 a1, .int .i64 a2])] => zq74 a0 a1 a2 (fun z3 => K (.v (.one (.bool z3))))
  | _ => none
def S60 {β : Type} (N : Nat) : Rv.Spec β := VS60 N (zj74 N)
def VE60 {β : Type} (N : Nat) (zq65 : (a0 : ByteArray) → (a1 : Int) → (a2 : Int) → (k : Int → Option β) → Option β) (zq37 : (a0 : Int) → (a1 : Int) → (a2 : Int) → (k : Int → Option β) → Option β) (zq73 : (a0 : Int) → (a1 : Int) → (k : List Int → Option β) → Option β) : Env β := ⟨[(99, VS99 N zq65), (100, VS100 N zq37), (101, VS101 N zq73)], [], [], [], ⟨[], [], [], [61]⟩⟩
def E60 {β : Type} (N : Nat) : Env β := VE60 N (zj65 N) (zj37 N) (zj73 N)
def zb74 {β : Type} (N : Nat) (zq65 : (a0 : ByteArray) → (a1 : Int) → (a2 : Int) → (k : Int → Option β) → Option β) (zq37 : (a0 : Int) → (a1 : Int) → (a2 : Int) → (k : Int → Option β) → Option β) (zq73 : (a0 : Int) → (a1 : Int) → (k : List Int → Option β) → Option β) (a0 : ByteArray) (a1 : Int) (a2 : Int) (k : Bool → Option β) : Option β :=
zq65 ((strOf [115, 101, 110, 115, 105, 116, 105, 118, 105, 116, 121])) a1 a2 fun r4 =>
zq65 ((strOf [98, 108, 111, 99, 107, 115])) a1 a2 fun r5 =>
zq65 ((strOf [99, 101, 114, 116, 105, 102, 105, 99, 97, 116, 101])) a1 a2 fun r6 =>
zq65 ((strOf [100, 101, 112, 116, 104])) a1 a2 fun r7 =>
zq65 ((strOf [100, 101, 103, 114, 101, 101])) a1 a2 fun r8 =>
(cond ((decide (r4 < 0)))
(k false)
((cond ((a0.toList == ((strOf [111, 114, 100, 101, 114])).toList))
((cond ((decide (r4 ≤ r5)))
((cond ((decide (r5 ≤ r6)))
((cond ((decide (r6 ≤ r7)))
(k ((decide (r8 ≤ r7))))
(k false)))
(k false)))
(k false)))
((cond ((a0.toList == ((strOf [112, 114, 111, 100, 117, 99, 116])).toList))
(zq37 a1 a2 0 fun r9 =>
zq37 a1 a2 1 fun r10 =>
k ((decide (r7 ≤ (w64 (r9 * r10))))))
((cond ((a0.toList == ((strOf [104, 117, 97, 110, 103])).toList))
(k ((decide (r8 ≤ (w64 (r4 * r4))))))
((cond ((a0.toList == ((strOf [98, 108, 111, 99, 107, 115])).toList))
((cond ((decide (r6 ≤ (w64 (r4 * r5)))))
(k ((decide (r7 ≤ (w64 ((w64 (r5 * r5)) * r5))))))
(k false)))
((cond ((a0.toList == ((strOf [100, 101, 103, 114, 101, 101, 115])).toList))
(zq65 ((strOf [100, 101, 103, 114, 101, 101, 50])) a1 a2 fun r11 =>
k ((decide (r11 ≤ r8))))
((cond ((a0.toList == ((strOf [118, 97, 114, 105, 97, 98, 108, 101, 115])).toList))
(zq73 a1 a2 fun r12 =>
(cond ((decide (r7 ≤ (r12.length : Int))))
((cond (((r12.length : Int) == 0))
((gd ((decide (0 ≤ a1)))
(zq65 ((strOf [105, 110, 102, 108, 117, 101, 110, 99, 101])) a1 a2 fun r13 =>
k ((decide (r13 ≤ (shlI .i64 r4 a1)))))))
((cond ((decide (r4 ≥ 1)))
((gd ((decide (0 ≤ a1)))
(zq65 ((strOf [105, 110, 102, 108, 117, 101, 110, 99, 101])) a1 a2 fun r14 =>
k ((decide (r14 ≤ (shlI .i64 r4 a1)))))))
(k false)))))
(k false)))
(k false))))))))))))))
theorem zt74 {β : Type} (N : Nat) (a0 : ByteArray) (a1 : Int) (a2 : Int) (k : Bool → Option β) : zj74 N a0 a1 a2 k = zb74 N (zj65 N) (zj37 N) (zj73 N) a0 a1 a2 k := by
  unfold zj74 zb74
  rfl
theorem ve60_0 {β : Type} (N : Nat) (zq65 : (a0 : ByteArray) → (a1 : Int) → (a2 : Int) → (k : Int → Option β) → Option β) (zq37 : (a0 : Int) → (a1 : Int) → (a2 : Int) → (k : Int → Option β) → Option β) (zq73 : (a0 : Int) → (a1 : Int) → (k : List Int → Option β) → Option β)  (a0 : ByteArray) (a1 : Int) (a2 : Int) (K : TV → Option β) : evFn lay (VE60 N zq65 zq37 zq73) Try.f60 [.v (.one (.str a0)), .v (.agg [.int .i64 a1, .int .i64 a2])] K = zb74 N zq65 zq37 zq73 a0 a1 a2 (fun z3 => K (.v (.one (.bool z3)))) := by kernel_rfl
theorem e60_0 {β : Type} (N : Nat)  (a0 : ByteArray) (a1 : Int) (a2 : Int) (K : TV → Option β) : evFn lay (E60 N) Try.f60 [.v (.one (.str a0)), .v (.agg [.int .i64 a1, .int .i64 a2])] K = zj74 N a0 a1 a2 (fun z3 => K (.v (.one (.bool z3)))) := (ve60_0 N (zj65 N) (zj37 N) (zj73 N) a0 a1 a2 K).trans (zt74 N a0 a1 a2 (fun z3 => K (.v (.one (.bool z3))))).symm
theorem o60 {β : Type} (N : Nat) : SpecOK (β := β) inv Try.prog 60 (S60 N) := by
  refine spec_of lay_ok mixed (E := E60 N) (specs_loops (specs_cons (o99 N) (specs_cons (o100 N) (specs_cons (o101 N) specs_nil)))) muts_nil gs_nil Try.func60 (by kernel_rfl) 0 (by kernel_rfl) trivial fun args K r h => ?_
  unfold S60 VS60 at h
  split at h
  · exact (e60_0 N _ _ _ _).trans h
  · cases h
def VS16 {β : Type} (N : Nat) (zq77 : (a0 : Int) → (a1 : Int) → (k : List ByteArray → Bool → Option β) → Option β) : Rv.Spec β := fun args K => match args with
  | [.v (.agg [.int .i64 a0, .int .i64 a1])] => zq77 a0 a1 (fun z2 z3 => K (.tup [.one (.sl 9 (.strs z2)), .one (.bool z3)]))
  | _ => none
def S16 {β : Type} (N : Nat) : Rv.Spec β := VS16 N (zj77 N)
def h16_0_0  (v0 : Int) (v1 : Int) (v2 : Int) (v3 : List ByteArray) (v4 : List ByteArray) : St := ⟨tund :: .v (.one (.ptr 0 0)) :: tund :: tund :: .v (.one (.row 1)) :: .v (.one (.row 2)) :: .v (.one (.int .i64 v0)) :: tund :: tund :: tund :: tund :: tund :: tund :: tund :: tund :: tund :: tund :: tund :: tund :: tund :: tund :: tund :: tund :: tund :: tund :: tund :: tund :: tund :: tund :: tund :: tund :: tund :: tund :: tund :: tund :: tund :: tund :: tund :: tund :: [], [.cells 27 [.int .i64 v1, .int .i64 v2], .row 9 (.strs v3), .row 9 (.strs v4)]⟩
def x16_0_0_k0  (y0 : List ByteArray) : St := ⟨tund :: tund :: tund :: tund :: .v (.one (.row 0)) :: tund :: tund :: tund :: tund :: tund :: tund :: tund :: tund :: tund :: tund :: tund :: tund :: tund :: tund :: tund :: tund :: tund :: tund :: tund :: tund :: tund :: tund :: tund :: tund :: tund :: tund :: tund :: tund :: tund :: tund :: tund :: tund :: tund :: tund :: [], [.row 9 (.strs y0)]⟩
theorem fl16_0_0 (s : St) : refSt (h16_0_0 0 0 0 [] []) s = h16_0_0 (intS (oneA (vT (nx tund s.tmps 6)))) (intS (nx .und (cellsB (nx .dead s.blks 0)) 0)) (intS (nx .und (cellsB (nx .dead s.blks 0)) 1)) (rStrs (rowB_ (nx .dead s.blks 1))) (rStrs (rowB_ (nx .dead s.blks 2))) := by kernel_rfl
def VLS16_0 {β : Type} (N : Nat) (zq76 : Nat → Int → Int → Int → List ByteArray → List ByteArray → (List ByteArray → Option β) → Option β) : LSpec β := fun s K => cond (shpSt (h16_0_0 0 0 0 [] []) s) ((fun (v0 : Int) (v1 : Int) (v2 : Int) (v3 : List ByteArray) (v4 : List ByteArray) => zq76  N v0 v1 v2 v3 v4 (fun y0 => K (.exit 0) (x16_0_0_k0  y0))) (intS (oneA (vT (nx tund s.tmps 6)))) (intS (nx .und (cellsB (nx .dead s.blks 0)) 0)) (intS (nx .und (cellsB (nx .dead s.blks 0)) 1)) (rStrs (rowB_ (nx .dead s.blks 1))) (rStrs (rowB_ (nx .dead s.blks 2)))) (none)
def LS16_0 {β : Type} (N : Nat) : LSpec β := VLS16_0 N (zj76 N)
def VE16 {β : Type} (N : Nat) (zq2 : (a0 : Int) → (a1 : Int) → (k : Bool → Option β) → Option β) (zq3 : (k : List ByteArray → Option β) → Option β) (zq74 : (a0 : ByteArray) → (a1 : Int) → (a2 : Int) → (k : Bool → Option β) → Option β) (zq76 : Nat → Int → Int → Int → List ByteArray → List ByteArray → (List ByteArray → Option β) → Option β) : Env β := ⟨[(58, VS58 N zq2), (59, VS59 N zq3), (60, VS60 N zq74)], [], [(0, VLS16_0 N zq76)], [], ⟨[], [], [], [61]⟩⟩
def E16 {β : Type} (N : Nat) : Env β := VE16 N (zj2 N) (zj3 N) (zj74 N) (zj76 N)
def zb75 {β : Type} (N : Nat) (zq74 : (a0 : ByteArray) → (a1 : Int) → (a2 : Int) → (k : Bool → Option β) → Option β)  (v0 : Int) (v1 : Int) (v2 : Int) (v3 : List ByteArray) (v4 : List ByteArray) (rec_ : Int → Int → Int → List ByteArray → List ByteArray → Option β) (k0 : List ByteArray → Option β) : Option β :=
(cond ((decide (v0 < (v4.length : Int))))
((gd ((decide (0 ≤ v0)))
((gd ((decide (v0 < (v4.length : Int))))
(zq74 ((rd ByteArray.empty v4 v0)) v1 v2 fun r6 =>
(cond (!r6)
((gd ((decide (0 ≤ v0)))
((gd ((decide (v0 < (v4.length : Int))))
((gd ((decide ((v3.length + ((([] : List ByteArray) ++ [(rd ByteArray.empty v4 v0)])).length) * 16 ≤ 140737488355328)))
(rec_ ((w64 (v0 + 1))) v1 v2 ((v3 ++ (([] : List ByteArray) ++ [(rd ByteArray.empty v4 v0)]))) v4)))))))
(rec_ ((w64 (v0 + 1))) v1 v2 v3 v4)))))))
(k0 v3))
theorem zt75 {β : Type} (N : Nat)  (v0 : Int) (v1 : Int) (v2 : Int) (v3 : List ByteArray) (v4 : List ByteArray) (rec_ : Int → Int → Int → List ByteArray → List ByteArray → Option β) (k0 : List ByteArray → Option β) : zj75 N v0 v1 v2 v3 v4 rec_ k0 = zb75 N (zj74 N) v0 v1 v2 v3 v4 rec_ k0 := by
  unfold zj75 zb75
  rfl
theorem vst16_0_0 {β : Type} (N : Nat) (zq2 : (a0 : Int) → (a1 : Int) → (k : Bool → Option β) → Option β) (zq3 : (k : List ByteArray → Option β) → Option β) (zq74 : (a0 : ByteArray) → (a1 : Int) → (a2 : Int) → (k : Bool → Option β) → Option β) (zq76 : Nat → Int → Int → Int → List ByteArray → List ByteArray → (List ByteArray → Option β) → Option β)  (v0 : Int) (v1 : Int) (v2 : Int) (v3 : List ByteArray) (v4 : List ByteArray) (rec_ : St → Option β) (K : Exit → St → Option β) :
    ev lay (VE16 N zq2 zq3 zq74 zq76) (retMask Try.f16) (lp Try.f16 0).body (lp Try.f16 0).ex ((lp Try.f16 0).lv (retMask Try.f16)) (h16_0_0  v0 v1 v2 v3 v4) (nextR (fun s' => rec_ (s'.tidy ((lp Try.f16 0).lv (retMask Try.f16)))) K) = zb75 N zq74  v0 v1 v2 v3 v4 (fun v0 v1 v2 v3 v4 => rec_ (h16_0_0  v0 v1 v2 v3 v4)) (fun y0 => K (.exit 0) (x16_0_0_k0  y0)) := by kernel_rfl
theorem st16_0_0 {β : Type} (N : Nat)  (v0 : Int) (v1 : Int) (v2 : Int) (v3 : List ByteArray) (v4 : List ByteArray) (rec_ : St → Option β) (K : Exit → St → Option β) :
    ev lay (E16 N) (retMask Try.f16) (lp Try.f16 0).body (lp Try.f16 0).ex ((lp Try.f16 0).lv (retMask Try.f16)) (h16_0_0  v0 v1 v2 v3 v4) (nextR (fun s' => rec_ (s'.tidy ((lp Try.f16 0).lv (retMask Try.f16)))) K) = zj75 N  v0 v1 v2 v3 v4 (fun v0 v1 v2 v3 v4 => rec_ (h16_0_0  v0 v1 v2 v3 v4)) (fun y0 => K (.exit 0) (x16_0_0_k0  y0)) := (vst16_0_0 N (zj2 N) (zj3 N) (zj74 N) (zj76 N) v0 v1 v2 v3 v4 rec_ K).trans (zt75 N  v0 v1 v2 v3 v4 (fun v0 v1 v2 v3 v4 => rec_ (h16_0_0  v0 v1 v2 v3 v4)) (fun y0 => K (.exit 0) (x16_0_0_k0  y0))).symm
theorem ro16_0_0 {β : Type} (N : Nat)  (K : Exit → St → Option β) : ∀ (F : Nat) (v0 : Int) (v1 : Int) (v2 : Int) (v3 : List ByteArray) (v4 : List ByteArray), (lp Try.f16 0).rounds lay (E16 N) (retMask Try.f16) F (h16_0_0  v0 v1 v2 v3 v4) K = zj76 N  F v0 v1 v2 v3 v4 (fun y0 => K (.exit 0) (x16_0_0_k0  y0)) := by
  intro F
  induction F with
  | zero => intros; rfl
  | succ F ih =>
    intros
    rw [rounds_next]
    refine (st16_0_0 N  _ _ _ _ _ (fun s => (lp Try.f16 0).rounds lay (E16 N) (retMask Try.f16) F s K) K).trans ?_
    simp only [ih]
    rfl
theorem lk16_0 {β : Type} (N : Nat) : lookL (E16 (β := β) N).loops (lp Try.f16 0).id = LS16_0 N := by kernel_rfl
theorem rk16_0 {β : Type} (N : Nat) : RoundsOK lay (E16 (β := β) N) (retMask Try.f16) (lp Try.f16 0) := by
  intro s K r h
  rw [lk16_0] at h
  unfold LS16_0 VLS16_0 at h
  cases hb : shpSt (h16_0_0 0 0 0 [] []) s with
  | true =>
    rw [hb, cond_true] at h
    exact ⟨N, by rw [← shpSt_ref hb, fl16_0_0 s]; exact (ro16_0_0 N  K N (intS (oneA (vT (nx tund s.tmps 6)))) (intS (nx .und (cellsB (nx .dead s.blks 0)) 0)) (intS (nx .und (cellsB (nx .dead s.blks 0)) 1)) (rStrs (rowB_ (nx .dead s.blks 1))) (rStrs (rowB_ (nx .dead s.blks 2)))).trans h⟩
  | false =>
  rw [hb, cond_false] at h
  clear hb
  cases h
def zb77 {β : Type} (N : Nat) (zq2 : (a0 : Int) → (a1 : Int) → (k : Bool → Option β) → Option β) (zq3 : (k : List ByteArray → Option β) → Option β) (zq76 : Nat → Int → Int → Int → List ByteArray → List ByteArray → (List ByteArray → Option β) → Option β) (a0 : Int) (a1 : Int) (k : List ByteArray → Bool → Option β) : Option β :=
zq2 a0 a1 fun r4 =>
(cond (!r4)
(k (([] : List ByteArray)) false)
((cond ((decide (a0 > 4)))
(k (([] : List ByteArray)) false)
(zq3  fun r5 =>
zq76  N 0 a0 a1 (([] : List ByteArray)) r5 (fun e7_0 =>
k e7_0 true)))))
theorem zt77 {β : Type} (N : Nat) (a0 : Int) (a1 : Int) (k : List ByteArray → Bool → Option β) : zj77 N a0 a1 k = zb77 N (zj2 N) (zj3 N) (zj76 N) a0 a1 k := by
  unfold zj77 zb77
  rfl
theorem ve16_0 {β : Type} (N : Nat) (zq2 : (a0 : Int) → (a1 : Int) → (k : Bool → Option β) → Option β) (zq3 : (k : List ByteArray → Option β) → Option β) (zq74 : (a0 : ByteArray) → (a1 : Int) → (a2 : Int) → (k : Bool → Option β) → Option β) (zq76 : Nat → Int → Int → Int → List ByteArray → List ByteArray → (List ByteArray → Option β) → Option β)  (a0 : Int) (a1 : Int) (K : TV → Option β) : evFn lay (VE16 N zq2 zq3 zq74 zq76) Try.f16 [.v (.agg [.int .i64 a0, .int .i64 a1])] K = zb77 N zq2 zq3 zq76 a0 a1 (fun z2 z3 => K (.tup [.one (.sl 9 (.strs z2)), .one (.bool z3)])) := by kernel_rfl
theorem e16_0 {β : Type} (N : Nat)  (a0 : Int) (a1 : Int) (K : TV → Option β) : evFn lay (E16 N) Try.f16 [.v (.agg [.int .i64 a0, .int .i64 a1])] K = zj77 N a0 a1 (fun z2 z3 => K (.tup [.one (.sl 9 (.strs z2)), .one (.bool z3)])) := (ve16_0 N (zj2 N) (zj3 N) (zj74 N) (zj76 N) a0 a1 K).trans (zt77 N a0 a1 (fun z2 z3 => K (.tup [.one (.sl 9 (.strs z2)), .one (.bool z3)]))).symm
theorem o16 {β : Type} (N : Nat) : SpecOK (β := β) inv Try.prog 16 (S16 N) := by
  refine spec_of lay_ok mixed (E := E16 N) (specs_loops (specs_cons (o58 N) (specs_cons (o59 N) (specs_cons (o60 N) specs_nil)))) muts_nil gs_nil Try.func16 (by kernel_rfl) 1 (by kernel_rfl) ⟨trivial, rk16_0 N⟩ fun args K r h => ?_
  unfold S16 VS16 at h
  split at h
  · exact (e16_0 N _ _ _).trans h
  · cases h
def VS71 {β : Type} (N : Nat) (zq78 : (a0 : Int) → (k : Bool → Option β) → Option β) : Rv.Spec β := fun args K => match args with
  | [.v (.one (.int .i64 a0))] => zq78 a0 (fun z1 => K (.v (.one (.bool z1))))
  | _ => none
def S71 {β : Type} (N : Nat) : Rv.Spec β := VS71 N (zj78 N)
def VE71 {β : Type} (N : Nat) : Env β := ⟨[], [], [], [], ⟨[], [], [], [61]⟩⟩
def E71 {β : Type} (N : Nat) : Env β := VE71 N
def zb78 {β : Type} (N : Nat) (a0 : Int) (k : Bool → Option β) : Option β :=
(cond ((decide (a0 ≥ 0)))
(k ((decide (a0 ≤ 5))))
(k false))
theorem zt78 {β : Type} (N : Nat) (a0 : Int) (k : Bool → Option β) : zj78 N a0 k = zb78 N a0 k := by
  unfold zj78 zb78
  rfl
theorem ve71_0 {β : Type} (N : Nat)  (a0 : Int) (K : TV → Option β) : evFn lay (VE71 N) Try.f71 [.v (.one (.int .i64 a0))] K = zb78 N a0 (fun z1 => K (.v (.one (.bool z1)))) := by kernel_rfl
theorem e71_0 {β : Type} (N : Nat)  (a0 : Int) (K : TV → Option β) : evFn lay (E71 N) Try.f71 [.v (.one (.int .i64 a0))] K = zj78 N a0 (fun z1 => K (.v (.one (.bool z1)))) := (ve71_0 N a0 K).trans (zt78 N a0 (fun z1 => K (.v (.one (.bool z1))))).symm
theorem o71 {β : Type} (N : Nat) : SpecOK (β := β) inv Try.prog 71 (S71 N) := by
  refine spec_of lay_ok mixed (E := E71 N) (specs_loops specs_nil) muts_nil gs_nil Try.func71 (by kernel_rfl) 0 (by kernel_rfl) trivial fun args K r h => ?_
  unfold S71 VS71 at h
  split at h
  · exact (e71_0 N _ _).trans h
  · cases h
def VS96 {β : Type} (N : Nat) (zq79 : (a0 : Int) → (a1 : Int) → (k : Int → Option β) → Option β) : Rv.Spec β := fun args K => match args with
  | [.v (.agg [.int .i64 a0, .int .i64 a1])] => zq79 a0 a1 (fun z2 => K (.v (.one (.int .i64 z2))))
  | _ => none
def S96 {β : Type} (N : Nat) : Rv.Spec β := VS96 N (zj79 N)
def VE96 {β : Type} (N : Nat) : Env β := ⟨[], [], [], [], ⟨[], [], [], [61]⟩⟩
def E96 {β : Type} (N : Nat) : Env β := VE96 N
def zb79 {β : Type} (N : Nat) (a0 : Int) (a1 : Int) (k : Int → Option β) : Option β :=
(gd ((decide (0 ≤ a0)))
(k ((shlI .i64 1 a0))))
theorem zt79 {β : Type} (N : Nat) (a0 : Int) (a1 : Int) (k : Int → Option β) : zj79 N a0 a1 k = zb79 N a0 a1 k := by
  unfold zj79 zb79
  rfl
theorem ve96_0 {β : Type} (N : Nat)  (a0 : Int) (a1 : Int) (K : TV → Option β) : evFn lay (VE96 N) Try.f96 [.v (.agg [.int .i64 a0, .int .i64 a1])] K = zb79 N a0 a1 (fun z2 => K (.v (.one (.int .i64 z2)))) := by kernel_rfl
theorem e96_0 {β : Type} (N : Nat)  (a0 : Int) (a1 : Int) (K : TV → Option β) : evFn lay (E96 N) Try.f96 [.v (.agg [.int .i64 a0, .int .i64 a1])] K = zj79 N a0 a1 (fun z2 => K (.v (.one (.int .i64 z2)))) := (ve96_0 N a0 a1 K).trans (zt79 N a0 a1 (fun z2 => K (.v (.one (.int .i64 z2))))).symm
theorem o96 {β : Type} (N : Nat) : SpecOK (β := β) inv Try.prog 96 (S96 N) := by
  refine spec_of lay_ok mixed (E := E96 N) (specs_loops specs_nil) muts_nil gs_nil Try.func96 (by kernel_rfl) 0 (by kernel_rfl) trivial fun args K r h => ?_
  unfold S96 VS96 at h
  split at h
  · exact (e96_0 N _ _ _).trans h
  · cases h
def VS82 {β : Type} (N : Nat) (zq80 : (a0 : Int) → (a1 : Int) → (k : Bool → Option β) → Option β) : Rv.Spec β := fun args K => match args with
  | [.v (.agg [.int .i64 a0, .int .i64 a1])] => zq80 a0 a1 (fun z2 => K (.v (.one (.bool z2))))
  | _ => none
def S82 {β : Type} (N : Nat) : Rv.Spec β := VS82 N (zj80 N)
def VE82 {β : Type} (N : Nat) (zq78 : (a0 : Int) → (k : Bool → Option β) → Option β) (zq79 : (a0 : Int) → (a1 : Int) → (k : Int → Option β) → Option β) : Env β := ⟨[(71, VS71 N zq78), (96, VS96 N zq79)], [], [], [], ⟨[], [], [], [61]⟩⟩
def E82 {β : Type} (N : Nat) : Env β := VE82 N (zj78 N) (zj79 N)
def zb80 {β : Type} (N : Nat) (zq78 : (a0 : Int) → (k : Bool → Option β) → Option β) (zq79 : (a0 : Int) → (a1 : Int) → (k : Int → Option β) → Option β) (a0 : Int) (a1 : Int) (k : Bool → Option β) : Option β :=
zq78 a0 fun r3 =>
(cond r3
((cond ((decide (a1 ≥ 0)))
(zq79 a0 a1 fun r4 =>
(gd ((decide (0 ≤ r4)))
(k (((shrI .i64 a1 r4) == 0)))))
(k false)))
(k false))
theorem zt80 {β : Type} (N : Nat) (a0 : Int) (a1 : Int) (k : Bool → Option β) : zj80 N a0 a1 k = zb80 N (zj78 N) (zj79 N) a0 a1 k := by
  unfold zj80 zb80
  rfl
theorem ve82_0 {β : Type} (N : Nat) (zq78 : (a0 : Int) → (k : Bool → Option β) → Option β) (zq79 : (a0 : Int) → (a1 : Int) → (k : Int → Option β) → Option β)  (a0 : Int) (a1 : Int) (K : TV → Option β) : evFn lay (VE82 N zq78 zq79) Try.f82 [.v (.agg [.int .i64 a0, .int .i64 a1])] K = zb80 N zq78 zq79 a0 a1 (fun z2 => K (.v (.one (.bool z2)))) := by kernel_rfl
theorem e82_0 {β : Type} (N : Nat)  (a0 : Int) (a1 : Int) (K : TV → Option β) : evFn lay (E82 N) Try.f82 [.v (.agg [.int .i64 a0, .int .i64 a1])] K = zj80 N a0 a1 (fun z2 => K (.v (.one (.bool z2)))) := (ve82_0 N (zj78 N) (zj79 N) a0 a1 K).trans (zt80 N a0 a1 (fun z2 => K (.v (.one (.bool z2))))).symm
theorem o82 {β : Type} (N : Nat) : SpecOK (β := β) inv Try.prog 82 (S82 N) := by
  refine spec_of lay_ok mixed (E := E82 N) (specs_loops (specs_cons (o71 N) (specs_cons (o96 N) specs_nil))) muts_nil gs_nil Try.func82 (by kernel_rfl) 0 (by kernel_rfl) trivial fun args K r h => ?_
  unfold S82 VS82 at h
  split at h
  · exact (e82_0 N _ _ _).trans h
  · cases h
def VS51 {β : Type} (N : Nat) (zq81 : (a0 : Int) → (a1 : Int) → (a2 : Int) → (k : Bool → Option β) → Option β) : Rv.Spec β := fun args K => match args with
  | [.v (.agg [.int .i64 a0, .int .i64 a1]), .v (.one (.int .i64 a2))] => zq81 a0 a1 a2 (fun z3 => K (.v (.one (.bool z3))))
  | _ => none
def S51 {β : Type} (N : Nat) : Rv.Spec β := VS51 N (zj81 N)
def VE51 {β : Type} (N : Nat) (zq80 : (a0 : Int) → (a1 : Int) → (k : Bool → Option β) → Option β) : Env β := ⟨[(82, VS82 N zq80)], [], [], [], ⟨[], [], [], [61]⟩⟩
def E51 {β : Type} (N : Nat) : Env β := VE51 N (zj80 N)
def zb81 {β : Type} (N : Nat) (zq80 : (a0 : Int) → (a1 : Int) → (k : Bool → Option β) → Option β) (a0 : Int) (a1 : Int) (a2 : Int) (k : Bool → Option β) : Option β :=
zq80 a0 a1 fun r4 =>
(cond r4
(k ((decide (a0 ≤ a2))))
(k false))
theorem zt81 {β : Type} (N : Nat) (a0 : Int) (a1 : Int) (a2 : Int) (k : Bool → Option β) : zj81 N a0 a1 a2 k = zb81 N (zj80 N) a0 a1 a2 k := by
  unfold zj81 zb81
  rfl
theorem ve51_0 {β : Type} (N : Nat) (zq80 : (a0 : Int) → (a1 : Int) → (k : Bool → Option β) → Option β)  (a0 : Int) (a1 : Int) (a2 : Int) (K : TV → Option β) : evFn lay (VE51 N zq80) Try.f51 [.v (.agg [.int .i64 a0, .int .i64 a1]), .v (.one (.int .i64 a2))] K = zb81 N zq80 a0 a1 a2 (fun z3 => K (.v (.one (.bool z3)))) := by kernel_rfl
theorem e51_0 {β : Type} (N : Nat)  (a0 : Int) (a1 : Int) (a2 : Int) (K : TV → Option β) : evFn lay (E51 N) Try.f51 [.v (.agg [.int .i64 a0, .int .i64 a1]), .v (.one (.int .i64 a2))] K = zj81 N a0 a1 a2 (fun z3 => K (.v (.one (.bool z3)))) := (ve51_0 N (zj80 N) a0 a1 a2 K).trans (zt81 N a0 a1 a2 (fun z3 => K (.v (.one (.bool z3))))).symm
theorem o51 {β : Type} (N : Nat) : SpecOK (β := β) inv Try.prog 51 (S51 N) := by
  refine spec_of lay_ok mixed (E := E51 N) (specs_loops (specs_cons (o82 N) specs_nil)) muts_nil gs_nil Try.func51 (by kernel_rfl) 0 (by kernel_rfl) trivial fun args K r h => ?_
  unfold S51 VS51 at h
  split at h
  · exact (e51_0 N _ _ _ _).trans h
  · cases h
def VS62 {β : Type} (N : Nat) (zq82 : (k : List ByteArray → Option β) → Option β) : Rv.Spec β := fun args K => match args with
  | [] => zq82  (fun z0 => K (.v (.one (.sl 9 (.strs z0)))))
  | _ => none
def S62 {β : Type} (N : Nat) : Rv.Spec β := VS62 N (zj82 N)
def VE62 {β : Type} (N : Nat) : Env β := ⟨[], [], [], [], ⟨[], [], [], [61]⟩⟩
def E62 {β : Type} (N : Nat) : Env β := VE62 N
def zb82 {β : Type} (N : Nat)  (k : List ByteArray → Option β) : Option β :=
k (((((((([] : List ByteArray) ++ [(strOf [111, 114, 100, 101, 114])]) ++ [(strOf [112, 114, 111, 100, 117, 99, 116])]) ++ [(strOf [104, 117, 97, 110, 103])]) ++ [(strOf [98, 108, 111, 99, 107, 115])]) ++ [(strOf [100, 101, 103, 114, 101, 101, 115])]) ++ [(strOf [118, 97, 114, 105, 97, 98, 108, 101, 115])]))
theorem zt82 {β : Type} (N : Nat)  (k : List ByteArray → Option β) : zj82 N k = zb82 N k := by
  unfold zj82 zb82
  rfl
theorem ve62_0 {β : Type} (N : Nat)   (K : TV → Option β) : evFn lay (VE62 N) Try.f62 [] K = zb82 N  (fun z0 => K (.v (.one (.sl 9 (.strs z0))))) := by kernel_rfl
theorem e62_0 {β : Type} (N : Nat)   (K : TV → Option β) : evFn lay (E62 N) Try.f62 [] K = zj82 N  (fun z0 => K (.v (.one (.sl 9 (.strs z0))))) := (ve62_0 N K).trans (zt82 N  (fun z0 => K (.v (.one (.sl 9 (.strs z0)))))).symm
theorem o62 {β : Type} (N : Nat) : SpecOK (β := β) inv Try.prog 62 (S62 N) := by
  refine spec_of lay_ok mixed (E := E62 N) (specs_loops specs_nil) muts_nil gs_nil Try.func62 (by kernel_rfl) 0 (by kernel_rfl) trivial fun args K r h => ?_
  unfold S62 VS62 at h
  split at h
  · exact (e62_0 N  _).trans h
  · cases h
def VS97 {β : Type} (N : Nat) (zq83 : (a0 : Int) → (a1 : Int) → (a2 : Int) → (k : Int → Option β) → Option β) : Rv.Spec β := fun args K => match args with
  | [.v (.agg [.int .i64 a0, .int .i64 a1]), .v (.one (.int .i64 a2))] => zq83 a0 a1 a2 (fun z3 => K (.v (.one (.int .i64 z3))))
  | _ => none
def S97 {β : Type} (N : Nat) : Rv.Spec β := VS97 N (zj83 N)
def VE97 {β : Type} (N : Nat) : Env β := ⟨[], [], [], [], ⟨[], [], [], [61]⟩⟩
def E97 {β : Type} (N : Nat) : Env β := VE97 N
def zb83 {β : Type} (N : Nat) (a0 : Int) (a1 : Int) (a2 : Int) (k : Int → Option β) : Option β :=
(gd ((decide (0 ≤ a2)))
(k ((bits .and .i64 (shrI .i64 a1 a2) 1))))
theorem zt83 {β : Type} (N : Nat) (a0 : Int) (a1 : Int) (a2 : Int) (k : Int → Option β) : zj83 N a0 a1 a2 k = zb83 N a0 a1 a2 k := by
  unfold zj83 zb83
  rfl
theorem ve97_0 {β : Type} (N : Nat)  (a0 : Int) (a1 : Int) (a2 : Int) (K : TV → Option β) : evFn lay (VE97 N) Try.f97 [.v (.agg [.int .i64 a0, .int .i64 a1]), .v (.one (.int .i64 a2))] K = zb83 N a0 a1 a2 (fun z3 => K (.v (.one (.int .i64 z3)))) := by kernel_rfl
theorem e97_0 {β : Type} (N : Nat)  (a0 : Int) (a1 : Int) (a2 : Int) (K : TV → Option β) : evFn lay (E97 N) Try.f97 [.v (.agg [.int .i64 a0, .int .i64 a1]), .v (.one (.int .i64 a2))] K = zj83 N a0 a1 a2 (fun z3 => K (.v (.one (.int .i64 z3)))) := (ve97_0 N a0 a1 a2 K).trans (zt83 N a0 a1 a2 (fun z3 => K (.v (.one (.int .i64 z3))))).symm
theorem o97 {β : Type} (N : Nat) : SpecOK (β := β) inv Try.prog 97 (S97 N) := by
  refine spec_of lay_ok mixed (E := E97 N) (specs_loops specs_nil) muts_nil gs_nil Try.func97 (by kernel_rfl) 0 (by kernel_rfl) trivial fun args K r h => ?_
  unfold S97 VS97 at h
  split at h
  · exact (e97_0 N _ _ _ _).trans h
  · cases h
def VS201 {β : Type} (N : Nat) (zq84 : (a0 : Int) → (a1 : Int) → (a2 : Int) → (a3 : Int) → (k : Bool → Option β) → Option β) : Rv.Spec β := fun args K => match args with
  | [.v (.agg [.int .i64 a0, .int .i64 a1]), .v (.one (.int .i64 a2)), .v (.one (.int .i64 a3))] => zq84 a0 a1 a2 a3 (fun z4 => K (.v (.one (.bool z4))))
  | _ => none
def S201 {β : Type} (N : Nat) : Rv.Spec β := VS201 N (zj84 N)
def VE201 {β : Type} (N : Nat) (zq83 : (a0 : Int) → (a1 : Int) → (a2 : Int) → (k : Int → Option β) → Option β) : Env β := ⟨[(97, VS97 N zq83)], [], [], [], ⟨[], [], [], [61]⟩⟩
def E201 {β : Type} (N : Nat) : Env β := VE201 N (zj83 N)
def zb84 {β : Type} (N : Nat) (zq83 : (a0 : Int) → (a1 : Int) → (a2 : Int) → (k : Int → Option β) → Option β) (a0 : Int) (a1 : Int) (a2 : Int) (a3 : Int) (k : Bool → Option β) : Option β :=
zq83 a0 a1 a2 fun r5 =>
zq83 a0 a1 ((bits .xor .i64 a2 a3)) fun r6 =>
k ((r5 != r6))
theorem zt84 {β : Type} (N : Nat) (a0 : Int) (a1 : Int) (a2 : Int) (a3 : Int) (k : Bool → Option β) : zj84 N a0 a1 a2 a3 k = zb84 N (zj83 N) a0 a1 a2 a3 k := by
  unfold zj84 zb84
  rfl
theorem ve201_0 {β : Type} (N : Nat) (zq83 : (a0 : Int) → (a1 : Int) → (a2 : Int) → (k : Int → Option β) → Option β)  (a0 : Int) (a1 : Int) (a2 : Int) (a3 : Int) (K : TV → Option β) : evFn lay (VE201 N zq83) Try.f201 [.v (.agg [.int .i64 a0, .int .i64 a1]), .v (.one (.int .i64 a2)), .v (.one (.int .i64 a3))] K = zb84 N zq83 a0 a1 a2 a3 (fun z4 => K (.v (.one (.bool z4)))) := by kernel_rfl
theorem e201_0 {β : Type} (N : Nat)  (a0 : Int) (a1 : Int) (a2 : Int) (a3 : Int) (K : TV → Option β) : evFn lay (E201 N) Try.f201 [.v (.agg [.int .i64 a0, .int .i64 a1]), .v (.one (.int .i64 a2)), .v (.one (.int .i64 a3))] K = zj84 N a0 a1 a2 a3 (fun z4 => K (.v (.one (.bool z4)))) := (ve201_0 N (zj83 N) a0 a1 a2 a3 K).trans (zt84 N a0 a1 a2 a3 (fun z4 => K (.v (.one (.bool z4))))).symm
theorem o201 {β : Type} (N : Nat) : SpecOK (β := β) inv Try.prog 201 (S201 N) := by
  refine spec_of lay_ok mixed (E := E201 N) (specs_loops (specs_cons (o97 N) specs_nil)) muts_nil gs_nil Try.func201 (by kernel_rfl) 0 (by kernel_rfl) trivial fun args K r h => ?_
  unfold S201 VS201 at h
  split at h
  · exact (e201_0 N _ _ _ _ _).trans h
  · cases h
end Go.Proofs.Ytfdggelojmofmaa
