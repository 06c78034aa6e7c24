/- The functions that the claims reach answer as their texts do. -/
import Derived.Test.YtfdggelojmofmaaDoorE1
namespace Go.Proofs.YtfdggelojmofmaaDoor
open Go.Rv
set_option maxRecDepth 100000
set_option maxHeartbeats 2000000
set_option linter.unusedVariables false
def VS87 {β : Type} (N : Nat) (q_spec_FormatDiagram : (a0 : List (Int × Int × Int)) → (k : ByteArray → Option β) → Option β) : Rv.Spec β := fun args K => match args with
  | [.v (.one (.sl 120 (.trips a0)))] => q_spec_FormatDiagram a0 (fun z1 => K (.v (.one (.str z1))))
  | _ => none
def S87 {β : Type} (N : Nat) : Rv.Spec β := VS87 N (spec_FormatDiagram N)
def h87_0_0  (v0 : List (Int × Int × Int)) (v1 : ByteArray) (v2 : Int) : St := ⟨.v (.one (.sl 120 (.trips v0))) :: .v (.one .und) :: .v (.one .und) :: .v (.one (.str v1)) :: .v (.one (.int .i64 v2)) :: .v (.one .und) :: .v (.one .und) :: .v (.one .und) :: .v (.one .und) :: .v (.one .und) :: .v (.one .und) :: .v (.one .und) :: .v (.one .und) :: .v (.one .und) :: .v (.one .und) :: .v (.one .und) :: .v (.one .und) :: .v (.one .und) :: .v (.one .und) :: .v (.one .und) :: .v (.one .und) :: .v (.one .und) :: .v (.one .und) :: .v (.one .und) :: .v (.one .und) :: .v (.one .und) :: .v (.one .und) :: .v (.one .und) :: .v (.one .und) :: .v (.one .und) :: .v (.one .und) :: .v (.one .und) :: .v (.one .und) :: .v (.one .und) :: .v (.one .und) :: .v (.one .und) :: .v (.one .und) :: .v (.one .und) :: .v (.one .und) :: .v (.one .und) :: .v (.one .und) :: .v (.one .und) :: .v (.one .und) :: .v (.one .und) :: .v (.one .und) :: .v (.one .und) :: .v (.one .und) :: .v (.one .und) :: .v (.one .und) :: .v (.one .und) :: .v (.one .und) :: .v (.one .und) :: .v (.one .und) :: .v (.one .und) :: .v (.one .und) :: .v (.one .und) :: .v (.one .und) :: .v (.one .und) :: .v (.one .und) :: .v (.one .und) :: .v (.one .und) :: [], []⟩
def x87_0_0_k0  (y0 : ByteArray) : St := ⟨.v (.one .und) :: .v (.one .und) :: .v (.one (.str y0)) :: .v (.one .und) :: .v (.one .und) :: .v (.one .und) :: .v (.one .und) :: .v (.one .und) :: .v (.one .und) :: .v (.one .und) :: .v (.one .und) :: .v (.one .und) :: .v (.one .und) :: .v (.one .und) :: .v (.one .und) :: .v (.one .und) :: .v (.one .und) :: .v (.one .und) :: .v (.one .und) :: .v (.one .und) :: .v (.one .und) :: .v (.one .und) :: .v (.one .und) :: .v (.one .und) :: .v (.one .und) :: .v (.one .und) :: .v (.one .und) :: .v (.one .und) :: .v (.one .und) :: .v (.one .und) :: .v (.one .und) :: .v (.one .und) :: .v (.one .und) :: .v (.one .und) :: .v (.one .und) :: .v (.one .und) :: .v (.one .und) :: .v (.one .und) :: .v (.one .und) :: .v (.one .und) :: .v (.one .und) :: .v (.one .und) :: .v (.one .und) :: .v (.one .und) :: .v (.one .und) :: .v (.one .und) :: .v (.one .und) :: .v (.one .und) :: .v (.one .und) :: .v (.one .und) :: .v (.one .und) :: .v (.one .und) :: .v (.one .und) :: .v (.one .und) :: .v (.one .und) :: .v (.one .und) :: .v (.one .und) :: .v (.one .und) :: .v (.one .und) :: .v (.one .und) :: .v (.one .und) :: [], []⟩
def x87_0_0_k1  (y0 : ByteArray) : St := ⟨.v (.one .und) :: .v (.one .und) :: .v (.one .und) :: .v (.one (.str y0)) :: .v (.one .und) :: .v (.one .und) :: .v (.one .und) :: .v (.one .und) :: .v (.one .und) :: .v (.one .und) :: .v (.one .und) :: .v (.one .und) :: .v (.one .und) :: .v (.one .und) :: .v (.one .und) :: .v (.one .und) :: .v (.one .und) :: .v (.one .und) :: .v (.one .und) :: .v (.one .und) :: .v (.one .und) :: .v (.one .und) :: .v (.one .und) :: .v (.one .und) :: .v (.one .und) :: .v (.one .und) :: .v (.one .und) :: .v (.one .und) :: .v (.one .und) :: .v (.one .und) :: .v (.one .und) :: .v (.one .und) :: .v (.one .und) :: .v (.one .und) :: .v (.one .und) :: .v (.one .und) :: .v (.one .und) :: .v (.one .und) :: .v (.one .und) :: .v (.one .und) :: .v (.one .und) :: .v (.one .und) :: .v (.one .und) :: .v (.one .und) :: .v (.one .und) :: .v (.one .und) :: .v (.one .und) :: .v (.one .und) :: .v (.one .und) :: .v (.one .und) :: .v (.one .und) :: .v (.one .und) :: .v (.one .und) :: .v (.one .und) :: .v (.one .und) :: .v (.one .und) :: .v (.one .und) :: .v (.one .und) :: .v (.one .und) :: .v (.one .und) :: .v (.one .und) :: [], []⟩
theorem fl87_0_0 (s : St) : refSt (h87_0_0 [] ByteArray.empty 0) s = h87_0_0 (rTrips (rowV (oneA (vT (nx tund s.tmps 0))))) (strS (oneA (vT (nx tund s.tmps 3)))) (intS (oneA (vT (nx tund s.tmps 4)))) := by kernel_rfl
def VLS87_0 {β : Type} (N : Nat) (q_spec_FormatDiagram_l0 : Nat → List (Int × Int × Int) → ByteArray → Int → (ByteArray → Option β) → (ByteArray → Option β) → Option β) : LSpec β := fun s K => cond (shpSt (h87_0_0 [] ByteArray.empty 0) s) ((fun (v0 : List (Int × Int × Int)) (v1 : ByteArray) (v2 : Int) => q_spec_FormatDiagram_l0  N v0 v1 v2 (fun y0 => K .ret (x87_0_0_k0  y0)) (fun y0 => K (.exit 0) (x87_0_0_k1  y0))) (rTrips (rowV (oneA (vT (nx tund s.tmps 0))))) (strS (oneA (vT (nx tund s.tmps 3)))) (intS (oneA (vT (nx tund s.tmps 4))))) (none)
def LS87_0 {β : Type} (N : Nat) : LSpec β := VLS87_0 N (spec_FormatDiagram_l0 N)
def VE87 {β : Type} (N : Nat) (q_spec_l1In : (a0 : Int) → (a1 : Int) → (a2 : Int) → (k : Bool → Option β) → Option β) (q_spec_FormatInt : (a0 : Int) → (k : ByteArray → Option β) → Option β) (q_spec_FormatDiagram_l0 : Nat → List (Int × Int × Int) → ByteArray → Int → (ByteArray → Option β) → (ByteArray → Option β) → Option β) : Env β := ⟨[(43, VS43 N q_spec_l1In), (55, VS55 N q_spec_FormatInt)], [], [(0, VLS87_0 N q_spec_FormatDiagram_l0)], [], ⟨[], [], [145], [149, 152, 199]⟩⟩
def E87 {β : Type} (N : Nat) : Env β := VE87 N (spec_l1In N) (spec_FormatInt N) (spec_FormatDiagram_l0 N)
def BV_spec_FormatDiagram_l0b {β : Type} (N : Nat) (q_spec_l1In : (a0 : Int) → (a1 : Int) → (a2 : Int) → (k : Bool → Option β) → Option β) (q_spec_FormatInt : (a0 : Int) → (k : ByteArray → Option β) → Option β)  (v0 : List (Int × Int × Int)) (v1 : ByteArray) (v2 : Int) (rec_ : List (Int × Int × Int) → ByteArray → Int → Option β) (k0 : ByteArray → Option β) (k1 : ByteArray → Option β) : Option β :=
(cond ((decide (v2 < (v0.length : Int))))
((gd ((decide (0 ≤ v2)))
((gd ((decide (v2 < (v0.length : Int))))
((cond ((decide ((v0.length : Int) > 31)))
(k0 ByteArray.empty)
(q_spec_l1In ((rd (0, 0, 0) v0 v2).1) 0 4 fun r2 =>
(cond (!r2)
(k0 ByteArray.empty)
(q_spec_l1In ((rd (0, 0, 0) v0 v2).2.1) (-2) 30 fun r3 =>
(cond (!r3)
(k0 ByteArray.empty)
(q_spec_l1In ((rd (0, 0, 0) v0 v2).2.2) (-2) 30 fun r4 =>
(cond (!r4)
(k0 ByteArray.empty)
((cond ((decide (v2 > 0)))
((gd ((decide (v1.size + ((strOf [32])).size ≤ 9223372036854775807)))
((gd ((decide (0 ≤ (w64 ((rd (0, 0, 0) v0 v2).1 + 1)))))
((gd ((decide ((w64 ((rd (0, 0, 0) v0 v2).1 + 1)) ≤ (((strOf [97, 98, 99, 100, 101])).size : Int))))
((gd ((decide (0 ≤ (rd (0, 0, 0) v0 v2).1)))
((gd ((decide ((rd (0, 0, 0) v0 v2).1 ≤ (w64 ((rd (0, 0, 0) v0 v2).1 + 1)))))
((gd ((decide (((v1 ++ (strOf [32]))).size + ((((strOf [97, 98, 99, 100, 101])).extract (Int.toNat (rd (0, 0, 0) v0 v2).1) (Int.toNat (w64 ((rd (0, 0, 0) v0 v2).1 + 1))))).size ≤ 9223372036854775807)))
(q_spec_FormatInt ((rd (0, 0, 0) v0 v2).2.1) fun r5 =>
(gd ((decide ((((v1 ++ (strOf [32])) ++ (((strOf [97, 98, 99, 100, 101])).extract (Int.toNat (rd (0, 0, 0) v0 v2).1) (Int.toNat (w64 ((rd (0, 0, 0) v0 v2).1 + 1)))))).size + r5.size ≤ 9223372036854775807)))
((gd ((decide (((((v1 ++ (strOf [32])) ++ (((strOf [97, 98, 99, 100, 101])).extract (Int.toNat (rd (0, 0, 0) v0 v2).1) (Int.toNat (w64 ((rd (0, 0, 0) v0 v2).1 + 1))))) ++ r5)).size + ((strOf [44])).size ≤ 9223372036854775807)))
(q_spec_FormatInt ((rd (0, 0, 0) v0 v2).2.2) fun r6 =>
(gd ((decide ((((((v1 ++ (strOf [32])) ++ (((strOf [97, 98, 99, 100, 101])).extract (Int.toNat (rd (0, 0, 0) v0 v2).1) (Int.toNat (w64 ((rd (0, 0, 0) v0 v2).1 + 1))))) ++ r5) ++ (strOf [44]))).size + r6.size ≤ 9223372036854775807)))
(rec_ v0 ((((((v1 ++ (strOf [32])) ++ (((strOf [97, 98, 99, 100, 101])).extract (Int.toNat (rd (0, 0, 0) v0 v2).1) (Int.toNat (w64 ((rd (0, 0, 0) v0 v2).1 + 1))))) ++ r5) ++ (strOf [44])) ++ r6)) ((w64 (v2 + 1))))))))))))))))))))))
((gd ((decide (0 ≤ (w64 ((rd (0, 0, 0) v0 v2).1 + 1)))))
((gd ((decide ((w64 ((rd (0, 0, 0) v0 v2).1 + 1)) ≤ (((strOf [97, 98, 99, 100, 101])).size : Int))))
((gd ((decide (0 ≤ (rd (0, 0, 0) v0 v2).1)))
((gd ((decide ((rd (0, 0, 0) v0 v2).1 ≤ (w64 ((rd (0, 0, 0) v0 v2).1 + 1)))))
((gd ((decide (v1.size + ((((strOf [97, 98, 99, 100, 101])).extract (Int.toNat (rd (0, 0, 0) v0 v2).1) (Int.toNat (w64 ((rd (0, 0, 0) v0 v2).1 + 1))))).size ≤ 9223372036854775807)))
(q_spec_FormatInt ((rd (0, 0, 0) v0 v2).2.1) fun r7 =>
(gd ((decide (((v1 ++ (((strOf [97, 98, 99, 100, 101])).extract (Int.toNat (rd (0, 0, 0) v0 v2).1) (Int.toNat (w64 ((rd (0, 0, 0) v0 v2).1 + 1)))))).size + r7.size ≤ 9223372036854775807)))
((gd ((decide ((((v1 ++ (((strOf [97, 98, 99, 100, 101])).extract (Int.toNat (rd (0, 0, 0) v0 v2).1) (Int.toNat (w64 ((rd (0, 0, 0) v0 v2).1 + 1))))) ++ r7)).size + ((strOf [44])).size ≤ 9223372036854775807)))
(q_spec_FormatInt ((rd (0, 0, 0) v0 v2).2.2) fun r8 =>
(gd ((decide (((((v1 ++ (((strOf [97, 98, 99, 100, 101])).extract (Int.toNat (rd (0, 0, 0) v0 v2).1) (Int.toNat (w64 ((rd (0, 0, 0) v0 v2).1 + 1))))) ++ r7) ++ (strOf [44]))).size + r8.size ≤ 9223372036854775807)))
(rec_ v0 (((((v1 ++ (((strOf [97, 98, 99, 100, 101])).extract (Int.toNat (rd (0, 0, 0) v0 v2).1) (Int.toNat (w64 ((rd (0, 0, 0) v0 v2).1 + 1))))) ++ r7) ++ (strOf [44])) ++ r8)) ((w64 (v2 + 1))))))))))))))))))))))))))))))))))
(k1 v1))
theorem t_spec_FormatDiagram_l0b {β : Type} (N : Nat)  (v0 : List (Int × Int × Int)) (v1 : ByteArray) (v2 : Int) (rec_ : List (Int × Int × Int) → ByteArray → Int → Option β) (k0 : ByteArray → Option β) (k1 : ByteArray → Option β) : spec_FormatDiagram_l0b N v0 v1 v2 rec_ k0 k1 = BV_spec_FormatDiagram_l0b N (spec_l1In N) (spec_FormatInt N) v0 v1 v2 rec_ k0 k1 := by
  unfold spec_FormatDiagram_l0b BV_spec_FormatDiagram_l0b
  rfl
theorem vst87_0_0 {β : Type} (N : Nat) (q_spec_l1In : (a0 : Int) → (a1 : Int) → (a2 : Int) → (k : Bool → Option β) → Option β) (q_spec_FormatInt : (a0 : Int) → (k : ByteArray → Option β) → Option β) (q_spec_FormatDiagram_l0 : Nat → List (Int × Int × Int) → ByteArray → Int → (ByteArray → Option β) → (ByteArray → Option β) → Option β)  (v0 : List (Int × Int × Int)) (v1 : ByteArray) (v2 : Int) (rec_ : St → Option β) (K : Exit → St → Option β) :
    ev lay (VE87 N q_spec_l1In q_spec_FormatInt q_spec_FormatDiagram_l0) (retMask Tryd.f87) (lp Tryd.f87 0).body (lp Tryd.f87 0).ex ((lp Tryd.f87 0).lv (retMask Tryd.f87)) (h87_0_0  v0 v1 v2) (nextR (fun s' => rec_ (s'.tidy ((lp Tryd.f87 0).lv (retMask Tryd.f87)))) K) = BV_spec_FormatDiagram_l0b N q_spec_l1In q_spec_FormatInt  v0 v1 v2 (fun v0 v1 v2 => rec_ (h87_0_0  v0 v1 v2)) (fun y0 => K .ret (x87_0_0_k0  y0)) (fun y0 => K (.exit 0) (x87_0_0_k1  y0)) := by kernel_rfl
theorem st87_0_0 {β : Type} (N : Nat)  (v0 : List (Int × Int × Int)) (v1 : ByteArray) (v2 : Int) (rec_ : St → Option β) (K : Exit → St → Option β) :
    ev lay (E87 N) (retMask Tryd.f87) (lp Tryd.f87 0).body (lp Tryd.f87 0).ex ((lp Tryd.f87 0).lv (retMask Tryd.f87)) (h87_0_0  v0 v1 v2) (nextR (fun s' => rec_ (s'.tidy ((lp Tryd.f87 0).lv (retMask Tryd.f87)))) K) = spec_FormatDiagram_l0b N  v0 v1 v2 (fun v0 v1 v2 => rec_ (h87_0_0  v0 v1 v2)) (fun y0 => K .ret (x87_0_0_k0  y0)) (fun y0 => K (.exit 0) (x87_0_0_k1  y0)) := (vst87_0_0 N (spec_l1In N) (spec_FormatInt N) (spec_FormatDiagram_l0 N) v0 v1 v2 rec_ K).trans (t_spec_FormatDiagram_l0b N  v0 v1 v2 (fun v0 v1 v2 => rec_ (h87_0_0  v0 v1 v2)) (fun y0 => K .ret (x87_0_0_k0  y0)) (fun y0 => K (.exit 0) (x87_0_0_k1  y0))).symm
theorem ro87_0_0 {β : Type} (N : Nat)  (K : Exit → St → Option β) : ∀ (F : Nat) (v0 : List (Int × Int × Int)) (v1 : ByteArray) (v2 : Int), (lp Tryd.f87 0).rounds lay (E87 N) (retMask Tryd.f87) F (h87_0_0  v0 v1 v2) K = spec_FormatDiagram_l0 N  F v0 v1 v2 (fun y0 => K .ret (x87_0_0_k0  y0)) (fun y0 => K (.exit 0) (x87_0_0_k1  y0)) := by
  intro F
  induction F with
  | zero => intros; rfl
  | succ F ih =>
    intros
    rw [rounds_next]
    refine (st87_0_0 N  _ _ _ (fun s => (lp Tryd.f87 0).rounds lay (E87 N) (retMask Tryd.f87) F s K) K).trans ?_
    simp only [ih]
    rfl
theorem lk87_0 {β : Type} (N : Nat) : lookL (E87 (β := β) N).loops (lp Tryd.f87 0).id = LS87_0 N := by kernel_rfl
theorem rk87_0 {β : Type} (N : Nat) : RoundsOK lay (E87 (β := β) N) (retMask Tryd.f87) (lp Tryd.f87 0) := by
  intro s K r h
  rw [lk87_0] at h
  unfold LS87_0 VLS87_0 at h
  cases hb : shpSt (h87_0_0 [] ByteArray.empty 0) s with
  | true =>
    rw [hb, cond_true] at h
    exact ⟨N, by rw [← shpSt_ref hb, fl87_0_0 s]; exact (ro87_0_0 N  K N (rTrips (rowV (oneA (vT (nx tund s.tmps 0))))) (strS (oneA (vT (nx tund s.tmps 3)))) (intS (oneA (vT (nx tund s.tmps 4))))).trans h⟩
  | false =>
  rw [hb, cond_false] at h
  clear hb
  cases h
def BV_spec_FormatDiagram {β : Type} (N : Nat) (q_spec_FormatDiagram_l0 : Nat → List (Int × Int × Int) → ByteArray → Int → (ByteArray → Option β) → (ByteArray → Option β) → Option β) (a0 : List (Int × Int × Int)) (k : ByteArray → Option β) : Option β :=
q_spec_FormatDiagram_l0  N a0 ByteArray.empty 0 (fun e9_0 =>
k e9_0) (fun e10_0 =>
(cond ((e10_0.toList == ByteArray.empty.toList))
(k ((strOf [110, 111, 110, 101])))
(k e10_0)))
theorem t_spec_FormatDiagram {β : Type} (N : Nat) (a0 : List (Int × Int × Int)) (k : ByteArray → Option β) : spec_FormatDiagram N a0 k = BV_spec_FormatDiagram N (spec_FormatDiagram_l0 N) a0 k := by
  unfold spec_FormatDiagram BV_spec_FormatDiagram
  rfl
theorem ve87_0 {β : Type} (N : Nat) (q_spec_l1In : (a0 : Int) → (a1 : Int) → (a2 : Int) → (k : Bool → Option β) → Option β) (q_spec_FormatInt : (a0 : Int) → (k : ByteArray → Option β) → Option β) (q_spec_FormatDiagram_l0 : Nat → List (Int × Int × Int) → ByteArray → Int → (ByteArray → Option β) → (ByteArray → Option β) → Option β)  (a0 : List (Int × Int × Int)) (K : TV → Option β) : evFn lay (VE87 N q_spec_l1In q_spec_FormatInt q_spec_FormatDiagram_l0) Tryd.f87 [.v (.one (.sl 120 (.trips a0)))] K = BV_spec_FormatDiagram N q_spec_FormatDiagram_l0 a0 (fun z1 => K (.v (.one (.str z1)))) := by kernel_rfl
theorem e87_0 {β : Type} (N : Nat)  (a0 : List (Int × Int × Int)) (K : TV → Option β) : evFn lay (E87 N) Tryd.f87 [.v (.one (.sl 120 (.trips a0)))] K = spec_FormatDiagram N a0 (fun z1 => K (.v (.one (.str z1)))) := (ve87_0 N (spec_l1In N) (spec_FormatInt N) (spec_FormatDiagram_l0 N) a0 K).trans (t_spec_FormatDiagram N a0 (fun z1 => K (.v (.one (.str z1))))).symm
theorem o87 {β : Type} (N : Nat) : SpecOK (β := β) inv Tryd.prog 87 (S87 N) := by
  refine spec_of lay_ok mixed (E := E87 N) (specs_loops (specs_cons (o43 N) (specs_cons (o55 N) specs_nil))) muts_nil gs_nil Tryd.func87 (by kernel_rfl) 1 (by kernel_rfl) ⟨trivial, rk87_0 N⟩ fun args K r h => ?_
  unfold S87 VS87 at h
  split at h
  · exact (e87_0 N _ _).trans h
  · cases h
def VS27 {β : Type} (N : Nat) (q_spec_DiagramLine : (a0 : Int) → (a1 : Int) → (k : ByteArray → Option β) → Option β) : Rv.Spec β := fun args K => match args with
  | [.v (.agg [.int .i64 a0, .int .i64 a1])] => q_spec_DiagramLine a0 a1 (fun z2 => K (.v (.one (.str z2))))
  | _ => none
def S27 {β : Type} (N : Nat) : Rv.Spec β := VS27 N (spec_DiagramLine N)
def VE27 {β : Type} (N : Nat) (q_spec_LeastOrder : (a0 : Int) → (a1 : Int) → (k : List Int → Int → Bool → Option β) → Option β) (q_spec_DiagramOf : (a0 : Int) → (a1 : Int) → (a2 : List Int) → (k : List (Int × Int × Int) → Bool → Option β) → Option β) (q_spec_l34Numbers : (a0 : List Int) → (k : ByteArray → Option β) → Option β) (q_spec_FormatInt : (a0 : Int) → (k : ByteArray → Option β) → Option β) (q_spec_FormatDiagram : (a0 : List (Int × Int × Int)) → (k : ByteArray → Option β) → Option β) : Env β := ⟨[(85, VS85 N q_spec_LeastOrder), (86, VS86 N q_spec_DiagramOf), (52, VS52 N q_spec_l34Numbers), (55, VS55 N q_spec_FormatInt), (87, VS87 N q_spec_FormatDiagram)], [], [], [], ⟨[85], [], [145], [149, 152, 199]⟩⟩
def E27 {β : Type} (N : Nat) : Env β := VE27 N (spec_LeastOrder N) (spec_DiagramOf N) (spec_l34Numbers N) (spec_FormatInt N) (spec_FormatDiagram N)
def BV_spec_DiagramLine {β : Type} (N : Nat) (q_spec_LeastOrder : (a0 : Int) → (a1 : Int) → (k : List Int → Int → Bool → Option β) → Option β) (q_spec_DiagramOf : (a0 : Int) → (a1 : Int) → (a2 : List Int) → (k : List (Int × Int × Int) → Bool → Option β) → Option β) (q_spec_l34Numbers : (a0 : List Int) → (k : ByteArray → Option β) → Option β) (q_spec_FormatInt : (a0 : Int) → (k : ByteArray → Option β) → Option β) (q_spec_FormatDiagram : (a0 : List (Int × Int × Int)) → (k : ByteArray → Option β) → Option β) (a0 : Int) (a1 : Int) (k : ByteArray → Option β) : Option β :=
q_spec_LeastOrder a0 a1 fun r3 r4 r5 =>
(cond (!r5)
(k ByteArray.empty)
(q_spec_DiagramOf a0 a1 r3 fun r6 r7 =>
q_spec_l34Numbers r3 fun r8 =>
(gd ((decide (((strOf [100, 105, 97, 103, 114, 97, 109, 32, 111, 114, 100, 101, 114, 32])).size + r8.size ≤ 9223372036854775807)))
((gd ((decide ((((strOf [100, 105, 97, 103, 114, 97, 109, 32, 111, 114, 100, 101, 114, 32]) ++ r8)).size + ((strOf [32, 115, 105, 122, 101, 32])).size ≤ 9223372036854775807)))
(q_spec_FormatInt r4 fun r9 =>
(gd ((decide (((((strOf [100, 105, 97, 103, 114, 97, 109, 32, 111, 114, 100, 101, 114, 32]) ++ r8) ++ (strOf [32, 115, 105, 122, 101, 32]))).size + r9.size ≤ 9223372036854775807)))
((gd ((decide ((((((strOf [100, 105, 97, 103, 114, 97, 109, 32, 111, 114, 100, 101, 114, 32]) ++ r8) ++ (strOf [32, 115, 105, 122, 101, 32])) ++ r9)).size + ((strOf [32, 110, 111, 100, 101, 115, 32])).size ≤ 9223372036854775807)))
(q_spec_FormatDiagram r6 fun r10 =>
(gd ((decide (((((((strOf [100, 105, 97, 103, 114, 97, 109, 32, 111, 114, 100, 101, 114, 32]) ++ r8) ++ (strOf [32, 115, 105, 122, 101, 32])) ++ r9) ++ (strOf [32, 110, 111, 100, 101, 115, 32]))).size + r10.size ≤ 9223372036854775807)))
(k (((((((strOf [100, 105, 97, 103, 114, 97, 109, 32, 111, 114, 100, 101, 114, 32]) ++ r8) ++ (strOf [32, 115, 105, 122, 101, 32])) ++ r9) ++ (strOf [32, 110, 111, 100, 101, 115, 32])) ++ r10))))))))))))))
theorem t_spec_DiagramLine {β : Type} (N : Nat) (a0 : Int) (a1 : Int) (k : ByteArray → Option β) : spec_DiagramLine N a0 a1 k = BV_spec_DiagramLine N (spec_LeastOrder N) (spec_DiagramOf N) (spec_l34Numbers N) (spec_FormatInt N) (spec_FormatDiagram N) a0 a1 k := by
  unfold spec_DiagramLine BV_spec_DiagramLine
  rfl
theorem ve27_0 {β : Type} (N : Nat) (q_spec_LeastOrder : (a0 : Int) → (a1 : Int) → (k : List Int → Int → Bool → Option β) → Option β) (q_spec_DiagramOf : (a0 : Int) → (a1 : Int) → (a2 : List Int) → (k : List (Int × Int × Int) → Bool → Option β) → Option β) (q_spec_l34Numbers : (a0 : List Int) → (k : ByteArray → Option β) → Option β) (q_spec_FormatInt : (a0 : Int) → (k : ByteArray → Option β) → Option β) (q_spec_FormatDiagram : (a0 : List (Int × Int × Int)) → (k : ByteArray → Option β) → Option β)  (a0 : Int) (a1 : Int) (K : TV → Option β) : evFn lay (VE27 N q_spec_LeastOrder q_spec_DiagramOf q_spec_l34Numbers q_spec_FormatInt q_spec_FormatDiagram) Tryd.f27 [.v (.agg [.int .i64 a0, .int .i64 a1])] K = BV_spec_DiagramLine N q_spec_LeastOrder q_spec_DiagramOf q_spec_l34Numbers q_spec_FormatInt q_spec_FormatDiagram a0 a1 (fun z2 => K (.v (.one (.str z2)))) := by kernel_rfl
theorem e27_0 {β : Type} (N : Nat)  (a0 : Int) (a1 : Int) (K : TV → Option β) : evFn lay (E27 N) Tryd.f27 [.v (.agg [.int .i64 a0, .int .i64 a1])] K = spec_DiagramLine N a0 a1 (fun z2 => K (.v (.one (.str z2)))) := (ve27_0 N (spec_LeastOrder N) (spec_DiagramOf N) (spec_l34Numbers N) (spec_FormatInt N) (spec_FormatDiagram N) a0 a1 K).trans (t_spec_DiagramLine N a0 a1 (fun z2 => K (.v (.one (.str z2))))).symm
theorem o27 {β : Type} (N : Nat) : SpecOK (β := β) inv Tryd.prog 27 (S27 N) := by
  refine spec_of lay_ok mixed (E := E27 N) (specs_loops (specs_cons (o85 N) (specs_cons (o86 N) (specs_cons (o52 N) (specs_cons (o55 N) (specs_cons (o87 N) specs_nil)))))) muts_nil gs_nil Tryd.func27 (by kernel_rfl) 0 (by kernel_rfl) trivial fun args K r h => ?_
  unfold S27 VS27 at h
  split at h
  · exact (e27_0 N _ _ _).trans h
  · cases h
def VS46 {β : Type} (N : Nat) (q_impl_isBits : (a0 : Int) → (k : Bool → Option β) → Option β) : Rv.Spec β := fun args K => match args with
  | [.v (.one (.int .i64 a0))] => q_impl_isBits a0 (fun z1 => K (.v (.one (.bool z1))))
  | _ => none
def S46 {β : Type} (N : Nat) : Rv.Spec β := VS46 N (impl_isBits N)
def VE46 {β : Type} (N : Nat) : Env β := ⟨[], [], [], [], ⟨[], [], [145], [149, 152, 199]⟩⟩
def E46 {β : Type} (N : Nat) : Env β := VE46 N
def BV_impl_isBits {β : Type} (N : Nat) (a0 : Int) (k : Bool → Option β) : Option β :=
(cond ((decide (a0 ≥ 0)))
(k ((decide (a0 ≤ 5))))
(k false))
theorem t_impl_isBits {β : Type} (N : Nat) (a0 : Int) (k : Bool → Option β) : impl_isBits N a0 k = BV_impl_isBits N a0 k := by
  unfold impl_isBits BV_impl_isBits
  rfl
theorem ve46_0 {β : Type} (N : Nat)  (a0 : Int) (K : TV → Option β) : evFn lay (VE46 N) Tryd.f46 [.v (.one (.int .i64 a0))] K = BV_impl_isBits N a0 (fun z1 => K (.v (.one (.bool z1)))) := by kernel_rfl
theorem e46_0 {β : Type} (N : Nat)  (a0 : Int) (K : TV → Option β) : evFn lay (E46 N) Tryd.f46 [.v (.one (.int .i64 a0))] K = impl_isBits N a0 (fun z1 => K (.v (.one (.bool z1)))) := (ve46_0 N a0 K).trans (t_impl_isBits N a0 (fun z1 => K (.v (.one (.bool z1))))).symm
theorem o46 {β : Type} (N : Nat) : SpecOK (β := β) inv Tryd.prog 46 (S46 N) := by
  refine spec_of lay_ok mixed (E := E46 N) (specs_loops specs_nil) muts_nil gs_nil Tryd.func46 (by kernel_rfl) 0 (by kernel_rfl) trivial fun args K r h => ?_
  unfold S46 VS46 at h
  split at h
  · exact (e46_0 N _ _).trans h
  · cases h
def VS125 {β : Type} (N : Nat) (q_impl_Table_size : (a0 : Int) → (a1 : Int) → (k : Int → Option β) → Option β) : Rv.Spec β := fun args K => match args with
  | [.v (.agg [.int .i64 a0, .int .i64 a1])] => q_impl_Table_size a0 a1 (fun z2 => K (.v (.one (.int .i64 z2))))
  | _ => none
def S125 {β : Type} (N : Nat) : Rv.Spec β := VS125 N (impl_Table_size N)
def VE125 {β : Type} (N : Nat) : Env β := ⟨[], [], [], [], ⟨[], [], [145], [149, 152, 199]⟩⟩
def E125 {β : Type} (N : Nat) : Env β := VE125 N
def BV_impl_Table_size {β : Type} (N : Nat) (a0 : Int) (a1 : Int) (k : Int → Option β) : Option β :=
(gd ((decide (0 ≤ a0)))
(k ((shlI .i64 1 a0))))
theorem t_impl_Table_size {β : Type} (N : Nat) (a0 : Int) (a1 : Int) (k : Int → Option β) : impl_Table_size N a0 a1 k = BV_impl_Table_size N a0 a1 k := by
  unfold impl_Table_size BV_impl_Table_size
  rfl
theorem ve125_0 {β : Type} (N : Nat)  (a0 : Int) (a1 : Int) (K : TV → Option β) : evFn lay (VE125 N) Tryd.f125 [.v (.agg [.int .i64 a0, .int .i64 a1])] K = BV_impl_Table_size N a0 a1 (fun z2 => K (.v (.one (.int .i64 z2)))) := by kernel_rfl
theorem e125_0 {β : Type} (N : Nat)  (a0 : Int) (a1 : Int) (K : TV → Option β) : evFn lay (E125 N) Tryd.f125 [.v (.agg [.int .i64 a0, .int .i64 a1])] K = impl_Table_size N a0 a1 (fun z2 => K (.v (.one (.int .i64 z2)))) := (ve125_0 N a0 a1 K).trans (t_impl_Table_size N a0 a1 (fun z2 => K (.v (.one (.int .i64 z2))))).symm
theorem o125 {β : Type} (N : Nat) : SpecOK (β := β) inv Tryd.prog 125 (S125 N) := by
  refine spec_of lay_ok mixed (E := E125 N) (specs_loops specs_nil) muts_nil gs_nil Tryd.func125 (by kernel_rfl) 0 (by kernel_rfl) trivial fun args K r h => ?_
  unfold S125 VS125 at h
  split at h
  · exact (e125_0 N _ _ _).trans h
  · cases h
def VS59 {β : Type} (N : Nat) (q_impl_IsTable : (a0 : Int) → (a1 : Int) → (k : Bool → Option β) → Option β) : Rv.Spec β := fun args K => match args with
  | [.v (.agg [.int .i64 a0, .int .i64 a1])] => q_impl_IsTable a0 a1 (fun z2 => K (.v (.one (.bool z2))))
  | _ => none
def S59 {β : Type} (N : Nat) : Rv.Spec β := VS59 N (impl_IsTable N)
def VE59 {β : Type} (N : Nat) (q_impl_isBits : (a0 : Int) → (k : Bool → Option β) → Option β) (q_impl_Table_size : (a0 : Int) → (a1 : Int) → (k : Int → Option β) → Option β) : Env β := ⟨[(46, VS46 N q_impl_isBits), (125, VS125 N q_impl_Table_size)], [], [], [], ⟨[], [], [145], [149, 152, 199]⟩⟩
def E59 {β : Type} (N : Nat) : Env β := VE59 N (impl_isBits N) (impl_Table_size N)
def BV_impl_IsTable {β : Type} (N : Nat) (q_impl_isBits : (a0 : Int) → (k : Bool → Option β) → Option β) (q_impl_Table_size : (a0 : Int) → (a1 : Int) → (k : Int → Option β) → Option β) (a0 : Int) (a1 : Int) (k : Bool → Option β) : Option β :=
q_impl_isBits a0 fun r3 =>
(cond r3
((cond ((decide (a1 ≥ 0)))
(q_impl_Table_size a0 a1 fun r4 =>
(gd ((decide (0 ≤ r4)))
(k (((shrI .i64 a1 r4) == 0)))))
(k false)))
(k false))
theorem t_impl_IsTable {β : Type} (N : Nat) (a0 : Int) (a1 : Int) (k : Bool → Option β) : impl_IsTable N a0 a1 k = BV_impl_IsTable N (impl_isBits N) (impl_Table_size N) a0 a1 k := by
  unfold impl_IsTable BV_impl_IsTable
  rfl
theorem ve59_0 {β : Type} (N : Nat) (q_impl_isBits : (a0 : Int) → (k : Bool → Option β) → Option β) (q_impl_Table_size : (a0 : Int) → (a1 : Int) → (k : Int → Option β) → Option β)  (a0 : Int) (a1 : Int) (K : TV → Option β) : evFn lay (VE59 N q_impl_isBits q_impl_Table_size) Tryd.f59 [.v (.agg [.int .i64 a0, .int .i64 a1])] K = BV_impl_IsTable N q_impl_isBits q_impl_Table_size a0 a1 (fun z2 => K (.v (.one (.bool z2)))) := by kernel_rfl
theorem e59_0 {β : Type} (N : Nat)  (a0 : Int) (a1 : Int) (K : TV → Option β) : evFn lay (E59 N) Tryd.f59 [.v (.agg [.int .i64 a0, .int .i64 a1])] K = impl_IsTable N a0 a1 (fun z2 => K (.v (.one (.bool z2)))) := (ve59_0 N (impl_isBits N) (impl_Table_size N) a0 a1 K).trans (t_impl_IsTable N a0 a1 (fun z2 => K (.v (.one (.bool z2))))).symm
theorem o59 {β : Type} (N : Nat) : SpecOK (β := β) inv Tryd.prog 59 (S59 N) := by
  refine spec_of lay_ok mixed (E := E59 N) (specs_loops (specs_cons (o46 N) (specs_cons (o125 N) specs_nil))) muts_nil gs_nil Tryd.func59 (by kernel_rfl) 0 (by kernel_rfl) trivial fun args K r h => ?_
  unfold S59 VS59 at h
  split at h
  · exact (e59_0 N _ _ _).trans h
  · cases h
def VS107 {β : Type} (N : Nat) (q_impl_isSmall : (a0 : Int) → (a1 : Int) → (a2 : Int) → (k : Bool → Option β) → Option β) : Rv.Spec β := fun args K => match args with
  | [.v (.agg [.int .i64 a0, .int .i64 a1]), .v (.one (.int .i64 a2))] => q_impl_isSmall a0 a1 a2 (fun z3 => K (.v (.one (.bool z3))))
  | _ => none
def S107 {β : Type} (N : Nat) : Rv.Spec β := VS107 N (impl_isSmall N)
def VE107 {β : Type} (N : Nat) (q_impl_IsTable : (a0 : Int) → (a1 : Int) → (k : Bool → Option β) → Option β) : Env β := ⟨[(59, VS59 N q_impl_IsTable)], [], [], [], ⟨[], [], [145], [149, 152, 199]⟩⟩
def E107 {β : Type} (N : Nat) : Env β := VE107 N (impl_IsTable N)
def BV_impl_isSmall {β : Type} (N : Nat) (q_impl_IsTable : (a0 : Int) → (a1 : Int) → (k : Bool → Option β) → Option β) (a0 : Int) (a1 : Int) (a2 : Int) (k : Bool → Option β) : Option β :=
q_impl_IsTable a0 a1 fun r4 =>
(cond r4
(k ((decide (a0 ≤ a2))))
(k false))
theorem t_impl_isSmall {β : Type} (N : Nat) (a0 : Int) (a1 : Int) (a2 : Int) (k : Bool → Option β) : impl_isSmall N a0 a1 a2 k = BV_impl_isSmall N (impl_IsTable N) a0 a1 a2 k := by
  unfold impl_isSmall BV_impl_isSmall
  rfl
theorem ve107_0 {β : Type} (N : Nat) (q_impl_IsTable : (a0 : Int) → (a1 : Int) → (k : Bool → Option β) → Option β)  (a0 : Int) (a1 : Int) (a2 : Int) (K : TV → Option β) : evFn lay (VE107 N q_impl_IsTable) Tryd.f107 [.v (.agg [.int .i64 a0, .int .i64 a1]), .v (.one (.int .i64 a2))] K = BV_impl_isSmall N q_impl_IsTable a0 a1 a2 (fun z3 => K (.v (.one (.bool z3)))) := by kernel_rfl
theorem e107_0 {β : Type} (N : Nat)  (a0 : Int) (a1 : Int) (a2 : Int) (K : TV → Option β) : evFn lay (E107 N) Tryd.f107 [.v (.agg [.int .i64 a0, .int .i64 a1]), .v (.one (.int .i64 a2))] K = impl_isSmall N a0 a1 a2 (fun z3 => K (.v (.one (.bool z3)))) := (ve107_0 N (impl_IsTable N) a0 a1 a2 K).trans (t_impl_isSmall N a0 a1 a2 (fun z3 => K (.v (.one (.bool z3))))).symm
theorem o107 {β : Type} (N : Nat) : SpecOK (β := β) inv Tryd.prog 107 (S107 N) := by
  refine spec_of lay_ok mixed (E := E107 N) (specs_loops (specs_cons (o59 N) specs_nil)) muts_nil gs_nil Tryd.func107 (by kernel_rfl) 0 (by kernel_rfl) trivial fun args K r h => ?_
  unfold S107 VS107 at h
  split at h
  · exact (e107_0 N _ _ _ _).trans h
  · cases h
def VSF199 {β : Type} (N : Nat) (q_impl_permutations_1_g0_f : Nat → Int → List Int → List (List Int) → List Bool → (Int → List Int → List (List Int) → List Bool → Option β) → Option β) (G : Nat) : GSpec β := fun args bl K => match args, bl with
  | [.v (.one (.ptr 0 0)), .v (.one (.ptr 1 0)), .v (.one (.ptr 2 0)), .v (.one (.ptr 3 0)), .v (.one (.ptr 4 0))], [.pcells 0 25 [.row 5], .pcells 1 3 [.int .i64 a0], .pcells 2 113 [.row 6], .pcells 3 179 [.row 7], .pcells 4 1 [.fn 199 [(0, 0), (1, 0), (2, 0), (3, 0), (4, 0)]], .row 3 (.ints .i64 a1), .row 25 (.lists 3 a2), .row 4 (.bools a3)] => q_impl_permutations_1_g0_f G a0 a1 a2 a3 (fun y0 y1 y2 y3 => K (.tup []) [.pcells 0 25 [.row 5], .pcells 1 3 [.int .i64 y0], .pcells 2 113 [.row 6], .pcells 3 179 [.row 7], .pcells 4 1 [.fn 199 [(0, 0), (1, 0), (2, 0), (3, 0), (4, 0)]], .row 3 (.ints .i64 y1), .row 25 (.lists 3 y2), .row 4 (.bools y3)])
  | _, _ => none
def SF199 {β : Type} (N : Nat) (G : Nat) : GSpec β := VSF199 N (impl_permutations_1_g0_f N) G
def VS199 {β : Type} (N : Nat) (q_impl_permutations_1_g0_f : Nat → Int → List Int → List (List Int) → List Bool → (Int → List Int → List (List Int) → List Bool → Option β) → Option β) : GSpec β := VSF199 N q_impl_permutations_1_g0_f N
def S199 {β : Type} (N : Nat) : GSpec β := SF199 N N
def h199_0_0  (v0 : Int) (v1 : Int) (v2 : Int) (v3 : List Int) (v4 : List (List Int)) (v5 : List Bool) : St := ⟨.v (.one (.ptr 0 0)) :: .v (.one .und) :: .v (.one .und) :: .v (.one (.ptr 3 0)) :: .v (.one (.ptr 4 0)) :: .v (.one .und) :: .v (.one .und) :: .v (.one .und) :: .v (.one .und) :: .v (.one .und) :: .v (.one .und) :: .v (.one .und) :: .v (.one .und) :: .v (.one .und) :: .v (.one .und) :: .v (.one .und) :: .v (.one (.int .i64 v0)) :: .v (.one (.int .i64 v1)) :: .v (.one .und) :: .v (.one .und) :: .v (.one .und) :: .v (.one .und) :: .v (.one .und) :: .v (.one .und) :: .v (.one .und) :: .v (.one .und) :: .v (.one .und) :: .v (.one .und) :: .v (.one .und) :: .v (.one .und) :: .v (.one .und) :: .v (.one .und) :: .v (.one .und) :: .v (.one .und) :: .v (.one .und) :: .v (.one .und) :: .v (.one .und) :: .v (.one .und) :: .v (.one .und) :: .v (.one .und) :: .v (.one .und) :: .v (.one .und) :: .v (.one .und) :: [], [.pcells 0 25 [.row 5], .pcells 1 3 [.int .i64 v2], .pcells 2 113 [.row 6], .pcells 3 179 [.row 7], .pcells 4 1 [.fn 199 [(0, 0), (1, 0), (2, 0), (3, 0), (4, 0)]], .row 3 (.ints .i64 v3), .row 25 (.lists 3 v4), .row 4 (.bools v5)]⟩
def x199_0_0_k0  (y0 : Int) (y1 : List Int) (y2 : List (List Int)) (y3 : List Bool) : St := ⟨.v (.one .und) :: .v (.one .und) :: .v (.one .und) :: .v (.one .und) :: .v (.one .und) :: .v (.one .und) :: .v (.one .und) :: .v (.one .und) :: .v (.one .und) :: .v (.one .und) :: .v (.one .und) :: .v (.one .und) :: .v (.one .und) :: .v (.one .und) :: .v (.one .und) :: .v (.one .und) :: .v (.one .und) :: .v (.one .und) :: .v (.one .und) :: .v (.one .und) :: .v (.one .und) :: .v (.one .und) :: .v (.one .und) :: .v (.one .und) :: .v (.one .und) :: .v (.one .und) :: .v (.one .und) :: .v (.one .und) :: .v (.one .und) :: .v (.one .und) :: .v (.one .und) :: .v (.one .und) :: .v (.one .und) :: .v (.one .und) :: .v (.one .und) :: .v (.one .und) :: .v (.one .und) :: .v (.one .und) :: .v (.one .und) :: .v (.one .und) :: .v (.one .und) :: .v (.one .und) :: .v (.one .und) :: [], [.pcells 0 25 [.row 5], .pcells 1 3 [.int .i64 y0], .pcells 2 113 [.row 6], .pcells 3 179 [.row 7], .pcells 4 1 [.fn 199 [(0, 0), (1, 0), (2, 0), (3, 0), (4, 0)]], .row 3 (.ints .i64 y1), .row 25 (.lists 3 y2), .row 4 (.bools y3)]⟩
theorem fl199_0_0 (s : St) : refSt (h199_0_0 0 0 0 [] [] []) s = h199_0_0 (intS (oneA (vT (nx tund s.tmps 16)))) (intS (oneA (vT (nx tund s.tmps 17)))) (intS (nx .und (cellsB (nx .dead s.blks 1)) 0)) (rInts (rowB_ (nx .dead s.blks 5))) (rLists (rowB_ (nx .dead s.blks 6))) (rBools (rowB_ (nx .dead s.blks 7))) := by kernel_rfl
def VLS199_0 {β : Type} (N : Nat) (q_impl_permutations_1_l0 : (self : Int → List Int → List (List Int) → List Bool → (Int → List Int → List (List Int) → List Bool → Option β) → Option β) → Nat → Int → Int → Int → List Int → List (List Int) → List Bool → (Int → List Int → List (List Int) → List Bool → Option β) → Option β) (q_impl_permutations_1_g0_f : Nat → Int → List Int → List (List Int) → List Bool → (Int → List Int → List (List Int) → List Bool → Option β) → Option β) (G : Nat) : LSpec β := fun s K => cond (shpSt (h199_0_0 0 0 0 [] [] []) s) ((fun (v0 : Int) (v1 : Int) (v2 : Int) (v3 : List Int) (v4 : List (List Int)) (v5 : List Bool) => q_impl_permutations_1_l0 (q_impl_permutations_1_g0_f G)  N v0 v1 v2 v3 v4 v5 (fun y0 y1 y2 y3 => K (.exit 0) (x199_0_0_k0  y0 y1 y2 y3))) (intS (oneA (vT (nx tund s.tmps 16)))) (intS (oneA (vT (nx tund s.tmps 17)))) (intS (nx .und (cellsB (nx .dead s.blks 1)) 0)) (rInts (rowB_ (nx .dead s.blks 5))) (rLists (rowB_ (nx .dead s.blks 6))) (rBools (rowB_ (nx .dead s.blks 7)))) (none)
def LS199_0 {β : Type} (N : Nat) (G : Nat) : LSpec β := VLS199_0 N (impl_permutations_1_l0 N) (impl_permutations_1_g0_f N) G
def VE199 {β : Type} (N : Nat) (q_impl_permutations_1_l0 : (self : Int → List Int → List (List Int) → List Bool → (Int → List Int → List (List Int) → List Bool → Option β) → Option β) → Nat → Int → Int → Int → List Int → List (List Int) → List Bool → (Int → List Int → List (List Int) → List Bool → Option β) → Option β) (q_impl_permutations_1_g0_f : Nat → Int → List Int → List (List Int) → List Bool → (Int → List Int → List (List Int) → List Bool → Option β) → Option β) (G : Nat) : Env β := ⟨[], [], [(0, VLS199_0 N q_impl_permutations_1_l0 q_impl_permutations_1_g0_f G)], [(199, VSF199 N q_impl_permutations_1_g0_f G)], ⟨[], [], [145], [149, 152, 199]⟩⟩
def E199 {β : Type} (N : Nat) (G : Nat) : Env β := VE199 N (impl_permutations_1_l0 N) (impl_permutations_1_g0_f N) G
def BV_impl_permutations_1_l0b {β : Type} (N : Nat) (self : Int → List Int → List (List Int) → List Bool → (Int → List Int → List (List Int) → List Bool → Option β) → Option β)  (v0 : Int) (v1 : Int) (v2 : Int) (v3 : List Int) (v4 : List (List Int)) (v5 : List Bool) (rec_ : Int → Int → Int → List Int → List (List Int) → List Bool → Option β) (k0 : Int → List Int → List (List Int) → List Bool → Option β) : Option β :=
(cond ((decide (v1 < v0)))
((gd ((decide (0 ≤ v1)))
((gd ((decide (v1 < (v5.length : Int))))
((cond ((!(rd false v5 v1)))
((gd ((decide (0 ≤ v1)))
((gd ((decide (v1 < (v5.length : Int))))
((gd ((decide ((v3.length + ((([] : List Int) ++ [v1])).length) * 8 ≤ 140737488355328)))
(self v2 ((v3 ++ (([] : List Int) ++ [v1]))) v4 ((wr v5 v1 true)) (fun r2_0 r2_1 r2_2 r2_3 =>
(gd ((decide (0 ≤ (w64 ((r2_1.length : Int) - 1)))))
((gd ((decide ((w64 ((r2_1.length : Int) - 1)) ≤ (r2_1.length : Int))))
((gd ((decide (0 ≤ v1)))
((gd ((decide (v1 < (r2_3.length : Int))))
(rec_ v0 ((w64 (v1 + 1))) r2_0 ((List.drop 0 (List.take (Int.toNat (w64 ((r2_1.length : Int) - 1))) r2_1))) r2_2 ((wr r2_3 v1 false))))))))))))))))))
(rec_ v0 ((w64 (v1 + 1))) v2 v3 v4 v5)))))))
(k0 v2 v3 v4 v5))
theorem t_impl_permutations_1_l0b {β : Type} (N : Nat) (self : Int → List Int → List (List Int) → List Bool → (Int → List Int → List (List Int) → List Bool → Option β) → Option β)  (v0 : Int) (v1 : Int) (v2 : Int) (v3 : List Int) (v4 : List (List Int)) (v5 : List Bool) (rec_ : Int → Int → Int → List Int → List (List Int) → List Bool → Option β) (k0 : Int → List Int → List (List Int) → List Bool → Option β) : impl_permutations_1_l0b N self v0 v1 v2 v3 v4 v5 rec_ k0 = BV_impl_permutations_1_l0b N self v0 v1 v2 v3 v4 v5 rec_ k0 := by
  unfold impl_permutations_1_l0b BV_impl_permutations_1_l0b
  rfl
theorem vst199_0_0 {β : Type} (N : Nat) (q_impl_permutations_1_l0 : (self : Int → List Int → List (List Int) → List Bool → (Int → List Int → List (List Int) → List Bool → Option β) → Option β) → Nat → Int → Int → Int → List Int → List (List Int) → List Bool → (Int → List Int → List (List Int) → List Bool → Option β) → Option β) (q_impl_permutations_1_g0_f : Nat → Int → List Int → List (List Int) → List Bool → (Int → List Int → List (List Int) → List Bool → Option β) → Option β) (G : Nat)  (v0 : Int) (v1 : Int) (v2 : Int) (v3 : List Int) (v4 : List (List Int)) (v5 : List Bool) (rec_ : St → Option β) (K : Exit → St → Option β) :
    ev lay (VE199 N q_impl_permutations_1_l0 q_impl_permutations_1_g0_f G) (retMask Tryd.f199) (lp Tryd.f199 0).body (lp Tryd.f199 0).ex ((lp Tryd.f199 0).lv (retMask Tryd.f199)) (h199_0_0  v0 v1 v2 v3 v4 v5) (nextR (fun s' => rec_ (s'.tidy ((lp Tryd.f199 0).lv (retMask Tryd.f199)))) K) = BV_impl_permutations_1_l0b N (q_impl_permutations_1_g0_f G)  v0 v1 v2 v3 v4 v5 (fun v0 v1 v2 v3 v4 v5 => rec_ (h199_0_0  v0 v1 v2 v3 v4 v5)) (fun y0 y1 y2 y3 => K (.exit 0) (x199_0_0_k0  y0 y1 y2 y3)) := by kernel_rfl
theorem st199_0_0 {β : Type} (N : Nat) (G : Nat)  (v0 : Int) (v1 : Int) (v2 : Int) (v3 : List Int) (v4 : List (List Int)) (v5 : List Bool) (rec_ : St → Option β) (K : Exit → St → Option β) :
    ev lay (E199 N G) (retMask Tryd.f199) (lp Tryd.f199 0).body (lp Tryd.f199 0).ex ((lp Tryd.f199 0).lv (retMask Tryd.f199)) (h199_0_0  v0 v1 v2 v3 v4 v5) (nextR (fun s' => rec_ (s'.tidy ((lp Tryd.f199 0).lv (retMask Tryd.f199)))) K) = impl_permutations_1_l0b N (impl_permutations_1_g0_f N G)  v0 v1 v2 v3 v4 v5 (fun v0 v1 v2 v3 v4 v5 => rec_ (h199_0_0  v0 v1 v2 v3 v4 v5)) (fun y0 y1 y2 y3 => K (.exit 0) (x199_0_0_k0  y0 y1 y2 y3)) := (vst199_0_0 N (impl_permutations_1_l0 N) (impl_permutations_1_g0_f N) G v0 v1 v2 v3 v4 v5 rec_ K).trans (t_impl_permutations_1_l0b N (impl_permutations_1_g0_f N G)  v0 v1 v2 v3 v4 v5 (fun v0 v1 v2 v3 v4 v5 => rec_ (h199_0_0  v0 v1 v2 v3 v4 v5)) (fun y0 y1 y2 y3 => K (.exit 0) (x199_0_0_k0  y0 y1 y2 y3))).symm
theorem ro199_0_0 {β : Type} (N : Nat) (G : Nat)  (K : Exit → St → Option β) : ∀ (F : Nat) (v0 : Int) (v1 : Int) (v2 : Int) (v3 : List Int) (v4 : List (List Int)) (v5 : List Bool), (lp Tryd.f199 0).rounds lay (E199 N G) (retMask Tryd.f199) F (h199_0_0  v0 v1 v2 v3 v4 v5) K = impl_permutations_1_l0 N (impl_permutations_1_g0_f N G)  F v0 v1 v2 v3 v4 v5 (fun y0 y1 y2 y3 => K (.exit 0) (x199_0_0_k0  y0 y1 y2 y3)) := by
  intro F
  induction F with
  | zero => intros; rfl
  | succ F ih =>
    intros
    rw [rounds_next]
    refine (st199_0_0 N G  _ _ _ _ _ _ (fun s => (lp Tryd.f199 0).rounds lay (E199 N G) (retMask Tryd.f199) F s K) K).trans ?_
    simp only [ih]
    rfl
theorem lk199_0 {β : Type} (N : Nat) (G : Nat) : lookL (E199 (β := β) N G).loops (lp Tryd.f199 0).id = LS199_0 N G := by kernel_rfl
theorem rk199_0 {β : Type} (N : Nat) (G : Nat) : RoundsOK lay (E199 (β := β) N G) (retMask Tryd.f199) (lp Tryd.f199 0) := by
  intro s K r h
  rw [lk199_0] at h
  unfold LS199_0 VLS199_0 at h
  cases hb : shpSt (h199_0_0 0 0 0 [] [] []) s with
  | true =>
    rw [hb, cond_true] at h
    exact ⟨N, by rw [← shpSt_ref hb, fl199_0_0 s]; exact (ro199_0_0 N G  K N (intS (oneA (vT (nx tund s.tmps 16)))) (intS (oneA (vT (nx tund s.tmps 17)))) (intS (nx .und (cellsB (nx .dead s.blks 1)) 0)) (rInts (rowB_ (nx .dead s.blks 5))) (rLists (rowB_ (nx .dead s.blks 6))) (rBools (rowB_ (nx .dead s.blks 7)))).trans h⟩
  | false =>
  rw [hb, cond_false] at h
  clear hb
  cases h
def BV_impl_permutations_1_g0_b {β : Type} (N : Nat) (q_impl_permutations_1_l0 : (self : Int → List Int → List (List Int) → List Bool → (Int → List Int → List (List Int) → List Bool → Option β) → Option β) → Nat → Int → Int → Int → List Int → List (List Int) → List Bool → (Int → List Int → List (List Int) → List Bool → Option β) → Option β) (self : Int → List Int → List (List Int) → List Bool → (Int → List Int → List (List Int) → List Bool → Option β) → Option β) (a0 : Int) (a1 : List Int) (a2 : List (List Int)) (a3 : List Bool) (k0 : Int → List Int → List (List Int) → List Bool → Option β) : Option β :=
(cond (((a1.length : Int) == a0))
((gd ((decide (((([] : List Int)).length + a1.length) * 8 ≤ 140737488355328)))
((gd ((decide ((a2.length + ((([] : List (List Int)) ++ [(([] : List Int) ++ a1)])).length) * 24 ≤ 140737488355328)))
(k0 a0 a1 ((a2 ++ (([] : List (List Int)) ++ [(([] : List Int) ++ a1)]))) a3)))))
(q_impl_permutations_1_l0 self  N a0 0 a0 a1 a2 a3 (fun e3_0 e3_1 e3_2 e3_3 =>
k0 e3_0 e3_1 e3_2 e3_3)))
theorem t_impl_permutations_1_g0_b {β : Type} (N : Nat) (self : Int → List Int → List (List Int) → List Bool → (Int → List Int → List (List Int) → List Bool → Option β) → Option β) (a0 : Int) (a1 : List Int) (a2 : List (List Int)) (a3 : List Bool) (k0 : Int → List Int → List (List Int) → List Bool → Option β) : impl_permutations_1_g0_b N self a0 a1 a2 a3 k0 = BV_impl_permutations_1_g0_b N (impl_permutations_1_l0 N) self a0 a1 a2 a3 k0 := by
  unfold impl_permutations_1_g0_b BV_impl_permutations_1_g0_b
  rfl
theorem ve199_0 {β : Type} (N : Nat) (q_impl_permutations_1_l0 : (self : Int → List Int → List (List Int) → List Bool → (Int → List Int → List (List Int) → List Bool → Option β) → Option β) → Nat → Int → Int → Int → List Int → List (List Int) → List Bool → (Int → List Int → List (List Int) → List Bool → Option β) → Option β) (q_impl_permutations_1_g0_f : Nat → Int → List Int → List (List Int) → List Bool → (Int → List Int → List (List Int) → List Bool → Option β) → Option β) (G : Nat) (a0 : Int) (a1 : List Int) (a2 : List (List Int)) (a3 : List Bool) (K : TV → List Blk → Option β) : evFnG lay (VE199 N q_impl_permutations_1_l0 q_impl_permutations_1_g0_f G) Tryd.f199 [.v (.one (.ptr 0 0)), .v (.one (.ptr 1 0)), .v (.one (.ptr 2 0)), .v (.one (.ptr 3 0)), .v (.one (.ptr 4 0))] [.pcells 0 25 [.row 5], .pcells 1 3 [.int .i64 a0], .pcells 2 113 [.row 6], .pcells 3 179 [.row 7], .pcells 4 1 [.fn 199 [(0, 0), (1, 0), (2, 0), (3, 0), (4, 0)]], .row 3 (.ints .i64 a1), .row 25 (.lists 3 a2), .row 4 (.bools a3)] K = BV_impl_permutations_1_g0_b N q_impl_permutations_1_l0 (q_impl_permutations_1_g0_f G) a0 a1 a2 a3 (fun y0 y1 y2 y3 => K (.tup []) [.pcells 0 25 [.row 5], .pcells 1 3 [.int .i64 y0], .pcells 2 113 [.row 6], .pcells 3 179 [.row 7], .pcells 4 1 [.fn 199 [(0, 0), (1, 0), (2, 0), (3, 0), (4, 0)]], .row 3 (.ints .i64 y1), .row 25 (.lists 3 y2), .row 4 (.bools y3)]) := by kernel_rfl
theorem e199_0 {β : Type} (N : Nat) (G : Nat) (a0 : Int) (a1 : List Int) (a2 : List (List Int)) (a3 : List Bool) (K : TV → List Blk → Option β) : evFnG lay (E199 N G) Tryd.f199 [.v (.one (.ptr 0 0)), .v (.one (.ptr 1 0)), .v (.one (.ptr 2 0)), .v (.one (.ptr 3 0)), .v (.one (.ptr 4 0))] [.pcells 0 25 [.row 5], .pcells 1 3 [.int .i64 a0], .pcells 2 113 [.row 6], .pcells 3 179 [.row 7], .pcells 4 1 [.fn 199 [(0, 0), (1, 0), (2, 0), (3, 0), (4, 0)]], .row 3 (.ints .i64 a1), .row 25 (.lists 3 a2), .row 4 (.bools a3)] K = impl_permutations_1_g0_f N (G + 1) a0 a1 a2 a3 (fun y0 y1 y2 y3 => K (.tup []) [.pcells 0 25 [.row 5], .pcells 1 3 [.int .i64 y0], .pcells 2 113 [.row 6], .pcells 3 179 [.row 7], .pcells 4 1 [.fn 199 [(0, 0), (1, 0), (2, 0), (3, 0), (4, 0)]], .row 3 (.ints .i64 y1), .row 25 (.lists 3 y2), .row 4 (.bools y3)]) := (ve199_0 N (impl_permutations_1_l0 N) (impl_permutations_1_g0_f N) G a0 a1 a2 a3 K).trans (t_impl_permutations_1_g0_b N (impl_permutations_1_g0_f N G) a0 a1 a2 a3 (fun y0 y1 y2 y3 => K (.tup []) [.pcells 0 25 [.row 5], .pcells 1 3 [.int .i64 y0], .pcells 2 113 [.row 6], .pcells 3 179 [.row 7], .pcells 4 1 [.fn 199 [(0, 0), (1, 0), (2, 0), (3, 0), (4, 0)]], .row 3 (.ints .i64 y1), .row 25 (.lists 3 y2), .row 4 (.bools y3)])).symm
theorem z199 {β : Type} (N : Nat) : ∀ args bl K r, SF199 (β := β) N 0 args bl K = some r → (none : Option β) = some r := by
  intro args bl K r h
  unfold SF199 VSF199 at h
  split at h <;> exact h
theorem of199 {β : Type} (N : Nat) : ∀ G, GOK (β := β) inv Tryd.prog 199 (SF199 N G) := by
  intro G
  induction G with
  | zero => exact g_zero Tryd.func199 (by kernel_rfl) (z199 N)
  | succ G ih =>
    refine g_of lay_ok mixed (E := E199 N G) (specs_loops specs_nil) muts_nil (gs_cons ih gs_nil) Tryd.func199 (by kernel_rfl) 1 (by kernel_rfl) ⟨trivial, rk199_0 N G⟩ fun args bl K r h => ?_
    unfold SF199 VSF199 at h
    split at h
    · exact (e199_0 N G _ _ _ _ _).trans h
    · cases h
theorem o199 {β : Type} (N : Nat) : GOK (β := β) inv Tryd.prog 199 (S199 N) := of199 N N
def VS150 {β : Type} (N : Nat) (q_impl_permutations : (a0 : Int) → (k : List (List Int) → Option β) → Option β) : Rv.Spec β := fun args K => match args with
  | [.v (.one (.int .i64 a0))] => q_impl_permutations a0 (fun z1 => K (.v (.one (.sl 25 (.lists 3 z1)))))
  | _ => none
def S150 {β : Type} (N : Nat) : Rv.Spec β := VS150 N (impl_permutations N)
def VE150 {β : Type} (N : Nat) (q_impl_permutations_1_g0_f : Nat → Int → List Int → List (List Int) → List Bool → (Int → List Int → List (List Int) → List Bool → Option β) → Option β) : Env β := ⟨[], [], [], [(199, VS199 N q_impl_permutations_1_g0_f)], ⟨[], [], [145], [149, 152, 199]⟩⟩
def E150 {β : Type} (N : Nat) : Env β := VE150 N (impl_permutations_1_g0_f N)
def BV_impl_permutations {β : Type} (N : Nat) (q_impl_permutations_1_g0_f : Nat → Int → List Int → List (List Int) → List Bool → (Int → List Int → List (List Int) → List Bool → Option β) → Option β) (a0 : Int) (k : List (List Int) → Option β) : Option β :=
(gd ((decide (0 ≤ a0)))
((gd ((decide (8 * a0 ≤ 281474976710656)))
((gd ((decide (0 ≤ a0)))
((gd ((decide (a0 ≤ a0)))
((gd ((decide (1 * a0 ≤ 281474976710656)))
(q_impl_permutations_1_g0_f N a0 ((List.replicate (Int.toNat 0) (0 : Int))) (([] : List (List Int))) ((List.replicate (Int.toNat a0) false)) (fun r2_0 r2_1 r2_2 r2_3 =>
k r2_2)))))))))))
theorem t_impl_permutations {β : Type} (N : Nat) (a0 : Int) (k : List (List Int) → Option β) : impl_permutations N a0 k = BV_impl_permutations N (impl_permutations_1_g0_f N) a0 k := by
  unfold impl_permutations BV_impl_permutations
  rfl
theorem ve150_0 {β : Type} (N : Nat) (q_impl_permutations_1_g0_f : Nat → Int → List Int → List (List Int) → List Bool → (Int → List Int → List (List Int) → List Bool → Option β) → Option β)  (a0 : Int) (K : TV → Option β) : evFn lay (VE150 N q_impl_permutations_1_g0_f) Tryd.f150 [.v (.one (.int .i64 a0))] K = BV_impl_permutations N q_impl_permutations_1_g0_f a0 (fun z1 => K (.v (.one (.sl 25 (.lists 3 z1))))) := by kernel_rfl
theorem e150_0 {β : Type} (N : Nat)  (a0 : Int) (K : TV → Option β) : evFn lay (E150 N) Tryd.f150 [.v (.one (.int .i64 a0))] K = impl_permutations N a0 (fun z1 => K (.v (.one (.sl 25 (.lists 3 z1))))) := (ve150_0 N (impl_permutations_1_g0_f N) a0 K).trans (t_impl_permutations N a0 (fun z1 => K (.v (.one (.sl 25 (.lists 3 z1)))))).symm
theorem o150 {β : Type} (N : Nat) : SpecOK (β := β) inv Tryd.prog 150 (S150 N) := by
  refine spec_of lay_ok mixed (E := E150 N) (specs_loops specs_nil) muts_nil (gs_cons (o199 N) gs_nil) Tryd.func150 (by kernel_rfl) 0 (by kernel_rfl) trivial fun args K r h => ?_
  unfold S150 VS150 at h
  split at h
  · exact (e150_0 N _ _).trans h
  · cases h
def VS167 {β : Type} (N : Nat) (q_impl_Table_not : (a0 : Int) → (a1 : Int) → (k : Int → Int → Option β) → Option β) : Rv.Spec β := fun args K => match args with
  | [.v (.agg [.int .i64 a0, .int .i64 a1])] => q_impl_Table_not a0 a1 (fun z2 z3 => K (.v (.agg [.int .i64 z2, .int .i64 z3])))
  | _ => none
def S167 {β : Type} (N : Nat) : Rv.Spec β := VS167 N (impl_Table_not N)
def VE167 {β : Type} (N : Nat) (q_impl_Table_size : (a0 : Int) → (a1 : Int) → (k : Int → Option β) → Option β) : Env β := ⟨[(125, VS125 N q_impl_Table_size)], [], [], [], ⟨[], [], [145], [149, 152, 199]⟩⟩
def E167 {β : Type} (N : Nat) : Env β := VE167 N (impl_Table_size N)
def BV_impl_Table_not {β : Type} (N : Nat) (q_impl_Table_size : (a0 : Int) → (a1 : Int) → (k : Int → Option β) → Option β) (a0 : Int) (a1 : Int) (k : Int → Int → Option β) : Option β :=
q_impl_Table_size a0 a1 fun r4 =>
(gd ((decide (0 ≤ r4)))
(k a0 ((bits .xor .i64 a1 (w64 ((shlI .i64 1 r4) - 1))))))
theorem t_impl_Table_not {β : Type} (N : Nat) (a0 : Int) (a1 : Int) (k : Int → Int → Option β) : impl_Table_not N a0 a1 k = BV_impl_Table_not N (impl_Table_size N) a0 a1 k := by
  unfold impl_Table_not BV_impl_Table_not
  rfl
theorem ve167_0 {β : Type} (N : Nat) (q_impl_Table_size : (a0 : Int) → (a1 : Int) → (k : Int → Option β) → Option β)  (a0 : Int) (a1 : Int) (K : TV → Option β) : evFn lay (VE167 N q_impl_Table_size) Tryd.f167 [.v (.agg [.int .i64 a0, .int .i64 a1])] K = BV_impl_Table_not N q_impl_Table_size a0 a1 (fun z2 z3 => K (.v (.agg [.int .i64 z2, .int .i64 z3]))) := by kernel_rfl
theorem e167_0 {β : Type} (N : Nat)  (a0 : Int) (a1 : Int) (K : TV → Option β) : evFn lay (E167 N) Tryd.f167 [.v (.agg [.int .i64 a0, .int .i64 a1])] K = impl_Table_not N a0 a1 (fun z2 z3 => K (.v (.agg [.int .i64 z2, .int .i64 z3]))) := (ve167_0 N (impl_Table_size N) a0 a1 K).trans (t_impl_Table_not N a0 a1 (fun z2 z3 => K (.v (.agg [.int .i64 z2, .int .i64 z3])))).symm
theorem o167 {β : Type} (N : Nat) : SpecOK (β := β) inv Tryd.prog 167 (S167 N) := by
  refine spec_of lay_ok mixed (E := E167 N) (specs_loops (specs_cons (o125 N) specs_nil)) muts_nil gs_nil Tryd.func167 (by kernel_rfl) 0 (by kernel_rfl) trivial fun args K r h => ?_
  unfold S167 VS167 at h
  split at h
  · exact (e167_0 N _ _ _).trans h
  · cases h
def VS165 {β : Type} (N : Nat) (q_impl_Table_isSame : (a0 : Int) → (a1 : Int) → (k : Bool → Option β) → Option β) : Rv.Spec β := fun args K => match args with
  | [.v (.agg [.int .i64 a0, .int .i64 a1])] => q_impl_Table_isSame a0 a1 (fun z2 => K (.v (.one (.bool z2))))
  | _ => none
def S165 {β : Type} (N : Nat) : Rv.Spec β := VS165 N (impl_Table_isSame N)
def VE165 {β : Type} (N : Nat) (q_impl_Table_not : (a0 : Int) → (a1 : Int) → (k : Int → Int → Option β) → Option β) : Env β := ⟨[(167, VS167 N q_impl_Table_not)], [], [], [], ⟨[], [], [145], [149, 152, 199]⟩⟩
def E165 {β : Type} (N : Nat) : Env β := VE165 N (impl_Table_not N)
def BV_impl_Table_isSame {β : Type} (N : Nat) (q_impl_Table_not : (a0 : Int) → (a1 : Int) → (k : Int → Int → Option β) → Option β) (a0 : Int) (a1 : Int) (k : Bool → Option β) : Option β :=
(cond ((a1 == 0))
(k true)
(q_impl_Table_not a0 a1 fun r3 r4 =>
k ((r4 == 0))))
theorem t_impl_Table_isSame {β : Type} (N : Nat) (a0 : Int) (a1 : Int) (k : Bool → Option β) : impl_Table_isSame N a0 a1 k = BV_impl_Table_isSame N (impl_Table_not N) a0 a1 k := by
  unfold impl_Table_isSame BV_impl_Table_isSame
  rfl
theorem ve165_0 {β : Type} (N : Nat) (q_impl_Table_not : (a0 : Int) → (a1 : Int) → (k : Int → Int → Option β) → Option β)  (a0 : Int) (a1 : Int) (K : TV → Option β) : evFn lay (VE165 N q_impl_Table_not) Tryd.f165 [.v (.agg [.int .i64 a0, .int .i64 a1])] K = BV_impl_Table_isSame N q_impl_Table_not a0 a1 (fun z2 => K (.v (.one (.bool z2)))) := by kernel_rfl
theorem e165_0 {β : Type} (N : Nat)  (a0 : Int) (a1 : Int) (K : TV → Option β) : evFn lay (E165 N) Tryd.f165 [.v (.agg [.int .i64 a0, .int .i64 a1])] K = impl_Table_isSame N a0 a1 (fun z2 => K (.v (.one (.bool z2)))) := (ve165_0 N (impl_Table_not N) a0 a1 K).trans (t_impl_Table_isSame N a0 a1 (fun z2 => K (.v (.one (.bool z2))))).symm
theorem o165 {β : Type} (N : Nat) : SpecOK (β := β) inv Tryd.prog 165 (S165 N) := by
  refine spec_of lay_ok mixed (E := E165 N) (specs_loops (specs_cons (o167 N) specs_nil)) muts_nil gs_nil Tryd.func165 (by kernel_rfl) 0 (by kernel_rfl) trivial fun args K r h => ?_
  unfold S165 VS165 at h
  split at h
  · exact (e165_0 N _ _ _).trans h
  · cases h
def VS128 {β : Type} (N : Nat) (q_impl_Table_at : (a0 : Int) → (a1 : Int) → (a2 : Int) → (k : Int → Option β) → Option β) : Rv.Spec β := fun args K => match args with
  | [.v (.agg [.int .i64 a0, .int .i64 a1]), .v (.one (.int .i64 a2))] => q_impl_Table_at a0 a1 a2 (fun z3 => K (.v (.one (.int .i64 z3))))
  | _ => none
def S128 {β : Type} (N : Nat) : Rv.Spec β := VS128 N (impl_Table_at N)
def VE128 {β : Type} (N : Nat) : Env β := ⟨[], [], [], [], ⟨[], [], [145], [149, 152, 199]⟩⟩
def E128 {β : Type} (N : Nat) : Env β := VE128 N
def BV_impl_Table_at {β : Type} (N : Nat) (a0 : Int) (a1 : Int) (a2 : Int) (k : Int → Option β) : Option β :=
(gd ((decide (0 ≤ a2)))
(k ((bits .and .i64 (shrI .i64 a1 a2) 1))))
theorem t_impl_Table_at {β : Type} (N : Nat) (a0 : Int) (a1 : Int) (a2 : Int) (k : Int → Option β) : impl_Table_at N a0 a1 a2 k = BV_impl_Table_at N a0 a1 a2 k := by
  unfold impl_Table_at BV_impl_Table_at
  rfl
theorem ve128_0 {β : Type} (N : Nat)  (a0 : Int) (a1 : Int) (a2 : Int) (K : TV → Option β) : evFn lay (VE128 N) Tryd.f128 [.v (.agg [.int .i64 a0, .int .i64 a1]), .v (.one (.int .i64 a2))] K = BV_impl_Table_at N a0 a1 a2 (fun z3 => K (.v (.one (.int .i64 z3)))) := by kernel_rfl
theorem e128_0 {β : Type} (N : Nat)  (a0 : Int) (a1 : Int) (a2 : Int) (K : TV → Option β) : evFn lay (E128 N) Tryd.f128 [.v (.agg [.int .i64 a0, .int .i64 a1]), .v (.one (.int .i64 a2))] K = impl_Table_at N a0 a1 a2 (fun z3 => K (.v (.one (.int .i64 z3)))) := (ve128_0 N a0 a1 a2 K).trans (t_impl_Table_at N a0 a1 a2 (fun z3 => K (.v (.one (.int .i64 z3))))).symm
theorem o128 {β : Type} (N : Nat) : SpecOK (β := β) inv Tryd.prog 128 (S128 N) := by
  refine spec_of lay_ok mixed (E := E128 N) (specs_loops specs_nil) muts_nil gs_nil Tryd.func128 (by kernel_rfl) 0 (by kernel_rfl) trivial fun args K r h => ?_
  unfold S128 VS128 at h
  split at h
  · exact (e128_0 N _ _ _ _).trans h
  · cases h
def VS196 {β : Type} (N : Nat) (q_impl_spread : (a0 : Int) → (a1 : Int) → (a2 : Int) → (k : Int → Option β) → Option β) : Rv.Spec β := fun args K => match args with
  | [.v (.one (.int .i64 a0)), .v (.one (.int .i64 a1)), .v (.one (.int .i64 a2))] => q_impl_spread a0 a1 a2 (fun z3 => K (.v (.one (.int .i64 z3))))
  | _ => none
def S196 {β : Type} (N : Nat) : Rv.Spec β := VS196 N (impl_spread N)
def VE196 {β : Type} (N : Nat) : Env β := ⟨[], [], [], [], ⟨[], [], [145], [149, 152, 199]⟩⟩
def E196 {β : Type} (N : Nat) : Env β := VE196 N
def BV_impl_spread {β : Type} (N : Nat) (a0 : Int) (a1 : Int) (a2 : Int) (k : Int → Option β) : Option β :=
(gd ((decide (0 ≤ a1)))
((gd ((decide (0 ≤ a1)))
(k ((bits .or .i64 (bits .or .i64 (shlI .i64 (w64 (a0 - (bits .and .i64 a0 (w64 ((shlI .i64 1 a1) - 1))))) 1) (shlI .i64 a2 a1)) (bits .and .i64 a0 (w64 ((shlI .i64 1 a1) - 1)))))))))
theorem t_impl_spread {β : Type} (N : Nat) (a0 : Int) (a1 : Int) (a2 : Int) (k : Int → Option β) : impl_spread N a0 a1 a2 k = BV_impl_spread N a0 a1 a2 k := by
  unfold impl_spread BV_impl_spread
  rfl
theorem ve196_0 {β : Type} (N : Nat)  (a0 : Int) (a1 : Int) (a2 : Int) (K : TV → Option β) : evFn lay (VE196 N) Tryd.f196 [.v (.one (.int .i64 a0)), .v (.one (.int .i64 a1)), .v (.one (.int .i64 a2))] K = BV_impl_spread N a0 a1 a2 (fun z3 => K (.v (.one (.int .i64 z3)))) := by kernel_rfl
theorem e196_0 {β : Type} (N : Nat)  (a0 : Int) (a1 : Int) (a2 : Int) (K : TV → Option β) : evFn lay (E196 N) Tryd.f196 [.v (.one (.int .i64 a0)), .v (.one (.int .i64 a1)), .v (.one (.int .i64 a2))] K = impl_spread N a0 a1 a2 (fun z3 => K (.v (.one (.int .i64 z3)))) := (ve196_0 N a0 a1 a2 K).trans (t_impl_spread N a0 a1 a2 (fun z3 => K (.v (.one (.int .i64 z3))))).symm
theorem o196 {β : Type} (N : Nat) : SpecOK (β := β) inv Tryd.prog 196 (S196 N) := by
  refine spec_of lay_ok mixed (E := E196 N) (specs_loops specs_nil) muts_nil gs_nil Tryd.func196 (by kernel_rfl) 0 (by kernel_rfl) trivial fun args K r h => ?_
  unfold S196 VS196 at h
  split at h
  · exact (e196_0 N _ _ _ _).trans h
  · cases h
def VS195 {β : Type} (N : Nat) (q_impl_Table_restrict_1 : (a0 : Int) → (c0 : Int) → (c1 : Int) → (c2 : Int) → (c3 : Int) → (k : Bool → Option β) → Option β) : Rv.Spec β := fun args K => match args with
  | [.v (.one (.int .i64 a0)), .v (.one (.cref [.int .i64 c0, .int .i64 c1] 0)), .v (.one (.cref [.int .i64 c2] 0)), .v (.one (.cref [.int .i64 c3] 0))] => q_impl_Table_restrict_1 a0 c0 c1 c2 c3 (fun z1 => K (.v (.one (.bool z1))))
  | _ => none
def S195 {β : Type} (N : Nat) : Rv.Spec β := VS195 N (impl_Table_restrict_1 N)
def VE195 {β : Type} (N : Nat) (q_impl_spread : (a0 : Int) → (a1 : Int) → (a2 : Int) → (k : Int → Option β) → Option β) (q_impl_Table_at : (a0 : Int) → (a1 : Int) → (a2 : Int) → (k : Int → Option β) → Option β) : Env β := ⟨[(196, VS196 N q_impl_spread), (128, VS128 N q_impl_Table_at)], [], [], [], ⟨[], [], [145], [149, 152, 199]⟩⟩
def E195 {β : Type} (N : Nat) : Env β := VE195 N (impl_spread N) (impl_Table_at N)
def BV_impl_Table_restrict_1 {β : Type} (N : Nat) (q_impl_spread : (a0 : Int) → (a1 : Int) → (a2 : Int) → (k : Int → Option β) → Option β) (q_impl_Table_at : (a0 : Int) → (a1 : Int) → (a2 : Int) → (k : Int → Option β) → Option β) (a0 : Int) (c0 : Int) (c1 : Int) (c2 : Int) (c3 : Int) (k : Bool → Option β) : Option β :=
q_impl_spread a0 c2 c3 fun r2 =>
q_impl_Table_at c0 c1 r2 fun r3 =>
k ((r3 == 1))
theorem t_impl_Table_restrict_1 {β : Type} (N : Nat) (a0 : Int) (c0 : Int) (c1 : Int) (c2 : Int) (c3 : Int) (k : Bool → Option β) : impl_Table_restrict_1 N a0 c0 c1 c2 c3 k = BV_impl_Table_restrict_1 N (impl_spread N) (impl_Table_at N) a0 c0 c1 c2 c3 k := by
  unfold impl_Table_restrict_1 BV_impl_Table_restrict_1
  rfl
theorem ve195_0 {β : Type} (N : Nat) (q_impl_spread : (a0 : Int) → (a1 : Int) → (a2 : Int) → (k : Int → Option β) → Option β) (q_impl_Table_at : (a0 : Int) → (a1 : Int) → (a2 : Int) → (k : Int → Option β) → Option β)  (a0 : Int) (c0 : Int) (c1 : Int) (c2 : Int) (c3 : Int) (K : TV → Option β) : evFn lay (VE195 N q_impl_spread q_impl_Table_at) Tryd.f195 [.v (.one (.int .i64 a0)), .v (.one (.cref [.int .i64 c0, .int .i64 c1] 0)), .v (.one (.cref [.int .i64 c2] 0)), .v (.one (.cref [.int .i64 c3] 0))] K = BV_impl_Table_restrict_1 N q_impl_spread q_impl_Table_at a0 c0 c1 c2 c3 (fun z1 => K (.v (.one (.bool z1)))) := by kernel_rfl
theorem e195_0 {β : Type} (N : Nat)  (a0 : Int) (c0 : Int) (c1 : Int) (c2 : Int) (c3 : Int) (K : TV → Option β) : evFn lay (E195 N) Tryd.f195 [.v (.one (.int .i64 a0)), .v (.one (.cref [.int .i64 c0, .int .i64 c1] 0)), .v (.one (.cref [.int .i64 c2] 0)), .v (.one (.cref [.int .i64 c3] 0))] K = impl_Table_restrict_1 N a0 c0 c1 c2 c3 (fun z1 => K (.v (.one (.bool z1)))) := (ve195_0 N (impl_spread N) (impl_Table_at N) a0 c0 c1 c2 c3 K).trans (t_impl_Table_restrict_1 N a0 c0 c1 c2 c3 (fun z1 => K (.v (.one (.bool z1))))).symm
theorem o195 {β : Type} (N : Nat) : SpecOK (β := β) inv Tryd.prog 195 (S195 N) := by
  refine spec_of lay_ok mixed (E := E195 N) (specs_loops (specs_cons (o196 N) (specs_cons (o128 N) specs_nil))) muts_nil gs_nil Tryd.func195 (by kernel_rfl) 0 (by kernel_rfl) trivial fun args K r h => ?_
  unfold S195 VS195 at h
  split at h
  · exact (e195_0 N _ _ _ _ _ _).trans h
  · cases h
def VS226 {β : Type} (N : Nat) (q_impl_Table_stuck_1 : (a0 : Int) → (c0 : Int) → (c1 : Int) → (c2 : Int) → (c3 : Int) → (k : Bool → Option β) → Option β) : Rv.Spec β := fun args K => match args with
  | [.v (.one (.int .i64 a0)), .v (.one (.cref [.int .i64 c0, .int .i64 c1] 0)), .v (.one (.cref [.int .i64 c2] 0)), .v (.one (.cref [.int .i64 c3] 0))] => q_impl_Table_stuck_1 a0 c0 c1 c2 c3 (fun z1 => K (.v (.one (.bool z1))))
  | _ => none
def S226 {β : Type} (N : Nat) : Rv.Spec β := VS226 N (impl_Table_stuck_1 N)
def VE226 {β : Type} (N : Nat) (q_impl_Table_at : (a0 : Int) → (a1 : Int) → (a2 : Int) → (k : Int → Option β) → Option β) : Env β := ⟨[(128, VS128 N q_impl_Table_at)], [], [], [], ⟨[], [], [145], [149, 152, 199]⟩⟩
def E226 {β : Type} (N : Nat) : Env β := VE226 N (impl_Table_at N)
def BV_impl_Table_stuck_1 {β : Type} (N : Nat) (q_impl_Table_at : (a0 : Int) → (a1 : Int) → (a2 : Int) → (k : Int → Option β) → Option β) (a0 : Int) (c0 : Int) (c1 : Int) (c2 : Int) (c3 : Int) (k : Bool → Option β) : Option β :=
(gd ((decide (0 ≤ c2)))
((gd ((decide (0 ≤ c2)))
(q_impl_Table_at c0 c1 ((bits .or .i64 (bits .andNot .i64 a0 (shlI .i64 1 c2)) (shlI .i64 c3 c2))) fun r2 =>
k ((r2 == 1))))))
theorem t_impl_Table_stuck_1 {β : Type} (N : Nat) (a0 : Int) (c0 : Int) (c1 : Int) (c2 : Int) (c3 : Int) (k : Bool → Option β) : impl_Table_stuck_1 N a0 c0 c1 c2 c3 k = BV_impl_Table_stuck_1 N (impl_Table_at N) a0 c0 c1 c2 c3 k := by
  unfold impl_Table_stuck_1 BV_impl_Table_stuck_1
  rfl
theorem ve226_0 {β : Type} (N : Nat) (q_impl_Table_at : (a0 : Int) → (a1 : Int) → (a2 : Int) → (k : Int → Option β) → Option β)  (a0 : Int) (c0 : Int) (c1 : Int) (c2 : Int) (c3 : Int) (K : TV → Option β) : evFn lay (VE226 N q_impl_Table_at) Tryd.f226 [.v (.one (.int .i64 a0)), .v (.one (.cref [.int .i64 c0, .int .i64 c1] 0)), .v (.one (.cref [.int .i64 c2] 0)), .v (.one (.cref [.int .i64 c3] 0))] K = BV_impl_Table_stuck_1 N q_impl_Table_at a0 c0 c1 c2 c3 (fun z1 => K (.v (.one (.bool z1)))) := by kernel_rfl
theorem e226_0 {β : Type} (N : Nat)  (a0 : Int) (c0 : Int) (c1 : Int) (c2 : Int) (c3 : Int) (K : TV → Option β) : evFn lay (E226 N) Tryd.f226 [.v (.one (.int .i64 a0)), .v (.one (.cref [.int .i64 c0, .int .i64 c1] 0)), .v (.one (.cref [.int .i64 c2] 0)), .v (.one (.cref [.int .i64 c3] 0))] K = impl_Table_stuck_1 N a0 c0 c1 c2 c3 (fun z1 => K (.v (.one (.bool z1)))) := (ve226_0 N (impl_Table_at N) a0 c0 c1 c2 c3 K).trans (t_impl_Table_stuck_1 N a0 c0 c1 c2 c3 (fun z1 => K (.v (.one (.bool z1))))).symm
theorem o226 {β : Type} (N : Nat) : SpecOK (β := β) inv Tryd.prog 226 (S226 N) := by
  refine spec_of lay_ok mixed (E := E226 N) (specs_loops (specs_cons (o128 N) specs_nil)) muts_nil gs_nil Tryd.func226 (by kernel_rfl) 0 (by kernel_rfl) trivial fun args K r h => ?_
  unfold S226 VS226 at h
  split at h
  · exact (e226_0 N _ _ _ _ _ _).trans h
  · cases h
end Go.Proofs.YtfdggelojmofmaaDoor
