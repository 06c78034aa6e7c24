/- The functions that the claims reach answer as their texts do. -/
import Derived.Test.YtemihnclhcobnaaGreatDoorE3
namespace Go.Proofs.YtemihnclhcobnaaGreatDoor
open Go.Rv
set_option maxRecDepth 100000
set_option maxHeartbeats 2000000
set_option linter.unusedVariables false
def VS232 {β : Type} (N : Nat) (zq79 : (a0 : List (Int × Int)) → (a1 : (Int → Int → (Bool → Option β) → Option β)) → (k : Int → Option β) → Option β) (zq74 : (a0 : Int) → (a1 : Int) → (c0 : Int) → (k : Bool → Option β) → Option β) (zq76 : (a0 : Int) → (a1 : Int) → (c0 : Int) → (k : Bool → Option β) → Option β) : Rv.Spec β := fun args K => match args with
  | [.v (.one (.sl 93 (.pairs a0))), .v (.one (.dfn 191 [([.int .i64 q0], 0)]))] => zq79 a0 (fun x0 x1 k => zq74 x0 x1 q0 k) (fun z2 => K (.v (.one (.int .i64 z2))))
  | [.v (.one (.sl 93 (.pairs a0))), .v (.one (.dfn 194 [([.int .i64 q0], 0)]))] => zq79 a0 (fun x0 x1 k => zq76 x0 x1 q0 k) (fun z2 => K (.v (.one (.int .i64 z2))))
  | _ => none
def S232 {β : Type} (N : Nat) : Rv.Spec β := VS232 N (zj79 N) (zj74 N) (zj76 N)
def h232_0_0 (q0 : Int) (v0 : List (Int × Int)) (v1 : Int) (v2 : Int) : St := ⟨.v (.one (.sl 93 (.pairs v0))) :: .v (.one (.dfn 191 [([.int .i64 q0], 0)])) :: tund :: tund :: tund :: tund :: tund :: .v (.one (.int .i64 v1)) :: .v (.one (.int .i64 v2)) :: tund :: tund :: tund :: tund :: tund :: tund :: tund :: tund :: tund :: tund :: [], []⟩
def x232_0_0_k0 (q0 : Int) (y0 : Int) : St := ⟨tund :: tund :: tund :: tund :: .v (.one (.int .i64 y0)) :: tund :: tund :: tund :: tund :: tund :: tund :: tund :: tund :: tund :: tund :: tund :: tund :: tund :: tund :: [], []⟩
def x232_0_0_k1 (q0 : Int)  : St := ⟨tund :: tund :: tund :: tund :: tund :: tund :: tund :: tund :: tund :: tund :: tund :: tund :: tund :: tund :: tund :: tund :: tund :: tund :: tund :: [], []⟩
def h232_0_1 (q0 : Int) (v0 : List (Int × Int)) (v1 : Int) (v2 : Int) : St := ⟨.v (.one (.sl 93 (.pairs v0))) :: .v (.one (.dfn 194 [([.int .i64 q0], 0)])) :: tund :: tund :: tund :: tund :: tund :: .v (.one (.int .i64 v1)) :: .v (.one (.int .i64 v2)) :: tund :: tund :: tund :: tund :: tund :: tund :: tund :: tund :: tund :: tund :: [], []⟩
def x232_0_1_k0 (q0 : Int) (y0 : Int) : St := ⟨tund :: tund :: tund :: tund :: .v (.one (.int .i64 y0)) :: tund :: tund :: tund :: tund :: tund :: tund :: tund :: tund :: tund :: tund :: tund :: tund :: tund :: tund :: [], []⟩
def x232_0_1_k1 (q0 : Int)  : St := ⟨tund :: tund :: tund :: tund :: tund :: tund :: tund :: tund :: tund :: tund :: tund :: tund :: tund :: tund :: tund :: tund :: tund :: tund :: tund :: [], []⟩
theorem fl232_0_0 (s : St) : refSt (h232_0_0 0 [] 0 0) s = h232_0_0 (intF (nx .no (nx ([], 0) (dfnS (oneA (vT (nx tund s.tmps 1)))) 0).1 0)) (rPairs (rowV (oneA (vT (nx tund s.tmps 0))))) (intS (oneA (vT (nx tund s.tmps 7)))) (intS (oneA (vT (nx tund s.tmps 8)))) := by kernel_rfl
theorem fl232_0_1 (s : St) : refSt (h232_0_1 0 [] 0 0) s = h232_0_1 (intF (nx .no (nx ([], 0) (dfnS (oneA (vT (nx tund s.tmps 1)))) 0).1 0)) (rPairs (rowV (oneA (vT (nx tund s.tmps 0))))) (intS (oneA (vT (nx tund s.tmps 7)))) (intS (oneA (vT (nx tund s.tmps 8)))) := by kernel_rfl
def VLS232_0 {β : Type} (N : Nat) (zq78 : (a1 : (Int → Int → (Bool → Option β) → Option β)) → Nat → List (Int × Int) → Int → Int → (Int → Option β) → (Option β) → Option β) (zq74 : (a0 : Int) → (a1 : Int) → (c0 : Int) → (k : Bool → Option β) → Option β) (zq76 : (a0 : Int) → (a1 : Int) → (c0 : Int) → (k : Bool → Option β) → Option β) : LSpec β := fun s K => cond (shpSt (h232_0_0 0 [] 0 0) s) ((fun (q0 : Int) (v0 : List (Int × Int)) (v1 : Int) (v2 : Int) => zq78 (fun x0 x1 k => zq74 x0 x1 q0 k) N v0 v1 v2 (fun y0 => K .ret (x232_0_0_k0 q0 y0)) (K (.exit 0) (x232_0_0_k1 q0 ))) (intF (nx .no (nx ([], 0) (dfnS (oneA (vT (nx tund s.tmps 1)))) 0).1 0)) (rPairs (rowV (oneA (vT (nx tund s.tmps 0))))) (intS (oneA (vT (nx tund s.tmps 7)))) (intS (oneA (vT (nx tund s.tmps 8))))) (cond (shpSt (h232_0_1 0 [] 0 0) s) ((fun (q0 : Int) (v0 : List (Int × Int)) (v1 : Int) (v2 : Int) => zq78 (fun x0 x1 k => zq76 x0 x1 q0 k) N v0 v1 v2 (fun y0 => K .ret (x232_0_1_k0 q0 y0)) (K (.exit 0) (x232_0_1_k1 q0 ))) (intF (nx .no (nx ([], 0) (dfnS (oneA (vT (nx tund s.tmps 1)))) 0).1 0)) (rPairs (rowV (oneA (vT (nx tund s.tmps 0))))) (intS (oneA (vT (nx tund s.tmps 7)))) (intS (oneA (vT (nx tund s.tmps 8))))) (none))
def LS232_0 {β : Type} (N : Nat) : LSpec β := VLS232_0 N (zj78 N) (zj74 N) (zj76 N)
def VE232 {β : Type} (N : Nat) (zq74 : (a0 : Int) → (a1 : Int) → (c0 : Int) → (k : Bool → Option β) → Option β) (zq76 : (a0 : Int) → (a1 : Int) → (c0 : Int) → (k : Bool → Option β) → Option β) (zq78 : (a1 : (Int → Int → (Bool → Option β) → Option β)) → Nat → List (Int × Int) → Int → Int → (Int → Option β) → (Option β) → Option β) : Env β := ⟨[(191, VS191 N zq74), (194, VS194 N zq76)], [], [(0, VLS232_0 N zq78 zq74 zq76)], [], ⟨[], [], [], []⟩⟩
def E232 {β : Type} (N : Nat) : Env β := VE232 N (zj74 N) (zj76 N) (zj78 N)
def zb77 {β : Type} (N : Nat) (a1 : (Int → Int → (Bool → Option β) → Option β)) (v0 : List (Int × Int)) (v1 : Int) (v2 : Int) (rec_ : List (Int × Int) → Int → Int → Option β) (k0 : Int → Option β) (k1 : Option β) : Option β :=
(cond ((decide (v2 < v1)))
((gd ((decide (0 ≤ v2)))
((gd ((decide (v2 < (v0.length : Int))))
(a1 ((rd (0, 0) v0 v2).1) ((rd (0, 0) v0 v2).2) fun r3 =>
(cond r3
(k0 v2)
(rec_ v0 v1 ((w64 (v2 + 1))))))))))
(k1 ))
theorem zt77 {β : Type} (N : Nat) (a1 : (Int → Int → (Bool → Option β) → Option β)) (v0 : List (Int × Int)) (v1 : Int) (v2 : Int) (rec_ : List (Int × Int) → Int → Int → Option β) (k0 : Int → Option β) (k1 : Option β) : zj77 N a1 v0 v1 v2 rec_ k0 k1 = zb77 N a1 v0 v1 v2 rec_ k0 k1 := by
  unfold zj77 zb77
  rfl
theorem vst232_0_0 {β : Type} (N : Nat) (zq74 : (a0 : Int) → (a1 : Int) → (c0 : Int) → (k : Bool → Option β) → Option β) (zq76 : (a0 : Int) → (a1 : Int) → (c0 : Int) → (k : Bool → Option β) → Option β) (zq78 : (a1 : (Int → Int → (Bool → Option β) → Option β)) → Nat → List (Int × Int) → Int → Int → (Int → Option β) → (Option β) → Option β) (q0 : Int) (v0 : List (Int × Int)) (v1 : Int) (v2 : Int) (rec_ : St → Option β) (K : Exit → St → Option β) :
    ev lay (VE232 N zq74 zq76 zq78) (retMask Tryz.f232) (lp Tryz.f232 0).body (lp Tryz.f232 0).ex ((lp Tryz.f232 0).lv (retMask Tryz.f232)) (h232_0_0 q0 v0 v1 v2) (nextR (fun s' => rec_ (s'.tidy ((lp Tryz.f232 0).lv (retMask Tryz.f232)))) K) = zb77 N (fun x0 x1 k => zq74 x0 x1 q0 k) v0 v1 v2 (fun v0 v1 v2 => rec_ (h232_0_0 q0 v0 v1 v2)) (fun y0 => K .ret (x232_0_0_k0 q0 y0)) (K (.exit 0) (x232_0_0_k1 q0 )) := by kernel_rfl
theorem st232_0_0 {β : Type} (N : Nat) (q0 : Int) (v0 : List (Int × Int)) (v1 : Int) (v2 : Int) (rec_ : St → Option β) (K : Exit → St → Option β) :
    ev lay (E232 N) (retMask Tryz.f232) (lp Tryz.f232 0).body (lp Tryz.f232 0).ex ((lp Tryz.f232 0).lv (retMask Tryz.f232)) (h232_0_0 q0 v0 v1 v2) (nextR (fun s' => rec_ (s'.tidy ((lp Tryz.f232 0).lv (retMask Tryz.f232)))) K) = zj77 N (fun x0 x1 k => zj74 N x0 x1 q0 k) v0 v1 v2 (fun v0 v1 v2 => rec_ (h232_0_0 q0 v0 v1 v2)) (fun y0 => K .ret (x232_0_0_k0 q0 y0)) (K (.exit 0) (x232_0_0_k1 q0 )) := (vst232_0_0 N (zj74 N) (zj76 N) (zj78 N) q0 v0 v1 v2 rec_ K).trans (zt77 N (fun x0 x1 k => zj74 N x0 x1 q0 k) v0 v1 v2 (fun v0 v1 v2 => rec_ (h232_0_0 q0 v0 v1 v2)) (fun y0 => K .ret (x232_0_0_k0 q0 y0)) (K (.exit 0) (x232_0_0_k1 q0 ))).symm
theorem ro232_0_0 {β : Type} (N : Nat) (q0 : Int) (K : Exit → St → Option β) : ∀ (F : Nat) (v0 : List (Int × Int)) (v1 : Int) (v2 : Int), (lp Tryz.f232 0).rounds lay (E232 N) (retMask Tryz.f232) F (h232_0_0 q0 v0 v1 v2) K = zj78 N (fun x0 x1 k => zj74 N x0 x1 q0 k) F v0 v1 v2 (fun y0 => K .ret (x232_0_0_k0 q0 y0)) (K (.exit 0) (x232_0_0_k1 q0 )) := by
  intro F
  induction F with
  | zero => intros; rfl
  | succ F ih =>
    intros
    rw [rounds_next]
    refine (st232_0_0 N q0 _ _ _ (fun s => (lp Tryz.f232 0).rounds lay (E232 N) (retMask Tryz.f232) F s K) K).trans ?_
    simp only [ih]
    rfl
theorem vst232_0_1 {β : Type} (N : Nat) (zq74 : (a0 : Int) → (a1 : Int) → (c0 : Int) → (k : Bool → Option β) → Option β) (zq76 : (a0 : Int) → (a1 : Int) → (c0 : Int) → (k : Bool → Option β) → Option β) (zq78 : (a1 : (Int → Int → (Bool → Option β) → Option β)) → Nat → List (Int × Int) → Int → Int → (Int → Option β) → (Option β) → Option β) (q0 : Int) (v0 : List (Int × Int)) (v1 : Int) (v2 : Int) (rec_ : St → Option β) (K : Exit → St → Option β) :
    ev lay (VE232 N zq74 zq76 zq78) (retMask Tryz.f232) (lp Tryz.f232 0).body (lp Tryz.f232 0).ex ((lp Tryz.f232 0).lv (retMask Tryz.f232)) (h232_0_1 q0 v0 v1 v2) (nextR (fun s' => rec_ (s'.tidy ((lp Tryz.f232 0).lv (retMask Tryz.f232)))) K) = zb77 N (fun x0 x1 k => zq76 x0 x1 q0 k) v0 v1 v2 (fun v0 v1 v2 => rec_ (h232_0_1 q0 v0 v1 v2)) (fun y0 => K .ret (x232_0_1_k0 q0 y0)) (K (.exit 0) (x232_0_1_k1 q0 )) := by kernel_rfl
theorem st232_0_1 {β : Type} (N : Nat) (q0 : Int) (v0 : List (Int × Int)) (v1 : Int) (v2 : Int) (rec_ : St → Option β) (K : Exit → St → Option β) :
    ev lay (E232 N) (retMask Tryz.f232) (lp Tryz.f232 0).body (lp Tryz.f232 0).ex ((lp Tryz.f232 0).lv (retMask Tryz.f232)) (h232_0_1 q0 v0 v1 v2) (nextR (fun s' => rec_ (s'.tidy ((lp Tryz.f232 0).lv (retMask Tryz.f232)))) K) = zj77 N (fun x0 x1 k => zj76 N x0 x1 q0 k) v0 v1 v2 (fun v0 v1 v2 => rec_ (h232_0_1 q0 v0 v1 v2)) (fun y0 => K .ret (x232_0_1_k0 q0 y0)) (K (.exit 0) (x232_0_1_k1 q0 )) := (vst232_0_1 N (zj74 N) (zj76 N) (zj78 N) q0 v0 v1 v2 rec_ K).trans (zt77 N (fun x0 x1 k => zj76 N x0 x1 q0 k) v0 v1 v2 (fun v0 v1 v2 => rec_ (h232_0_1 q0 v0 v1 v2)) (fun y0 => K .ret (x232_0_1_k0 q0 y0)) (K (.exit 0) (x232_0_1_k1 q0 ))).symm
theorem ro232_0_1 {β : Type} (N : Nat) (q0 : Int) (K : Exit → St → Option β) : ∀ (F : Nat) (v0 : List (Int × Int)) (v1 : Int) (v2 : Int), (lp Tryz.f232 0).rounds lay (E232 N) (retMask Tryz.f232) F (h232_0_1 q0 v0 v1 v2) K = zj78 N (fun x0 x1 k => zj76 N x0 x1 q0 k) F v0 v1 v2 (fun y0 => K .ret (x232_0_1_k0 q0 y0)) (K (.exit 0) (x232_0_1_k1 q0 )) := by
  intro F
  induction F with
  | zero => intros; rfl
  | succ F ih =>
    intros
    rw [rounds_next]
    refine (st232_0_1 N q0 _ _ _ (fun s => (lp Tryz.f232 0).rounds lay (E232 N) (retMask Tryz.f232) F s K) K).trans ?_
    simp only [ih]
    rfl
theorem lk232_0 {β : Type} (N : Nat) : lookL (E232 (β := β) N).loops (lp Tryz.f232 0).id = LS232_0 N := by kernel_rfl
theorem rk232_0 {β : Type} (N : Nat) : RoundsOK lay (E232 (β := β) N) (retMask Tryz.f232) (lp Tryz.f232 0) := by
  intro s K r h
  rw [lk232_0] at h
  unfold LS232_0 VLS232_0 at h
  cases hb : shpSt (h232_0_0 0 [] 0 0) s with
  | true =>
    rw [hb, cond_true] at h
    exact ⟨N, by rw [← shpSt_ref hb, fl232_0_0 s]; exact (ro232_0_0 N (intF (nx .no (nx ([], 0) (dfnS (oneA (vT (nx tund s.tmps 1)))) 0).1 0)) K N (rPairs (rowV (oneA (vT (nx tund s.tmps 0))))) (intS (oneA (vT (nx tund s.tmps 7)))) (intS (oneA (vT (nx tund s.tmps 8))))).trans h⟩
  | false =>
  rw [hb, cond_false] at h
  clear hb
  cases hb : shpSt (h232_0_1 0 [] 0 0) s with
  | true =>
    rw [hb, cond_true] at h
    exact ⟨N, by rw [← shpSt_ref hb, fl232_0_1 s]; exact (ro232_0_1 N (intF (nx .no (nx ([], 0) (dfnS (oneA (vT (nx tund s.tmps 1)))) 0).1 0)) K N (rPairs (rowV (oneA (vT (nx tund s.tmps 0))))) (intS (oneA (vT (nx tund s.tmps 7)))) (intS (oneA (vT (nx tund s.tmps 8))))).trans h⟩
  | false =>
  rw [hb, cond_false] at h
  clear hb
  cases h
def zb79 {β : Type} (N : Nat) (zq78 : (a1 : (Int → Int → (Bool → Option β) → Option β)) → Nat → List (Int × Int) → Int → Int → (Int → Option β) → (Option β) → Option β) (a0 : List (Int × Int)) (a1 : (Int → Int → (Bool → Option β) → Option β)) (k : Int → Option β) : Option β :=
zq78 a1 N a0 ((a0.length : Int)) 0 (fun e4_0 =>
k e4_0) (k (-1))
theorem zt79 {β : Type} (N : Nat) (a0 : List (Int × Int)) (a1 : (Int → Int → (Bool → Option β) → Option β)) (k : Int → Option β) : zj79 N a0 a1 k = zb79 N (zj78 N) a0 a1 k := by
  unfold zj79 zb79
  rfl
theorem ve232_0 {β : Type} (N : Nat) (zq74 : (a0 : Int) → (a1 : Int) → (c0 : Int) → (k : Bool → Option β) → Option β) (zq76 : (a0 : Int) → (a1 : Int) → (c0 : Int) → (k : Bool → Option β) → Option β) (zq78 : (a1 : (Int → Int → (Bool → Option β) → Option β)) → Nat → List (Int × Int) → Int → Int → (Int → Option β) → (Option β) → Option β) (q0 : Int) (a0 : List (Int × Int)) (K : TV → Option β) : evFn lay (VE232 N zq74 zq76 zq78) Tryz.f232 [.v (.one (.sl 93 (.pairs a0))), .v (.one (.dfn 191 [([.int .i64 q0], 0)]))] K = zb79 N zq78 a0 (fun x0 x1 k => zq74 x0 x1 q0 k) (fun z2 => K (.v (.one (.int .i64 z2)))) := by kernel_rfl
theorem e232_0 {β : Type} (N : Nat) (q0 : Int) (a0 : List (Int × Int)) (K : TV → Option β) : evFn lay (E232 N) Tryz.f232 [.v (.one (.sl 93 (.pairs a0))), .v (.one (.dfn 191 [([.int .i64 q0], 0)]))] K = zj79 N a0 (fun x0 x1 k => zj74 N x0 x1 q0 k) (fun z2 => K (.v (.one (.int .i64 z2)))) := (ve232_0 N (zj74 N) (zj76 N) (zj78 N) q0 a0 K).trans (zt79 N a0 (fun x0 x1 k => zj74 N x0 x1 q0 k) (fun z2 => K (.v (.one (.int .i64 z2))))).symm
theorem ve232_1 {β : Type} (N : Nat) (zq74 : (a0 : Int) → (a1 : Int) → (c0 : Int) → (k : Bool → Option β) → Option β) (zq76 : (a0 : Int) → (a1 : Int) → (c0 : Int) → (k : Bool → Option β) → Option β) (zq78 : (a1 : (Int → Int → (Bool → Option β) → Option β)) → Nat → List (Int × Int) → Int → Int → (Int → Option β) → (Option β) → Option β) (q0 : Int) (a0 : List (Int × Int)) (K : TV → Option β) : evFn lay (VE232 N zq74 zq76 zq78) Tryz.f232 [.v (.one (.sl 93 (.pairs a0))), .v (.one (.dfn 194 [([.int .i64 q0], 0)]))] K = zb79 N zq78 a0 (fun x0 x1 k => zq76 x0 x1 q0 k) (fun z2 => K (.v (.one (.int .i64 z2)))) := by kernel_rfl
theorem e232_1 {β : Type} (N : Nat) (q0 : Int) (a0 : List (Int × Int)) (K : TV → Option β) : evFn lay (E232 N) Tryz.f232 [.v (.one (.sl 93 (.pairs a0))), .v (.one (.dfn 194 [([.int .i64 q0], 0)]))] K = zj79 N a0 (fun x0 x1 k => zj76 N x0 x1 q0 k) (fun z2 => K (.v (.one (.int .i64 z2)))) := (ve232_1 N (zj74 N) (zj76 N) (zj78 N) q0 a0 K).trans (zt79 N a0 (fun x0 x1 k => zj76 N x0 x1 q0 k) (fun z2 => K (.v (.one (.int .i64 z2))))).symm
theorem o232 {β : Type} (N : Nat) : SpecOK (β := β) inv Tryz.prog 232 (S232 N) := by
  refine spec_of lay_ok mixed (E := E232 N) (specs_loops (specs_cons (o191 N) (specs_cons (o194 N) specs_nil))) muts_nil gs_nil Tryz.func232 (by kernel_rfl) 1 (by kernel_rfl) ⟨trivial, rk232_0 N⟩ fun args K r h => ?_
  unfold S232 VS232 at h
  split at h
  · exact (e232_0 N _ _ _).trans h
  · exact (e232_1 N _ _ _).trans h
  · cases h
def VS190 {β : Type} (N : Nat) (zq80 : (a0 : List (Int × Int)) → (a1 : (Int → Int → (Bool → Option β) → Option β)) → (k : Bool → Option β) → Option β) (zq74 : (a0 : Int) → (a1 : Int) → (c0 : Int) → (k : Bool → Option β) → Option β) (zq76 : (a0 : Int) → (a1 : Int) → (c0 : Int) → (k : Bool → Option β) → Option β) : Rv.Spec β := fun args K => match args with
  | [.v (.one (.sl 93 (.pairs a0))), .v (.one (.dfn 191 [([.int .i64 q0], 0)]))] => zq80 a0 (fun x0 x1 k => zq74 x0 x1 q0 k) (fun z2 => K (.v (.one (.bool z2))))
  | [.v (.one (.sl 93 (.pairs a0))), .v (.one (.dfn 194 [([.int .i64 q0], 0)]))] => zq80 a0 (fun x0 x1 k => zq76 x0 x1 q0 k) (fun z2 => K (.v (.one (.bool z2))))
  | _ => none
def S190 {β : Type} (N : Nat) : Rv.Spec β := VS190 N (zj80 N) (zj74 N) (zj76 N)
def VE190 {β : Type} (N : Nat) (zq79 : (a0 : List (Int × Int)) → (a1 : (Int → Int → (Bool → Option β) → Option β)) → (k : Int → Option β) → Option β) (zq74 : (a0 : Int) → (a1 : Int) → (c0 : Int) → (k : Bool → Option β) → Option β) (zq76 : (a0 : Int) → (a1 : Int) → (c0 : Int) → (k : Bool → Option β) → Option β) : Env β := ⟨[(232, VS232 N zq79 zq74 zq76), (191, VS191 N zq74), (194, VS194 N zq76)], [], [], [], ⟨[], [], [], []⟩⟩
def E190 {β : Type} (N : Nat) : Env β := VE190 N (zj79 N) (zj74 N) (zj76 N)
def zb80 {β : Type} (N : Nat) (zq79 : (a0 : List (Int × Int)) → (a1 : (Int → Int → (Bool → Option β) → Option β)) → (k : Int → Option β) → Option β) (a0 : List (Int × Int)) (a1 : (Int → Int → (Bool → Option β) → Option β)) (k : Bool → Option β) : Option β :=
zq79 a0 a1 fun r3 =>
k ((decide (r3 ≥ 0)))
theorem zt80 {β : Type} (N : Nat) (a0 : List (Int × Int)) (a1 : (Int → Int → (Bool → Option β) → Option β)) (k : Bool → Option β) : zj80 N a0 a1 k = zb80 N (zj79 N) a0 a1 k := by
  unfold zj80 zb80
  rfl
theorem ve190_0 {β : Type} (N : Nat) (zq79 : (a0 : List (Int × Int)) → (a1 : (Int → Int → (Bool → Option β) → Option β)) → (k : Int → Option β) → Option β) (zq74 : (a0 : Int) → (a1 : Int) → (c0 : Int) → (k : Bool → Option β) → Option β) (zq76 : (a0 : Int) → (a1 : Int) → (c0 : Int) → (k : Bool → Option β) → Option β) (q0 : Int) (a0 : List (Int × Int)) (K : TV → Option β) : evFn lay (VE190 N zq79 zq74 zq76) Tryz.f190 [.v (.one (.sl 93 (.pairs a0))), .v (.one (.dfn 191 [([.int .i64 q0], 0)]))] K = zb80 N zq79 a0 (fun x0 x1 k => zq74 x0 x1 q0 k) (fun z2 => K (.v (.one (.bool z2)))) := by kernel_rfl
theorem e190_0 {β : Type} (N : Nat) (q0 : Int) (a0 : List (Int × Int)) (K : TV → Option β) : evFn lay (E190 N) Tryz.f190 [.v (.one (.sl 93 (.pairs a0))), .v (.one (.dfn 191 [([.int .i64 q0], 0)]))] K = zj80 N a0 (fun x0 x1 k => zj74 N x0 x1 q0 k) (fun z2 => K (.v (.one (.bool z2)))) := (ve190_0 N (zj79 N) (zj74 N) (zj76 N) q0 a0 K).trans (zt80 N a0 (fun x0 x1 k => zj74 N x0 x1 q0 k) (fun z2 => K (.v (.one (.bool z2))))).symm
theorem ve190_1 {β : Type} (N : Nat) (zq79 : (a0 : List (Int × Int)) → (a1 : (Int → Int → (Bool → Option β) → Option β)) → (k : Int → Option β) → Option β) (zq74 : (a0 : Int) → (a1 : Int) → (c0 : Int) → (k : Bool → Option β) → Option β) (zq76 : (a0 : Int) → (a1 : Int) → (c0 : Int) → (k : Bool → Option β) → Option β) (q0 : Int) (a0 : List (Int × Int)) (K : TV → Option β) : evFn lay (VE190 N zq79 zq74 zq76) Tryz.f190 [.v (.one (.sl 93 (.pairs a0))), .v (.one (.dfn 194 [([.int .i64 q0], 0)]))] K = zb80 N zq79 a0 (fun x0 x1 k => zq76 x0 x1 q0 k) (fun z2 => K (.v (.one (.bool z2)))) := by kernel_rfl
theorem e190_1 {β : Type} (N : Nat) (q0 : Int) (a0 : List (Int × Int)) (K : TV → Option β) : evFn lay (E190 N) Tryz.f190 [.v (.one (.sl 93 (.pairs a0))), .v (.one (.dfn 194 [([.int .i64 q0], 0)]))] K = zj80 N a0 (fun x0 x1 k => zj76 N x0 x1 q0 k) (fun z2 => K (.v (.one (.bool z2)))) := (ve190_1 N (zj79 N) (zj74 N) (zj76 N) q0 a0 K).trans (zt80 N a0 (fun x0 x1 k => zj76 N x0 x1 q0 k) (fun z2 => K (.v (.one (.bool z2))))).symm
theorem o190 {β : Type} (N : Nat) : SpecOK (β := β) inv Tryz.prog 190 (S190 N) := by
  refine spec_of lay_ok mixed (E := E190 N) (specs_loops (specs_cons (o232 N) (specs_cons (o191 N) (specs_cons (o194 N) specs_nil)))) muts_nil gs_nil Tryz.func190 (by kernel_rfl) 0 (by kernel_rfl) trivial fun args K r h => ?_
  unfold S190 VS190 at h
  split at h
  · exact (e190_0 N _ _ _).trans h
  · exact (e190_1 N _ _ _).trans h
  · cases h
def VS193 {β : Type} (N : Nat) (zq81 : (a0 : Int) → (c0 : List (Int × Int)) → (k : Bool → Option β) → Option β) : Rv.Spec β := fun args K => match args with
  | [.v (.one (.int .i64 a0)), .v (.one (.cref [.sl 93 (.pairs c0)] 0))] => zq81 a0 c0 (fun z1 => K (.v (.one (.bool z1))))
  | _ => none
def S193 {β : Type} (N : Nat) : Rv.Spec β := VS193 N (zj81 N)
def VE193 {β : Type} (N : Nat) (zq80 : (a0 : List (Int × Int)) → (a1 : (Int → Int → (Bool → Option β) → Option β)) → (k : Bool → Option β) → Option β) (zq74 : (a0 : Int) → (a1 : Int) → (c0 : Int) → (k : Bool → Option β) → Option β) (zq76 : (a0 : Int) → (a1 : Int) → (c0 : Int) → (k : Bool → Option β) → Option β) : Env β := ⟨[(190, VS190 N zq80 zq74 zq76), (194, VS194 N zq76)], [], [], [], ⟨[], [], [], []⟩⟩
def E193 {β : Type} (N : Nat) : Env β := VE193 N (zj80 N) (zj74 N) (zj76 N)
def zb81 {β : Type} (N : Nat) (zq80 : (a0 : List (Int × Int)) → (a1 : (Int → Int → (Bool → Option β) → Option β)) → (k : Bool → Option β) → Option β) (zq76 : (a0 : Int) → (a1 : Int) → (c0 : Int) → (k : Bool → Option β) → Option β) (a0 : Int) (c0 : List (Int × Int)) (k : Bool → Option β) : Option β :=
zq80 c0 (fun x0 x1 k => zq76 x0 x1 a0 k) fun r2 =>
k r2
theorem zt81 {β : Type} (N : Nat) (a0 : Int) (c0 : List (Int × Int)) (k : Bool → Option β) : zj81 N a0 c0 k = zb81 N (zj80 N) (zj76 N) a0 c0 k := by
  unfold zj81 zb81
  rfl
theorem ve193_0 {β : Type} (N : Nat) (zq80 : (a0 : List (Int × Int)) → (a1 : (Int → Int → (Bool → Option β) → Option β)) → (k : Bool → Option β) → Option β) (zq74 : (a0 : Int) → (a1 : Int) → (c0 : Int) → (k : Bool → Option β) → Option β) (zq76 : (a0 : Int) → (a1 : Int) → (c0 : Int) → (k : Bool → Option β) → Option β)  (a0 : Int) (c0 : List (Int × Int)) (K : TV → Option β) : evFn lay (VE193 N zq80 zq74 zq76) Tryz.f193 [.v (.one (.int .i64 a0)), .v (.one (.cref [.sl 93 (.pairs c0)] 0))] K = zb81 N zq80 zq76 a0 c0 (fun z1 => K (.v (.one (.bool z1)))) := by kernel_rfl
theorem e193_0 {β : Type} (N : Nat)  (a0 : Int) (c0 : List (Int × Int)) (K : TV → Option β) : evFn lay (E193 N) Tryz.f193 [.v (.one (.int .i64 a0)), .v (.one (.cref [.sl 93 (.pairs c0)] 0))] K = zj81 N a0 c0 (fun z1 => K (.v (.one (.bool z1)))) := (ve193_0 N (zj80 N) (zj74 N) (zj76 N) a0 c0 K).trans (zt81 N a0 c0 (fun z1 => K (.v (.one (.bool z1))))).symm
theorem o193 {β : Type} (N : Nat) : SpecOK (β := β) inv Tryz.prog 193 (S193 N) := by
  refine spec_of lay_ok mixed (E := E193 N) (specs_loops (specs_cons (o190 N) (specs_cons (o194 N) specs_nil))) muts_nil gs_nil Tryz.func193 (by kernel_rfl) 0 (by kernel_rfl) trivial fun args K r h => ?_
  unfold S193 VS193 at h
  split at h
  · exact (e193_0 N _ _ _).trans h
  · cases h
def VS235 {β : Type} (N : Nat) (zq82 : (a0 : Int) → (k0 : Int → Int → Option β) → Option β) (zq83 : (a0 : Tr) → (k0 : Int → Option β) → Option β) : GSpec β := fun args bl K => match args, bl with
  | [.v (.one (.ptr 0 0))], [.pcells 0 193 [.int .u8 a0, .nilp, .nilp]] => zq82 a0 (fun y0 y1 => K (.v (.one (.int .i64 y0))) [.pcells 0 193 [.int .u8 y1, .nilp, .nilp]])
  | [.v (.one (.tr false a0))], [] => zq83 a0 (fun y0 => K (.v (.one (.int .i64 y0))) [])
  | _, _ => none
def S235 {β : Type} (N : Nat) : GSpec β := VS235 N (zj82 N) (zj83 N)
def VE235 {β : Type} (N : Nat) : Env β := ⟨[], [], [], [], ⟨[], [], [], []⟩⟩
def E235 {β : Type} (N : Nat) : Env β := VE235 N
def zb82 {β : Type} (N : Nat) (a0 : Int) (k0 : Int → Int → Option β) : Option β :=
k0 ((w64 ((w8 (a0 - 97))))) a0
theorem zt82 {β : Type} (N : Nat) (a0 : Int) (k0 : Int → Int → Option β) : zj82 N a0 k0 = zb82 N a0 k0 := by
  unfold zj82 zb82
  rfl
theorem ve235_0 {β : Type} (N : Nat) (a0 : Int) (K : TV → List Blk → Option β) : evFnG lay (VE235 N) Tryz.f235 [.v (.one (.ptr 0 0))] [.pcells 0 193 [.int .u8 a0, .nilp, .nilp]] K = zb82 N a0 (fun y0 y1 => K (.v (.one (.int .i64 y0))) [.pcells 0 193 [.int .u8 y1, .nilp, .nilp]]) := by kernel_rfl
theorem e235_0 {β : Type} (N : Nat) (a0 : Int) (K : TV → List Blk → Option β) : evFnG lay (E235 N) Tryz.f235 [.v (.one (.ptr 0 0))] [.pcells 0 193 [.int .u8 a0, .nilp, .nilp]] K = zj82 N a0 (fun y0 y1 => K (.v (.one (.int .i64 y0))) [.pcells 0 193 [.int .u8 y1, .nilp, .nilp]]) := (ve235_0 N a0 K).trans (zt82 N a0 (fun y0 y1 => K (.v (.one (.int .i64 y0))) [.pcells 0 193 [.int .u8 y1, .nilp, .nilp]])).symm
def zb83 {β : Type} (N : Nat) (a0 : Tr) (k0 : Int → Option β) : Option β :=
(gd ((!(Tr.isNil a0)))
((gd ((!(Tr.isNil a0)))
((gd ((!(Tr.isNil a0)))
(k0 ((w64 ((w8 ((Tr.a a0) - 97)))))))))))
theorem zt83 {β : Type} (N : Nat) (a0 : Tr) (k0 : Int → Option β) : zj83 N a0 k0 = zb83 N a0 k0 := by
  unfold zj83 zb83
  rfl
theorem ve235_1 {β : Type} (N : Nat) (a0 : Tr) (K : TV → List Blk → Option β) : evFnG lay (VE235 N) Tryz.f235 [.v (.one (.tr false a0))] [] K = zb83 N a0 (fun y0 => K (.v (.one (.int .i64 y0))) []) := by kernel_rfl
theorem e235_1 {β : Type} (N : Nat) (a0 : Tr) (K : TV → List Blk → Option β) : evFnG lay (E235 N) Tryz.f235 [.v (.one (.tr false a0))] [] K = zj83 N a0 (fun y0 => K (.v (.one (.int .i64 y0))) []) := (ve235_1 N a0 K).trans (zt83 N a0 (fun y0 => K (.v (.one (.int .i64 y0))) [])).symm
theorem o235 {β : Type} (N : Nat) : GOK (β := β) inv Tryz.prog 235 (S235 N) := by
  refine g_of lay_ok mixed (E := E235 N) (specs_loops specs_nil) muts_nil gs_nil Tryz.func235 (by kernel_rfl) 0 (by kernel_rfl) trivial fun args bl K r h => ?_
  unfold S235 VS235 at h
  split at h
  · exact (e235_0 N _ _).trans h
  · exact (e235_1 N _ _).trans h
  · cases h
def VS199 {β : Type} (N : Nat) (zq86 : (a0 : Tr) → (a1 : Int) → (k : Int → Int → Option β) → Option β) : Rv.Spec β := fun args K => match args with
  | [.v (.one (.tr false a0)), .v (.one (.int .i64 a1))] => zq86 a0 a1 (fun z2 z3 => K (.tup [.one (.int .i64 z2), .one (.int .i64 z3)]))
  | _ => none
def S199 {β : Type} (N : Nat) : Rv.Spec β := VS199 N (zj86 N)
def h199_0_0  (v0 : Tr) (v1 : Int) (v2 : Int) : St := ⟨.v (.one (.tr false v0)) :: .v (.one (.int .i64 v1)) :: tund :: tund :: tund :: tund :: .v (.one (.int .i64 v2)) :: tund :: tund :: tund :: tund :: tund :: tund :: tund :: tund :: tund :: tund :: tund :: tund :: tund :: tund :: tund :: tund :: tund :: tund :: tund :: tund :: tund :: tund :: tund :: tund :: tund :: tund :: tund :: tund :: [], []⟩
def x199_0_0_k0  (y0 : Tr) (y1 : Int) : St := ⟨.v (.one (.tr false y0)) :: tund :: tund :: tund :: tund :: tund :: .v (.one (.int .i64 y1)) :: tund :: tund :: tund :: tund :: tund :: tund :: tund :: tund :: tund :: tund :: tund :: tund :: tund :: tund :: tund :: tund :: tund :: tund :: tund :: tund :: tund :: tund :: tund :: tund :: tund :: tund :: tund :: tund :: [], []⟩
theorem fl199_0_0 (s : St) : refSt (h199_0_0 Tr.nil 0 0) s = h199_0_0 (trS (oneA (vT (nx tund s.tmps 0)))) (intS (oneA (vT (nx tund s.tmps 1)))) (intS (oneA (vT (nx tund s.tmps 6)))) := by kernel_rfl
def VLS199_0 {β : Type} (N : Nat) (zq85 : Nat → Tr → Int → Int → (Tr → Int → Option β) → Option β) : LSpec β := fun s K => cond (shpSt (h199_0_0 Tr.nil 0 0) s) ((fun (v0 : Tr) (v1 : Int) (v2 : Int) => zq85  N v0 v1 v2 (fun y0 y1 => K (.exit 0) (x199_0_0_k0  y0 y1))) (trS (oneA (vT (nx tund s.tmps 0)))) (intS (oneA (vT (nx tund s.tmps 1)))) (intS (oneA (vT (nx tund s.tmps 6))))) (none)
def LS199_0 {β : Type} (N : Nat) : LSpec β := VLS199_0 N (zj85 N)
def VE199 {β : Type} (N : Nat) (zq85 : Nat → Tr → Int → Int → (Tr → Int → Option β) → Option β) (zq82 : (a0 : Int) → (k0 : Int → Int → Option β) → Option β) (zq83 : (a0 : Tr) → (k0 : Int → Option β) → Option β) : Env β := ⟨[], [], [(0, VLS199_0 N zq85)], [(235, VS235 N zq82 zq83)], ⟨[], [], [], []⟩⟩
def E199 {β : Type} (N : Nat) : Env β := VE199 N (zj85 N) (zj82 N) (zj83 N)
def zb84 {β : Type} (N : Nat) (zq83 : (a0 : Tr) → (k0 : Int → Option β) → Option β)  (v0 : Tr) (v1 : Int) (v2 : Int) (rec_ : Tr → Int → Int → Option β) (k0 : Tr → Int → Option β) : Option β :=
(gd ((!(Tr.isNil v0)))
((gd ((!(Tr.isNil v0)))
((gd ((!(Tr.isNil v0)))
((cond ((!(Tr.isNil ((Tr.l v0)))))
(zq83 v0 (fun r4_0 =>
(gd ((decide (0 ≤ r4_0)))
((cond (((bits .and .i64 (shrI .i64 v1 r4_0) 1) == 0))
((gd ((!(Tr.isNil v0)))
((gd ((!(Tr.isNil v0)))
((gd ((!(Tr.isNil v0)))
(rec_ ((Tr.l v0)) v1 ((w64 (v2 + 1))))))))))
((gd ((!(Tr.isNil v0)))
((gd ((!(Tr.isNil v0)))
((gd ((!(Tr.isNil v0)))
(rec_ ((Tr.r v0)) v1 ((w64 (v2 + 1)))))))))))))))
(k0 v0 v2))))))))
theorem zt84 {β : Type} (N : Nat)  (v0 : Tr) (v1 : Int) (v2 : Int) (rec_ : Tr → Int → Int → Option β) (k0 : Tr → Int → Option β) : zj84 N v0 v1 v2 rec_ k0 = zb84 N (zj83 N) v0 v1 v2 rec_ k0 := by
  unfold zj84 zb84
  rfl
theorem vst199_0_0 {β : Type} (N : Nat) (zq85 : Nat → Tr → Int → Int → (Tr → Int → Option β) → Option β) (zq82 : (a0 : Int) → (k0 : Int → Int → Option β) → Option β) (zq83 : (a0 : Tr) → (k0 : Int → Option β) → Option β)  (v0 : Tr) (v1 : Int) (v2 : Int) (rec_ : St → Option β) (K : Exit → St → Option β) :
    ev lay (VE199 N zq85 zq82 zq83) (retMask Tryz.f199) (lp Tryz.f199 0).body (lp Tryz.f199 0).ex ((lp Tryz.f199 0).lv (retMask Tryz.f199)) (h199_0_0  v0 v1 v2) (nextR (fun s' => rec_ (s'.tidy ((lp Tryz.f199 0).lv (retMask Tryz.f199)))) K) = zb84 N zq83  v0 v1 v2 (fun v0 v1 v2 => rec_ (h199_0_0  v0 v1 v2)) (fun y0 y1 => K (.exit 0) (x199_0_0_k0  y0 y1)) := by kernel_rfl
theorem st199_0_0 {β : Type} (N : Nat)  (v0 : Tr) (v1 : Int) (v2 : Int) (rec_ : St → Option β) (K : Exit → St → Option β) :
    ev lay (E199 N) (retMask Tryz.f199) (lp Tryz.f199 0).body (lp Tryz.f199 0).ex ((lp Tryz.f199 0).lv (retMask Tryz.f199)) (h199_0_0  v0 v1 v2) (nextR (fun s' => rec_ (s'.tidy ((lp Tryz.f199 0).lv (retMask Tryz.f199)))) K) = zj84 N  v0 v1 v2 (fun v0 v1 v2 => rec_ (h199_0_0  v0 v1 v2)) (fun y0 y1 => K (.exit 0) (x199_0_0_k0  y0 y1)) := (vst199_0_0 N (zj85 N) (zj82 N) (zj83 N) v0 v1 v2 rec_ K).trans (zt84 N  v0 v1 v2 (fun v0 v1 v2 => rec_ (h199_0_0  v0 v1 v2)) (fun y0 y1 => K (.exit 0) (x199_0_0_k0  y0 y1))).symm
theorem ro199_0_0 {β : Type} (N : Nat)  (K : Exit → St → Option β) : ∀ (F : Nat) (v0 : Tr) (v1 : Int) (v2 : Int), (lp Tryz.f199 0).rounds lay (E199 N) (retMask Tryz.f199) F (h199_0_0  v0 v1 v2) K = zj85 N  F v0 v1 v2 (fun y0 y1 => K (.exit 0) (x199_0_0_k0  y0 y1)) := by
  intro F
  induction F with
  | zero => intros; rfl
  | succ F ih =>
    intros
    rw [rounds_next]
    refine (st199_0_0 N  _ _ _ (fun s => (lp Tryz.f199 0).rounds lay (E199 N) (retMask Tryz.f199) F s K) K).trans ?_
    simp only [ih]
    rfl
theorem lk199_0 {β : Type} (N : Nat) : lookL (E199 (β := β) N).loops (lp Tryz.f199 0).id = LS199_0 N := by kernel_rfl
theorem rk199_0 {β : Type} (N : Nat) : RoundsOK lay (E199 (β := β) N) (retMask Tryz.f199) (lp Tryz.f199 0) := by
  intro s K r h
  rw [lk199_0] at h
  unfold LS199_0 VLS199_0 at h
  cases hb : shpSt (h199_0_0 Tr.nil 0 0) s with
  | true =>
    rw [hb, cond_true] at h
    exact ⟨N, by rw [← shpSt_ref hb, fl199_0_0 s]; exact (ro199_0_0 N  K N (trS (oneA (vT (nx tund s.tmps 0)))) (intS (oneA (vT (nx tund s.tmps 1)))) (intS (oneA (vT (nx tund s.tmps 6))))).trans h⟩
  | false =>
  rw [hb, cond_false] at h
  clear hb
  cases h
def zb86 {β : Type} (N : Nat) (zq85 : Nat → Tr → Int → Int → (Tr → Int → Option β) → Option β) (a0 : Tr) (a1 : Int) (k : Int → Int → Option β) : Option β :=
zq85  N a0 a1 0 (fun e5_0 e5_1 =>
(gd ((!(Tr.isNil e5_0)))
((gd ((!(Tr.isNil e5_0)))
((gd ((!(Tr.isNil e5_0)))
(k ((w64 ((w8 ((Tr.a e5_0) - 48))))) e5_1)))))))
theorem zt86 {β : Type} (N : Nat) (a0 : Tr) (a1 : Int) (k : Int → Int → Option β) : zj86 N a0 a1 k = zb86 N (zj85 N) a0 a1 k := by
  unfold zj86 zb86
  rfl
theorem ve199_0 {β : Type} (N : Nat) (zq85 : Nat → Tr → Int → Int → (Tr → Int → Option β) → Option β) (zq82 : (a0 : Int) → (k0 : Int → Int → Option β) → Option β) (zq83 : (a0 : Tr) → (k0 : Int → Option β) → Option β)  (a0 : Tr) (a1 : Int) (K : TV → Option β) : evFn lay (VE199 N zq85 zq82 zq83) Tryz.f199 [.v (.one (.tr false a0)), .v (.one (.int .i64 a1))] K = zb86 N zq85 a0 a1 (fun z2 z3 => K (.tup [.one (.int .i64 z2), .one (.int .i64 z3)])) := by kernel_rfl
theorem e199_0 {β : Type} (N : Nat)  (a0 : Tr) (a1 : Int) (K : TV → Option β) : evFn lay (E199 N) Tryz.f199 [.v (.one (.tr false a0)), .v (.one (.int .i64 a1))] K = zj86 N a0 a1 (fun z2 z3 => K (.tup [.one (.int .i64 z2), .one (.int .i64 z3)])) := (ve199_0 N (zj85 N) (zj82 N) (zj83 N) a0 a1 K).trans (zt86 N a0 a1 (fun z2 z3 => K (.tup [.one (.int .i64 z2), .one (.int .i64 z3)]))).symm
theorem o199 {β : Type} (N : Nat) : SpecOK (β := β) inv Tryz.prog 199 (S199 N) := by
  refine spec_of lay_ok mixed (E := E199 N) (specs_loops specs_nil) muts_nil (gs_cons (o235 N) gs_nil) Tryz.func199 (by kernel_rfl) 1 (by kernel_rfl) ⟨trivial, rk199_0 N⟩ fun args K r h => ?_
  unfold S199 VS199 at h
  split at h
  · exact (e199_0 N _ _ _).trans h
  · cases h
def VS198 {β : Type} (N : Nat) (zq87 : (a0 : Int) → (c0 : Tr) → (k : Bool → Option β) → Option β) : Rv.Spec β := fun args K => match args with
  | [.v (.one (.int .i64 a0)), .v (.one (.cref [.tr false c0] 0))] => zq87 a0 c0 (fun z1 => K (.v (.one (.bool z1))))
  | _ => none
def S198 {β : Type} (N : Nat) : Rv.Spec β := VS198 N (zj87 N)
def VE198 {β : Type} (N : Nat) (zq86 : (a0 : Tr) → (a1 : Int) → (k : Int → Int → Option β) → Option β) : Env β := ⟨[(199, VS199 N zq86)], [], [], [], ⟨[], [], [], []⟩⟩
def E198 {β : Type} (N : Nat) : Env β := VE198 N (zj86 N)
def zb87 {β : Type} (N : Nat) (zq86 : (a0 : Tr) → (a1 : Int) → (k : Int → Int → Option β) → Option β) (a0 : Int) (c0 : Tr) (k : Bool → Option β) : Option β :=
zq86 c0 a0 fun r2 r3 =>
k ((r2 == 1))
theorem zt87 {β : Type} (N : Nat) (a0 : Int) (c0 : Tr) (k : Bool → Option β) : zj87 N a0 c0 k = zb87 N (zj86 N) a0 c0 k := by
  unfold zj87 zb87
  rfl
theorem ve198_0 {β : Type} (N : Nat) (zq86 : (a0 : Tr) → (a1 : Int) → (k : Int → Int → Option β) → Option β)  (a0 : Int) (c0 : Tr) (K : TV → Option β) : evFn lay (VE198 N zq86) Tryz.f198 [.v (.one (.int .i64 a0)), .v (.one (.cref [.tr false c0] 0))] K = zb87 N zq86 a0 c0 (fun z1 => K (.v (.one (.bool z1)))) := by kernel_rfl
theorem e198_0 {β : Type} (N : Nat)  (a0 : Int) (c0 : Tr) (K : TV → Option β) : evFn lay (E198 N) Tryz.f198 [.v (.one (.int .i64 a0)), .v (.one (.cref [.tr false c0] 0))] K = zj87 N a0 c0 (fun z1 => K (.v (.one (.bool z1)))) := (ve198_0 N (zj86 N) a0 c0 K).trans (zt87 N a0 c0 (fun z1 => K (.v (.one (.bool z1))))).symm
theorem o198 {β : Type} (N : Nat) : SpecOK (β := β) inv Tryz.prog 198 (S198 N) := by
  refine spec_of lay_ok mixed (E := E198 N) (specs_loops (specs_cons (o199 N) specs_nil)) muts_nil gs_nil Tryz.func198 (by kernel_rfl) 0 (by kernel_rfl) trivial fun args K r h => ?_
  unfold S198 VS198 at h
  split at h
  · exact (e198_0 N _ _ _).trans h
  · cases h
def VS203 {β : Type} (N : Nat) (zq88 : (a0 : Int) → (c0 : Tr) → (k : Bool → Option β) → Option β) : Rv.Spec β := fun args K => match args with
  | [.v (.one (.int .i64 a0)), .v (.one (.cref [.tr false c0] 0))] => zq88 a0 c0 (fun z1 => K (.v (.one (.bool z1))))
  | _ => none
def S203 {β : Type} (N : Nat) : Rv.Spec β := VS203 N (zj88 N)
def VE203 {β : Type} (N : Nat) : Env β := ⟨[], [], [], [], ⟨[], [], [], []⟩⟩
def E203 {β : Type} (N : Nat) : Env β := VE203 N
def zb88 {β : Type} (N : Nat) (a0 : Int) (c0 : Tr) (k : Bool → Option β) : Option β :=
(gd ((!(Tr.isNil c0)))
((gd ((!(Tr.isNil c0)))
((gd ((!(Tr.isNil c0)))
(k (((Tr.a c0) == 49))))))))
theorem zt88 {β : Type} (N : Nat) (a0 : Int) (c0 : Tr) (k : Bool → Option β) : zj88 N a0 c0 k = zb88 N a0 c0 k := by
  unfold zj88 zb88
  rfl
theorem ve203_0 {β : Type} (N : Nat)  (a0 : Int) (c0 : Tr) (K : TV → Option β) : evFn lay (VE203 N) Tryz.f203 [.v (.one (.int .i64 a0)), .v (.one (.cref [.tr false c0] 0))] K = zb88 N a0 c0 (fun z1 => K (.v (.one (.bool z1)))) := by kernel_rfl
theorem e203_0 {β : Type} (N : Nat)  (a0 : Int) (c0 : Tr) (K : TV → Option β) : evFn lay (E203 N) Tryz.f203 [.v (.one (.int .i64 a0)), .v (.one (.cref [.tr false c0] 0))] K = zj88 N a0 c0 (fun z1 => K (.v (.one (.bool z1)))) := (ve203_0 N a0 c0 K).trans (zt88 N a0 c0 (fun z1 => K (.v (.one (.bool z1))))).symm
theorem o203 {β : Type} (N : Nat) : SpecOK (β := β) inv Tryz.prog 203 (S203 N) := by
  refine spec_of lay_ok mixed (E := E203 N) (specs_loops specs_nil) muts_nil gs_nil Tryz.func203 (by kernel_rfl) 0 (by kernel_rfl) trivial fun args K r h => ?_
  unfold S203 VS203 at h
  split at h
  · exact (e203_0 N _ _ _).trans h
  · cases h
def VS238 {β : Type} (N : Nat) (zq89 : (a0 : Int) → (c0 : Int) → (k : Bool → Option β) → Option β) : Rv.Spec β := fun args K => match args with
  | [.v (.one (.int .i64 a0)), .v (.one (.cref [.int .i64 c0] 0))] => zq89 a0 c0 (fun z1 => K (.v (.one (.bool z1))))
  | _ => none
def S238 {β : Type} (N : Nat) : Rv.Spec β := VS238 N (zj89 N)
def VE238 {β : Type} (N : Nat) : Env β := ⟨[], [], [], [], ⟨[], [], [], []⟩⟩
def E238 {β : Type} (N : Nat) : Env β := VE238 N
def zb89 {β : Type} (N : Nat) (a0 : Int) (c0 : Int) (k : Bool → Option β) : Option β :=
(gd ((decide (0 ≤ c0)))
(k (((bits .and .i64 (shrI .i64 a0 c0) 1) == 1))))
theorem zt89 {β : Type} (N : Nat) (a0 : Int) (c0 : Int) (k : Bool → Option β) : zj89 N a0 c0 k = zb89 N a0 c0 k := by
  unfold zj89 zb89
  rfl
theorem ve238_0 {β : Type} (N : Nat)  (a0 : Int) (c0 : Int) (K : TV → Option β) : evFn lay (VE238 N) Tryz.f238 [.v (.one (.int .i64 a0)), .v (.one (.cref [.int .i64 c0] 0))] K = zb89 N a0 c0 (fun z1 => K (.v (.one (.bool z1)))) := by kernel_rfl
theorem e238_0 {β : Type} (N : Nat)  (a0 : Int) (c0 : Int) (K : TV → Option β) : evFn lay (E238 N) Tryz.f238 [.v (.one (.int .i64 a0)), .v (.one (.cref [.int .i64 c0] 0))] K = zj89 N a0 c0 (fun z1 => K (.v (.one (.bool z1)))) := (ve238_0 N a0 c0 K).trans (zt89 N a0 c0 (fun z1 => K (.v (.one (.bool z1))))).symm
theorem o238 {β : Type} (N : Nat) : SpecOK (β := β) inv Tryz.prog 238 (S238 N) := by
  refine spec_of lay_ok mixed (E := E238 N) (specs_loops specs_nil) muts_nil gs_nil Tryz.func238 (by kernel_rfl) 0 (by kernel_rfl) trivial fun args K r h => ?_
  unfold S238 VS238 at h
  split at h
  · exact (e238_0 N _ _ _).trans h
  · cases h
end Go.Proofs.YtemihnclhcobnaaGreatDoor
