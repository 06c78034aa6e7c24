/- The functions that the claims reach answer as their texts do. -/
import Derived.Test.YtfdggelojmofmaaDoorE1
namespace Go.Proofs.YtfdggelojmofmaaDoor
open Go.Rv
set_option maxRecDepth 100000
set_option maxHeartbeats 2000000
set_option linter.unusedVariables false
def VS74 {β : Type} (N : Nat) (q_spec_DummyPlayers : (a0 : Int) → (a1 : Int) → (k : List Int → Option β) → Option β) : Rv.Spec β := fun args K => match args with
  | [.v (.agg [.int .i64 a0, .int .i64 a1])] => q_spec_DummyPlayers a0 a1 (fun z2 => K (.v (.one (.sl 3 (.ints .i64 z2)))))
  | _ => none
def S74 {β : Type} (N : Nat) : Rv.Spec β := VS74 N (spec_DummyPlayers N)
def h74_0_0  (v0 : Int) (v1 : Int) (v2 : Int) (v3 : List Int) : St := ⟨.v (.one .und) :: .v (.one (.ptr 0 0)) :: .v (.one .und) :: .v (.one (.row 1)) :: .v (.one (.int .i64 v0)) :: .v (.one .und) :: .v (.one .und) :: .v (.one .und) :: .v (.one .und) :: .v (.one .und) :: .v (.one .und) :: .v (.one .und) :: .v (.one .und) :: .v (.one .und) :: .v (.one .und) :: .v (.one .und) :: .v (.one .und) :: .v (.one .und) :: .v (.one .und) :: .v (.one .und) :: .v (.one .und) :: .v (.one .und) :: .v (.one .und) :: .v (.one .und) :: .v (.one .und) :: [], [.cells 24 [.int .i64 v1, .int .i64 v2], .row 3 (.ints .i64 v3)]⟩
def x74_0_0_k0  (y0 : List Int) : St := ⟨.v (.one .und) :: .v (.one .und) :: .v (.one .und) :: .v (.one (.row 0)) :: .v (.one .und) :: .v (.one .und) :: .v (.one .und) :: .v (.one .und) :: .v (.one .und) :: .v (.one .und) :: .v (.one .und) :: .v (.one .und) :: .v (.one .und) :: .v (.one .und) :: .v (.one .und) :: .v (.one .und) :: .v (.one .und) :: .v (.one .und) :: .v (.one .und) :: .v (.one .und) :: .v (.one .und) :: .v (.one .und) :: .v (.one .und) :: .v (.one .und) :: .v (.one .und) :: [], [.row 3 (.ints .i64 y0)]⟩
theorem fl74_0_0 (s : St) : refSt (h74_0_0 0 0 0 []) s = h74_0_0 (intS (oneA (vT (nx tund s.tmps 4)))) (intS (nx .und (cellsB (nx .dead s.blks 0)) 0)) (intS (nx .und (cellsB (nx .dead s.blks 0)) 1)) (rInts (rowB_ (nx .dead s.blks 1))) := by kernel_rfl
def VLS74_0 {β : Type} (N : Nat) (q_spec_DummyPlayers_l0 : Nat → Int → Int → Int → List Int → (List Int → Option β) → Option β) : LSpec β := fun s K => cond (shpSt (h74_0_0 0 0 0 []) s) ((fun (v0 : Int) (v1 : Int) (v2 : Int) (v3 : List Int) => q_spec_DummyPlayers_l0  N v0 v1 v2 v3 (fun y0 => K (.exit 0) (x74_0_0_k0  y0))) (intS (oneA (vT (nx tund s.tmps 4)))) (intS (nx .und (cellsB (nx .dead s.blks 0)) 0)) (intS (nx .und (cellsB (nx .dead s.blks 0)) 1)) (rInts (rowB_ (nx .dead s.blks 1)))) (none)
def LS74_0 {β : Type} (N : Nat) : LSpec β := VLS74_0 N (spec_DummyPlayers_l0 N)
def VE74 {β : Type} (N : Nat) (q_spec_IsSimpleGame : (a0 : Int) → (a1 : Int) → (k : Bool → Option β) → Option β) (q_spec_l3Depends : (a0 : Int) → (a1 : Int) → (a2 : Int) → (k : Bool → Option β) → Option β) (q_spec_DummyPlayers_l0 : Nat → Int → Int → Int → List Int → (List Int → Option β) → Option β) : Env β := ⟨[(69, VS69 N q_spec_IsSimpleGame), (135, VS135 N q_spec_l3Depends)], [], [(0, VLS74_0 N q_spec_DummyPlayers_l0)], [], ⟨[], [], []⟩⟩
def E74 {β : Type} (N : Nat) : Env β := VE74 N (spec_IsSimpleGame N) (spec_l3Depends N) (spec_DummyPlayers_l0 N)
def BV_spec_DummyPlayers_l0b {β : Type} (N : Nat) (q_spec_IsSimpleGame : (a0 : Int) → (a1 : Int) → (k : Bool → Option β) → Option β) (q_spec_l3Depends : (a0 : Int) → (a1 : Int) → (a2 : Int) → (k : Bool → Option β) → Option β)  (v0 : Int) (v1 : Int) (v2 : Int) (v3 : List Int) (rec_ : Int → Int → Int → List Int → Option β) (k0 : List Int → Option β) : Option β :=
q_spec_IsSimpleGame v1 v2 fun r3 =>
(cond r3
((cond ((decide (v0 < v1)))
(q_spec_l3Depends v1 v2 v0 fun r4 =>
(cond (!r4)
((gd ((decide ((v3.length + ((([] : List Int) ++ [v0])).length) * 8 ≤ 140737488355328)))
(rec_ ((w64 (v0 + 1))) v1 v2 ((v3 ++ (([] : List Int) ++ [v0]))))))
(rec_ ((w64 (v0 + 1))) v1 v2 v3)))
(k0 v3)))
(k0 v3))
theorem t_spec_DummyPlayers_l0b {β : Type} (N : Nat)  (v0 : Int) (v1 : Int) (v2 : Int) (v3 : List Int) (rec_ : Int → Int → Int → List Int → Option β) (k0 : List Int → Option β) : spec_DummyPlayers_l0b N v0 v1 v2 v3 rec_ k0 = BV_spec_DummyPlayers_l0b N (spec_IsSimpleGame N) (spec_l3Depends N) v0 v1 v2 v3 rec_ k0 := by
  unfold spec_DummyPlayers_l0b BV_spec_DummyPlayers_l0b
  rfl
theorem vst74_0_0 {β : Type} (N : Nat) (q_spec_IsSimpleGame : (a0 : Int) → (a1 : Int) → (k : Bool → Option β) → Option β) (q_spec_l3Depends : (a0 : Int) → (a1 : Int) → (a2 : Int) → (k : Bool → Option β) → Option β) (q_spec_DummyPlayers_l0 : Nat → Int → Int → Int → List Int → (List Int → Option β) → Option β)  (v0 : Int) (v1 : Int) (v2 : Int) (v3 : List Int) (rec_ : St → Option β) (K : Exit → St → Option β) :
    ev lay (VE74 N q_spec_IsSimpleGame q_spec_l3Depends q_spec_DummyPlayers_l0) (retMask Tryd.f74) (lp Tryd.f74 0).body (lp Tryd.f74 0).ex ((lp Tryd.f74 0).lv (retMask Tryd.f74)) (h74_0_0  v0 v1 v2 v3) (nextR (fun s' => rec_ (s'.tidy ((lp Tryd.f74 0).lv (retMask Tryd.f74)))) K) = BV_spec_DummyPlayers_l0b N q_spec_IsSimpleGame q_spec_l3Depends  v0 v1 v2 v3 (fun v0 v1 v2 v3 => rec_ (h74_0_0  v0 v1 v2 v3)) (fun y0 => K (.exit 0) (x74_0_0_k0  y0)) := by kernel_rfl
theorem st74_0_0 {β : Type} (N : Nat)  (v0 : Int) (v1 : Int) (v2 : Int) (v3 : List Int) (rec_ : St → Option β) (K : Exit → St → Option β) :
    ev lay (E74 N) (retMask Tryd.f74) (lp Tryd.f74 0).body (lp Tryd.f74 0).ex ((lp Tryd.f74 0).lv (retMask Tryd.f74)) (h74_0_0  v0 v1 v2 v3) (nextR (fun s' => rec_ (s'.tidy ((lp Tryd.f74 0).lv (retMask Tryd.f74)))) K) = spec_DummyPlayers_l0b N  v0 v1 v2 v3 (fun v0 v1 v2 v3 => rec_ (h74_0_0  v0 v1 v2 v3)) (fun y0 => K (.exit 0) (x74_0_0_k0  y0)) := (vst74_0_0 N (spec_IsSimpleGame N) (spec_l3Depends N) (spec_DummyPlayers_l0 N) v0 v1 v2 v3 rec_ K).trans (t_spec_DummyPlayers_l0b N  v0 v1 v2 v3 (fun v0 v1 v2 v3 => rec_ (h74_0_0  v0 v1 v2 v3)) (fun y0 => K (.exit 0) (x74_0_0_k0  y0))).symm
theorem ro74_0_0 {β : Type} (N : Nat)  (K : Exit → St → Option β) : ∀ (F : Nat) (v0 : Int) (v1 : Int) (v2 : Int) (v3 : List Int), (lp Tryd.f74 0).rounds lay (E74 N) (retMask Tryd.f74) F (h74_0_0  v0 v1 v2 v3) K = spec_DummyPlayers_l0 N  F v0 v1 v2 v3 (fun y0 => K (.exit 0) (x74_0_0_k0  y0)) := by
  intro F
  induction F with
  | zero => intros; rfl
  | succ F ih =>
    intros
    rw [rounds_next]
    refine (st74_0_0 N  _ _ _ _ (fun s => (lp Tryd.f74 0).rounds lay (E74 N) (retMask Tryd.f74) F s K) K).trans ?_
    simp only [ih]
    rfl
theorem lk74_0 {β : Type} (N : Nat) : lookL (E74 (β := β) N).loops (lp Tryd.f74 0).id = LS74_0 N := by kernel_rfl
theorem rk74_0 {β : Type} (N : Nat) : RoundsOK lay (E74 (β := β) N) (retMask Tryd.f74) (lp Tryd.f74 0) := by
  intro s K r h
  rw [lk74_0] at h
  unfold LS74_0 VLS74_0 at h
  cases hb : shpSt (h74_0_0 0 0 0 []) s with
  | true =>
    rw [hb, cond_true] at h
    exact ⟨N, by rw [← shpSt_ref hb, fl74_0_0 s]; exact (ro74_0_0 N  K N (intS (oneA (vT (nx tund s.tmps 4)))) (intS (nx .und (cellsB (nx .dead s.blks 0)) 0)) (intS (nx .und (cellsB (nx .dead s.blks 0)) 1)) (rInts (rowB_ (nx .dead s.blks 1)))).trans h⟩
  | false =>
  rw [hb, cond_false] at h
  clear hb
  cases h
def BV_spec_DummyPlayers {β : Type} (N : Nat) (q_spec_DummyPlayers_l0 : Nat → Int → Int → Int → List Int → (List Int → Option β) → Option β) (a0 : Int) (a1 : Int) (k : List Int → Option β) : Option β :=
q_spec_DummyPlayers_l0  N 0 a0 a1 (([] : List Int)) (fun e5_0 =>
k e5_0)
theorem t_spec_DummyPlayers {β : Type} (N : Nat) (a0 : Int) (a1 : Int) (k : List Int → Option β) : spec_DummyPlayers N a0 a1 k = BV_spec_DummyPlayers N (spec_DummyPlayers_l0 N) a0 a1 k := by
  unfold spec_DummyPlayers BV_spec_DummyPlayers
  rfl
theorem ve74_0 {β : Type} (N : Nat) (q_spec_IsSimpleGame : (a0 : Int) → (a1 : Int) → (k : Bool → Option β) → Option β) (q_spec_l3Depends : (a0 : Int) → (a1 : Int) → (a2 : Int) → (k : Bool → Option β) → Option β) (q_spec_DummyPlayers_l0 : Nat → Int → Int → Int → List Int → (List Int → Option β) → Option β)  (a0 : Int) (a1 : Int) (K : TV → Option β) : evFn lay (VE74 N q_spec_IsSimpleGame q_spec_l3Depends q_spec_DummyPlayers_l0) Tryd.f74 [.v (.agg [.int .i64 a0, .int .i64 a1])] K = BV_spec_DummyPlayers N q_spec_DummyPlayers_l0 a0 a1 (fun z2 => K (.v (.one (.sl 3 (.ints .i64 z2))))) := by kernel_rfl
theorem e74_0 {β : Type} (N : Nat)  (a0 : Int) (a1 : Int) (K : TV → Option β) : evFn lay (E74 N) Tryd.f74 [.v (.agg [.int .i64 a0, .int .i64 a1])] K = spec_DummyPlayers N a0 a1 (fun z2 => K (.v (.one (.sl 3 (.ints .i64 z2))))) := (ve74_0 N (spec_IsSimpleGame N) (spec_l3Depends N) (spec_DummyPlayers_l0 N) a0 a1 K).trans (t_spec_DummyPlayers N a0 a1 (fun z2 => K (.v (.one (.sl 3 (.ints .i64 z2)))))).symm
theorem o74 {β : Type} (N : Nat) : SpecOK (β := β) inv Tryd.prog 74 (S74 N) := by
  refine spec_of lay_ok mixed (E := E74 N) (specs_loops (specs_cons (o69 N) (specs_cons (o135 N) specs_nil))) muts_nil gs_nil Tryd.func74 (by kernel_rfl) 1 (by kernel_rfl) ⟨trivial, rk74_0 N⟩ fun args K r h => ?_
  unfold S74 VS74 at h
  split at h
  · exact (e74_0 N _ _ _).trans h
  · cases h
def VS76 {β : Type} (N : Nat) (q_spec_IsProperGame : (a0 : Int) → (a1 : Int) → (k : Bool → Option β) → Option β) : Rv.Spec β := fun args K => match args with
  | [.v (.agg [.int .i64 a0, .int .i64 a1])] => q_spec_IsProperGame a0 a1 (fun z2 => K (.v (.one (.bool z2))))
  | _ => none
def S76 {β : Type} (N : Nat) : Rv.Spec β := VS76 N (spec_IsProperGame N)
def h76_0_0  (v0 : Int) (v1 : Int) (v2 : Int) : St := ⟨.v (.one .und) :: .v (.one (.ptr 0 0)) :: .v (.one .und) :: .v (.one (.int .i64 v0)) :: .v (.one .und) :: .v (.one .und) :: .v (.one .und) :: .v (.one .und) :: .v (.one .und) :: .v (.one .und) :: .v (.one .und) :: .v (.one .und) :: .v (.one .und) :: .v (.one .und) :: .v (.one .und) :: .v (.one .und) :: .v (.one .und) :: .v (.one .und) :: .v (.one .und) :: .v (.one .und) :: .v (.one .und) :: .v (.one .und) :: .v (.one .und) :: .v (.one .und) :: .v (.one .und) :: .v (.one .und) :: .v (.one .und) :: .v (.one .und) :: .v (.one .und) :: .v (.one .und) :: .v (.one .und) :: .v (.one .und) :: .v (.one .und) :: .v (.one .und) :: .v (.one .und) :: .v (.one .und) :: [], [.cells 24 [.int .i64 v1, .int .i64 v2]]⟩
def x76_0_0_k0  (y0 : Bool) : St := ⟨.v (.one .und) :: .v (.one .und) :: .v (.one (.bool y0)) :: .v (.one .und) :: .v (.one .und) :: .v (.one .und) :: .v (.one .und) :: .v (.one .und) :: .v (.one .und) :: .v (.one .und) :: .v (.one .und) :: .v (.one .und) :: .v (.one .und) :: .v (.one .und) :: .v (.one .und) :: .v (.one .und) :: .v (.one .und) :: .v (.one .und) :: .v (.one .und) :: .v (.one .und) :: .v (.one .und) :: .v (.one .und) :: .v (.one .und) :: .v (.one .und) :: .v (.one .und) :: .v (.one .und) :: .v (.one .und) :: .v (.one .und) :: .v (.one .und) :: .v (.one .und) :: .v (.one .und) :: .v (.one .und) :: .v (.one .und) :: .v (.one .und) :: .v (.one .und) :: .v (.one .und) :: [], []⟩
def x76_0_0_k1  (y0 : Int) (y1 : Int) : St := ⟨.v (.one .und) :: .v (.one (.ptr 0 0)) :: .v (.one .und) :: .v (.one .und) :: .v (.one .und) :: .v (.one .und) :: .v (.one .und) :: .v (.one .und) :: .v (.one .und) :: .v (.one .und) :: .v (.one .und) :: .v (.one .und) :: .v (.one .und) :: .v (.one .und) :: .v (.one .und) :: .v (.one .und) :: .v (.one .und) :: .v (.one .und) :: .v (.one .und) :: .v (.one .und) :: .v (.one .und) :: .v (.one .und) :: .v (.one .und) :: .v (.one .und) :: .v (.one .und) :: .v (.one .und) :: .v (.one .und) :: .v (.one .und) :: .v (.one .und) :: .v (.one .und) :: .v (.one .und) :: .v (.one .und) :: .v (.one .und) :: .v (.one .und) :: .v (.one .und) :: .v (.one .und) :: [], [.cells 24 [.int .i64 y0, .int .i64 y1]]⟩
theorem fl76_0_0 (s : St) : refSt (h76_0_0 0 0 0) s = h76_0_0 (intS (oneA (vT (nx tund s.tmps 3)))) (intS (nx .und (cellsB (nx .dead s.blks 0)) 0)) (intS (nx .und (cellsB (nx .dead s.blks 0)) 1)) := by kernel_rfl
def VLS76_0 {β : Type} (N : Nat) (q_spec_IsProperGame_l0 : Nat → Int → Int → Int → (Bool → Option β) → (Int → Int → Option β) → Option β) : LSpec β := fun s K => cond (shpSt (h76_0_0 0 0 0) s) ((fun (v0 : Int) (v1 : Int) (v2 : Int) => q_spec_IsProperGame_l0  N v0 v1 v2 (fun y0 => K .ret (x76_0_0_k0  y0)) (fun y0 y1 => K (.exit 0) (x76_0_0_k1  y0 y1))) (intS (oneA (vT (nx tund s.tmps 3)))) (intS (nx .und (cellsB (nx .dead s.blks 0)) 0)) (intS (nx .und (cellsB (nx .dead s.blks 0)) 1))) (none)
def LS76_0 {β : Type} (N : Nat) : LSpec β := VLS76_0 N (spec_IsProperGame_l0 N)
def VE76 {β : Type} (N : Nat) (q_spec_IsSimpleGame : (a0 : Int) → (a1 : Int) → (k : Bool → Option β) → Option β) (q_spec_IsProperGame_l0 : Nat → Int → Int → Int → (Bool → Option β) → (Int → Int → Option β) → Option β) : Env β := ⟨[(69, VS69 N q_spec_IsSimpleGame)], [], [(0, VLS76_0 N q_spec_IsProperGame_l0)], [], ⟨[], [], []⟩⟩
def E76 {β : Type} (N : Nat) : Env β := VE76 N (spec_IsSimpleGame N) (spec_IsProperGame_l0 N)
def BV_spec_IsProperGame_l0b {β : Type} (N : Nat) (q_spec_IsSimpleGame : (a0 : Int) → (a1 : Int) → (k : Bool → Option β) → Option β)  (v0 : Int) (v1 : Int) (v2 : Int) (rec_ : Int → Int → Int → Option β) (k0 : Bool → Option β) (k1 : Int → Int → Option β) : Option β :=
q_spec_IsSimpleGame v1 v2 fun r3 =>
(cond r3
((gd ((decide (0 ≤ v1)))
((cond ((decide (v0 < (shlI .i64 1 v1))))
((gd ((decide (0 ≤ v0)))
((cond (((bits .and .i64 (shrI .i64 v2 v0) 1) == 1))
((gd ((decide (0 ≤ v1)))
((gd ((decide (0 ≤ (w64 ((w64 ((shlI .i64 1 v1) - 1)) - v0)))))
((cond (((bits .and .i64 (shrI .i64 v2 (w64 ((w64 ((shlI .i64 1 v1) - 1)) - v0))) 1) == 1))
(k0 false)
(rec_ ((w64 (v0 + 1))) v1 v2)))))))
(rec_ ((w64 (v0 + 1))) v1 v2)))))
(k1 v1 v2)))))
(k1 v1 v2))
theorem t_spec_IsProperGame_l0b {β : Type} (N : Nat)  (v0 : Int) (v1 : Int) (v2 : Int) (rec_ : Int → Int → Int → Option β) (k0 : Bool → Option β) (k1 : Int → Int → Option β) : spec_IsProperGame_l0b N v0 v1 v2 rec_ k0 k1 = BV_spec_IsProperGame_l0b N (spec_IsSimpleGame N) v0 v1 v2 rec_ k0 k1 := by
  unfold spec_IsProperGame_l0b BV_spec_IsProperGame_l0b
  rfl
theorem vst76_0_0 {β : Type} (N : Nat) (q_spec_IsSimpleGame : (a0 : Int) → (a1 : Int) → (k : Bool → Option β) → Option β) (q_spec_IsProperGame_l0 : Nat → Int → Int → Int → (Bool → Option β) → (Int → Int → Option β) → Option β)  (v0 : Int) (v1 : Int) (v2 : Int) (rec_ : St → Option β) (K : Exit → St → Option β) :
    ev lay (VE76 N q_spec_IsSimpleGame q_spec_IsProperGame_l0) (retMask Tryd.f76) (lp Tryd.f76 0).body (lp Tryd.f76 0).ex ((lp Tryd.f76 0).lv (retMask Tryd.f76)) (h76_0_0  v0 v1 v2) (nextR (fun s' => rec_ (s'.tidy ((lp Tryd.f76 0).lv (retMask Tryd.f76)))) K) = BV_spec_IsProperGame_l0b N q_spec_IsSimpleGame  v0 v1 v2 (fun v0 v1 v2 => rec_ (h76_0_0  v0 v1 v2)) (fun y0 => K .ret (x76_0_0_k0  y0)) (fun y0 y1 => K (.exit 0) (x76_0_0_k1  y0 y1)) := by kernel_rfl
theorem st76_0_0 {β : Type} (N : Nat)  (v0 : Int) (v1 : Int) (v2 : Int) (rec_ : St → Option β) (K : Exit → St → Option β) :
    ev lay (E76 N) (retMask Tryd.f76) (lp Tryd.f76 0).body (lp Tryd.f76 0).ex ((lp Tryd.f76 0).lv (retMask Tryd.f76)) (h76_0_0  v0 v1 v2) (nextR (fun s' => rec_ (s'.tidy ((lp Tryd.f76 0).lv (retMask Tryd.f76)))) K) = spec_IsProperGame_l0b N  v0 v1 v2 (fun v0 v1 v2 => rec_ (h76_0_0  v0 v1 v2)) (fun y0 => K .ret (x76_0_0_k0  y0)) (fun y0 y1 => K (.exit 0) (x76_0_0_k1  y0 y1)) := (vst76_0_0 N (spec_IsSimpleGame N) (spec_IsProperGame_l0 N) v0 v1 v2 rec_ K).trans (t_spec_IsProperGame_l0b N  v0 v1 v2 (fun v0 v1 v2 => rec_ (h76_0_0  v0 v1 v2)) (fun y0 => K .ret (x76_0_0_k0  y0)) (fun y0 y1 => K (.exit 0) (x76_0_0_k1  y0 y1))).symm
theorem ro76_0_0 {β : Type} (N : Nat)  (K : Exit → St → Option β) : ∀ (F : Nat) (v0 : Int) (v1 : Int) (v2 : Int), (lp Tryd.f76 0).rounds lay (E76 N) (retMask Tryd.f76) F (h76_0_0  v0 v1 v2) K = spec_IsProperGame_l0 N  F v0 v1 v2 (fun y0 => K .ret (x76_0_0_k0  y0)) (fun y0 y1 => K (.exit 0) (x76_0_0_k1  y0 y1)) := by
  intro F
  induction F with
  | zero => intros; rfl
  | succ F ih =>
    intros
    rw [rounds_next]
    refine (st76_0_0 N  _ _ _ (fun s => (lp Tryd.f76 0).rounds lay (E76 N) (retMask Tryd.f76) F s K) K).trans ?_
    simp only [ih]
    rfl
theorem lk76_0 {β : Type} (N : Nat) : lookL (E76 (β := β) N).loops (lp Tryd.f76 0).id = LS76_0 N := by kernel_rfl
theorem rk76_0 {β : Type} (N : Nat) : RoundsOK lay (E76 (β := β) N) (retMask Tryd.f76) (lp Tryd.f76 0) := by
  intro s K r h
  rw [lk76_0] at h
  unfold LS76_0 VLS76_0 at h
  cases hb : shpSt (h76_0_0 0 0 0) s with
  | true =>
    rw [hb, cond_true] at h
    exact ⟨N, by rw [← shpSt_ref hb, fl76_0_0 s]; exact (ro76_0_0 N  K N (intS (oneA (vT (nx tund s.tmps 3)))) (intS (nx .und (cellsB (nx .dead s.blks 0)) 0)) (intS (nx .und (cellsB (nx .dead s.blks 0)) 1))).trans h⟩
  | false =>
  rw [hb, cond_false] at h
  clear hb
  cases h
def BV_spec_IsProperGame {β : Type} (N : Nat) (q_spec_IsProperGame_l0 : Nat → Int → Int → Int → (Bool → Option β) → (Int → Int → Option β) → Option β) (q_spec_IsSimpleGame : (a0 : Int) → (a1 : Int) → (k : Bool → Option β) → Option β) (a0 : Int) (a1 : Int) (k : Bool → Option β) : Option β :=
q_spec_IsProperGame_l0  N 0 a0 a1 (fun e4_0 =>
k e4_0) (fun e5_0 e5_1 =>
q_spec_IsSimpleGame e5_0 e5_1 fun r6 =>
k r6)
theorem t_spec_IsProperGame {β : Type} (N : Nat) (a0 : Int) (a1 : Int) (k : Bool → Option β) : spec_IsProperGame N a0 a1 k = BV_spec_IsProperGame N (spec_IsProperGame_l0 N) (spec_IsSimpleGame N) a0 a1 k := by
  unfold spec_IsProperGame BV_spec_IsProperGame
  rfl
theorem ve76_0 {β : Type} (N : Nat) (q_spec_IsSimpleGame : (a0 : Int) → (a1 : Int) → (k : Bool → Option β) → Option β) (q_spec_IsProperGame_l0 : Nat → Int → Int → Int → (Bool → Option β) → (Int → Int → Option β) → Option β)  (a0 : Int) (a1 : Int) (K : TV → Option β) : evFn lay (VE76 N q_spec_IsSimpleGame q_spec_IsProperGame_l0) Tryd.f76 [.v (.agg [.int .i64 a0, .int .i64 a1])] K = BV_spec_IsProperGame N q_spec_IsProperGame_l0 q_spec_IsSimpleGame a0 a1 (fun z2 => K (.v (.one (.bool z2)))) := by kernel_rfl
theorem e76_0 {β : Type} (N : Nat)  (a0 : Int) (a1 : Int) (K : TV → Option β) : evFn lay (E76 N) Tryd.f76 [.v (.agg [.int .i64 a0, .int .i64 a1])] K = spec_IsProperGame N a0 a1 (fun z2 => K (.v (.one (.bool z2)))) := (ve76_0 N (spec_IsSimpleGame N) (spec_IsProperGame_l0 N) a0 a1 K).trans (t_spec_IsProperGame N a0 a1 (fun z2 => K (.v (.one (.bool z2))))).symm
theorem o76 {β : Type} (N : Nat) : SpecOK (β := β) inv Tryd.prog 76 (S76 N) := by
  refine spec_of lay_ok mixed (E := E76 N) (specs_loops (specs_cons (o69 N) specs_nil)) muts_nil gs_nil Tryd.func76 (by kernel_rfl) 1 (by kernel_rfl) ⟨trivial, rk76_0 N⟩ fun args K r h => ?_
  unfold S76 VS76 at h
  split at h
  · exact (e76_0 N _ _ _).trans h
  · cases h
def VS75 {β : Type} (N : Nat) (q_spec_l34Yes : (a0 : Bool) → (a1 : ByteArray) → (k : ByteArray → Option β) → Option β) : Rv.Spec β := fun args K => match args with
  | [.v (.one (.bool a0)), .v (.one (.str a1))] => q_spec_l34Yes a0 a1 (fun z2 => K (.v (.one (.str z2))))
  | _ => none
def S75 {β : Type} (N : Nat) : Rv.Spec β := VS75 N (spec_l34Yes N)
def VE75 {β : Type} (N : Nat) : Env β := ⟨[], [], [], [], ⟨[], [], []⟩⟩
def E75 {β : Type} (N : Nat) : Env β := VE75 N
def BV_spec_l34Yes {β : Type} (N : Nat) (a0 : Bool) (a1 : ByteArray) (k : ByteArray → Option β) : Option β :=
(cond a0
(k a1)
(k ByteArray.empty))
theorem t_spec_l34Yes {β : Type} (N : Nat) (a0 : Bool) (a1 : ByteArray) (k : ByteArray → Option β) : spec_l34Yes N a0 a1 k = BV_spec_l34Yes N a0 a1 k := by
  unfold spec_l34Yes BV_spec_l34Yes
  rfl
theorem ve75_0 {β : Type} (N : Nat)  (a0 : Bool) (a1 : ByteArray) (K : TV → Option β) : evFn lay (VE75 N) Tryd.f75 [.v (.one (.bool a0)), .v (.one (.str a1))] K = BV_spec_l34Yes N a0 a1 (fun z2 => K (.v (.one (.str z2)))) := by kernel_rfl
theorem e75_0 {β : Type} (N : Nat)  (a0 : Bool) (a1 : ByteArray) (K : TV → Option β) : evFn lay (E75 N) Tryd.f75 [.v (.one (.bool a0)), .v (.one (.str a1))] K = spec_l34Yes N a0 a1 (fun z2 => K (.v (.one (.str z2)))) := (ve75_0 N a0 a1 K).trans (t_spec_l34Yes N a0 a1 (fun z2 => K (.v (.one (.str z2))))).symm
theorem o75 {β : Type} (N : Nat) : SpecOK (β := β) inv Tryd.prog 75 (S75 N) := by
  refine spec_of lay_ok mixed (E := E75 N) (specs_loops specs_nil) muts_nil gs_nil Tryd.func75 (by kernel_rfl) 0 (by kernel_rfl) trivial fun args K r h => ?_
  unfold S75 VS75 at h
  split at h
  · exact (e75_0 N _ _ _).trans h
  · cases h
def VS25 {β : Type} (N : Nat) (q_spec_GameLine : (a0 : Int) → (a1 : Int) → (k : ByteArray → Option β) → Option β) : Rv.Spec β := fun args K => match args with
  | [.v (.agg [.int .i64 a0, .int .i64 a1])] => q_spec_GameLine a0 a1 (fun z2 => K (.v (.one (.str z2))))
  | _ => none
def S25 {β : Type} (N : Nat) : Rv.Spec β := VS25 N (spec_GameLine N)
def VE25 {β : Type} (N : Nat) (q_spec_IsSimpleGame : (a0 : Int) → (a1 : Int) → (k : Bool → Option β) → Option β) (q_spec_MinimalPoints : (a0 : Int) → (a1 : Int) → (k : List Int → Option β) → Option β) (q_spec_l34Numbers : (a0 : List Int) → (k : ByteArray → Option β) → Option β) (q_spec_BanzhafNumbers : (a0 : Int) → (a1 : Int) → (k : List Int → Option β) → Option β) (q_spec_ShapleyNumbers : (a0 : Int) → (a1 : Int) → (k : List Int → Option β) → Option β) (q_spec_VetoPlayers : (a0 : Int) → (a1 : Int) → (k : List Int → Option β) → Option β) (q_spec_DummyPlayers : (a0 : Int) → (a1 : Int) → (k : List Int → Option β) → Option β) (q_spec_IsProperGame : (a0 : Int) → (a1 : Int) → (k : Bool → Option β) → Option β) (q_spec_l34Yes : (a0 : Bool) → (a1 : ByteArray) → (k : ByteArray → Option β) → Option β) : Env β := ⟨[(69, VS69 N q_spec_IsSimpleGame), (70, VS70 N q_spec_MinimalPoints), (52, VS52 N q_spec_l34Numbers), (71, VS71 N q_spec_BanzhafNumbers), (72, VS72 N q_spec_ShapleyNumbers), (73, VS73 N q_spec_VetoPlayers), (74, VS74 N q_spec_DummyPlayers), (76, VS76 N q_spec_IsProperGame), (75, VS75 N q_spec_l34Yes)], [], [], [], ⟨[], [], []⟩⟩
def E25 {β : Type} (N : Nat) : Env β := VE25 N (spec_IsSimpleGame N) (spec_MinimalPoints N) (spec_l34Numbers N) (spec_BanzhafNumbers N) (spec_ShapleyNumbers N) (spec_VetoPlayers N) (spec_DummyPlayers N) (spec_IsProperGame N) (spec_l34Yes N)
def BV_spec_GameLine {β : Type} (N : Nat) (q_spec_IsSimpleGame : (a0 : Int) → (a1 : Int) → (k : Bool → Option β) → Option β) (q_spec_MinimalPoints : (a0 : Int) → (a1 : Int) → (k : List Int → Option β) → Option β) (q_spec_l34Numbers : (a0 : List Int) → (k : ByteArray → Option β) → Option β) (q_spec_BanzhafNumbers : (a0 : Int) → (a1 : Int) → (k : List Int → Option β) → Option β) (q_spec_ShapleyNumbers : (a0 : Int) → (a1 : Int) → (k : List Int → Option β) → Option β) (q_spec_VetoPlayers : (a0 : Int) → (a1 : Int) → (k : List Int → Option β) → Option β) (q_spec_DummyPlayers : (a0 : Int) → (a1 : Int) → (k : List Int → Option β) → Option β) (q_spec_IsProperGame : (a0 : Int) → (a1 : Int) → (k : Bool → Option β) → Option β) (q_spec_l34Yes : (a0 : Bool) → (a1 : ByteArray) → (k : ByteArray → Option β) → Option β) (a0 : Int) (a1 : Int) (k : ByteArray → Option β) : Option β :=
q_spec_IsSimpleGame a0 a1 fun r3 =>
(cond (!r3)
(k ByteArray.empty)
(q_spec_MinimalPoints a0 a1 fun r4 =>
q_spec_l34Numbers r4 fun r5 =>
(gd ((decide (((strOf [103, 97, 109, 101, 32, 109, 105, 110, 105, 109, 97, 108, 32])).size + r5.size ≤ 9223372036854775807)))
((gd ((decide ((((strOf [103, 97, 109, 101, 32, 109, 105, 110, 105, 109, 97, 108, 32]) ++ r5)).size + ((strOf [32, 98, 97, 110, 122, 104, 97, 102, 32])).size ≤ 9223372036854775807)))
(q_spec_BanzhafNumbers a0 a1 fun r6 =>
q_spec_l34Numbers r6 fun r7 =>
(gd ((decide (((((strOf [103, 97, 109, 101, 32, 109, 105, 110, 105, 109, 97, 108, 32]) ++ r5) ++ (strOf [32, 98, 97, 110, 122, 104, 97, 102, 32]))).size + r7.size ≤ 9223372036854775807)))
((gd ((decide ((((((strOf [103, 97, 109, 101, 32, 109, 105, 110, 105, 109, 97, 108, 32]) ++ r5) ++ (strOf [32, 98, 97, 110, 122, 104, 97, 102, 32])) ++ r7)).size + ((strOf [32, 115, 104, 97, 112, 108, 101, 121, 32])).size ≤ 9223372036854775807)))
(q_spec_ShapleyNumbers a0 a1 fun r8 =>
q_spec_l34Numbers r8 fun r9 =>
(gd ((decide (((((((strOf [103, 97, 109, 101, 32, 109, 105, 110, 105, 109, 97, 108, 32]) ++ r5) ++ (strOf [32, 98, 97, 110, 122, 104, 97, 102, 32])) ++ r7) ++ (strOf [32, 115, 104, 97, 112, 108, 101, 121, 32]))).size + r9.size ≤ 9223372036854775807)))
((gd ((decide ((((((((strOf [103, 97, 109, 101, 32, 109, 105, 110, 105, 109, 97, 108, 32]) ++ r5) ++ (strOf [32, 98, 97, 110, 122, 104, 97, 102, 32])) ++ r7) ++ (strOf [32, 115, 104, 97, 112, 108, 101, 121, 32])) ++ r9)).size + ((strOf [32, 118, 101, 116, 111, 32])).size ≤ 9223372036854775807)))
(q_spec_VetoPlayers a0 a1 fun r10 =>
q_spec_l34Numbers r10 fun r11 =>
(gd ((decide (((((((((strOf [103, 97, 109, 101, 32, 109, 105, 110, 105, 109, 97, 108, 32]) ++ r5) ++ (strOf [32, 98, 97, 110, 122, 104, 97, 102, 32])) ++ r7) ++ (strOf [32, 115, 104, 97, 112, 108, 101, 121, 32])) ++ r9) ++ (strOf [32, 118, 101, 116, 111, 32]))).size + r11.size ≤ 9223372036854775807)))
((gd ((decide ((((((((((strOf [103, 97, 109, 101, 32, 109, 105, 110, 105, 109, 97, 108, 32]) ++ r5) ++ (strOf [32, 98, 97, 110, 122, 104, 97, 102, 32])) ++ r7) ++ (strOf [32, 115, 104, 97, 112, 108, 101, 121, 32])) ++ r9) ++ (strOf [32, 118, 101, 116, 111, 32])) ++ r11)).size + ((strOf [32, 100, 117, 109, 109, 105, 101, 115, 32])).size ≤ 9223372036854775807)))
(q_spec_DummyPlayers a0 a1 fun r12 =>
q_spec_l34Numbers r12 fun r13 =>
(gd ((decide (((((((((((strOf [103, 97, 109, 101, 32, 109, 105, 110, 105, 109, 97, 108, 32]) ++ r5) ++ (strOf [32, 98, 97, 110, 122, 104, 97, 102, 32])) ++ r7) ++ (strOf [32, 115, 104, 97, 112, 108, 101, 121, 32])) ++ r9) ++ (strOf [32, 118, 101, 116, 111, 32])) ++ r11) ++ (strOf [32, 100, 117, 109, 109, 105, 101, 115, 32]))).size + r13.size ≤ 9223372036854775807)))
(q_spec_IsProperGame a0 a1 fun r14 =>
q_spec_l34Yes r14 ((strOf [32, 112, 114, 111, 112, 101, 114])) fun r15 =>
(gd ((decide ((((((((((((strOf [103, 97, 109, 101, 32, 109, 105, 110, 105, 109, 97, 108, 32]) ++ r5) ++ (strOf [32, 98, 97, 110, 122, 104, 97, 102, 32])) ++ r7) ++ (strOf [32, 115, 104, 97, 112, 108, 101, 121, 32])) ++ r9) ++ (strOf [32, 118, 101, 116, 111, 32])) ++ r11) ++ (strOf [32, 100, 117, 109, 109, 105, 101, 115, 32])) ++ r13)).size + r15.size ≤ 9223372036854775807)))
(k ((((((((((((strOf [103, 97, 109, 101, 32, 109, 105, 110, 105, 109, 97, 108, 32]) ++ r5) ++ (strOf [32, 98, 97, 110, 122, 104, 97, 102, 32])) ++ r7) ++ (strOf [32, 115, 104, 97, 112, 108, 101, 121, 32])) ++ r9) ++ (strOf [32, 118, 101, 116, 111, 32])) ++ r11) ++ (strOf [32, 100, 117, 109, 109, 105, 101, 115, 32])) ++ r13) ++ r15))))))))))))))))))))))))
theorem t_spec_GameLine {β : Type} (N : Nat) (a0 : Int) (a1 : Int) (k : ByteArray → Option β) : spec_GameLine N a0 a1 k = BV_spec_GameLine N (spec_IsSimpleGame N) (spec_MinimalPoints N) (spec_l34Numbers N) (spec_BanzhafNumbers N) (spec_ShapleyNumbers N) (spec_VetoPlayers N) (spec_DummyPlayers N) (spec_IsProperGame N) (spec_l34Yes N) a0 a1 k := by
  unfold spec_GameLine BV_spec_GameLine
  rfl
theorem ve25_0 {β : Type} (N : Nat) (q_spec_IsSimpleGame : (a0 : Int) → (a1 : Int) → (k : Bool → Option β) → Option β) (q_spec_MinimalPoints : (a0 : Int) → (a1 : Int) → (k : List Int → Option β) → Option β) (q_spec_l34Numbers : (a0 : List Int) → (k : ByteArray → Option β) → Option β) (q_spec_BanzhafNumbers : (a0 : Int) → (a1 : Int) → (k : List Int → Option β) → Option β) (q_spec_ShapleyNumbers : (a0 : Int) → (a1 : Int) → (k : List Int → Option β) → Option β) (q_spec_VetoPlayers : (a0 : Int) → (a1 : Int) → (k : List Int → Option β) → Option β) (q_spec_DummyPlayers : (a0 : Int) → (a1 : Int) → (k : List Int → Option β) → Option β) (q_spec_IsProperGame : (a0 : Int) → (a1 : Int) → (k : Bool → Option β) → Option β) (q_spec_l34Yes : (a0 : Bool) → (a1 : ByteArray) → (k : ByteArray → Option β) → Option β)  (a0 : Int) (a1 : Int) (K : TV → Option β) : evFn lay (VE25 N q_spec_IsSimpleGame q_spec_MinimalPoints q_spec_l34Numbers q_spec_BanzhafNumbers q_spec_ShapleyNumbers q_spec_VetoPlayers q_spec_DummyPlayers q_spec_IsProperGame q_spec_l34Yes) Tryd.f25 [.v (.agg [.int .i64 a0, .int .i64 a1])] K = BV_spec_GameLine N q_spec_IsSimpleGame q_spec_MinimalPoints q_spec_l34Numbers q_spec_BanzhafNumbers q_spec_ShapleyNumbers q_spec_VetoPlayers q_spec_DummyPlayers q_spec_IsProperGame q_spec_l34Yes a0 a1 (fun z2 => K (.v (.one (.str z2)))) := by kernel_rfl
theorem e25_0 {β : Type} (N : Nat)  (a0 : Int) (a1 : Int) (K : TV → Option β) : evFn lay (E25 N) Tryd.f25 [.v (.agg [.int .i64 a0, .int .i64 a1])] K = spec_GameLine N a0 a1 (fun z2 => K (.v (.one (.str z2)))) := (ve25_0 N (spec_IsSimpleGame N) (spec_MinimalPoints N) (spec_l34Numbers N) (spec_BanzhafNumbers N) (spec_ShapleyNumbers N) (spec_VetoPlayers N) (spec_DummyPlayers N) (spec_IsProperGame N) (spec_l34Yes N) a0 a1 K).trans (t_spec_GameLine N a0 a1 (fun z2 => K (.v (.one (.str z2))))).symm
theorem o25 {β : Type} (N : Nat) : SpecOK (β := β) inv Tryd.prog 25 (S25 N) := by
  refine spec_of lay_ok mixed (E := E25 N) (specs_loops (specs_cons (o69 N) (specs_cons (o70 N) (specs_cons (o52 N) (specs_cons (o71 N) (specs_cons (o72 N) (specs_cons (o73 N) (specs_cons (o74 N) (specs_cons (o76 N) (specs_cons (o75 N) specs_nil)))))))))) muts_nil gs_nil Tryd.func25 (by kernel_rfl) 0 (by kernel_rfl) trivial fun args K r h => ?_
  unfold S25 VS25 at h
  split at h
  · exact (e25_0 N _ _ _).trans h
  · cases h
def VS46 {β : Type} (N : Nat) (q_impl_isBits : (a0 : Int) → (k : Bool → Option β) → Option β) : Rv.Spec β := fun args K => match args with
  | [.v (.one (.int .i64 a0))] => q_impl_isBits a0 (fun z1 => K (.v (.one (.bool z1))))
  | _ => none
def S46 {β : Type} (N : Nat) : Rv.Spec β := VS46 N (impl_isBits N)
def VE46 {β : Type} (N : Nat) : Env β := ⟨[], [], [], [], ⟨[], [], []⟩⟩
def E46 {β : Type} (N : Nat) : Env β := VE46 N
def BV_impl_isBits {β : Type} (N : Nat) (a0 : Int) (k : Bool → Option β) : Option β :=
(cond ((decide (a0 ≥ 0)))
(k ((decide (a0 ≤ 5))))
(k false))
theorem t_impl_isBits {β : Type} (N : Nat) (a0 : Int) (k : Bool → Option β) : impl_isBits N a0 k = BV_impl_isBits N a0 k := by
  unfold impl_isBits BV_impl_isBits
  rfl
theorem ve46_0 {β : Type} (N : Nat)  (a0 : Int) (K : TV → Option β) : evFn lay (VE46 N) Tryd.f46 [.v (.one (.int .i64 a0))] K = BV_impl_isBits N a0 (fun z1 => K (.v (.one (.bool z1)))) := by kernel_rfl
theorem e46_0 {β : Type} (N : Nat)  (a0 : Int) (K : TV → Option β) : evFn lay (E46 N) Tryd.f46 [.v (.one (.int .i64 a0))] K = impl_isBits N a0 (fun z1 => K (.v (.one (.bool z1)))) := (ve46_0 N a0 K).trans (t_impl_isBits N a0 (fun z1 => K (.v (.one (.bool z1))))).symm
theorem o46 {β : Type} (N : Nat) : SpecOK (β := β) inv Tryd.prog 46 (S46 N) := by
  refine spec_of lay_ok mixed (E := E46 N) (specs_loops specs_nil) muts_nil gs_nil Tryd.func46 (by kernel_rfl) 0 (by kernel_rfl) trivial fun args K r h => ?_
  unfold S46 VS46 at h
  split at h
  · exact (e46_0 N _ _).trans h
  · cases h
def VS125 {β : Type} (N : Nat) (q_impl_Table_size : (a0 : Int) → (a1 : Int) → (k : Int → Option β) → Option β) : Rv.Spec β := fun args K => match args with
  | [.v (.agg [.int .i64 a0, .int .i64 a1])] => q_impl_Table_size a0 a1 (fun z2 => K (.v (.one (.int .i64 z2))))
  | _ => none
def S125 {β : Type} (N : Nat) : Rv.Spec β := VS125 N (impl_Table_size N)
def VE125 {β : Type} (N : Nat) : Env β := ⟨[], [], [], [], ⟨[], [], []⟩⟩
def E125 {β : Type} (N : Nat) : Env β := VE125 N
def BV_impl_Table_size {β : Type} (N : Nat) (a0 : Int) (a1 : Int) (k : Int → Option β) : Option β :=
(gd ((decide (0 ≤ a0)))
(k ((shlI .i64 1 a0))))
theorem t_impl_Table_size {β : Type} (N : Nat) (a0 : Int) (a1 : Int) (k : Int → Option β) : impl_Table_size N a0 a1 k = BV_impl_Table_size N a0 a1 k := by
  unfold impl_Table_size BV_impl_Table_size
  rfl
theorem ve125_0 {β : Type} (N : Nat)  (a0 : Int) (a1 : Int) (K : TV → Option β) : evFn lay (VE125 N) Tryd.f125 [.v (.agg [.int .i64 a0, .int .i64 a1])] K = BV_impl_Table_size N a0 a1 (fun z2 => K (.v (.one (.int .i64 z2)))) := by kernel_rfl
theorem e125_0 {β : Type} (N : Nat)  (a0 : Int) (a1 : Int) (K : TV → Option β) : evFn lay (E125 N) Tryd.f125 [.v (.agg [.int .i64 a0, .int .i64 a1])] K = impl_Table_size N a0 a1 (fun z2 => K (.v (.one (.int .i64 z2)))) := (ve125_0 N a0 a1 K).trans (t_impl_Table_size N a0 a1 (fun z2 => K (.v (.one (.int .i64 z2))))).symm
theorem o125 {β : Type} (N : Nat) : SpecOK (β := β) inv Tryd.prog 125 (S125 N) := by
  refine spec_of lay_ok mixed (E := E125 N) (specs_loops specs_nil) muts_nil gs_nil Tryd.func125 (by kernel_rfl) 0 (by kernel_rfl) trivial fun args K r h => ?_
  unfold S125 VS125 at h
  split at h
  · exact (e125_0 N _ _ _).trans h
  · cases h
def VS59 {β : Type} (N : Nat) (q_impl_IsTable : (a0 : Int) → (a1 : Int) → (k : Bool → Option β) → Option β) : Rv.Spec β := fun args K => match args with
  | [.v (.agg [.int .i64 a0, .int .i64 a1])] => q_impl_IsTable a0 a1 (fun z2 => K (.v (.one (.bool z2))))
  | _ => none
def S59 {β : Type} (N : Nat) : Rv.Spec β := VS59 N (impl_IsTable N)
def VE59 {β : Type} (N : Nat) (q_impl_isBits : (a0 : Int) → (k : Bool → Option β) → Option β) (q_impl_Table_size : (a0 : Int) → (a1 : Int) → (k : Int → Option β) → Option β) : Env β := ⟨[(46, VS46 N q_impl_isBits), (125, VS125 N q_impl_Table_size)], [], [], [], ⟨[], [], []⟩⟩
def E59 {β : Type} (N : Nat) : Env β := VE59 N (impl_isBits N) (impl_Table_size N)
def BV_impl_IsTable {β : Type} (N : Nat) (q_impl_isBits : (a0 : Int) → (k : Bool → Option β) → Option β) (q_impl_Table_size : (a0 : Int) → (a1 : Int) → (k : Int → Option β) → Option β) (a0 : Int) (a1 : Int) (k : Bool → Option β) : Option β :=
q_impl_isBits a0 fun r3 =>
(cond r3
((cond ((decide (a1 ≥ 0)))
(q_impl_Table_size a0 a1 fun r4 =>
(gd ((decide (0 ≤ r4)))
(k (((shrI .i64 a1 r4) == 0)))))
(k false)))
(k false))
theorem t_impl_IsTable {β : Type} (N : Nat) (a0 : Int) (a1 : Int) (k : Bool → Option β) : impl_IsTable N a0 a1 k = BV_impl_IsTable N (impl_isBits N) (impl_Table_size N) a0 a1 k := by
  unfold impl_IsTable BV_impl_IsTable
  rfl
theorem ve59_0 {β : Type} (N : Nat) (q_impl_isBits : (a0 : Int) → (k : Bool → Option β) → Option β) (q_impl_Table_size : (a0 : Int) → (a1 : Int) → (k : Int → Option β) → Option β)  (a0 : Int) (a1 : Int) (K : TV → Option β) : evFn lay (VE59 N q_impl_isBits q_impl_Table_size) Tryd.f59 [.v (.agg [.int .i64 a0, .int .i64 a1])] K = BV_impl_IsTable N q_impl_isBits q_impl_Table_size a0 a1 (fun z2 => K (.v (.one (.bool z2)))) := by kernel_rfl
theorem e59_0 {β : Type} (N : Nat)  (a0 : Int) (a1 : Int) (K : TV → Option β) : evFn lay (E59 N) Tryd.f59 [.v (.agg [.int .i64 a0, .int .i64 a1])] K = impl_IsTable N a0 a1 (fun z2 => K (.v (.one (.bool z2)))) := (ve59_0 N (impl_isBits N) (impl_Table_size N) a0 a1 K).trans (t_impl_IsTable N a0 a1 (fun z2 => K (.v (.one (.bool z2))))).symm
theorem o59 {β : Type} (N : Nat) : SpecOK (β := β) inv Tryd.prog 59 (S59 N) := by
  refine spec_of lay_ok mixed (E := E59 N) (specs_loops (specs_cons (o46 N) (specs_cons (o125 N) specs_nil))) muts_nil gs_nil Tryd.func59 (by kernel_rfl) 0 (by kernel_rfl) trivial fun args K r h => ?_
  unfold S59 VS59 at h
  split at h
  · exact (e59_0 N _ _ _).trans h
  · cases h
def VS196 {β : Type} (N : Nat) (q_impl_spread : (a0 : Int) → (a1 : Int) → (a2 : Int) → (k : Int → Option β) → Option β) : Rv.Spec β := fun args K => match args with
  | [.v (.one (.int .i64 a0)), .v (.one (.int .i64 a1)), .v (.one (.int .i64 a2))] => q_impl_spread a0 a1 a2 (fun z3 => K (.v (.one (.int .i64 z3))))
  | _ => none
def S196 {β : Type} (N : Nat) : Rv.Spec β := VS196 N (impl_spread N)
def VE196 {β : Type} (N : Nat) : Env β := ⟨[], [], [], [], ⟨[], [], []⟩⟩
def E196 {β : Type} (N : Nat) : Env β := VE196 N
def BV_impl_spread {β : Type} (N : Nat) (a0 : Int) (a1 : Int) (a2 : Int) (k : Int → Option β) : Option β :=
(gd ((decide (0 ≤ a1)))
((gd ((decide (0 ≤ a1)))
(k ((bits .or .i64 (bits .or .i64 (shlI .i64 (w64 (a0 - (bits .and .i64 a0 (w64 ((shlI .i64 1 a1) - 1))))) 1) (shlI .i64 a2 a1)) (bits .and .i64 a0 (w64 ((shlI .i64 1 a1) - 1)))))))))
theorem t_impl_spread {β : Type} (N : Nat) (a0 : Int) (a1 : Int) (a2 : Int) (k : Int → Option β) : impl_spread N a0 a1 a2 k = BV_impl_spread N a0 a1 a2 k := by
  unfold impl_spread BV_impl_spread
  rfl
theorem ve196_0 {β : Type} (N : Nat)  (a0 : Int) (a1 : Int) (a2 : Int) (K : TV → Option β) : evFn lay (VE196 N) Tryd.f196 [.v (.one (.int .i64 a0)), .v (.one (.int .i64 a1)), .v (.one (.int .i64 a2))] K = BV_impl_spread N a0 a1 a2 (fun z3 => K (.v (.one (.int .i64 z3)))) := by kernel_rfl
theorem e196_0 {β : Type} (N : Nat)  (a0 : Int) (a1 : Int) (a2 : Int) (K : TV → Option β) : evFn lay (E196 N) Tryd.f196 [.v (.one (.int .i64 a0)), .v (.one (.int .i64 a1)), .v (.one (.int .i64 a2))] K = impl_spread N a0 a1 a2 (fun z3 => K (.v (.one (.int .i64 z3)))) := (ve196_0 N a0 a1 a2 K).trans (t_impl_spread N a0 a1 a2 (fun z3 => K (.v (.one (.int .i64 z3))))).symm
theorem o196 {β : Type} (N : Nat) : SpecOK (β := β) inv Tryd.prog 196 (S196 N) := by
  refine spec_of lay_ok mixed (E := E196 N) (specs_loops specs_nil) muts_nil gs_nil Tryd.func196 (by kernel_rfl) 0 (by kernel_rfl) trivial fun args K r h => ?_
  unfold S196 VS196 at h
  split at h
  · exact (e196_0 N _ _ _ _).trans h
  · cases h
def VS128 {β : Type} (N : Nat) (q_impl_Table_at : (a0 : Int) → (a1 : Int) → (a2 : Int) → (k : Int → Option β) → Option β) : Rv.Spec β := fun args K => match args with
  | [.v (.agg [.int .i64 a0, .int .i64 a1]), .v (.one (.int .i64 a2))] => q_impl_Table_at a0 a1 a2 (fun z3 => K (.v (.one (.int .i64 z3))))
  | _ => none
def S128 {β : Type} (N : Nat) : Rv.Spec β := VS128 N (impl_Table_at N)
def VE128 {β : Type} (N : Nat) : Env β := ⟨[], [], [], [], ⟨[], [], []⟩⟩
def E128 {β : Type} (N : Nat) : Env β := VE128 N
def BV_impl_Table_at {β : Type} (N : Nat) (a0 : Int) (a1 : Int) (a2 : Int) (k : Int → Option β) : Option β :=
(gd ((decide (0 ≤ a2)))
(k ((bits .and .i64 (shrI .i64 a1 a2) 1))))
theorem t_impl_Table_at {β : Type} (N : Nat) (a0 : Int) (a1 : Int) (a2 : Int) (k : Int → Option β) : impl_Table_at N a0 a1 a2 k = BV_impl_Table_at N a0 a1 a2 k := by
  unfold impl_Table_at BV_impl_Table_at
  rfl
theorem ve128_0 {β : Type} (N : Nat)  (a0 : Int) (a1 : Int) (a2 : Int) (K : TV → Option β) : evFn lay (VE128 N) Tryd.f128 [.v (.agg [.int .i64 a0, .int .i64 a1]), .v (.one (.int .i64 a2))] K = BV_impl_Table_at N a0 a1 a2 (fun z3 => K (.v (.one (.int .i64 z3)))) := by kernel_rfl
theorem e128_0 {β : Type} (N : Nat)  (a0 : Int) (a1 : Int) (a2 : Int) (K : TV → Option β) : evFn lay (E128 N) Tryd.f128 [.v (.agg [.int .i64 a0, .int .i64 a1]), .v (.one (.int .i64 a2))] K = impl_Table_at N a0 a1 a2 (fun z3 => K (.v (.one (.int .i64 z3)))) := (ve128_0 N a0 a1 a2 K).trans (t_impl_Table_at N a0 a1 a2 (fun z3 => K (.v (.one (.int .i64 z3))))).symm
theorem o128 {β : Type} (N : Nat) : SpecOK (β := β) inv Tryd.prog 128 (S128 N) := by
  refine spec_of lay_ok mixed (E := E128 N) (specs_loops specs_nil) muts_nil gs_nil Tryd.func128 (by kernel_rfl) 0 (by kernel_rfl) trivial fun args K r h => ?_
  unfold S128 VS128 at h
  split at h
  · exact (e128_0 N _ _ _ _).trans h
  · cases h
def VS195 {β : Type} (N : Nat) (q_impl_Table_restrict_1 : (a0 : Int) → (c0 : Int) → (c1 : Int) → (c2 : Int) → (c3 : Int) → (k : Bool → Option β) → Option β) : Rv.Spec β := fun args K => match args with
  | [.v (.one (.int .i64 a0)), .v (.one (.cref [.int .i64 c0, .int .i64 c1] 0)), .v (.one (.cref [.int .i64 c2] 0)), .v (.one (.cref [.int .i64 c3] 0))] => q_impl_Table_restrict_1 a0 c0 c1 c2 c3 (fun z1 => K (.v (.one (.bool z1))))
  | _ => none
def S195 {β : Type} (N : Nat) : Rv.Spec β := VS195 N (impl_Table_restrict_1 N)
def VE195 {β : Type} (N : Nat) (q_impl_spread : (a0 : Int) → (a1 : Int) → (a2 : Int) → (k : Int → Option β) → Option β) (q_impl_Table_at : (a0 : Int) → (a1 : Int) → (a2 : Int) → (k : Int → Option β) → Option β) : Env β := ⟨[(196, VS196 N q_impl_spread), (128, VS128 N q_impl_Table_at)], [], [], [], ⟨[], [], []⟩⟩
def E195 {β : Type} (N : Nat) : Env β := VE195 N (impl_spread N) (impl_Table_at N)
def BV_impl_Table_restrict_1 {β : Type} (N : Nat) (q_impl_spread : (a0 : Int) → (a1 : Int) → (a2 : Int) → (k : Int → Option β) → Option β) (q_impl_Table_at : (a0 : Int) → (a1 : Int) → (a2 : Int) → (k : Int → Option β) → Option β) (a0 : Int) (c0 : Int) (c1 : Int) (c2 : Int) (c3 : Int) (k : Bool → Option β) : Option β :=
q_impl_spread a0 c2 c3 fun r2 =>
q_impl_Table_at c0 c1 r2 fun r3 =>
k ((r3 == 1))
theorem t_impl_Table_restrict_1 {β : Type} (N : Nat) (a0 : Int) (c0 : Int) (c1 : Int) (c2 : Int) (c3 : Int) (k : Bool → Option β) : impl_Table_restrict_1 N a0 c0 c1 c2 c3 k = BV_impl_Table_restrict_1 N (impl_spread N) (impl_Table_at N) a0 c0 c1 c2 c3 k := by
  unfold impl_Table_restrict_1 BV_impl_Table_restrict_1
  rfl
theorem ve195_0 {β : Type} (N : Nat) (q_impl_spread : (a0 : Int) → (a1 : Int) → (a2 : Int) → (k : Int → Option β) → Option β) (q_impl_Table_at : (a0 : Int) → (a1 : Int) → (a2 : Int) → (k : Int → Option β) → Option β)  (a0 : Int) (c0 : Int) (c1 : Int) (c2 : Int) (c3 : Int) (K : TV → Option β) : evFn lay (VE195 N q_impl_spread q_impl_Table_at) Tryd.f195 [.v (.one (.int .i64 a0)), .v (.one (.cref [.int .i64 c0, .int .i64 c1] 0)), .v (.one (.cref [.int .i64 c2] 0)), .v (.one (.cref [.int .i64 c3] 0))] K = BV_impl_Table_restrict_1 N q_impl_spread q_impl_Table_at a0 c0 c1 c2 c3 (fun z1 => K (.v (.one (.bool z1)))) := by kernel_rfl
theorem e195_0 {β : Type} (N : Nat)  (a0 : Int) (c0 : Int) (c1 : Int) (c2 : Int) (c3 : Int) (K : TV → Option β) : evFn lay (E195 N) Tryd.f195 [.v (.one (.int .i64 a0)), .v (.one (.cref [.int .i64 c0, .int .i64 c1] 0)), .v (.one (.cref [.int .i64 c2] 0)), .v (.one (.cref [.int .i64 c3] 0))] K = impl_Table_restrict_1 N a0 c0 c1 c2 c3 (fun z1 => K (.v (.one (.bool z1)))) := (ve195_0 N (impl_spread N) (impl_Table_at N) a0 c0 c1 c2 c3 K).trans (t_impl_Table_restrict_1 N a0 c0 c1 c2 c3 (fun z1 => K (.v (.one (.bool z1))))).symm
theorem o195 {β : Type} (N : Nat) : SpecOK (β := β) inv Tryd.prog 195 (S195 N) := by
  refine spec_of lay_ok mixed (E := E195 N) (specs_loops (specs_cons (o196 N) (specs_cons (o128 N) specs_nil))) muts_nil gs_nil Tryd.func195 (by kernel_rfl) 0 (by kernel_rfl) trivial fun args K r h => ?_
  unfold S195 VS195 at h
  split at h
  · exact (e195_0 N _ _ _ _ _ _).trans h
  · cases h
def VS197 {β : Type} (N : Nat) (q_impl_Table_shift_1 : (a0 : Int) → (c0 : Int) → (c1 : Int) → (c2 : Int) → (k : Bool → Option β) → Option β) : Rv.Spec β := fun args K => match args with
  | [.v (.one (.int .i64 a0)), .v (.one (.cref [.int .i64 c0, .int .i64 c1] 0)), .v (.one (.cref [.int .i64 c2] 0))] => q_impl_Table_shift_1 a0 c0 c1 c2 (fun z1 => K (.v (.one (.bool z1))))
  | _ => none
def S197 {β : Type} (N : Nat) : Rv.Spec β := VS197 N (impl_Table_shift_1 N)
def VE197 {β : Type} (N : Nat) (q_impl_Table_at : (a0 : Int) → (a1 : Int) → (a2 : Int) → (k : Int → Option β) → Option β) : Env β := ⟨[(128, VS128 N q_impl_Table_at)], [], [], [], ⟨[], [], []⟩⟩
def E197 {β : Type} (N : Nat) : Env β := VE197 N (impl_Table_at N)
def BV_impl_Table_shift_1 {β : Type} (N : Nat) (q_impl_Table_at : (a0 : Int) → (a1 : Int) → (a2 : Int) → (k : Int → Option β) → Option β) (a0 : Int) (c0 : Int) (c1 : Int) (c2 : Int) (k : Bool → Option β) : Option β :=
q_impl_Table_at c0 c1 ((bits .xor .i64 a0 c2)) fun r2 =>
k ((r2 == 1))
theorem t_impl_Table_shift_1 {β : Type} (N : Nat) (a0 : Int) (c0 : Int) (c1 : Int) (c2 : Int) (k : Bool → Option β) : impl_Table_shift_1 N a0 c0 c1 c2 k = BV_impl_Table_shift_1 N (impl_Table_at N) a0 c0 c1 c2 k := by
  unfold impl_Table_shift_1 BV_impl_Table_shift_1
  rfl
theorem ve197_0 {β : Type} (N : Nat) (q_impl_Table_at : (a0 : Int) → (a1 : Int) → (a2 : Int) → (k : Int → Option β) → Option β)  (a0 : Int) (c0 : Int) (c1 : Int) (c2 : Int) (K : TV → Option β) : evFn lay (VE197 N q_impl_Table_at) Tryd.f197 [.v (.one (.int .i64 a0)), .v (.one (.cref [.int .i64 c0, .int .i64 c1] 0)), .v (.one (.cref [.int .i64 c2] 0))] K = BV_impl_Table_shift_1 N q_impl_Table_at a0 c0 c1 c2 (fun z1 => K (.v (.one (.bool z1)))) := by kernel_rfl
theorem e197_0 {β : Type} (N : Nat)  (a0 : Int) (c0 : Int) (c1 : Int) (c2 : Int) (K : TV → Option β) : evFn lay (E197 N) Tryd.f197 [.v (.one (.int .i64 a0)), .v (.one (.cref [.int .i64 c0, .int .i64 c1] 0)), .v (.one (.cref [.int .i64 c2] 0))] K = impl_Table_shift_1 N a0 c0 c1 c2 (fun z1 => K (.v (.one (.bool z1)))) := (ve197_0 N (impl_Table_at N) a0 c0 c1 c2 K).trans (t_impl_Table_shift_1 N a0 c0 c1 c2 (fun z1 => K (.v (.one (.bool z1))))).symm
theorem o197 {β : Type} (N : Nat) : SpecOK (β := β) inv Tryd.prog 197 (S197 N) := by
  refine spec_of lay_ok mixed (E := E197 N) (specs_loops (specs_cons (o128 N) specs_nil)) muts_nil gs_nil Tryd.func197 (by kernel_rfl) 0 (by kernel_rfl) trivial fun args K r h => ?_
  unfold S197 VS197 at h
  split at h
  · exact (e197_0 N _ _ _ _ _).trans h
  · cases h
def VS194 {β : Type} (N : Nat) (q_impl_makeTable : (a0 : Int) → (a1 : (Int → (Bool → Option β) → Option β)) → (k : Int → Int → Option β) → Option β) (q_impl_Table_restrict_1 : (a0 : Int) → (c0 : Int) → (c1 : Int) → (c2 : Int) → (c3 : Int) → (k : Bool → Option β) → Option β) (q_impl_Table_shift_1 : (a0 : Int) → (c0 : Int) → (c1 : Int) → (c2 : Int) → (k : Bool → Option β) → Option β) : Rv.Spec β := fun args K => match args with
  | [.v (.one (.int .i64 a0)), .v (.one (.dfn 195 [([.int .i64 q0, .int .i64 q1], 0), ([.int .i64 q2], 0), ([.int .i64 q3], 0)]))] => q_impl_makeTable a0 (fun x0 k => q_impl_Table_restrict_1 x0 q0 q1 q2 q3 k) (fun z2 z3 => K (.v (.agg [.int .i64 z2, .int .i64 z3])))
  | [.v (.one (.int .i64 a0)), .v (.one (.dfn 197 [([.int .i64 q0, .int .i64 q1], 0), ([.int .i64 q2], 0)]))] => q_impl_makeTable a0 (fun x0 k => q_impl_Table_shift_1 x0 q0 q1 q2 k) (fun z2 z3 => K (.v (.agg [.int .i64 z2, .int .i64 z3])))
  | _ => none
def S194 {β : Type} (N : Nat) : Rv.Spec β := VS194 N (impl_makeTable N) (impl_Table_restrict_1 N) (impl_Table_shift_1 N)
def h194_0_0 (q0 : Int) (q1 : Int) (q2 : Int) (q3 : Int) (v0 : Int) (v1 : Int) (v2 : Int) (v3 : Int) (v4 : Int) (v5 : Int) : St := ⟨.v (.one .und) :: .v (.one (.dfn 195 [([.int .i64 q0, .int .i64 q1], 0), ([.int .i64 q2], 0), ([.int .i64 q3], 0)])) :: .v (.one .und) :: .v (.one .und) :: .v (.one (.ptr 0 0)) :: .v (.one (.ptr 1 0)) :: .v (.one .und) :: .v (.one .und) :: .v (.one .und) :: .v (.one .und) :: .v (.one (.int .i64 v0)) :: .v (.one (.int .i64 v1)) :: .v (.one .und) :: .v (.one .und) :: .v (.one .und) :: .v (.one .und) :: .v (.one .und) :: .v (.one .und) :: .v (.one .und) :: .v (.one .und) :: .v (.one .und) :: .v (.one .und) :: .v (.one .und) :: .v (.one .und) :: .v (.one .und) :: [], [.cells 24 [.int .i64 v2, .int .i64 v3], .cells 24 [.int .i64 v4, .int .i64 v5]]⟩
def x194_0_0_k0 (q0 : Int) (q1 : Int) (q2 : Int) (q3 : Int) (y0 : Int) (y1 : Int) (y2 : Int) (y3 : Int) : St := ⟨.v (.one .und) :: .v (.one .und) :: .v (.one .und) :: .v (.one .und) :: .v (.one (.ptr 0 0)) :: .v (.one (.ptr 1 0)) :: .v (.one .und) :: .v (.one .und) :: .v (.one .und) :: .v (.one .und) :: .v (.one .und) :: .v (.one .und) :: .v (.one .und) :: .v (.one .und) :: .v (.one .und) :: .v (.one .und) :: .v (.one .und) :: .v (.one .und) :: .v (.one .und) :: .v (.one .und) :: .v (.one .und) :: .v (.one .und) :: .v (.one .und) :: .v (.one .und) :: .v (.one .und) :: [], [.cells 24 [.int .i64 y0, .int .i64 y1], .cells 24 [.int .i64 y2, .int .i64 y3]]⟩
def h194_0_1 (q0 : Int) (q1 : Int) (q2 : Int) (v0 : Int) (v1 : Int) (v2 : Int) (v3 : Int) (v4 : Int) (v5 : Int) : St := ⟨.v (.one .und) :: .v (.one (.dfn 197 [([.int .i64 q0, .int .i64 q1], 0), ([.int .i64 q2], 0)])) :: .v (.one .und) :: .v (.one .und) :: .v (.one (.ptr 0 0)) :: .v (.one (.ptr 1 0)) :: .v (.one .und) :: .v (.one .und) :: .v (.one .und) :: .v (.one .und) :: .v (.one (.int .i64 v0)) :: .v (.one (.int .i64 v1)) :: .v (.one .und) :: .v (.one .und) :: .v (.one .und) :: .v (.one .und) :: .v (.one .und) :: .v (.one .und) :: .v (.one .und) :: .v (.one .und) :: .v (.one .und) :: .v (.one .und) :: .v (.one .und) :: .v (.one .und) :: .v (.one .und) :: [], [.cells 24 [.int .i64 v2, .int .i64 v3], .cells 24 [.int .i64 v4, .int .i64 v5]]⟩
def x194_0_1_k0 (q0 : Int) (q1 : Int) (q2 : Int) (y0 : Int) (y1 : Int) (y2 : Int) (y3 : Int) : St := ⟨.v (.one .und) :: .v (.one .und) :: .v (.one .und) :: .v (.one .und) :: .v (.one (.ptr 0 0)) :: .v (.one (.ptr 1 0)) :: .v (.one .und) :: .v (.one .und) :: .v (.one .und) :: .v (.one .und) :: .v (.one .und) :: .v (.one .und) :: .v (.one .und) :: .v (.one .und) :: .v (.one .und) :: .v (.one .und) :: .v (.one .und) :: .v (.one .und) :: .v (.one .und) :: .v (.one .und) :: .v (.one .und) :: .v (.one .und) :: .v (.one .und) :: .v (.one .und) :: .v (.one .und) :: [], [.cells 24 [.int .i64 y0, .int .i64 y1], .cells 24 [.int .i64 y2, .int .i64 y3]]⟩
theorem fl194_0_0 (s : St) : refSt (h194_0_0 0 0 0 0 0 0 0 0 0 0) s = h194_0_0 (intF (nx .no (nx ([], 0) (dfnS (oneA (vT (nx tund s.tmps 1)))) 0).1 0)) (intF (nx .no (nx ([], 0) (dfnS (oneA (vT (nx tund s.tmps 1)))) 0).1 1)) (intF (nx .no (nx ([], 0) (dfnS (oneA (vT (nx tund s.tmps 1)))) 1).1 0)) (intF (nx .no (nx ([], 0) (dfnS (oneA (vT (nx tund s.tmps 1)))) 2).1 0)) (intS (oneA (vT (nx tund s.tmps 10)))) (intS (oneA (vT (nx tund s.tmps 11)))) (intS (nx .und (cellsB (nx .dead s.blks 0)) 0)) (intS (nx .und (cellsB (nx .dead s.blks 0)) 1)) (intS (nx .und (cellsB (nx .dead s.blks 1)) 0)) (intS (nx .und (cellsB (nx .dead s.blks 1)) 1)) := by kernel_rfl
theorem fl194_0_1 (s : St) : refSt (h194_0_1 0 0 0 0 0 0 0 0 0) s = h194_0_1 (intF (nx .no (nx ([], 0) (dfnS (oneA (vT (nx tund s.tmps 1)))) 0).1 0)) (intF (nx .no (nx ([], 0) (dfnS (oneA (vT (nx tund s.tmps 1)))) 0).1 1)) (intF (nx .no (nx ([], 0) (dfnS (oneA (vT (nx tund s.tmps 1)))) 1).1 0)) (intS (oneA (vT (nx tund s.tmps 10)))) (intS (oneA (vT (nx tund s.tmps 11)))) (intS (nx .und (cellsB (nx .dead s.blks 0)) 0)) (intS (nx .und (cellsB (nx .dead s.blks 0)) 1)) (intS (nx .und (cellsB (nx .dead s.blks 1)) 0)) (intS (nx .und (cellsB (nx .dead s.blks 1)) 1)) := by kernel_rfl
def VLS194_0 {β : Type} (N : Nat) (q_impl_makeTable_l0 : (a1 : (Int → (Bool → Option β) → Option β)) → Nat → Int → Int → Int → Int → Int → Int → (Int → Int → Int → Int → Option β) → Option β) (q_impl_Table_restrict_1 : (a0 : Int) → (c0 : Int) → (c1 : Int) → (c2 : Int) → (c3 : Int) → (k : Bool → Option β) → Option β) (q_impl_Table_shift_1 : (a0 : Int) → (c0 : Int) → (c1 : Int) → (c2 : Int) → (k : Bool → Option β) → Option β) : LSpec β := fun s K => cond (shpSt (h194_0_0 0 0 0 0 0 0 0 0 0 0) s) ((fun (q0 : Int) (q1 : Int) (q2 : Int) (q3 : Int) (v0 : Int) (v1 : Int) (v2 : Int) (v3 : Int) (v4 : Int) (v5 : Int) => q_impl_makeTable_l0 (fun x0 k => q_impl_Table_restrict_1 x0 q0 q1 q2 q3 k) N v0 v1 v2 v3 v4 v5 (fun y0 y1 y2 y3 => K (.exit 0) (x194_0_0_k0 q0 q1 q2 q3 y0 y1 y2 y3))) (intF (nx .no (nx ([], 0) (dfnS (oneA (vT (nx tund s.tmps 1)))) 0).1 0)) (intF (nx .no (nx ([], 0) (dfnS (oneA (vT (nx tund s.tmps 1)))) 0).1 1)) (intF (nx .no (nx ([], 0) (dfnS (oneA (vT (nx tund s.tmps 1)))) 1).1 0)) (intF (nx .no (nx ([], 0) (dfnS (oneA (vT (nx tund s.tmps 1)))) 2).1 0)) (intS (oneA (vT (nx tund s.tmps 10)))) (intS (oneA (vT (nx tund s.tmps 11)))) (intS (nx .und (cellsB (nx .dead s.blks 0)) 0)) (intS (nx .und (cellsB (nx .dead s.blks 0)) 1)) (intS (nx .und (cellsB (nx .dead s.blks 1)) 0)) (intS (nx .und (cellsB (nx .dead s.blks 1)) 1))) (cond (shpSt (h194_0_1 0 0 0 0 0 0 0 0 0) s) ((fun (q0 : Int) (q1 : Int) (q2 : Int) (v0 : Int) (v1 : Int) (v2 : Int) (v3 : Int) (v4 : Int) (v5 : Int) => q_impl_makeTable_l0 (fun x0 k => q_impl_Table_shift_1 x0 q0 q1 q2 k) N v0 v1 v2 v3 v4 v5 (fun y0 y1 y2 y3 => K (.exit 0) (x194_0_1_k0 q0 q1 q2 y0 y1 y2 y3))) (intF (nx .no (nx ([], 0) (dfnS (oneA (vT (nx tund s.tmps 1)))) 0).1 0)) (intF (nx .no (nx ([], 0) (dfnS (oneA (vT (nx tund s.tmps 1)))) 0).1 1)) (intF (nx .no (nx ([], 0) (dfnS (oneA (vT (nx tund s.tmps 1)))) 1).1 0)) (intS (oneA (vT (nx tund s.tmps 10)))) (intS (oneA (vT (nx tund s.tmps 11)))) (intS (nx .und (cellsB (nx .dead s.blks 0)) 0)) (intS (nx .und (cellsB (nx .dead s.blks 0)) 1)) (intS (nx .und (cellsB (nx .dead s.blks 1)) 0)) (intS (nx .und (cellsB (nx .dead s.blks 1)) 1))) (none))
def LS194_0 {β : Type} (N : Nat) : LSpec β := VLS194_0 N (impl_makeTable_l0 N) (impl_Table_restrict_1 N) (impl_Table_shift_1 N)
def VE194 {β : Type} (N : Nat) (q_impl_Table_restrict_1 : (a0 : Int) → (c0 : Int) → (c1 : Int) → (c2 : Int) → (c3 : Int) → (k : Bool → Option β) → Option β) (q_impl_Table_shift_1 : (a0 : Int) → (c0 : Int) → (c1 : Int) → (c2 : Int) → (k : Bool → Option β) → Option β) (q_impl_makeTable_l0 : (a1 : (Int → (Bool → Option β) → Option β)) → Nat → Int → Int → Int → Int → Int → Int → (Int → Int → Int → Int → Option β) → Option β) : Env β := ⟨[(195, VS195 N q_impl_Table_restrict_1), (197, VS197 N q_impl_Table_shift_1)], [], [(0, VLS194_0 N q_impl_makeTable_l0 q_impl_Table_restrict_1 q_impl_Table_shift_1)], [], ⟨[], [], []⟩⟩
def E194 {β : Type} (N : Nat) : Env β := VE194 N (impl_Table_restrict_1 N) (impl_Table_shift_1 N) (impl_makeTable_l0 N)
def BV_impl_makeTable_l0b {β : Type} (N : Nat) (a1 : (Int → (Bool → Option β) → Option β)) (v0 : Int) (v1 : Int) (v2 : Int) (v3 : Int) (v4 : Int) (v5 : Int) (rec_ : Int → Int → Int → Int → Int → Int → Option β) (k0 : Int → Int → Int → Int → Option β) : Option β :=
(cond ((decide (v1 < v0)))
(a1 v1 fun r4 =>
(cond r4
((gd ((decide (0 ≤ v1)))
(rec_ v0 ((w64 (v1 + 1))) v2 v3 v4 ((bits .or .i64 v5 (shlI .i64 1 v1))))))
(rec_ v0 ((w64 (v1 + 1))) v2 v3 v4 v5)))
(k0 v2 v3 v4 v5))
theorem t_impl_makeTable_l0b {β : Type} (N : Nat) (a1 : (Int → (Bool → Option β) → Option β)) (v0 : Int) (v1 : Int) (v2 : Int) (v3 : Int) (v4 : Int) (v5 : Int) (rec_ : Int → Int → Int → Int → Int → Int → Option β) (k0 : Int → Int → Int → Int → Option β) : impl_makeTable_l0b N a1 v0 v1 v2 v3 v4 v5 rec_ k0 = BV_impl_makeTable_l0b N a1 v0 v1 v2 v3 v4 v5 rec_ k0 := by
  unfold impl_makeTable_l0b BV_impl_makeTable_l0b
  rfl
theorem vst194_0_0 {β : Type} (N : Nat) (q_impl_Table_restrict_1 : (a0 : Int) → (c0 : Int) → (c1 : Int) → (c2 : Int) → (c3 : Int) → (k : Bool → Option β) → Option β) (q_impl_Table_shift_1 : (a0 : Int) → (c0 : Int) → (c1 : Int) → (c2 : Int) → (k : Bool → Option β) → Option β) (q_impl_makeTable_l0 : (a1 : (Int → (Bool → Option β) → Option β)) → Nat → Int → Int → Int → Int → Int → Int → (Int → Int → Int → Int → Option β) → Option β) (q0 : Int) (q1 : Int) (q2 : Int) (q3 : Int) (v0 : Int) (v1 : Int) (v2 : Int) (v3 : Int) (v4 : Int) (v5 : Int) (rec_ : St → Option β) (K : Exit → St → Option β) :
    ev lay (VE194 N q_impl_Table_restrict_1 q_impl_Table_shift_1 q_impl_makeTable_l0) (retMask Tryd.f194) (lp Tryd.f194 0).body (lp Tryd.f194 0).ex ((lp Tryd.f194 0).lv (retMask Tryd.f194)) (h194_0_0 q0 q1 q2 q3 v0 v1 v2 v3 v4 v5) (nextR (fun s' => rec_ (s'.tidy ((lp Tryd.f194 0).lv (retMask Tryd.f194)))) K) = BV_impl_makeTable_l0b N (fun x0 k => q_impl_Table_restrict_1 x0 q0 q1 q2 q3 k) v0 v1 v2 v3 v4 v5 (fun v0 v1 v2 v3 v4 v5 => rec_ (h194_0_0 q0 q1 q2 q3 v0 v1 v2 v3 v4 v5)) (fun y0 y1 y2 y3 => K (.exit 0) (x194_0_0_k0 q0 q1 q2 q3 y0 y1 y2 y3)) := by kernel_rfl
theorem st194_0_0 {β : Type} (N : Nat) (q0 : Int) (q1 : Int) (q2 : Int) (q3 : Int) (v0 : Int) (v1 : Int) (v2 : Int) (v3 : Int) (v4 : Int) (v5 : Int) (rec_ : St → Option β) (K : Exit → St → Option β) :
    ev lay (E194 N) (retMask Tryd.f194) (lp Tryd.f194 0).body (lp Tryd.f194 0).ex ((lp Tryd.f194 0).lv (retMask Tryd.f194)) (h194_0_0 q0 q1 q2 q3 v0 v1 v2 v3 v4 v5) (nextR (fun s' => rec_ (s'.tidy ((lp Tryd.f194 0).lv (retMask Tryd.f194)))) K) = impl_makeTable_l0b N (fun x0 k => impl_Table_restrict_1 N x0 q0 q1 q2 q3 k) v0 v1 v2 v3 v4 v5 (fun v0 v1 v2 v3 v4 v5 => rec_ (h194_0_0 q0 q1 q2 q3 v0 v1 v2 v3 v4 v5)) (fun y0 y1 y2 y3 => K (.exit 0) (x194_0_0_k0 q0 q1 q2 q3 y0 y1 y2 y3)) := (vst194_0_0 N (impl_Table_restrict_1 N) (impl_Table_shift_1 N) (impl_makeTable_l0 N) q0 q1 q2 q3 v0 v1 v2 v3 v4 v5 rec_ K).trans (t_impl_makeTable_l0b N (fun x0 k => impl_Table_restrict_1 N x0 q0 q1 q2 q3 k) v0 v1 v2 v3 v4 v5 (fun v0 v1 v2 v3 v4 v5 => rec_ (h194_0_0 q0 q1 q2 q3 v0 v1 v2 v3 v4 v5)) (fun y0 y1 y2 y3 => K (.exit 0) (x194_0_0_k0 q0 q1 q2 q3 y0 y1 y2 y3))).symm
theorem ro194_0_0 {β : Type} (N : Nat) (q0 : Int) (q1 : Int) (q2 : Int) (q3 : Int) (K : Exit → St → Option β) : ∀ (F : Nat) (v0 : Int) (v1 : Int) (v2 : Int) (v3 : Int) (v4 : Int) (v5 : Int), (lp Tryd.f194 0).rounds lay (E194 N) (retMask Tryd.f194) F (h194_0_0 q0 q1 q2 q3 v0 v1 v2 v3 v4 v5) K = impl_makeTable_l0 N (fun x0 k => impl_Table_restrict_1 N x0 q0 q1 q2 q3 k) F v0 v1 v2 v3 v4 v5 (fun y0 y1 y2 y3 => K (.exit 0) (x194_0_0_k0 q0 q1 q2 q3 y0 y1 y2 y3)) := by
  intro F
  induction F with
  | zero => intros; rfl
  | succ F ih =>
    intros
    rw [rounds_next]
    refine (st194_0_0 N q0 q1 q2 q3 _ _ _ _ _ _ (fun s => (lp Tryd.f194 0).rounds lay (E194 N) (retMask Tryd.f194) F s K) K).trans ?_
    simp only [ih]
    rfl
theorem vst194_0_1 {β : Type} (N : Nat) (q_impl_Table_restrict_1 : (a0 : Int) → (c0 : Int) → (c1 : Int) → (c2 : Int) → (c3 : Int) → (k : Bool → Option β) → Option β) (q_impl_Table_shift_1 : (a0 : Int) → (c0 : Int) → (c1 : Int) → (c2 : Int) → (k : Bool → Option β) → Option β) (q_impl_makeTable_l0 : (a1 : (Int → (Bool → Option β) → Option β)) → Nat → Int → Int → Int → Int → Int → Int → (Int → Int → Int → Int → Option β) → Option β) (q0 : Int) (q1 : Int) (q2 : Int) (v0 : Int) (v1 : Int) (v2 : Int) (v3 : Int) (v4 : Int) (v5 : Int) (rec_ : St → Option β) (K : Exit → St → Option β) :
    ev lay (VE194 N q_impl_Table_restrict_1 q_impl_Table_shift_1 q_impl_makeTable_l0) (retMask Tryd.f194) (lp Tryd.f194 0).body (lp Tryd.f194 0).ex ((lp Tryd.f194 0).lv (retMask Tryd.f194)) (h194_0_1 q0 q1 q2 v0 v1 v2 v3 v4 v5) (nextR (fun s' => rec_ (s'.tidy ((lp Tryd.f194 0).lv (retMask Tryd.f194)))) K) = BV_impl_makeTable_l0b N (fun x0 k => q_impl_Table_shift_1 x0 q0 q1 q2 k) v0 v1 v2 v3 v4 v5 (fun v0 v1 v2 v3 v4 v5 => rec_ (h194_0_1 q0 q1 q2 v0 v1 v2 v3 v4 v5)) (fun y0 y1 y2 y3 => K (.exit 0) (x194_0_1_k0 q0 q1 q2 y0 y1 y2 y3)) := by kernel_rfl
theorem st194_0_1 {β : Type} (N : Nat) (q0 : Int) (q1 : Int) (q2 : Int) (v0 : Int) (v1 : Int) (v2 : Int) (v3 : Int) (v4 : Int) (v5 : Int) (rec_ : St → Option β) (K : Exit → St → Option β) :
    ev lay (E194 N) (retMask Tryd.f194) (lp Tryd.f194 0).body (lp Tryd.f194 0).ex ((lp Tryd.f194 0).lv (retMask Tryd.f194)) (h194_0_1 q0 q1 q2 v0 v1 v2 v3 v4 v5) (nextR (fun s' => rec_ (s'.tidy ((lp Tryd.f194 0).lv (retMask Tryd.f194)))) K) = impl_makeTable_l0b N (fun x0 k => impl_Table_shift_1 N x0 q0 q1 q2 k) v0 v1 v2 v3 v4 v5 (fun v0 v1 v2 v3 v4 v5 => rec_ (h194_0_1 q0 q1 q2 v0 v1 v2 v3 v4 v5)) (fun y0 y1 y2 y3 => K (.exit 0) (x194_0_1_k0 q0 q1 q2 y0 y1 y2 y3)) := (vst194_0_1 N (impl_Table_restrict_1 N) (impl_Table_shift_1 N) (impl_makeTable_l0 N) q0 q1 q2 v0 v1 v2 v3 v4 v5 rec_ K).trans (t_impl_makeTable_l0b N (fun x0 k => impl_Table_shift_1 N x0 q0 q1 q2 k) v0 v1 v2 v3 v4 v5 (fun v0 v1 v2 v3 v4 v5 => rec_ (h194_0_1 q0 q1 q2 v0 v1 v2 v3 v4 v5)) (fun y0 y1 y2 y3 => K (.exit 0) (x194_0_1_k0 q0 q1 q2 y0 y1 y2 y3))).symm
theorem ro194_0_1 {β : Type} (N : Nat) (q0 : Int) (q1 : Int) (q2 : Int) (K : Exit → St → Option β) : ∀ (F : Nat) (v0 : Int) (v1 : Int) (v2 : Int) (v3 : Int) (v4 : Int) (v5 : Int), (lp Tryd.f194 0).rounds lay (E194 N) (retMask Tryd.f194) F (h194_0_1 q0 q1 q2 v0 v1 v2 v3 v4 v5) K = impl_makeTable_l0 N (fun x0 k => impl_Table_shift_1 N x0 q0 q1 q2 k) F v0 v1 v2 v3 v4 v5 (fun y0 y1 y2 y3 => K (.exit 0) (x194_0_1_k0 q0 q1 q2 y0 y1 y2 y3)) := by
  intro F
  induction F with
  | zero => intros; rfl
  | succ F ih =>
    intros
    rw [rounds_next]
    refine (st194_0_1 N q0 q1 q2 _ _ _ _ _ _ (fun s => (lp Tryd.f194 0).rounds lay (E194 N) (retMask Tryd.f194) F s K) K).trans ?_
    simp only [ih]
    rfl
theorem lk194_0 {β : Type} (N : Nat) : lookL (E194 (β := β) N).loops (lp Tryd.f194 0).id = LS194_0 N := by kernel_rfl
theorem rk194_0 {β : Type} (N : Nat) : RoundsOK lay (E194 (β := β) N) (retMask Tryd.f194) (lp Tryd.f194 0) := by
  intro s K r h
  rw [lk194_0] at h
  unfold LS194_0 VLS194_0 at h
  cases hb : shpSt (h194_0_0 0 0 0 0 0 0 0 0 0 0) s with
  | true =>
    rw [hb, cond_true] at h
    exact ⟨N, by rw [← shpSt_ref hb, fl194_0_0 s]; exact (ro194_0_0 N (intF (nx .no (nx ([], 0) (dfnS (oneA (vT (nx tund s.tmps 1)))) 0).1 0)) (intF (nx .no (nx ([], 0) (dfnS (oneA (vT (nx tund s.tmps 1)))) 0).1 1)) (intF (nx .no (nx ([], 0) (dfnS (oneA (vT (nx tund s.tmps 1)))) 1).1 0)) (intF (nx .no (nx ([], 0) (dfnS (oneA (vT (nx tund s.tmps 1)))) 2).1 0)) K N (intS (oneA (vT (nx tund s.tmps 10)))) (intS (oneA (vT (nx tund s.tmps 11)))) (intS (nx .und (cellsB (nx .dead s.blks 0)) 0)) (intS (nx .und (cellsB (nx .dead s.blks 0)) 1)) (intS (nx .und (cellsB (nx .dead s.blks 1)) 0)) (intS (nx .und (cellsB (nx .dead s.blks 1)) 1))).trans h⟩
  | false =>
  rw [hb, cond_false] at h
  clear hb
  cases hb : shpSt (h194_0_1 0 0 0 0 0 0 0 0 0) s with
  | true =>
    rw [hb, cond_true] at h
    exact ⟨N, by rw [← shpSt_ref hb, fl194_0_1 s]; exact (ro194_0_1 N (intF (nx .no (nx ([], 0) (dfnS (oneA (vT (nx tund s.tmps 1)))) 0).1 0)) (intF (nx .no (nx ([], 0) (dfnS (oneA (vT (nx tund s.tmps 1)))) 0).1 1)) (intF (nx .no (nx ([], 0) (dfnS (oneA (vT (nx tund s.tmps 1)))) 1).1 0)) K N (intS (oneA (vT (nx tund s.tmps 10)))) (intS (oneA (vT (nx tund s.tmps 11)))) (intS (nx .und (cellsB (nx .dead s.blks 0)) 0)) (intS (nx .und (cellsB (nx .dead s.blks 0)) 1)) (intS (nx .und (cellsB (nx .dead s.blks 1)) 0)) (intS (nx .und (cellsB (nx .dead s.blks 1)) 1))).trans h⟩
  | false =>
  rw [hb, cond_false] at h
  clear hb
  cases h
def BV_impl_makeTable {β : Type} (N : Nat) (q_impl_makeTable_l0 : (a1 : (Int → (Bool → Option β) → Option β)) → Nat → Int → Int → Int → Int → Int → Int → (Int → Int → Int → Int → Option β) → Option β) (a0 : Int) (a1 : (Int → (Bool → Option β) → Option β)) (k : Int → Int → Option β) : Option β :=
(gd ((decide (0 ≤ a0)))
(q_impl_makeTable_l0 a1 N ((shlI .i64 1 a0)) 0 0 0 a0 0 (fun e5_0 e5_1 e5_2 e5_3 =>
k e5_2 e5_3)))
theorem t_impl_makeTable {β : Type} (N : Nat) (a0 : Int) (a1 : (Int → (Bool → Option β) → Option β)) (k : Int → Int → Option β) : impl_makeTable N a0 a1 k = BV_impl_makeTable N (impl_makeTable_l0 N) a0 a1 k := by
  unfold impl_makeTable BV_impl_makeTable
  rfl
theorem ve194_0 {β : Type} (N : Nat) (q_impl_Table_restrict_1 : (a0 : Int) → (c0 : Int) → (c1 : Int) → (c2 : Int) → (c3 : Int) → (k : Bool → Option β) → Option β) (q_impl_Table_shift_1 : (a0 : Int) → (c0 : Int) → (c1 : Int) → (c2 : Int) → (k : Bool → Option β) → Option β) (q_impl_makeTable_l0 : (a1 : (Int → (Bool → Option β) → Option β)) → Nat → Int → Int → Int → Int → Int → Int → (Int → Int → Int → Int → Option β) → Option β) (q0 : Int) (q1 : Int) (q2 : Int) (q3 : Int) (a0 : Int) (K : TV → Option β) : evFn lay (VE194 N q_impl_Table_restrict_1 q_impl_Table_shift_1 q_impl_makeTable_l0) Tryd.f194 [.v (.one (.int .i64 a0)), .v (.one (.dfn 195 [([.int .i64 q0, .int .i64 q1], 0), ([.int .i64 q2], 0), ([.int .i64 q3], 0)]))] K = BV_impl_makeTable N q_impl_makeTable_l0 a0 (fun x0 k => q_impl_Table_restrict_1 x0 q0 q1 q2 q3 k) (fun z2 z3 => K (.v (.agg [.int .i64 z2, .int .i64 z3]))) := by kernel_rfl
theorem e194_0 {β : Type} (N : Nat) (q0 : Int) (q1 : Int) (q2 : Int) (q3 : Int) (a0 : Int) (K : TV → Option β) : evFn lay (E194 N) Tryd.f194 [.v (.one (.int .i64 a0)), .v (.one (.dfn 195 [([.int .i64 q0, .int .i64 q1], 0), ([.int .i64 q2], 0), ([.int .i64 q3], 0)]))] K = impl_makeTable N a0 (fun x0 k => impl_Table_restrict_1 N x0 q0 q1 q2 q3 k) (fun z2 z3 => K (.v (.agg [.int .i64 z2, .int .i64 z3]))) := (ve194_0 N (impl_Table_restrict_1 N) (impl_Table_shift_1 N) (impl_makeTable_l0 N) q0 q1 q2 q3 a0 K).trans (t_impl_makeTable N a0 (fun x0 k => impl_Table_restrict_1 N x0 q0 q1 q2 q3 k) (fun z2 z3 => K (.v (.agg [.int .i64 z2, .int .i64 z3])))).symm
theorem ve194_1 {β : Type} (N : Nat) (q_impl_Table_restrict_1 : (a0 : Int) → (c0 : Int) → (c1 : Int) → (c2 : Int) → (c3 : Int) → (k : Bool → Option β) → Option β) (q_impl_Table_shift_1 : (a0 : Int) → (c0 : Int) → (c1 : Int) → (c2 : Int) → (k : Bool → Option β) → Option β) (q_impl_makeTable_l0 : (a1 : (Int → (Bool → Option β) → Option β)) → Nat → Int → Int → Int → Int → Int → Int → (Int → Int → Int → Int → Option β) → Option β) (q0 : Int) (q1 : Int) (q2 : Int) (a0 : Int) (K : TV → Option β) : evFn lay (VE194 N q_impl_Table_restrict_1 q_impl_Table_shift_1 q_impl_makeTable_l0) Tryd.f194 [.v (.one (.int .i64 a0)), .v (.one (.dfn 197 [([.int .i64 q0, .int .i64 q1], 0), ([.int .i64 q2], 0)]))] K = BV_impl_makeTable N q_impl_makeTable_l0 a0 (fun x0 k => q_impl_Table_shift_1 x0 q0 q1 q2 k) (fun z2 z3 => K (.v (.agg [.int .i64 z2, .int .i64 z3]))) := by kernel_rfl
theorem e194_1 {β : Type} (N : Nat) (q0 : Int) (q1 : Int) (q2 : Int) (a0 : Int) (K : TV → Option β) : evFn lay (E194 N) Tryd.f194 [.v (.one (.int .i64 a0)), .v (.one (.dfn 197 [([.int .i64 q0, .int .i64 q1], 0), ([.int .i64 q2], 0)]))] K = impl_makeTable N a0 (fun x0 k => impl_Table_shift_1 N x0 q0 q1 q2 k) (fun z2 z3 => K (.v (.agg [.int .i64 z2, .int .i64 z3]))) := (ve194_1 N (impl_Table_restrict_1 N) (impl_Table_shift_1 N) (impl_makeTable_l0 N) q0 q1 q2 a0 K).trans (t_impl_makeTable N a0 (fun x0 k => impl_Table_shift_1 N x0 q0 q1 q2 k) (fun z2 z3 => K (.v (.agg [.int .i64 z2, .int .i64 z3])))).symm
theorem o194 {β : Type} (N : Nat) : SpecOK (β := β) inv Tryd.prog 194 (S194 N) := by
  refine spec_of lay_ok mixed (E := E194 N) (specs_loops (specs_cons (o195 N) (specs_cons (o197 N) specs_nil))) muts_nil gs_nil Tryd.func194 (by kernel_rfl) 1 (by kernel_rfl) ⟨trivial, rk194_0 N⟩ fun args K r h => ?_
  unfold S194 VS194 at h
  split at h
  · exact (e194_0 N _ _ _ _ _ _).trans h
  · exact (e194_1 N _ _ _ _ _).trans h
  · cases h
end Go.Proofs.YtfdggelojmofmaaDoor
