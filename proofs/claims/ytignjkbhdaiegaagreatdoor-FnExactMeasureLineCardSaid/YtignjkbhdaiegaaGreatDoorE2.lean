/- The functions that the claims reach answer as their texts do. -/
import Derived.Test.YtignjkbhdaiegaaGreatDoorE1
namespace Go.Proofs.YtignjkbhdaiegaaGreatDoor
open Go.Rv
set_option maxRecDepth 100000
set_option maxHeartbeats 2000000
set_option linter.unusedVariables false
def VS125 {β : Type} (N : Nat) (jq48 : (a0 : Int) → (a1 : Int) → (k : List Int → Option β) → Option β) : Rv.Spec β := fun args K => match args with
  | [.v (.agg [.int .i64 a0, .int .i64 a1])] => jq48 a0 a1 (fun z2 => K (.v (.one (.sl 3 (.ints .i64 z2)))))
  | _ => none
def S125 {β : Type} (N : Nat) : Rv.Spec β := VS125 N (j48 N)
def h125_0_0  (v0 : Int) (v1 : Int) (v2 : Int) (v3 : List Int) : St := ⟨tund :: .v (.one (.ptr 0 0)) :: tund :: .v (.one (.row 1)) :: .v (.one (.int .i64 v0)) :: tund :: tund :: tund :: tund :: tund :: tund :: tund :: tund :: tund :: tund :: tund :: tund :: tund :: tund :: tund :: tund :: tund :: tund :: tund :: tund :: tund :: tund :: tund :: tund :: tund :: tund :: tund :: tund :: tund :: tund :: tund :: tund :: tund :: tund :: tund :: tund :: tund :: tund :: tund :: tund :: tund :: tund :: tund :: tund :: tund :: tund :: tund :: tund :: tund :: [], [.cells 25 [.int .i64 v1, .int .i64 v2], .row 3 (.ints .i64 v3)]⟩
def x125_0_0_k0  (y0 : List Int) : St := ⟨tund :: tund :: tund :: .v (.one (.row 0)) :: tund :: tund :: tund :: tund :: tund :: tund :: tund :: tund :: tund :: tund :: tund :: tund :: tund :: tund :: tund :: tund :: tund :: tund :: tund :: tund :: tund :: tund :: tund :: tund :: tund :: tund :: tund :: tund :: tund :: tund :: tund :: tund :: tund :: tund :: tund :: tund :: tund :: tund :: tund :: tund :: tund :: tund :: tund :: tund :: tund :: tund :: tund :: tund :: tund :: tund :: [], [.row 3 (.ints .i64 y0)]⟩
def h125_1_0  (v0 : Int) (v1 : Int) (v2 : Int) (v3 : Int) (v4 : Int) (v5 : List Int) : St := ⟨tund :: .v (.one (.ptr 0 0)) :: tund :: .v (.one (.row 1)) :: .v (.one (.int .i64 v0)) :: .v (.one (.int .i64 v1)) :: .v (.one (.int .i64 v2)) :: tund :: tund :: tund :: tund :: tund :: tund :: tund :: tund :: tund :: tund :: tund :: tund :: tund :: tund :: tund :: tund :: tund :: tund :: tund :: tund :: tund :: tund :: tund :: tund :: tund :: tund :: tund :: tund :: tund :: tund :: tund :: tund :: tund :: tund :: tund :: tund :: tund :: tund :: tund :: tund :: tund :: tund :: tund :: tund :: tund :: tund :: tund :: [], [.cells 25 [.int .i64 v3, .int .i64 v4], .row 3 (.ints .i64 v5)]⟩
def x125_1_0_k0  (y0 : Int) (y1 : Int) (y2 : Int) (y3 : Int) (y4 : List Int) : St := ⟨tund :: .v (.one (.ptr 0 0)) :: tund :: .v (.one (.row 1)) :: .v (.one (.int .i64 y0)) :: .v (.one (.int .i64 y1)) :: tund :: tund :: tund :: tund :: tund :: tund :: tund :: tund :: tund :: tund :: tund :: tund :: tund :: tund :: tund :: tund :: tund :: tund :: tund :: tund :: tund :: tund :: tund :: tund :: tund :: tund :: tund :: tund :: tund :: tund :: tund :: tund :: tund :: tund :: tund :: tund :: tund :: tund :: tund :: tund :: tund :: tund :: tund :: tund :: tund :: tund :: tund :: tund :: [], [.cells 25 [.int .i64 y2, .int .i64 y3], .row 3 (.ints .i64 y4)]⟩
theorem fl125_0_0 (s : St) : refSt (h125_0_0 0 0 0 []) s = h125_0_0 (intS (oneA (vT (nx tund s.tmps 4)))) (intS (nx .und (cellsB (nx .dead s.blks 0)) 0)) (intS (nx .und (cellsB (nx .dead s.blks 0)) 1)) (rInts (rowB_ (nx .dead s.blks 1))) := by kernel_rfl
def VLS125_0 {β : Type} (N : Nat) (jq47 : Nat → Int → Int → Int → List Int → (List Int → Option β) → Option β) : LSpec β := fun s K => cond (shpSt (h125_0_0 0 0 0 []) s) ((fun (v0 : Int) (v1 : Int) (v2 : Int) (v3 : List Int) => jq47  N v0 v1 v2 v3 (fun y0 => K (.exit 0) (x125_0_0_k0  y0))) (intS (oneA (vT (nx tund s.tmps 4)))) (intS (nx .und (cellsB (nx .dead s.blks 0)) 0)) (intS (nx .und (cellsB (nx .dead s.blks 0)) 1)) (rInts (rowB_ (nx .dead s.blks 1)))) (none)
def LS125_0 {β : Type} (N : Nat) : LSpec β := VLS125_0 N (j47 N)
theorem fl125_1_0 (s : St) : refSt (h125_1_0 0 0 0 0 0 []) s = h125_1_0 (intS (oneA (vT (nx tund s.tmps 4)))) (intS (oneA (vT (nx tund s.tmps 5)))) (intS (oneA (vT (nx tund s.tmps 6)))) (intS (nx .und (cellsB (nx .dead s.blks 0)) 0)) (intS (nx .und (cellsB (nx .dead s.blks 0)) 1)) (rInts (rowB_ (nx .dead s.blks 1))) := by kernel_rfl
def VLS125_2 {β : Type} (N : Nat) (jq45 : Nat → Int → Int → Int → Int → Int → List Int → (Int → Int → Int → Int → List Int → Option β) → Option β) : LSpec β := fun s K => cond (shpSt (h125_1_0 0 0 0 0 0 []) s) ((fun (v0 : Int) (v1 : Int) (v2 : Int) (v3 : Int) (v4 : Int) (v5 : List Int) => jq45  N v0 v1 v2 v3 v4 v5 (fun y0 y1 y2 y3 y4 => K (.exit 2) (x125_1_0_k0  y0 y1 y2 y3 y4))) (intS (oneA (vT (nx tund s.tmps 4)))) (intS (oneA (vT (nx tund s.tmps 5)))) (intS (oneA (vT (nx tund s.tmps 6)))) (intS (nx .und (cellsB (nx .dead s.blks 0)) 0)) (intS (nx .und (cellsB (nx .dead s.blks 0)) 1)) (rInts (rowB_ (nx .dead s.blks 1)))) (none)
def LS125_2 {β : Type} (N : Nat) : LSpec β := VLS125_2 N (j45 N)
def VE125 {β : Type} (N : Nat) (jq2 : (a0 : Int) → (a1 : Int) → (k : Bool → Option β) → Option β) (jq27 : (a0 : Int) → (k : Int → Option β) → Option β) (jq47 : Nat → Int → Int → Int → List Int → (List Int → Option β) → Option β) (jq45 : Nat → Int → Int → Int → Int → Int → List Int → (Int → Int → Int → Int → List Int → Option β) → Option β) : Env β := ⟨[(13, VS13 N jq2), (33, VS33 N jq27)], [], [(0, VLS125_0 N jq47), (2, VLS125_2 N jq45)], [], ⟨[], [], []⟩⟩
def E125 {β : Type} (N : Nat) : Env β := VE125 N (j2 N) (j27 N) (j47 N) (j45 N)
def jb46 {β : Type} (N : Nat) (jq2 : (a0 : Int) → (a1 : Int) → (k : Bool → Option β) → Option β) (jq45 : Nat → Int → Int → Int → Int → Int → List Int → (Int → Int → Int → Int → List Int → Option β) → Option β)  (v0 : Int) (v1 : Int) (v2 : Int) (v3 : List Int) (rec_ : Int → Int → Int → List Int → Option β) (k0 : List Int → Option β) : Option β :=
jq2 v1 v2 fun r3 =>
(cond r3
((gd ((decide (0 ≤ v1)))
((cond ((decide (v0 < (shlI .i64 1 v1))))
(jq45  N v0 0 0 v1 v2 v3 (fun e5_0 e5_1 e5_2 e5_3 e5_4 =>
(gd ((decide ((e5_4.length + ((([] : List Int) ++ [e5_1])).length) * 8 ≤ 140737488355328)))
(rec_ ((w64 (e5_0 + 1))) e5_2 e5_3 ((e5_4 ++ (([] : List Int) ++ [e5_1])))))))
(k0 v3)))))
(k0 v3))
theorem jt46 {β : Type} (N : Nat)  (v0 : Int) (v1 : Int) (v2 : Int) (v3 : List Int) (rec_ : Int → Int → Int → List Int → Option β) (k0 : List Int → Option β) : j46 N v0 v1 v2 v3 rec_ k0 = jb46 N (j2 N) (j45 N) v0 v1 v2 v3 rec_ k0 := by
  unfold j46 jb46
  rfl
theorem vst125_0_0 {β : Type} (N : Nat) (jq2 : (a0 : Int) → (a1 : Int) → (k : Bool → Option β) → Option β) (jq27 : (a0 : Int) → (k : Int → Option β) → Option β) (jq47 : Nat → Int → Int → Int → List Int → (List Int → Option β) → Option β) (jq45 : Nat → Int → Int → Int → Int → Int → List Int → (Int → Int → Int → Int → List Int → Option β) → Option β)  (v0 : Int) (v1 : Int) (v2 : Int) (v3 : List Int) (rec_ : St → Option β) (K : Exit → St → Option β) :
    ev lay (VE125 N jq2 jq27 jq47 jq45) (retMask Tryz.f125) (lp Tryz.f125 0).body (lp Tryz.f125 0).ex ((lp Tryz.f125 0).lv (retMask Tryz.f125)) (h125_0_0  v0 v1 v2 v3) (nextR (fun s' => rec_ (s'.tidy ((lp Tryz.f125 0).lv (retMask Tryz.f125)))) K) = jb46 N jq2 jq45  v0 v1 v2 v3 (fun v0 v1 v2 v3 => rec_ (h125_0_0  v0 v1 v2 v3)) (fun y0 => K (.exit 0) (x125_0_0_k0  y0)) := by kernel_rfl
theorem st125_0_0 {β : Type} (N : Nat)  (v0 : Int) (v1 : Int) (v2 : Int) (v3 : List Int) (rec_ : St → Option β) (K : Exit → St → Option β) :
    ev lay (E125 N) (retMask Tryz.f125) (lp Tryz.f125 0).body (lp Tryz.f125 0).ex ((lp Tryz.f125 0).lv (retMask Tryz.f125)) (h125_0_0  v0 v1 v2 v3) (nextR (fun s' => rec_ (s'.tidy ((lp Tryz.f125 0).lv (retMask Tryz.f125)))) K) = j46 N  v0 v1 v2 v3 (fun v0 v1 v2 v3 => rec_ (h125_0_0  v0 v1 v2 v3)) (fun y0 => K (.exit 0) (x125_0_0_k0  y0)) := (vst125_0_0 N (j2 N) (j27 N) (j47 N) (j45 N) v0 v1 v2 v3 rec_ K).trans (jt46 N  v0 v1 v2 v3 (fun v0 v1 v2 v3 => rec_ (h125_0_0  v0 v1 v2 v3)) (fun y0 => K (.exit 0) (x125_0_0_k0  y0))).symm
theorem ro125_0_0 {β : Type} (N : Nat)  (K : Exit → St → Option β) : ∀ (F : Nat) (v0 : Int) (v1 : Int) (v2 : Int) (v3 : List Int), (lp Tryz.f125 0).rounds lay (E125 N) (retMask Tryz.f125) F (h125_0_0  v0 v1 v2 v3) K = j47 N  F v0 v1 v2 v3 (fun y0 => K (.exit 0) (x125_0_0_k0  y0)) := by
  intro F
  induction F with
  | zero => intros; rfl
  | succ F ih =>
    intros
    rw [rounds_next]
    refine (st125_0_0 N  _ _ _ _ (fun s => (lp Tryz.f125 0).rounds lay (E125 N) (retMask Tryz.f125) F s K) K).trans ?_
    simp only [ih]
    rfl
theorem lk125_0 {β : Type} (N : Nat) : lookL (E125 (β := β) N).loops (lp Tryz.f125 0).id = LS125_0 N := by kernel_rfl
theorem rk125_0 {β : Type} (N : Nat) : RoundsOK lay (E125 (β := β) N) (retMask Tryz.f125) (lp Tryz.f125 0) := by
  intro s K r h
  rw [lk125_0] at h
  unfold LS125_0 VLS125_0 at h
  cases hb : shpSt (h125_0_0 0 0 0 []) s with
  | true =>
    rw [hb, cond_true] at h
    exact ⟨N, by rw [← shpSt_ref hb, fl125_0_0 s]; exact (ro125_0_0 N  K N (intS (oneA (vT (nx tund s.tmps 4)))) (intS (nx .und (cellsB (nx .dead s.blks 0)) 0)) (intS (nx .und (cellsB (nx .dead s.blks 0)) 1)) (rInts (rowB_ (nx .dead s.blks 1)))).trans h⟩
  | false =>
  rw [hb, cond_false] at h
  clear hb
  cases h
def jb44 {β : Type} (N : Nat) (jq27 : (a0 : Int) → (k : Int → Option β) → Option β)  (v0 : Int) (v1 : Int) (v2 : Int) (v3 : Int) (v4 : Int) (v5 : List Int) (rec_ : Int → Int → Int → Int → Int → List Int → Option β) (k0 : Int → Int → Int → Int → List Int → Option β) : Option β :=
(cond ((decide (v2 ≤ v0)))
((cond (((bits .and .i64 v2 v0) != v2))
(rec_ v0 v1 ((w64 (v2 + 1))) v3 v4 v5)
(jq27 ((bits .xor .i64 v0 v2)) fun r4 =>
(cond (((remI r4 2) == 1))
((gd ((decide (0 ≤ v2)))
(rec_ v0 ((w64 (v1 - (bits .and .i64 (shrI .i64 v4 v2) 1)))) ((w64 (v2 + 1))) v3 v4 v5)))
((gd ((decide (0 ≤ v2)))
(rec_ v0 ((w64 (v1 + (bits .and .i64 (shrI .i64 v4 v2) 1)))) ((w64 (v2 + 1))) v3 v4 v5)))))))
(k0 v0 v1 v3 v4 v5))
theorem jt44 {β : Type} (N : Nat)  (v0 : Int) (v1 : Int) (v2 : Int) (v3 : Int) (v4 : Int) (v5 : List Int) (rec_ : Int → Int → Int → Int → Int → List Int → Option β) (k0 : Int → Int → Int → Int → List Int → Option β) : j44 N v0 v1 v2 v3 v4 v5 rec_ k0 = jb44 N (j27 N) v0 v1 v2 v3 v4 v5 rec_ k0 := by
  unfold j44 jb44
  rfl
theorem vst125_1_0 {β : Type} (N : Nat) (jq2 : (a0 : Int) → (a1 : Int) → (k : Bool → Option β) → Option β) (jq27 : (a0 : Int) → (k : Int → Option β) → Option β) (jq47 : Nat → Int → Int → Int → List Int → (List Int → Option β) → Option β) (jq45 : Nat → Int → Int → Int → Int → Int → List Int → (Int → Int → Int → Int → List Int → Option β) → Option β)  (v0 : Int) (v1 : Int) (v2 : Int) (v3 : Int) (v4 : Int) (v5 : List Int) (rec_ : St → Option β) (K : Exit → St → Option β) :
    ev lay (VE125 N jq2 jq27 jq47 jq45) (retMask Tryz.f125) (lp Tryz.f125 1).body (lp Tryz.f125 1).ex ((lp Tryz.f125 1).lv (retMask Tryz.f125)) (h125_1_0  v0 v1 v2 v3 v4 v5) (nextR (fun s' => rec_ (s'.tidy ((lp Tryz.f125 1).lv (retMask Tryz.f125)))) K) = jb44 N jq27  v0 v1 v2 v3 v4 v5 (fun v0 v1 v2 v3 v4 v5 => rec_ (h125_1_0  v0 v1 v2 v3 v4 v5)) (fun y0 y1 y2 y3 y4 => K (.exit 2) (x125_1_0_k0  y0 y1 y2 y3 y4)) := by kernel_rfl
theorem st125_1_0 {β : Type} (N : Nat)  (v0 : Int) (v1 : Int) (v2 : Int) (v3 : Int) (v4 : Int) (v5 : List Int) (rec_ : St → Option β) (K : Exit → St → Option β) :
    ev lay (E125 N) (retMask Tryz.f125) (lp Tryz.f125 1).body (lp Tryz.f125 1).ex ((lp Tryz.f125 1).lv (retMask Tryz.f125)) (h125_1_0  v0 v1 v2 v3 v4 v5) (nextR (fun s' => rec_ (s'.tidy ((lp Tryz.f125 1).lv (retMask Tryz.f125)))) K) = j44 N  v0 v1 v2 v3 v4 v5 (fun v0 v1 v2 v3 v4 v5 => rec_ (h125_1_0  v0 v1 v2 v3 v4 v5)) (fun y0 y1 y2 y3 y4 => K (.exit 2) (x125_1_0_k0  y0 y1 y2 y3 y4)) := (vst125_1_0 N (j2 N) (j27 N) (j47 N) (j45 N) v0 v1 v2 v3 v4 v5 rec_ K).trans (jt44 N  v0 v1 v2 v3 v4 v5 (fun v0 v1 v2 v3 v4 v5 => rec_ (h125_1_0  v0 v1 v2 v3 v4 v5)) (fun y0 y1 y2 y3 y4 => K (.exit 2) (x125_1_0_k0  y0 y1 y2 y3 y4))).symm
theorem ro125_1_0 {β : Type} (N : Nat)  (K : Exit → St → Option β) : ∀ (F : Nat) (v0 : Int) (v1 : Int) (v2 : Int) (v3 : Int) (v4 : Int) (v5 : List Int), (lp Tryz.f125 1).rounds lay (E125 N) (retMask Tryz.f125) F (h125_1_0  v0 v1 v2 v3 v4 v5) K = j45 N  F v0 v1 v2 v3 v4 v5 (fun y0 y1 y2 y3 y4 => K (.exit 2) (x125_1_0_k0  y0 y1 y2 y3 y4)) := by
  intro F
  induction F with
  | zero => intros; rfl
  | succ F ih =>
    intros
    rw [rounds_next]
    refine (st125_1_0 N  _ _ _ _ _ _ (fun s => (lp Tryz.f125 1).rounds lay (E125 N) (retMask Tryz.f125) F s K) K).trans ?_
    simp only [ih]
    rfl
theorem lk125_2 {β : Type} (N : Nat) : lookL (E125 (β := β) N).loops (lp Tryz.f125 1).id = LS125_2 N := by kernel_rfl
theorem rk125_2 {β : Type} (N : Nat) : RoundsOK lay (E125 (β := β) N) (retMask Tryz.f125) (lp Tryz.f125 1) := by
  intro s K r h
  rw [lk125_2] at h
  unfold LS125_2 VLS125_2 at h
  cases hb : shpSt (h125_1_0 0 0 0 0 0 []) s with
  | true =>
    rw [hb, cond_true] at h
    exact ⟨N, by rw [← shpSt_ref hb, fl125_1_0 s]; exact (ro125_1_0 N  K N (intS (oneA (vT (nx tund s.tmps 4)))) (intS (oneA (vT (nx tund s.tmps 5)))) (intS (oneA (vT (nx tund s.tmps 6)))) (intS (nx .und (cellsB (nx .dead s.blks 0)) 0)) (intS (nx .und (cellsB (nx .dead s.blks 0)) 1)) (rInts (rowB_ (nx .dead s.blks 1)))).trans h⟩
  | false =>
  rw [hb, cond_false] at h
  clear hb
  cases h
def jb48 {β : Type} (N : Nat) (jq47 : Nat → Int → Int → Int → List Int → (List Int → Option β) → Option β) (a0 : Int) (a1 : Int) (k : List Int → Option β) : Option β :=
jq47  N 0 a0 a1 (([] : List Int)) (fun e6_0 =>
k e6_0)
theorem jt48 {β : Type} (N : Nat) (a0 : Int) (a1 : Int) (k : List Int → Option β) : j48 N a0 a1 k = jb48 N (j47 N) a0 a1 k := by
  unfold j48 jb48
  rfl
theorem ve125_0 {β : Type} (N : Nat) (jq2 : (a0 : Int) → (a1 : Int) → (k : Bool → Option β) → Option β) (jq27 : (a0 : Int) → (k : Int → Option β) → Option β) (jq47 : Nat → Int → Int → Int → List Int → (List Int → Option β) → Option β) (jq45 : Nat → Int → Int → Int → Int → Int → List Int → (Int → Int → Int → Int → List Int → Option β) → Option β)  (a0 : Int) (a1 : Int) (K : TV → Option β) : evFn lay (VE125 N jq2 jq27 jq47 jq45) Tryz.f125 [.v (.agg [.int .i64 a0, .int .i64 a1])] K = jb48 N jq47 a0 a1 (fun z2 => K (.v (.one (.sl 3 (.ints .i64 z2))))) := by kernel_rfl
theorem e125_0 {β : Type} (N : Nat)  (a0 : Int) (a1 : Int) (K : TV → Option β) : evFn lay (E125 N) Tryz.f125 [.v (.agg [.int .i64 a0, .int .i64 a1])] K = j48 N a0 a1 (fun z2 => K (.v (.one (.sl 3 (.ints .i64 z2))))) := (ve125_0 N (j2 N) (j27 N) (j47 N) (j45 N) a0 a1 K).trans (jt48 N a0 a1 (fun z2 => K (.v (.one (.sl 3 (.ints .i64 z2)))))).symm
theorem o125 {β : Type} (N : Nat) : SpecOK (β := β) inv Tryz.prog 125 (S125 N) := by
  refine spec_of lay_ok mixed (E := E125 N) (specs_loops (specs_cons (o13 N) (specs_cons (o33 N) specs_nil))) muts_nil gs_nil Tryz.func125 (by kernel_rfl) 2 (by kernel_rfl) ⟨⟨trivial, rk125_0 N⟩, rk125_2 N⟩ fun args K r h => ?_
  unfold S125 VS125 at h
  split at h
  · exact (e125_0 N _ _ _).trans h
  · cases h
def VS67 {β : Type} (N : Nat) (jq51 : (a0 : Int) → (a1 : Int) → (k : Int → Option β) → Option β) : Rv.Spec β := fun args K => match args with
  | [.v (.agg [.int .i64 a0, .int .i64 a1])] => jq51 a0 a1 (fun z2 => K (.v (.one (.int .i64 z2))))
  | _ => none
def S67 {β : Type} (N : Nat) : Rv.Spec β := VS67 N (j51 N)
def h67_0_0  (v0 : Int) (v1 : Int) (v2 : List Int) : St := ⟨tund :: tund :: tund :: .v (.one (.row 0)) :: .v (.one (.int .i64 v0)) :: .v (.one (.int .i64 v1)) :: tund :: tund :: tund :: tund :: tund :: tund :: tund :: tund :: tund :: tund :: tund :: tund :: tund :: tund :: tund :: tund :: tund :: tund :: tund :: tund :: tund :: [], [.row 3 (.ints .i64 v2)]⟩
def x67_0_0_k0  (y0 : Int) : St := ⟨tund :: tund :: tund :: tund :: .v (.one (.int .i64 y0)) :: tund :: tund :: tund :: tund :: tund :: tund :: tund :: tund :: tund :: tund :: tund :: tund :: tund :: tund :: tund :: tund :: tund :: tund :: tund :: tund :: tund :: tund :: [], []⟩
theorem fl67_0_0 (s : St) : refSt (h67_0_0 0 0 []) s = h67_0_0 (intS (oneA (vT (nx tund s.tmps 4)))) (intS (oneA (vT (nx tund s.tmps 5)))) (rInts (rowB_ (nx .dead s.blks 0))) := by kernel_rfl
def VLS67_0 {β : Type} (N : Nat) (jq50 : Nat → Int → Int → List Int → (Int → Option β) → Option β) : LSpec β := fun s K => cond (shpSt (h67_0_0 0 0 []) s) ((fun (v0 : Int) (v1 : Int) (v2 : List Int) => jq50  N v0 v1 v2 (fun y0 => K (.exit 0) (x67_0_0_k0  y0))) (intS (oneA (vT (nx tund s.tmps 4)))) (intS (oneA (vT (nx tund s.tmps 5)))) (rInts (rowB_ (nx .dead s.blks 0)))) (none)
def LS67_0 {β : Type} (N : Nat) : LSpec β := VLS67_0 N (j50 N)
def VE67 {β : Type} (N : Nat) (jq2 : (a0 : Int) → (a1 : Int) → (k : Bool → Option β) → Option β) (jq48 : (a0 : Int) → (a1 : Int) → (k : List Int → Option β) → Option β) (jq27 : (a0 : Int) → (k : Int → Option β) → Option β) (jq50 : Nat → Int → Int → List Int → (Int → Option β) → Option β) : Env β := ⟨[(13, VS13 N jq2), (125, VS125 N jq48), (33, VS33 N jq27)], [], [(0, VLS67_0 N jq50)], [], ⟨[], [], []⟩⟩
def E67 {β : Type} (N : Nat) : Env β := VE67 N (j2 N) (j48 N) (j27 N) (j50 N)
def jb49 {β : Type} (N : Nat) (jq27 : (a0 : Int) → (k : Int → Option β) → Option β)  (v0 : Int) (v1 : Int) (v2 : List Int) (rec_ : Int → Int → List Int → Option β) (k0 : Int → Option β) : Option β :=
(cond ((decide (v1 < (v2.length : Int))))
((gd ((decide (0 ≤ v1)))
((gd ((decide (v1 < (v2.length : Int))))
((cond (((rd 0 v2 v1) != 0))
(jq27 v1 fun r5 =>
rec_ ((mxI v0 r5)) ((w64 (v1 + 1))) v2)
(rec_ v0 ((w64 (v1 + 1))) v2)))))))
(k0 v0))
theorem jt49 {β : Type} (N : Nat)  (v0 : Int) (v1 : Int) (v2 : List Int) (rec_ : Int → Int → List Int → Option β) (k0 : Int → Option β) : j49 N v0 v1 v2 rec_ k0 = jb49 N (j27 N) v0 v1 v2 rec_ k0 := by
  unfold j49 jb49
  rfl
theorem vst67_0_0 {β : Type} (N : Nat) (jq2 : (a0 : Int) → (a1 : Int) → (k : Bool → Option β) → Option β) (jq48 : (a0 : Int) → (a1 : Int) → (k : List Int → Option β) → Option β) (jq27 : (a0 : Int) → (k : Int → Option β) → Option β) (jq50 : Nat → Int → Int → List Int → (Int → Option β) → Option β)  (v0 : Int) (v1 : Int) (v2 : List Int) (rec_ : St → Option β) (K : Exit → St → Option β) :
    ev lay (VE67 N jq2 jq48 jq27 jq50) (retMask Tryz.f67) (lp Tryz.f67 0).body (lp Tryz.f67 0).ex ((lp Tryz.f67 0).lv (retMask Tryz.f67)) (h67_0_0  v0 v1 v2) (nextR (fun s' => rec_ (s'.tidy ((lp Tryz.f67 0).lv (retMask Tryz.f67)))) K) = jb49 N jq27  v0 v1 v2 (fun v0 v1 v2 => rec_ (h67_0_0  v0 v1 v2)) (fun y0 => K (.exit 0) (x67_0_0_k0  y0)) := by kernel_rfl
theorem st67_0_0 {β : Type} (N : Nat)  (v0 : Int) (v1 : Int) (v2 : List Int) (rec_ : St → Option β) (K : Exit → St → Option β) :
    ev lay (E67 N) (retMask Tryz.f67) (lp Tryz.f67 0).body (lp Tryz.f67 0).ex ((lp Tryz.f67 0).lv (retMask Tryz.f67)) (h67_0_0  v0 v1 v2) (nextR (fun s' => rec_ (s'.tidy ((lp Tryz.f67 0).lv (retMask Tryz.f67)))) K) = j49 N  v0 v1 v2 (fun v0 v1 v2 => rec_ (h67_0_0  v0 v1 v2)) (fun y0 => K (.exit 0) (x67_0_0_k0  y0)) := (vst67_0_0 N (j2 N) (j48 N) (j27 N) (j50 N) v0 v1 v2 rec_ K).trans (jt49 N  v0 v1 v2 (fun v0 v1 v2 => rec_ (h67_0_0  v0 v1 v2)) (fun y0 => K (.exit 0) (x67_0_0_k0  y0))).symm
theorem ro67_0_0 {β : Type} (N : Nat)  (K : Exit → St → Option β) : ∀ (F : Nat) (v0 : Int) (v1 : Int) (v2 : List Int), (lp Tryz.f67 0).rounds lay (E67 N) (retMask Tryz.f67) F (h67_0_0  v0 v1 v2) K = j50 N  F v0 v1 v2 (fun y0 => K (.exit 0) (x67_0_0_k0  y0)) := by
  intro F
  induction F with
  | zero => intros; rfl
  | succ F ih =>
    intros
    rw [rounds_next]
    refine (st67_0_0 N  _ _ _ (fun s => (lp Tryz.f67 0).rounds lay (E67 N) (retMask Tryz.f67) F s K) K).trans ?_
    simp only [ih]
    rfl
theorem lk67_0 {β : Type} (N : Nat) : lookL (E67 (β := β) N).loops (lp Tryz.f67 0).id = LS67_0 N := by kernel_rfl
theorem rk67_0 {β : Type} (N : Nat) : RoundsOK lay (E67 (β := β) N) (retMask Tryz.f67) (lp Tryz.f67 0) := by
  intro s K r h
  rw [lk67_0] at h
  unfold LS67_0 VLS67_0 at h
  cases hb : shpSt (h67_0_0 0 0 []) s with
  | true =>
    rw [hb, cond_true] at h
    exact ⟨N, by rw [← shpSt_ref hb, fl67_0_0 s]; exact (ro67_0_0 N  K N (intS (oneA (vT (nx tund s.tmps 4)))) (intS (oneA (vT (nx tund s.tmps 5)))) (rInts (rowB_ (nx .dead s.blks 0)))).trans h⟩
  | false =>
  rw [hb, cond_false] at h
  clear hb
  cases h
def jb51 {β : Type} (N : Nat) (jq2 : (a0 : Int) → (a1 : Int) → (k : Bool → Option β) → Option β) (jq48 : (a0 : Int) → (a1 : Int) → (k : List Int → Option β) → Option β) (jq50 : Nat → Int → Int → List Int → (Int → Option β) → Option β) (a0 : Int) (a1 : Int) (k : Int → Option β) : Option β :=
jq2 a0 a1 fun r3 =>
(cond (!r3)
(k (-2))
(jq48 a0 a1 fun r4 =>
jq50  N (-1) 0 r4 (fun e6_0 =>
k e6_0)))
theorem jt51 {β : Type} (N : Nat) (a0 : Int) (a1 : Int) (k : Int → Option β) : j51 N a0 a1 k = jb51 N (j2 N) (j48 N) (j50 N) a0 a1 k := by
  unfold j51 jb51
  rfl
theorem ve67_0 {β : Type} (N : Nat) (jq2 : (a0 : Int) → (a1 : Int) → (k : Bool → Option β) → Option β) (jq48 : (a0 : Int) → (a1 : Int) → (k : List Int → Option β) → Option β) (jq27 : (a0 : Int) → (k : Int → Option β) → Option β) (jq50 : Nat → Int → Int → List Int → (Int → Option β) → Option β)  (a0 : Int) (a1 : Int) (K : TV → Option β) : evFn lay (VE67 N jq2 jq48 jq27 jq50) Tryz.f67 [.v (.agg [.int .i64 a0, .int .i64 a1])] K = jb51 N jq2 jq48 jq50 a0 a1 (fun z2 => K (.v (.one (.int .i64 z2)))) := by kernel_rfl
theorem e67_0 {β : Type} (N : Nat)  (a0 : Int) (a1 : Int) (K : TV → Option β) : evFn lay (E67 N) Tryz.f67 [.v (.agg [.int .i64 a0, .int .i64 a1])] K = j51 N a0 a1 (fun z2 => K (.v (.one (.int .i64 z2)))) := (ve67_0 N (j2 N) (j48 N) (j27 N) (j50 N) a0 a1 K).trans (jt51 N a0 a1 (fun z2 => K (.v (.one (.int .i64 z2))))).symm
theorem o67 {β : Type} (N : Nat) : SpecOK (β := β) inv Tryz.prog 67 (S67 N) := by
  refine spec_of lay_ok mixed (E := E67 N) (specs_loops (specs_cons (o13 N) (specs_cons (o125 N) (specs_cons (o33 N) specs_nil)))) muts_nil gs_nil Tryz.func67 (by kernel_rfl) 1 (by kernel_rfl) ⟨trivial, rk67_0 N⟩ fun args K r h => ?_
  unfold S67 VS67 at h
  split at h
  · exact (e67_0 N _ _ _).trans h
  · cases h
def VS126 {β : Type} (N : Nat) (jq56 : (a0 : Int) → (a1 : Int) → (k : Int → Option β) → Option β) : Rv.Spec β := fun args K => match args with
  | [.v (.agg [.int .i64 a0, .int .i64 a1])] => jq56 a0 a1 (fun z2 => K (.v (.one (.int .i64 z2))))
  | _ => none
def S126 {β : Type} (N : Nat) : Rv.Spec β := VS126 N (j56 N)
def h126_0_0  (v0 : Int) (v1 : Int) (v2 : Int) (v3 : Int) : St := ⟨tund :: .v (.one (.ptr 0 0)) :: tund :: .v (.one (.int .i64 v0)) :: .v (.one (.int .i64 v1)) :: tund :: tund :: tund :: tund :: tund :: tund :: tund :: tund :: tund :: tund :: tund :: tund :: tund :: tund :: tund :: tund :: tund :: tund :: tund :: tund :: tund :: tund :: tund :: tund :: tund :: tund :: tund :: tund :: tund :: tund :: tund :: tund :: tund :: [], [.cells 25 [.int .i64 v2, .int .i64 v3]]⟩
def x126_0_0_k0  (y0 : Int) : St := ⟨tund :: tund :: tund :: .v (.one (.int .i64 y0)) :: tund :: tund :: tund :: tund :: tund :: tund :: tund :: tund :: tund :: tund :: tund :: tund :: tund :: tund :: tund :: tund :: tund :: tund :: tund :: tund :: tund :: tund :: tund :: tund :: tund :: tund :: tund :: tund :: tund :: tund :: tund :: tund :: tund :: tund :: [], []⟩
def h126_1_0  (v0 : Int) (v1 : Int) (v2 : Int) (v3 : Int) (v4 : Int) (v5 : Int) : St := ⟨tund :: .v (.one (.ptr 0 0)) :: tund :: .v (.one (.int .i64 v0)) :: .v (.one (.int .i64 v1)) :: .v (.one (.int .i64 v2)) :: .v (.one (.int .i64 v3)) :: tund :: tund :: tund :: tund :: tund :: tund :: tund :: tund :: tund :: tund :: tund :: tund :: tund :: tund :: tund :: tund :: tund :: tund :: tund :: tund :: tund :: tund :: tund :: tund :: tund :: tund :: tund :: tund :: tund :: tund :: tund :: [], [.cells 25 [.int .i64 v4, .int .i64 v5]]⟩
def x126_1_0_k0  (y0 : Int) (y1 : Int) (y2 : Int) (y3 : Int) (y4 : Int) : St := ⟨tund :: .v (.one (.ptr 0 0)) :: tund :: .v (.one (.int .i64 y0)) :: .v (.one (.int .i64 y1)) :: .v (.one (.int .i64 y2)) :: tund :: tund :: tund :: tund :: tund :: tund :: tund :: tund :: tund :: tund :: tund :: tund :: tund :: tund :: tund :: tund :: tund :: tund :: tund :: tund :: tund :: tund :: tund :: tund :: tund :: tund :: tund :: tund :: tund :: tund :: tund :: tund :: [], [.cells 25 [.int .i64 y3, .int .i64 y4]]⟩
theorem fl126_0_0 (s : St) : refSt (h126_0_0 0 0 0 0) s = h126_0_0 (intS (oneA (vT (nx tund s.tmps 3)))) (intS (oneA (vT (nx tund s.tmps 4)))) (intS (nx .und (cellsB (nx .dead s.blks 0)) 0)) (intS (nx .und (cellsB (nx .dead s.blks 0)) 1)) := by kernel_rfl
def VLS126_0 {β : Type} (N : Nat) (jq55 : Nat → Int → Int → Int → Int → (Int → Option β) → Option β) : LSpec β := fun s K => cond (shpSt (h126_0_0 0 0 0 0) s) ((fun (v0 : Int) (v1 : Int) (v2 : Int) (v3 : Int) => jq55  N v0 v1 v2 v3 (fun y0 => K (.exit 0) (x126_0_0_k0  y0))) (intS (oneA (vT (nx tund s.tmps 3)))) (intS (oneA (vT (nx tund s.tmps 4)))) (intS (nx .und (cellsB (nx .dead s.blks 0)) 0)) (intS (nx .und (cellsB (nx .dead s.blks 0)) 1))) (none)
def LS126_0 {β : Type} (N : Nat) : LSpec β := VLS126_0 N (j55 N)
theorem fl126_1_0 (s : St) : refSt (h126_1_0 0 0 0 0 0 0) s = h126_1_0 (intS (oneA (vT (nx tund s.tmps 3)))) (intS (oneA (vT (nx tund s.tmps 4)))) (intS (oneA (vT (nx tund s.tmps 5)))) (intS (oneA (vT (nx tund s.tmps 6)))) (intS (nx .und (cellsB (nx .dead s.blks 0)) 0)) (intS (nx .und (cellsB (nx .dead s.blks 0)) 1)) := by kernel_rfl
def VLS126_2 {β : Type} (N : Nat) (jq53 : Nat → Int → Int → Int → Int → Int → Int → (Int → Int → Int → Int → Int → Option β) → Option β) : LSpec β := fun s K => cond (shpSt (h126_1_0 0 0 0 0 0 0) s) ((fun (v0 : Int) (v1 : Int) (v2 : Int) (v3 : Int) (v4 : Int) (v5 : Int) => jq53  N v0 v1 v2 v3 v4 v5 (fun y0 y1 y2 y3 y4 => K (.exit 2) (x126_1_0_k0  y0 y1 y2 y3 y4))) (intS (oneA (vT (nx tund s.tmps 3)))) (intS (oneA (vT (nx tund s.tmps 4)))) (intS (oneA (vT (nx tund s.tmps 5)))) (intS (oneA (vT (nx tund s.tmps 6)))) (intS (nx .und (cellsB (nx .dead s.blks 0)) 0)) (intS (nx .und (cellsB (nx .dead s.blks 0)) 1))) (none)
def LS126_2 {β : Type} (N : Nat) : LSpec β := VLS126_2 N (j53 N)
def VE126 {β : Type} (N : Nat) (jq55 : Nat → Int → Int → Int → Int → (Int → Option β) → Option β) (jq53 : Nat → Int → Int → Int → Int → Int → Int → (Int → Int → Int → Int → Int → Option β) → Option β) : Env β := ⟨[], [], [(0, VLS126_0 N jq55), (2, VLS126_2 N jq53)], [], ⟨[], [], []⟩⟩
def E126 {β : Type} (N : Nat) : Env β := VE126 N (j55 N) (j53 N)
def jb54 {β : Type} (N : Nat) (jq53 : Nat → Int → Int → Int → Int → Int → Int → (Int → Int → Int → Int → Int → Option β) → Option β)  (v0 : Int) (v1 : Int) (v2 : Int) (v3 : Int) (rec_ : Int → Int → Int → Int → Option β) (k0 : Int → Option β) : Option β :=
(gd ((decide (0 ≤ v2)))
((cond ((decide (v1 < (shlI .i64 1 v2))))
(jq53  N v0 v1 0 0 v2 v3 (fun e3_0 e3_1 e3_2 e3_3 e3_4 =>
(gd ((decide (0 ≤ e3_1)))
(rec_ ((bits .or .i64 e3_0 (shlI .i64 (remI e3_2 2) e3_1))) ((w64 (e3_1 + 1))) e3_3 e3_4))))
(k0 v0))))
theorem jt54 {β : Type} (N : Nat)  (v0 : Int) (v1 : Int) (v2 : Int) (v3 : Int) (rec_ : Int → Int → Int → Int → Option β) (k0 : Int → Option β) : j54 N v0 v1 v2 v3 rec_ k0 = jb54 N (j53 N) v0 v1 v2 v3 rec_ k0 := by
  unfold j54 jb54
  rfl
theorem vst126_0_0 {β : Type} (N : Nat) (jq55 : Nat → Int → Int → Int → Int → (Int → Option β) → Option β) (jq53 : Nat → Int → Int → Int → Int → Int → Int → (Int → Int → Int → Int → Int → Option β) → Option β)  (v0 : Int) (v1 : Int) (v2 : Int) (v3 : Int) (rec_ : St → Option β) (K : Exit → St → Option β) :
    ev lay (VE126 N jq55 jq53) (retMask Tryz.f126) (lp Tryz.f126 0).body (lp Tryz.f126 0).ex ((lp Tryz.f126 0).lv (retMask Tryz.f126)) (h126_0_0  v0 v1 v2 v3) (nextR (fun s' => rec_ (s'.tidy ((lp Tryz.f126 0).lv (retMask Tryz.f126)))) K) = jb54 N jq53  v0 v1 v2 v3 (fun v0 v1 v2 v3 => rec_ (h126_0_0  v0 v1 v2 v3)) (fun y0 => K (.exit 0) (x126_0_0_k0  y0)) := by kernel_rfl
theorem st126_0_0 {β : Type} (N : Nat)  (v0 : Int) (v1 : Int) (v2 : Int) (v3 : Int) (rec_ : St → Option β) (K : Exit → St → Option β) :
    ev lay (E126 N) (retMask Tryz.f126) (lp Tryz.f126 0).body (lp Tryz.f126 0).ex ((lp Tryz.f126 0).lv (retMask Tryz.f126)) (h126_0_0  v0 v1 v2 v3) (nextR (fun s' => rec_ (s'.tidy ((lp Tryz.f126 0).lv (retMask Tryz.f126)))) K) = j54 N  v0 v1 v2 v3 (fun v0 v1 v2 v3 => rec_ (h126_0_0  v0 v1 v2 v3)) (fun y0 => K (.exit 0) (x126_0_0_k0  y0)) := (vst126_0_0 N (j55 N) (j53 N) v0 v1 v2 v3 rec_ K).trans (jt54 N  v0 v1 v2 v3 (fun v0 v1 v2 v3 => rec_ (h126_0_0  v0 v1 v2 v3)) (fun y0 => K (.exit 0) (x126_0_0_k0  y0))).symm
theorem ro126_0_0 {β : Type} (N : Nat)  (K : Exit → St → Option β) : ∀ (F : Nat) (v0 : Int) (v1 : Int) (v2 : Int) (v3 : Int), (lp Tryz.f126 0).rounds lay (E126 N) (retMask Tryz.f126) F (h126_0_0  v0 v1 v2 v3) K = j55 N  F v0 v1 v2 v3 (fun y0 => K (.exit 0) (x126_0_0_k0  y0)) := by
  intro F
  induction F with
  | zero => intros; rfl
  | succ F ih =>
    intros
    rw [rounds_next]
    refine (st126_0_0 N  _ _ _ _ (fun s => (lp Tryz.f126 0).rounds lay (E126 N) (retMask Tryz.f126) F s K) K).trans ?_
    simp only [ih]
    rfl
theorem lk126_0 {β : Type} (N : Nat) : lookL (E126 (β := β) N).loops (lp Tryz.f126 0).id = LS126_0 N := by kernel_rfl
theorem rk126_0 {β : Type} (N : Nat) : RoundsOK lay (E126 (β := β) N) (retMask Tryz.f126) (lp Tryz.f126 0) := by
  intro s K r h
  rw [lk126_0] at h
  unfold LS126_0 VLS126_0 at h
  cases hb : shpSt (h126_0_0 0 0 0 0) s with
  | true =>
    rw [hb, cond_true] at h
    exact ⟨N, by rw [← shpSt_ref hb, fl126_0_0 s]; exact (ro126_0_0 N  K N (intS (oneA (vT (nx tund s.tmps 3)))) (intS (oneA (vT (nx tund s.tmps 4)))) (intS (nx .und (cellsB (nx .dead s.blks 0)) 0)) (intS (nx .und (cellsB (nx .dead s.blks 0)) 1))).trans h⟩
  | false =>
  rw [hb, cond_false] at h
  clear hb
  cases h
def jb52 {β : Type} (N : Nat)  (v0 : Int) (v1 : Int) (v2 : Int) (v3 : Int) (v4 : Int) (v5 : Int) (rec_ : Int → Int → Int → Int → Int → Int → Option β) (k0 : Int → Int → Int → Int → Int → Option β) : Option β :=
(cond ((decide (v3 ≤ v1)))
((cond (((bits .and .i64 v3 v1) == v3))
((gd ((decide (0 ≤ v3)))
(rec_ v0 v1 ((w64 (v2 + (bits .and .i64 (shrI .i64 v5 v3) 1)))) ((w64 (v3 + 1))) v4 v5)))
(rec_ v0 v1 v2 ((w64 (v3 + 1))) v4 v5)))
(k0 v0 v1 v2 v4 v5))
theorem jt52 {β : Type} (N : Nat)  (v0 : Int) (v1 : Int) (v2 : Int) (v3 : Int) (v4 : Int) (v5 : Int) (rec_ : Int → Int → Int → Int → Int → Int → Option β) (k0 : Int → Int → Int → Int → Int → Option β) : j52 N v0 v1 v2 v3 v4 v5 rec_ k0 = jb52 N v0 v1 v2 v3 v4 v5 rec_ k0 := by
  unfold j52 jb52
  rfl
theorem vst126_1_0 {β : Type} (N : Nat) (jq55 : Nat → Int → Int → Int → Int → (Int → Option β) → Option β) (jq53 : Nat → Int → Int → Int → Int → Int → Int → (Int → Int → Int → Int → Int → Option β) → Option β)  (v0 : Int) (v1 : Int) (v2 : Int) (v3 : Int) (v4 : Int) (v5 : Int) (rec_ : St → Option β) (K : Exit → St → Option β) :
    ev lay (VE126 N jq55 jq53) (retMask Tryz.f126) (lp Tryz.f126 1).body (lp Tryz.f126 1).ex ((lp Tryz.f126 1).lv (retMask Tryz.f126)) (h126_1_0  v0 v1 v2 v3 v4 v5) (nextR (fun s' => rec_ (s'.tidy ((lp Tryz.f126 1).lv (retMask Tryz.f126)))) K) = jb52 N  v0 v1 v2 v3 v4 v5 (fun v0 v1 v2 v3 v4 v5 => rec_ (h126_1_0  v0 v1 v2 v3 v4 v5)) (fun y0 y1 y2 y3 y4 => K (.exit 2) (x126_1_0_k0  y0 y1 y2 y3 y4)) := by kernel_rfl
theorem st126_1_0 {β : Type} (N : Nat)  (v0 : Int) (v1 : Int) (v2 : Int) (v3 : Int) (v4 : Int) (v5 : Int) (rec_ : St → Option β) (K : Exit → St → Option β) :
    ev lay (E126 N) (retMask Tryz.f126) (lp Tryz.f126 1).body (lp Tryz.f126 1).ex ((lp Tryz.f126 1).lv (retMask Tryz.f126)) (h126_1_0  v0 v1 v2 v3 v4 v5) (nextR (fun s' => rec_ (s'.tidy ((lp Tryz.f126 1).lv (retMask Tryz.f126)))) K) = j52 N  v0 v1 v2 v3 v4 v5 (fun v0 v1 v2 v3 v4 v5 => rec_ (h126_1_0  v0 v1 v2 v3 v4 v5)) (fun y0 y1 y2 y3 y4 => K (.exit 2) (x126_1_0_k0  y0 y1 y2 y3 y4)) := (vst126_1_0 N (j55 N) (j53 N) v0 v1 v2 v3 v4 v5 rec_ K).trans (jt52 N  v0 v1 v2 v3 v4 v5 (fun v0 v1 v2 v3 v4 v5 => rec_ (h126_1_0  v0 v1 v2 v3 v4 v5)) (fun y0 y1 y2 y3 y4 => K (.exit 2) (x126_1_0_k0  y0 y1 y2 y3 y4))).symm
theorem ro126_1_0 {β : Type} (N : Nat)  (K : Exit → St → Option β) : ∀ (F : Nat) (v0 : Int) (v1 : Int) (v2 : Int) (v3 : Int) (v4 : Int) (v5 : Int), (lp Tryz.f126 1).rounds lay (E126 N) (retMask Tryz.f126) F (h126_1_0  v0 v1 v2 v3 v4 v5) K = j53 N  F v0 v1 v2 v3 v4 v5 (fun y0 y1 y2 y3 y4 => K (.exit 2) (x126_1_0_k0  y0 y1 y2 y3 y4)) := by
  intro F
  induction F with
  | zero => intros; rfl
  | succ F ih =>
    intros
    rw [rounds_next]
    refine (st126_1_0 N  _ _ _ _ _ _ (fun s => (lp Tryz.f126 1).rounds lay (E126 N) (retMask Tryz.f126) F s K) K).trans ?_
    simp only [ih]
    rfl
theorem lk126_2 {β : Type} (N : Nat) : lookL (E126 (β := β) N).loops (lp Tryz.f126 1).id = LS126_2 N := by kernel_rfl
theorem rk126_2 {β : Type} (N : Nat) : RoundsOK lay (E126 (β := β) N) (retMask Tryz.f126) (lp Tryz.f126 1) := by
  intro s K r h
  rw [lk126_2] at h
  unfold LS126_2 VLS126_2 at h
  cases hb : shpSt (h126_1_0 0 0 0 0 0 0) s with
  | true =>
    rw [hb, cond_true] at h
    exact ⟨N, by rw [← shpSt_ref hb, fl126_1_0 s]; exact (ro126_1_0 N  K N (intS (oneA (vT (nx tund s.tmps 3)))) (intS (oneA (vT (nx tund s.tmps 4)))) (intS (oneA (vT (nx tund s.tmps 5)))) (intS (oneA (vT (nx tund s.tmps 6)))) (intS (nx .und (cellsB (nx .dead s.blks 0)) 0)) (intS (nx .und (cellsB (nx .dead s.blks 0)) 1))).trans h⟩
  | false =>
  rw [hb, cond_false] at h
  clear hb
  cases h
def jb56 {β : Type} (N : Nat) (jq55 : Nat → Int → Int → Int → Int → (Int → Option β) → Option β) (a0 : Int) (a1 : Int) (k : Int → Option β) : Option β :=
jq55  N 0 0 a0 a1 (fun e4_0 =>
k e4_0)
theorem jt56 {β : Type} (N : Nat) (a0 : Int) (a1 : Int) (k : Int → Option β) : j56 N a0 a1 k = jb56 N (j55 N) a0 a1 k := by
  unfold j56 jb56
  rfl
theorem ve126_0 {β : Type} (N : Nat) (jq55 : Nat → Int → Int → Int → Int → (Int → Option β) → Option β) (jq53 : Nat → Int → Int → Int → Int → Int → Int → (Int → Int → Int → Int → Int → Option β) → Option β)  (a0 : Int) (a1 : Int) (K : TV → Option β) : evFn lay (VE126 N jq55 jq53) Tryz.f126 [.v (.agg [.int .i64 a0, .int .i64 a1])] K = jb56 N jq55 a0 a1 (fun z2 => K (.v (.one (.int .i64 z2)))) := by kernel_rfl
theorem e126_0 {β : Type} (N : Nat)  (a0 : Int) (a1 : Int) (K : TV → Option β) : evFn lay (E126 N) Tryz.f126 [.v (.agg [.int .i64 a0, .int .i64 a1])] K = j56 N a0 a1 (fun z2 => K (.v (.one (.int .i64 z2)))) := (ve126_0 N (j55 N) (j53 N) a0 a1 K).trans (jt56 N a0 a1 (fun z2 => K (.v (.one (.int .i64 z2))))).symm
theorem o126 {β : Type} (N : Nat) : SpecOK (β := β) inv Tryz.prog 126 (S126 N) := by
  refine spec_of lay_ok mixed (E := E126 N) (specs_loops specs_nil) muts_nil gs_nil Tryz.func126 (by kernel_rfl) 2 (by kernel_rfl) ⟨⟨trivial, rk126_0 N⟩, rk126_2 N⟩ fun args K r h => ?_
  unfold S126 VS126 at h
  split at h
  · exact (e126_0 N _ _ _).trans h
  · cases h
def VS68 {β : Type} (N : Nat) (jq59 : (a0 : Int) → (a1 : Int) → (k : Int → Option β) → Option β) : Rv.Spec β := fun args K => match args with
  | [.v (.agg [.int .i64 a0, .int .i64 a1])] => jq59 a0 a1 (fun z2 => K (.v (.one (.int .i64 z2))))
  | _ => none
def S68 {β : Type} (N : Nat) : Rv.Spec β := VS68 N (j59 N)
def h68_0_0  (v0 : Int) (v1 : Int) (v2 : Int) (v3 : Int) (v4 : Int) : St := ⟨tund :: .v (.one (.ptr 0 0)) :: tund :: .v (.one (.int .i64 v0)) :: .v (.one (.int .i64 v1)) :: .v (.one (.int .i64 v2)) :: tund :: tund :: tund :: tund :: tund :: tund :: tund :: tund :: tund :: tund :: tund :: tund :: tund :: tund :: tund :: tund :: tund :: tund :: tund :: tund :: tund :: tund :: [], [.cells 25 [.int .i64 v3, .int .i64 v4]]⟩
def x68_0_0_k0  (y0 : Int) : St := ⟨tund :: tund :: tund :: tund :: .v (.one (.int .i64 y0)) :: tund :: tund :: tund :: tund :: tund :: tund :: tund :: tund :: tund :: tund :: tund :: tund :: tund :: tund :: tund :: tund :: tund :: tund :: tund :: tund :: tund :: tund :: tund :: [], []⟩
theorem fl68_0_0 (s : St) : refSt (h68_0_0 0 0 0 0 0) s = h68_0_0 (intS (oneA (vT (nx tund s.tmps 3)))) (intS (oneA (vT (nx tund s.tmps 4)))) (intS (oneA (vT (nx tund s.tmps 5)))) (intS (nx .und (cellsB (nx .dead s.blks 0)) 0)) (intS (nx .und (cellsB (nx .dead s.blks 0)) 1)) := by kernel_rfl
def VLS68_0 {β : Type} (N : Nat) (jq58 : Nat → Int → Int → Int → Int → Int → (Int → Option β) → Option β) : LSpec β := fun s K => cond (shpSt (h68_0_0 0 0 0 0 0) s) ((fun (v0 : Int) (v1 : Int) (v2 : Int) (v3 : Int) (v4 : Int) => jq58  N v0 v1 v2 v3 v4 (fun y0 => K (.exit 0) (x68_0_0_k0  y0))) (intS (oneA (vT (nx tund s.tmps 3)))) (intS (oneA (vT (nx tund s.tmps 4)))) (intS (oneA (vT (nx tund s.tmps 5)))) (intS (nx .und (cellsB (nx .dead s.blks 0)) 0)) (intS (nx .und (cellsB (nx .dead s.blks 0)) 1))) (none)
def LS68_0 {β : Type} (N : Nat) : LSpec β := VLS68_0 N (j58 N)
def VE68 {β : Type} (N : Nat) (jq2 : (a0 : Int) → (a1 : Int) → (k : Bool → Option β) → Option β) (jq56 : (a0 : Int) → (a1 : Int) → (k : Int → Option β) → Option β) (jq27 : (a0 : Int) → (k : Int → Option β) → Option β) (jq58 : Nat → Int → Int → Int → Int → Int → (Int → Option β) → Option β) : Env β := ⟨[(13, VS13 N jq2), (126, VS126 N jq56), (33, VS33 N jq27)], [], [(0, VLS68_0 N jq58)], [], ⟨[], [], []⟩⟩
def E68 {β : Type} (N : Nat) : Env β := VE68 N (j2 N) (j56 N) (j27 N) (j58 N)
def jb57 {β : Type} (N : Nat) (jq27 : (a0 : Int) → (k : Int → Option β) → Option β)  (v0 : Int) (v1 : Int) (v2 : Int) (v3 : Int) (v4 : Int) (rec_ : Int → Int → Int → Int → Int → Option β) (k0 : Int → Option β) : Option β :=
(gd ((decide (0 ≤ v3)))
((cond ((decide (v2 < (shlI .i64 1 v3))))
((gd ((decide (0 ≤ v2)))
((cond (((bits .and .i64 (shrI .i64 v0 v2) 1) == 1))
(jq27 v2 fun r5 =>
rec_ v0 ((mxI v1 r5)) ((w64 (v2 + 1))) v3 v4)
(rec_ v0 v1 ((w64 (v2 + 1))) v3 v4)))))
(k0 v1))))
theorem jt57 {β : Type} (N : Nat)  (v0 : Int) (v1 : Int) (v2 : Int) (v3 : Int) (v4 : Int) (rec_ : Int → Int → Int → Int → Int → Option β) (k0 : Int → Option β) : j57 N v0 v1 v2 v3 v4 rec_ k0 = jb57 N (j27 N) v0 v1 v2 v3 v4 rec_ k0 := by
  unfold j57 jb57
  rfl
theorem vst68_0_0 {β : Type} (N : Nat) (jq2 : (a0 : Int) → (a1 : Int) → (k : Bool → Option β) → Option β) (jq56 : (a0 : Int) → (a1 : Int) → (k : Int → Option β) → Option β) (jq27 : (a0 : Int) → (k : Int → Option β) → Option β) (jq58 : Nat → Int → Int → Int → Int → Int → (Int → Option β) → Option β)  (v0 : Int) (v1 : Int) (v2 : Int) (v3 : Int) (v4 : Int) (rec_ : St → Option β) (K : Exit → St → Option β) :
    ev lay (VE68 N jq2 jq56 jq27 jq58) (retMask Tryz.f68) (lp Tryz.f68 0).body (lp Tryz.f68 0).ex ((lp Tryz.f68 0).lv (retMask Tryz.f68)) (h68_0_0  v0 v1 v2 v3 v4) (nextR (fun s' => rec_ (s'.tidy ((lp Tryz.f68 0).lv (retMask Tryz.f68)))) K) = jb57 N jq27  v0 v1 v2 v3 v4 (fun v0 v1 v2 v3 v4 => rec_ (h68_0_0  v0 v1 v2 v3 v4)) (fun y0 => K (.exit 0) (x68_0_0_k0  y0)) := by kernel_rfl
theorem st68_0_0 {β : Type} (N : Nat)  (v0 : Int) (v1 : Int) (v2 : Int) (v3 : Int) (v4 : Int) (rec_ : St → Option β) (K : Exit → St → Option β) :
    ev lay (E68 N) (retMask Tryz.f68) (lp Tryz.f68 0).body (lp Tryz.f68 0).ex ((lp Tryz.f68 0).lv (retMask Tryz.f68)) (h68_0_0  v0 v1 v2 v3 v4) (nextR (fun s' => rec_ (s'.tidy ((lp Tryz.f68 0).lv (retMask Tryz.f68)))) K) = j57 N  v0 v1 v2 v3 v4 (fun v0 v1 v2 v3 v4 => rec_ (h68_0_0  v0 v1 v2 v3 v4)) (fun y0 => K (.exit 0) (x68_0_0_k0  y0)) := (vst68_0_0 N (j2 N) (j56 N) (j27 N) (j58 N) v0 v1 v2 v3 v4 rec_ K).trans (jt57 N  v0 v1 v2 v3 v4 (fun v0 v1 v2 v3 v4 => rec_ (h68_0_0  v0 v1 v2 v3 v4)) (fun y0 => K (.exit 0) (x68_0_0_k0  y0))).symm
theorem ro68_0_0 {β : Type} (N : Nat)  (K : Exit → St → Option β) : ∀ (F : Nat) (v0 : Int) (v1 : Int) (v2 : Int) (v3 : Int) (v4 : Int), (lp Tryz.f68 0).rounds lay (E68 N) (retMask Tryz.f68) F (h68_0_0  v0 v1 v2 v3 v4) K = j58 N  F v0 v1 v2 v3 v4 (fun y0 => K (.exit 0) (x68_0_0_k0  y0)) := by
  intro F
  induction F with
  | zero => intros; rfl
  | succ F ih =>
    intros
    rw [rounds_next]
    refine (st68_0_0 N  _ _ _ _ _ (fun s => (lp Tryz.f68 0).rounds lay (E68 N) (retMask Tryz.f68) F s K) K).trans ?_
    simp only [ih]
    rfl
theorem lk68_0 {β : Type} (N : Nat) : lookL (E68 (β := β) N).loops (lp Tryz.f68 0).id = LS68_0 N := by kernel_rfl
theorem rk68_0 {β : Type} (N : Nat) : RoundsOK lay (E68 (β := β) N) (retMask Tryz.f68) (lp Tryz.f68 0) := by
  intro s K r h
  rw [lk68_0] at h
  unfold LS68_0 VLS68_0 at h
  cases hb : shpSt (h68_0_0 0 0 0 0 0) s with
  | true =>
    rw [hb, cond_true] at h
    exact ⟨N, by rw [← shpSt_ref hb, fl68_0_0 s]; exact (ro68_0_0 N  K N (intS (oneA (vT (nx tund s.tmps 3)))) (intS (oneA (vT (nx tund s.tmps 4)))) (intS (oneA (vT (nx tund s.tmps 5)))) (intS (nx .und (cellsB (nx .dead s.blks 0)) 0)) (intS (nx .und (cellsB (nx .dead s.blks 0)) 1))).trans h⟩
  | false =>
  rw [hb, cond_false] at h
  clear hb
  cases h
def jb59 {β : Type} (N : Nat) (jq2 : (a0 : Int) → (a1 : Int) → (k : Bool → Option β) → Option β) (jq56 : (a0 : Int) → (a1 : Int) → (k : Int → Option β) → Option β) (jq58 : Nat → Int → Int → Int → Int → Int → (Int → Option β) → Option β) (a0 : Int) (a1 : Int) (k : Int → Option β) : Option β :=
jq2 a0 a1 fun r3 =>
(cond (!r3)
(k (-2))
(jq56 a0 a1 fun r4 =>
jq58  N r4 (-1) 0 a0 a1 (fun e6_0 =>
k e6_0)))
theorem jt59 {β : Type} (N : Nat) (a0 : Int) (a1 : Int) (k : Int → Option β) : j59 N a0 a1 k = jb59 N (j2 N) (j56 N) (j58 N) a0 a1 k := by
  unfold j59 jb59
  rfl
theorem ve68_0 {β : Type} (N : Nat) (jq2 : (a0 : Int) → (a1 : Int) → (k : Bool → Option β) → Option β) (jq56 : (a0 : Int) → (a1 : Int) → (k : Int → Option β) → Option β) (jq27 : (a0 : Int) → (k : Int → Option β) → Option β) (jq58 : Nat → Int → Int → Int → Int → Int → (Int → Option β) → Option β)  (a0 : Int) (a1 : Int) (K : TV → Option β) : evFn lay (VE68 N jq2 jq56 jq27 jq58) Tryz.f68 [.v (.agg [.int .i64 a0, .int .i64 a1])] K = jb59 N jq2 jq56 jq58 a0 a1 (fun z2 => K (.v (.one (.int .i64 z2)))) := by kernel_rfl
theorem e68_0 {β : Type} (N : Nat)  (a0 : Int) (a1 : Int) (K : TV → Option β) : evFn lay (E68 N) Tryz.f68 [.v (.agg [.int .i64 a0, .int .i64 a1])] K = j59 N a0 a1 (fun z2 => K (.v (.one (.int .i64 z2)))) := (ve68_0 N (j2 N) (j56 N) (j27 N) (j58 N) a0 a1 K).trans (jt59 N a0 a1 (fun z2 => K (.v (.one (.int .i64 z2))))).symm
theorem o68 {β : Type} (N : Nat) : SpecOK (β := β) inv Tryz.prog 68 (S68 N) := by
  refine spec_of lay_ok mixed (E := E68 N) (specs_loops (specs_cons (o13 N) (specs_cons (o126 N) (specs_cons (o33 N) specs_nil)))) muts_nil gs_nil Tryz.func68 (by kernel_rfl) 1 (by kernel_rfl) ⟨trivial, rk68_0 N⟩ fun args K r h => ?_
  unfold S68 VS68 at h
  split at h
  · exact (e68_0 N _ _ _).trans h
  · cases h
def VS69 {β : Type} (N : Nat) (jq60 : (a0 : Int) → (a1 : Int) → (k : Int → Option β) → Option β) : Rv.Spec β := fun args K => match args with
  | [.v (.agg [.int .i64 a0, .int .i64 a1])] => jq60 a0 a1 (fun z2 => K (.v (.one (.int .i64 z2))))
  | _ => none
def S69 {β : Type} (N : Nat) : Rv.Spec β := VS69 N (j60 N)
def VE69 {β : Type} (N : Nat) (jq2 : (a0 : Int) → (a1 : Int) → (k : Bool → Option β) → Option β) (jq27 : (a0 : Int) → (k : Int → Option β) → Option β) : Env β := ⟨[(13, VS13 N jq2), (33, VS33 N jq27)], [], [], [], ⟨[], [], []⟩⟩
def E69 {β : Type} (N : Nat) : Env β := VE69 N (j2 N) (j27 N)
def jb60 {β : Type} (N : Nat) (jq2 : (a0 : Int) → (a1 : Int) → (k : Bool → Option β) → Option β) (jq27 : (a0 : Int) → (k : Int → Option β) → Option β) (a0 : Int) (a1 : Int) (k : Int → Option β) : Option β :=
jq2 a0 a1 fun r3 =>
(cond (!r3)
(k (-1))
(jq27 a1 fun r4 =>
k r4))
theorem jt60 {β : Type} (N : Nat) (a0 : Int) (a1 : Int) (k : Int → Option β) : j60 N a0 a1 k = jb60 N (j2 N) (j27 N) a0 a1 k := by
  unfold j60 jb60
  rfl
theorem ve69_0 {β : Type} (N : Nat) (jq2 : (a0 : Int) → (a1 : Int) → (k : Bool → Option β) → Option β) (jq27 : (a0 : Int) → (k : Int → Option β) → Option β)  (a0 : Int) (a1 : Int) (K : TV → Option β) : evFn lay (VE69 N jq2 jq27) Tryz.f69 [.v (.agg [.int .i64 a0, .int .i64 a1])] K = jb60 N jq2 jq27 a0 a1 (fun z2 => K (.v (.one (.int .i64 z2)))) := by kernel_rfl
theorem e69_0 {β : Type} (N : Nat)  (a0 : Int) (a1 : Int) (K : TV → Option β) : evFn lay (E69 N) Tryz.f69 [.v (.agg [.int .i64 a0, .int .i64 a1])] K = j60 N a0 a1 (fun z2 => K (.v (.one (.int .i64 z2)))) := (ve69_0 N (j2 N) (j27 N) a0 a1 K).trans (jt60 N a0 a1 (fun z2 => K (.v (.one (.int .i64 z2))))).symm
theorem o69 {β : Type} (N : Nat) : SpecOK (β := β) inv Tryz.prog 69 (S69 N) := by
  refine spec_of lay_ok mixed (E := E69 N) (specs_loops (specs_cons (o13 N) (specs_cons (o33 N) specs_nil))) muts_nil gs_nil Tryz.func69 (by kernel_rfl) 0 (by kernel_rfl) trivial fun args K r h => ?_
  unfold S69 VS69 at h
  split at h
  · exact (e69_0 N _ _ _).trans h
  · cases h
def VS127 {β : Type} (N : Nat) (jq63 : (a0 : Int) → (a1 : Int) → (k : Int → Option β) → Option β) : Rv.Spec β := fun args K => match args with
  | [.v (.agg [.int .i64 a0, .int .i64 a1])] => jq63 a0 a1 (fun z2 => K (.v (.one (.int .i64 z2))))
  | _ => none
def S127 {β : Type} (N : Nat) : Rv.Spec β := VS127 N (j63 N)
def h127_0_0  (v0 : Int) (v1 : Int) (v2 : Int) (v3 : Int) : St := ⟨tund :: .v (.one (.ptr 0 0)) :: tund :: .v (.one (.int .i64 v0)) :: .v (.one (.int .i64 v1)) :: tund :: tund :: tund :: tund :: tund :: tund :: tund :: tund :: tund :: tund :: tund :: tund :: tund :: tund :: tund :: tund :: tund :: [], [.cells 25 [.int .i64 v2, .int .i64 v3]]⟩
def x127_0_0_k0  (y0 : Int) : St := ⟨tund :: tund :: tund :: .v (.one (.int .i64 y0)) :: tund :: tund :: tund :: tund :: tund :: tund :: tund :: tund :: tund :: tund :: tund :: tund :: tund :: tund :: tund :: tund :: tund :: tund :: [], []⟩
theorem fl127_0_0 (s : St) : refSt (h127_0_0 0 0 0 0) s = h127_0_0 (intS (oneA (vT (nx tund s.tmps 3)))) (intS (oneA (vT (nx tund s.tmps 4)))) (intS (nx .und (cellsB (nx .dead s.blks 0)) 0)) (intS (nx .und (cellsB (nx .dead s.blks 0)) 1)) := by kernel_rfl
def VLS127_0 {β : Type} (N : Nat) (jq62 : Nat → Int → Int → Int → Int → (Int → Option β) → Option β) : LSpec β := fun s K => cond (shpSt (h127_0_0 0 0 0 0) s) ((fun (v0 : Int) (v1 : Int) (v2 : Int) (v3 : Int) => jq62  N v0 v1 v2 v3 (fun y0 => K (.exit 0) (x127_0_0_k0  y0))) (intS (oneA (vT (nx tund s.tmps 3)))) (intS (oneA (vT (nx tund s.tmps 4)))) (intS (nx .und (cellsB (nx .dead s.blks 0)) 0)) (intS (nx .und (cellsB (nx .dead s.blks 0)) 1))) (none)
def LS127_0 {β : Type} (N : Nat) : LSpec β := VLS127_0 N (j62 N)
def VE127 {β : Type} (N : Nat) (jq2 : (a0 : Int) → (a1 : Int) → (k : Bool → Option β) → Option β) (jq6 : (a0 : Int) → (a1 : Int) → (a2 : Int) → (k : Int → Option β) → Option β) (jq62 : Nat → Int → Int → Int → Int → (Int → Option β) → Option β) : Env β := ⟨[(13, VS13 N jq2), (122, VS122 N jq6)], [], [(0, VLS127_0 N jq62)], [], ⟨[], [], []⟩⟩
def E127 {β : Type} (N : Nat) : Env β := VE127 N (j2 N) (j6 N) (j62 N)
def jb61 {β : Type} (N : Nat) (jq6 : (a0 : Int) → (a1 : Int) → (a2 : Int) → (k : Int → Option β) → Option β)  (v0 : Int) (v1 : Int) (v2 : Int) (v3 : Int) (rec_ : Int → Int → Int → Int → Option β) (k0 : Int → Option β) : Option β :=
(gd ((decide (0 ≤ v2)))
((cond ((decide (v1 < (shlI .i64 1 v2))))
(jq6 v2 v3 v1 fun r4 =>
rec_ ((w64 (v0 + r4))) ((w64 (v1 + 1))) v2 v3)
(k0 v0))))
theorem jt61 {β : Type} (N : Nat)  (v0 : Int) (v1 : Int) (v2 : Int) (v3 : Int) (rec_ : Int → Int → Int → Int → Option β) (k0 : Int → Option β) : j61 N v0 v1 v2 v3 rec_ k0 = jb61 N (j6 N) v0 v1 v2 v3 rec_ k0 := by
  unfold j61 jb61
  rfl
theorem vst127_0_0 {β : Type} (N : Nat) (jq2 : (a0 : Int) → (a1 : Int) → (k : Bool → Option β) → Option β) (jq6 : (a0 : Int) → (a1 : Int) → (a2 : Int) → (k : Int → Option β) → Option β) (jq62 : Nat → Int → Int → Int → Int → (Int → Option β) → Option β)  (v0 : Int) (v1 : Int) (v2 : Int) (v3 : Int) (rec_ : St → Option β) (K : Exit → St → Option β) :
    ev lay (VE127 N jq2 jq6 jq62) (retMask Tryz.f127) (lp Tryz.f127 0).body (lp Tryz.f127 0).ex ((lp Tryz.f127 0).lv (retMask Tryz.f127)) (h127_0_0  v0 v1 v2 v3) (nextR (fun s' => rec_ (s'.tidy ((lp Tryz.f127 0).lv (retMask Tryz.f127)))) K) = jb61 N jq6  v0 v1 v2 v3 (fun v0 v1 v2 v3 => rec_ (h127_0_0  v0 v1 v2 v3)) (fun y0 => K (.exit 0) (x127_0_0_k0  y0)) := by kernel_rfl
theorem st127_0_0 {β : Type} (N : Nat)  (v0 : Int) (v1 : Int) (v2 : Int) (v3 : Int) (rec_ : St → Option β) (K : Exit → St → Option β) :
    ev lay (E127 N) (retMask Tryz.f127) (lp Tryz.f127 0).body (lp Tryz.f127 0).ex ((lp Tryz.f127 0).lv (retMask Tryz.f127)) (h127_0_0  v0 v1 v2 v3) (nextR (fun s' => rec_ (s'.tidy ((lp Tryz.f127 0).lv (retMask Tryz.f127)))) K) = j61 N  v0 v1 v2 v3 (fun v0 v1 v2 v3 => rec_ (h127_0_0  v0 v1 v2 v3)) (fun y0 => K (.exit 0) (x127_0_0_k0  y0)) := (vst127_0_0 N (j2 N) (j6 N) (j62 N) v0 v1 v2 v3 rec_ K).trans (jt61 N  v0 v1 v2 v3 (fun v0 v1 v2 v3 => rec_ (h127_0_0  v0 v1 v2 v3)) (fun y0 => K (.exit 0) (x127_0_0_k0  y0))).symm
theorem ro127_0_0 {β : Type} (N : Nat)  (K : Exit → St → Option β) : ∀ (F : Nat) (v0 : Int) (v1 : Int) (v2 : Int) (v3 : Int), (lp Tryz.f127 0).rounds lay (E127 N) (retMask Tryz.f127) F (h127_0_0  v0 v1 v2 v3) K = j62 N  F v0 v1 v2 v3 (fun y0 => K (.exit 0) (x127_0_0_k0  y0)) := by
  intro F
  induction F with
  | zero => intros; rfl
  | succ F ih =>
    intros
    rw [rounds_next]
    refine (st127_0_0 N  _ _ _ _ (fun s => (lp Tryz.f127 0).rounds lay (E127 N) (retMask Tryz.f127) F s K) K).trans ?_
    simp only [ih]
    rfl
theorem lk127_0 {β : Type} (N : Nat) : lookL (E127 (β := β) N).loops (lp Tryz.f127 0).id = LS127_0 N := by kernel_rfl
theorem rk127_0 {β : Type} (N : Nat) : RoundsOK lay (E127 (β := β) N) (retMask Tryz.f127) (lp Tryz.f127 0) := by
  intro s K r h
  rw [lk127_0] at h
  unfold LS127_0 VLS127_0 at h
  cases hb : shpSt (h127_0_0 0 0 0 0) s with
  | true =>
    rw [hb, cond_true] at h
    exact ⟨N, by rw [← shpSt_ref hb, fl127_0_0 s]; exact (ro127_0_0 N  K N (intS (oneA (vT (nx tund s.tmps 3)))) (intS (oneA (vT (nx tund s.tmps 4)))) (intS (nx .und (cellsB (nx .dead s.blks 0)) 0)) (intS (nx .und (cellsB (nx .dead s.blks 0)) 1))).trans h⟩
  | false =>
  rw [hb, cond_false] at h
  clear hb
  cases h
def jb63 {β : Type} (N : Nat) (jq2 : (a0 : Int) → (a1 : Int) → (k : Bool → Option β) → Option β) (jq62 : Nat → Int → Int → Int → Int → (Int → Option β) → Option β) (a0 : Int) (a1 : Int) (k : Int → Option β) : Option β :=
jq2 a0 a1 fun r3 =>
(cond (!r3)
(k (-1))
(jq62  N 0 0 a0 a1 (fun e5_0 =>
k ((quoI .i64 e5_0 2)))))
theorem jt63 {β : Type} (N : Nat) (a0 : Int) (a1 : Int) (k : Int → Option β) : j63 N a0 a1 k = jb63 N (j2 N) (j62 N) a0 a1 k := by
  unfold j63 jb63
  rfl
theorem ve127_0 {β : Type} (N : Nat) (jq2 : (a0 : Int) → (a1 : Int) → (k : Bool → Option β) → Option β) (jq6 : (a0 : Int) → (a1 : Int) → (a2 : Int) → (k : Int → Option β) → Option β) (jq62 : Nat → Int → Int → Int → Int → (Int → Option β) → Option β)  (a0 : Int) (a1 : Int) (K : TV → Option β) : evFn lay (VE127 N jq2 jq6 jq62) Tryz.f127 [.v (.agg [.int .i64 a0, .int .i64 a1])] K = jb63 N jq2 jq62 a0 a1 (fun z2 => K (.v (.one (.int .i64 z2)))) := by kernel_rfl
theorem e127_0 {β : Type} (N : Nat)  (a0 : Int) (a1 : Int) (K : TV → Option β) : evFn lay (E127 N) Tryz.f127 [.v (.agg [.int .i64 a0, .int .i64 a1])] K = j63 N a0 a1 (fun z2 => K (.v (.one (.int .i64 z2)))) := (ve127_0 N (j2 N) (j6 N) (j62 N) a0 a1 K).trans (jt63 N a0 a1 (fun z2 => K (.v (.one (.int .i64 z2))))).symm
theorem o127 {β : Type} (N : Nat) : SpecOK (β := β) inv Tryz.prog 127 (S127 N) := by
  refine spec_of lay_ok mixed (E := E127 N) (specs_loops (specs_cons (o13 N) (specs_cons (o122 N) specs_nil))) muts_nil gs_nil Tryz.func127 (by kernel_rfl) 1 (by kernel_rfl) ⟨trivial, rk127_0 N⟩ fun args K r h => ?_
  unfold S127 VS127 at h
  split at h
  · exact (e127_0 N _ _ _).trans h
  · cases h
def VS70 {β : Type} (N : Nat) (jq64 : (a0 : Int) → (a1 : Int) → (k : Int → Option β) → Option β) : Rv.Spec β := fun args K => match args with
  | [.v (.agg [.int .i64 a0, .int .i64 a1])] => jq64 a0 a1 (fun z2 => K (.v (.one (.int .i64 z2))))
  | _ => none
def S70 {β : Type} (N : Nat) : Rv.Spec β := VS70 N (j64 N)
def VE70 {β : Type} (N : Nat) (jq2 : (a0 : Int) → (a1 : Int) → (k : Bool → Option β) → Option β) (jq63 : (a0 : Int) → (a1 : Int) → (k : Int → Option β) → Option β) : Env β := ⟨[(13, VS13 N jq2), (127, VS127 N jq63)], [], [], [], ⟨[], [], []⟩⟩
def E70 {β : Type} (N : Nat) : Env β := VE70 N (j2 N) (j63 N)
def jb64 {β : Type} (N : Nat) (jq2 : (a0 : Int) → (a1 : Int) → (k : Bool → Option β) → Option β) (jq63 : (a0 : Int) → (a1 : Int) → (k : Int → Option β) → Option β) (a0 : Int) (a1 : Int) (k : Int → Option β) : Option β :=
jq2 a0 a1 fun r3 =>
(cond (!r3)
(k (-1))
(jq63 a0 a1 fun r4 =>
k ((w64 (2 * r4)))))
theorem jt64 {β : Type} (N : Nat) (a0 : Int) (a1 : Int) (k : Int → Option β) : j64 N a0 a1 k = jb64 N (j2 N) (j63 N) a0 a1 k := by
  unfold j64 jb64
  rfl
theorem ve70_0 {β : Type} (N : Nat) (jq2 : (a0 : Int) → (a1 : Int) → (k : Bool → Option β) → Option β) (jq63 : (a0 : Int) → (a1 : Int) → (k : Int → Option β) → Option β)  (a0 : Int) (a1 : Int) (K : TV → Option β) : evFn lay (VE70 N jq2 jq63) Tryz.f70 [.v (.agg [.int .i64 a0, .int .i64 a1])] K = jb64 N jq2 jq63 a0 a1 (fun z2 => K (.v (.one (.int .i64 z2)))) := by kernel_rfl
theorem e70_0 {β : Type} (N : Nat)  (a0 : Int) (a1 : Int) (K : TV → Option β) : evFn lay (E70 N) Tryz.f70 [.v (.agg [.int .i64 a0, .int .i64 a1])] K = j64 N a0 a1 (fun z2 => K (.v (.one (.int .i64 z2)))) := (ve70_0 N (j2 N) (j63 N) a0 a1 K).trans (jt64 N a0 a1 (fun z2 => K (.v (.one (.int .i64 z2))))).symm
theorem o70 {β : Type} (N : Nat) : SpecOK (β := β) inv Tryz.prog 70 (S70 N) := by
  refine spec_of lay_ok mixed (E := E70 N) (specs_loops (specs_cons (o13 N) (specs_cons (o127 N) specs_nil))) muts_nil gs_nil Tryz.func70 (by kernel_rfl) 0 (by kernel_rfl) trivial fun args K r h => ?_
  unfold S70 VS70 at h
  split at h
  · exact (e70_0 N _ _ _).trans h
  · cases h
end Go.Proofs.YtignjkbhdaiegaaGreatDoor
