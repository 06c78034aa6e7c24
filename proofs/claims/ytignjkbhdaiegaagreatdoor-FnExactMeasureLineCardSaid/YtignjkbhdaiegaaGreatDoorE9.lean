/- The functions that the claims reach answer as their texts do. -/
import Derived.Test.YtignjkbhdaiegaaGreatDoorE8
namespace Go.Proofs.YtignjkbhdaiegaaGreatDoor
open Go.Rv
set_option maxRecDepth 100000
set_option maxHeartbeats 2000000
set_option linter.unusedVariables false
def VS28 {β : Type} (N : Nat) (jq183 : (a0 : Bool) → (a1 : ByteArray) → (a2 : List ByteArray) → (k0 : List ByteArray → Option β) → (k1 : List ByteArray → Option β) → Option β) : GSpec β := fun args bl K => match args, bl with
  | [.v (.one (.ptr 0 0)), .v (.one (.bool a0)), .v (.one (.str a1))], [.pcells 0 38 [.row 1], .prow 1 9 (.strs a2)] => jq183 a0 a1 a2 (fun y0 => K (.tup []) [.pcells 0 38 [.row 1], .row 9 (.strs y0)]) (fun y0 => K (.tup []) [.pcells 0 38 [.row 1], .prow 1 9 (.strs y0)])
  | _, _ => none
def S28 {β : Type} (N : Nat) : GSpec β := VS28 N (j183 N)
def VE28 {β : Type} (N : Nat) (jq182 : (a0 : List ByteArray) → (a1 : List ByteArray) → (k0 : List ByteArray → List ByteArray → Option β) → Option β) : Env β := ⟨[], [], [], [(22, VS22 N jq182)], ⟨[], [], []⟩⟩
def E28 {β : Type} (N : Nat) : Env β := VE28 N (j182 N)
def jb183 {β : Type} (N : Nat) (jq182 : (a0 : List ByteArray) → (a1 : List ByteArray) → (k0 : List ByteArray → List ByteArray → Option β) → Option β) (a0 : Bool) (a1 : ByteArray) (a2 : List ByteArray) (k0 : List ByteArray → Option β) (k1 : List ByteArray → Option β) : Option β :=
(cond a0
(jq182 ((([] : List ByteArray) ++ [a1])) a2 (fun r16_0 r16_1 =>
k0 r16_1))
(k1 a2))
theorem jt183 {β : Type} (N : Nat) (a0 : Bool) (a1 : ByteArray) (a2 : List ByteArray) (k0 : List ByteArray → Option β) (k1 : List ByteArray → Option β) : j183 N a0 a1 a2 k0 k1 = jb183 N (j182 N) a0 a1 a2 k0 k1 := by
  unfold j183 jb183
  rfl
theorem ve28_0 {β : Type} (N : Nat) (jq182 : (a0 : List ByteArray) → (a1 : List ByteArray) → (k0 : List ByteArray → List ByteArray → Option β) → Option β) (a0 : Bool) (a1 : ByteArray) (a2 : List ByteArray) (K : TV → List Blk → Option β) : evFnG lay (VE28 N jq182) Tryz.f28 [.v (.one (.ptr 0 0)), .v (.one (.bool a0)), .v (.one (.str a1))] [.pcells 0 38 [.row 1], .prow 1 9 (.strs a2)] K = jb183 N jq182 a0 a1 a2 (fun y0 => K (.tup []) [.pcells 0 38 [.row 1], .row 9 (.strs y0)]) (fun y0 => K (.tup []) [.pcells 0 38 [.row 1], .prow 1 9 (.strs y0)]) := by kernel_rfl
theorem e28_0 {β : Type} (N : Nat) (a0 : Bool) (a1 : ByteArray) (a2 : List ByteArray) (K : TV → List Blk → Option β) : evFnG lay (E28 N) Tryz.f28 [.v (.one (.ptr 0 0)), .v (.one (.bool a0)), .v (.one (.str a1))] [.pcells 0 38 [.row 1], .prow 1 9 (.strs a2)] K = j183 N a0 a1 a2 (fun y0 => K (.tup []) [.pcells 0 38 [.row 1], .row 9 (.strs y0)]) (fun y0 => K (.tup []) [.pcells 0 38 [.row 1], .prow 1 9 (.strs y0)]) := (ve28_0 N (j182 N) a0 a1 a2 K).trans (jt183 N a0 a1 a2 (fun y0 => K (.tup []) [.pcells 0 38 [.row 1], .row 9 (.strs y0)]) (fun y0 => K (.tup []) [.pcells 0 38 [.row 1], .prow 1 9 (.strs y0)])).symm
theorem o28 {β : Type} (N : Nat) : GOK (β := β) inv Tryz.prog 28 (S28 N) := by
  refine g_of lay_ok mixed (E := E28 N) (specs_loops specs_nil) muts_nil (gs_cons (o22 N) gs_nil) Tryz.func28 (by kernel_rfl) 0 (by kernel_rfl) trivial fun args bl K r h => ?_
  unfold S28 VS28 at h
  split at h
  · exact (e28_0 N _ _ _ _).trans h
  · cases h
def VS30 {β : Type} (N : Nat) (jq184 : (a0 : List ByteArray) → (k0 : ByteArray → List ByteArray → Option β) → Option β) : GSpec β := fun args bl K => match args, bl with
  | [.v (.one (.ptr 0 0))], [.pcells 0 38 [.row 1], .prow 1 9 (.strs a0)] => jq184 a0 (fun y0 y1 => K (.v (.one (.str y0))) [.pcells 0 38 [.row 1], .prow 1 9 (.strs y1)])
  | _, _ => none
def S30 {β : Type} (N : Nat) : GSpec β := VS30 N (j184 N)
def VE30 {β : Type} (N : Nat) : Env β := ⟨[(87, S87 N)], [], [], [], ⟨[], [], []⟩⟩
def E30 {β : Type} (N : Nat) : Env β := VE30 N
def jb184 {β : Type} (N : Nat) (a0 : List ByteArray) (k0 : ByteArray → List ByteArray → Option β) : Option β :=
strings_Join N a0 ((strOf [32])) fun r18 =>
k0 r18 a0
theorem jt184 {β : Type} (N : Nat) (a0 : List ByteArray) (k0 : ByteArray → List ByteArray → Option β) : j184 N a0 k0 = jb184 N a0 k0 := by
  unfold j184 jb184
  rfl
theorem ve30_0 {β : Type} (N : Nat) (a0 : List ByteArray) (K : TV → List Blk → Option β) : evFnG lay (VE30 N) Tryz.f30 [.v (.one (.ptr 0 0))] [.pcells 0 38 [.row 1], .prow 1 9 (.strs a0)] K = jb184 N a0 (fun y0 y1 => K (.v (.one (.str y0))) [.pcells 0 38 [.row 1], .prow 1 9 (.strs y1)]) := by kernel_rfl
theorem e30_0 {β : Type} (N : Nat) (a0 : List ByteArray) (K : TV → List Blk → Option β) : evFnG lay (E30 N) Tryz.f30 [.v (.one (.ptr 0 0))] [.pcells 0 38 [.row 1], .prow 1 9 (.strs a0)] K = j184 N a0 (fun y0 y1 => K (.v (.one (.str y0))) [.pcells 0 38 [.row 1], .prow 1 9 (.strs y1)]) := (ve30_0 N a0 K).trans (jt184 N a0 (fun y0 y1 => K (.v (.one (.str y0))) [.pcells 0 38 [.row 1], .prow 1 9 (.strs y1)])).symm
theorem o30 {β : Type} (N : Nat) : GOK (β := β) inv Tryz.prog 30 (S30 N) := by
  refine g_of lay_ok mixed (E := E30 N) (specs_loops (specs_cons (o87 N) specs_nil)) muts_nil gs_nil Tryz.func30 (by kernel_rfl) 0 (by kernel_rfl) trivial fun args bl K r h => ?_
  unfold S30 VS30 at h
  split at h
  · exact (e30_0 N _ _).trans h
  · cases h
def VS8 {β : Type} (N : Nat) (jq187 : (a0 : Int) → (a1 : Int) → (k : ByteArray → Option β) → Option β) : Rv.Spec β := fun args K => match args with
  | [.v (.agg [.int .i64 a0, .int .i64 a1])] => jq187 a0 a1 (fun z2 => K (.v (.one (.str z2))))
  | _ => none
def S8 {β : Type} (N : Nat) : Rv.Spec β := VS8 N (j187 N)
def h8_0_0  (v0 : Int) (v1 : Int) (v2 : Int) (v3 : Int) (v4 : List ByteArray) (v5 : List ByteArray) : St := ⟨tund :: .v (.one (.ptr 0 0)) :: tund :: .v (.one (.ptr 1 0)) :: tund :: tund :: tund :: tund :: tund :: tund :: tund :: .v (.one (.row 2)) :: .v (.one (.int .i64 v0)) :: .v (.one (.int .i64 v1)) :: tund :: tund :: tund :: tund :: tund :: tund :: tund :: tund :: tund :: tund :: tund :: tund :: tund :: tund :: tund :: tund :: tund :: tund :: tund :: tund :: tund :: tund :: tund :: [], [.cells 25 [.int .i64 v2, .int .i64 v3], .cells 38 [.row 3], .row 9 (.strs v4), .row 9 (.strs v5)]⟩
def x8_0_0_k0  (y0 : Int) (y1 : Int) (y2 : List ByteArray) : St := ⟨tund :: .v (.one (.ptr 0 0)) :: tund :: .v (.one (.ptr 1 0)) :: tund :: tund :: tund :: tund :: tund :: tund :: tund :: tund :: tund :: tund :: tund :: tund :: tund :: tund :: tund :: tund :: tund :: tund :: tund :: tund :: tund :: tund :: tund :: tund :: tund :: tund :: tund :: tund :: tund :: tund :: tund :: tund :: tund :: [], [.cells 25 [.int .i64 y0, .int .i64 y1], .cells 38 [.row 2], .row 9 (.strs y2)]⟩
theorem fl8_0_0 (s : St) : refSt (h8_0_0 0 0 0 0 [] []) s = h8_0_0 (intS (oneA (vT (nx tund s.tmps 12)))) (intS (oneA (vT (nx tund s.tmps 13)))) (intS (nx .und (cellsB (nx .dead s.blks 0)) 0)) (intS (nx .und (cellsB (nx .dead s.blks 0)) 1)) (rStrs (rowB_ (nx .dead s.blks 2))) (rStrs (rowB_ (nx .dead s.blks 3))) := by kernel_rfl
def VLS8_0 {β : Type} (N : Nat) (jq186 : Nat → Int → Int → Int → Int → List ByteArray → List ByteArray → (Int → Int → List ByteArray → Option β) → Option β) : LSpec β := fun s K => cond (shpSt (h8_0_0 0 0 0 0 [] []) s) ((fun (v0 : Int) (v1 : Int) (v2 : Int) (v3 : Int) (v4 : List ByteArray) (v5 : List ByteArray) => jq186  N v0 v1 v2 v3 v4 v5 (fun y0 y1 y2 => K (.exit 0) (x8_0_0_k0  y0 y1 y2))) (intS (oneA (vT (nx tund s.tmps 12)))) (intS (oneA (vT (nx tund s.tmps 13)))) (intS (nx .und (cellsB (nx .dead s.blks 0)) 0)) (intS (nx .und (cellsB (nx .dead s.blks 0)) 1)) (rStrs (rowB_ (nx .dead s.blks 2))) (rStrs (rowB_ (nx .dead s.blks 3)))) (none)
def LS8_0 {β : Type} (N : Nat) : LSpec β := VLS8_0 N (j186 N)
def VE8 {β : Type} (N : Nat) (jq92 : (a0 : Int) → (a1 : Int) → (a2 : Int) → (k : Bool → Option β) → Option β) (jq93 : (k : List ByteArray → Option β) → Option β) (jq165 : (a0 : ByteArray) → (a1 : Int) → (a2 : Int) → (k : Int → Option β) → Option β) (jq166 : (a0 : Int) → (k : ByteArray → Option β) → Option β) (jq172 : (a0 : Int) → (a1 : Int) → (k : Int → Option β) → Option β) (jq180 : (a0 : Int) → (a1 : Int) → (k : Int → Option β) → Option β) (jq181 : (a0 : Int) → (a1 : Int) → (k : Bool → Option β) → Option β) (jq186 : Nat → Int → Int → Int → Int → List ByteArray → List ByteArray → (Int → Int → List ByteArray → Option β) → Option β) (jq182 : (a0 : List ByteArray) → (a1 : List ByteArray) → (k0 : List ByteArray → List ByteArray → Option β) → Option β) (jq183 : (a0 : Bool) → (a1 : ByteArray) → (a2 : List ByteArray) → (k0 : List ByteArray → Option β) → (k1 : List ByteArray → Option β) → Option β) (jq184 : (a0 : List ByteArray) → (k0 : ByteArray → List ByteArray → Option β) → Option β) : Env β := ⟨[(21, VS21 N jq92), (23, VS23 N jq93), (25, VS25 N jq165), (24, VS24 N jq166), (26, VS26 N jq172), (27, VS27 N jq180), (29, VS29 N jq181)], [], [(0, VLS8_0 N jq186)], [(22, VS22 N jq182), (28, VS28 N jq183), (30, VS30 N jq184)], ⟨[], [], []⟩⟩
def E8 {β : Type} (N : Nat) : Env β := VE8 N (j92 N) (j93 N) (j165 N) (j166 N) (j172 N) (j180 N) (j181 N) (j186 N) (j182 N) (j183 N) (j184 N)
def jb185 {β : Type} (N : Nat) (jq165 : (a0 : ByteArray) → (a1 : Int) → (a2 : Int) → (k : Int → Option β) → Option β) (jq166 : (a0 : Int) → (k : ByteArray → Option β) → Option β) (jq182 : (a0 : List ByteArray) → (a1 : List ByteArray) → (k0 : List ByteArray → List ByteArray → Option β) → Option β)  (v0 : Int) (v1 : Int) (v2 : Int) (v3 : Int) (v4 : List ByteArray) (v5 : List ByteArray) (rec_ : Int → Int → Int → Int → List ByteArray → List ByteArray → Option β) (k0 : Int → Int → List ByteArray → Option β) : Option β :=
(cond ((decide (v1 < v0)))
((gd ((decide (0 ≤ v1)))
((gd ((decide (v1 < (v4.length : Int))))
(jq165 ((rd ByteArray.empty v4 v1)) v2 v3 fun r6 =>
jq166 r6 fun r7 =>
jq182 (((([] : List ByteArray) ++ [(rd ByteArray.empty v4 v1)]) ++ [r7])) v5 (fun r8_0 r8_1 =>
rec_ v0 ((w64 (v1 + 1))) v2 v3 v4 r8_1))))))
(k0 v2 v3 v5))
theorem jt185 {β : Type} (N : Nat)  (v0 : Int) (v1 : Int) (v2 : Int) (v3 : Int) (v4 : List ByteArray) (v5 : List ByteArray) (rec_ : Int → Int → Int → Int → List ByteArray → List ByteArray → Option β) (k0 : Int → Int → List ByteArray → Option β) : j185 N v0 v1 v2 v3 v4 v5 rec_ k0 = jb185 N (j165 N) (j166 N) (j182 N) v0 v1 v2 v3 v4 v5 rec_ k0 := by
  unfold j185 jb185
  rfl
theorem vst8_0_0 {β : Type} (N : Nat) (jq92 : (a0 : Int) → (a1 : Int) → (a2 : Int) → (k : Bool → Option β) → Option β) (jq93 : (k : List ByteArray → Option β) → Option β) (jq165 : (a0 : ByteArray) → (a1 : Int) → (a2 : Int) → (k : Int → Option β) → Option β) (jq166 : (a0 : Int) → (k : ByteArray → Option β) → Option β) (jq172 : (a0 : Int) → (a1 : Int) → (k : Int → Option β) → Option β) (jq180 : (a0 : Int) → (a1 : Int) → (k : Int → Option β) → Option β) (jq181 : (a0 : Int) → (a1 : Int) → (k : Bool → Option β) → Option β) (jq186 : Nat → Int → Int → Int → Int → List ByteArray → List ByteArray → (Int → Int → List ByteArray → Option β) → Option β) (jq182 : (a0 : List ByteArray) → (a1 : List ByteArray) → (k0 : List ByteArray → List ByteArray → Option β) → Option β) (jq183 : (a0 : Bool) → (a1 : ByteArray) → (a2 : List ByteArray) → (k0 : List ByteArray → Option β) → (k1 : List ByteArray → Option β) → Option β) (jq184 : (a0 : List ByteArray) → (k0 : ByteArray → List ByteArray → Option β) → Option β)  (v0 : Int) (v1 : Int) (v2 : Int) (v3 : Int) (v4 : List ByteArray) (v5 : List ByteArray) (rec_ : St → Option β) (K : Exit → St → Option β) :
    ev lay (VE8 N jq92 jq93 jq165 jq166 jq172 jq180 jq181 jq186 jq182 jq183 jq184) (retMask Tryz.f8) (lp Tryz.f8 0).body (lp Tryz.f8 0).ex ((lp Tryz.f8 0).lv (retMask Tryz.f8)) (h8_0_0  v0 v1 v2 v3 v4 v5) (nextR (fun s' => rec_ (s'.tidy ((lp Tryz.f8 0).lv (retMask Tryz.f8)))) K) = jb185 N jq165 jq166 jq182  v0 v1 v2 v3 v4 v5 (fun v0 v1 v2 v3 v4 v5 => rec_ (h8_0_0  v0 v1 v2 v3 v4 v5)) (fun y0 y1 y2 => K (.exit 0) (x8_0_0_k0  y0 y1 y2)) := by kernel_rfl
theorem st8_0_0 {β : Type} (N : Nat)  (v0 : Int) (v1 : Int) (v2 : Int) (v3 : Int) (v4 : List ByteArray) (v5 : List ByteArray) (rec_ : St → Option β) (K : Exit → St → Option β) :
    ev lay (E8 N) (retMask Tryz.f8) (lp Tryz.f8 0).body (lp Tryz.f8 0).ex ((lp Tryz.f8 0).lv (retMask Tryz.f8)) (h8_0_0  v0 v1 v2 v3 v4 v5) (nextR (fun s' => rec_ (s'.tidy ((lp Tryz.f8 0).lv (retMask Tryz.f8)))) K) = j185 N  v0 v1 v2 v3 v4 v5 (fun v0 v1 v2 v3 v4 v5 => rec_ (h8_0_0  v0 v1 v2 v3 v4 v5)) (fun y0 y1 y2 => K (.exit 0) (x8_0_0_k0  y0 y1 y2)) := (vst8_0_0 N (j92 N) (j93 N) (j165 N) (j166 N) (j172 N) (j180 N) (j181 N) (j186 N) (j182 N) (j183 N) (j184 N) v0 v1 v2 v3 v4 v5 rec_ K).trans (jt185 N  v0 v1 v2 v3 v4 v5 (fun v0 v1 v2 v3 v4 v5 => rec_ (h8_0_0  v0 v1 v2 v3 v4 v5)) (fun y0 y1 y2 => K (.exit 0) (x8_0_0_k0  y0 y1 y2))).symm
theorem ro8_0_0 {β : Type} (N : Nat)  (K : Exit → St → Option β) : ∀ (F : Nat) (v0 : Int) (v1 : Int) (v2 : Int) (v3 : Int) (v4 : List ByteArray) (v5 : List ByteArray), (lp Tryz.f8 0).rounds lay (E8 N) (retMask Tryz.f8) F (h8_0_0  v0 v1 v2 v3 v4 v5) K = j186 N  F v0 v1 v2 v3 v4 v5 (fun y0 y1 y2 => K (.exit 0) (x8_0_0_k0  y0 y1 y2)) := by
  intro F
  induction F with
  | zero => intros; rfl
  | succ F ih =>
    intros
    rw [rounds_next]
    refine (st8_0_0 N  _ _ _ _ _ _ (fun s => (lp Tryz.f8 0).rounds lay (E8 N) (retMask Tryz.f8) F s K) K).trans ?_
    simp only [ih]
    rfl
theorem lk8_0 {β : Type} (N : Nat) : lookL (E8 (β := β) N).loops (lp Tryz.f8 0).id = LS8_0 N := by kernel_rfl
theorem rk8_0 {β : Type} (N : Nat) : RoundsOK lay (E8 (β := β) N) (retMask Tryz.f8) (lp Tryz.f8 0) := by
  intro s K r h
  rw [lk8_0] at h
  unfold LS8_0 VLS8_0 at h
  cases hb : shpSt (h8_0_0 0 0 0 0 [] []) s with
  | true =>
    rw [hb, cond_true] at h
    exact ⟨N, by rw [← shpSt_ref hb, fl8_0_0 s]; exact (ro8_0_0 N  K N (intS (oneA (vT (nx tund s.tmps 12)))) (intS (oneA (vT (nx tund s.tmps 13)))) (intS (nx .und (cellsB (nx .dead s.blks 0)) 0)) (intS (nx .und (cellsB (nx .dead s.blks 0)) 1)) (rStrs (rowB_ (nx .dead s.blks 2))) (rStrs (rowB_ (nx .dead s.blks 3)))).trans h⟩
  | false =>
  rw [hb, cond_false] at h
  clear hb
  cases h
def jb187 {β : Type} (N : Nat) (jq92 : (a0 : Int) → (a1 : Int) → (a2 : Int) → (k : Bool → Option β) → Option β) (jq182 : (a0 : List ByteArray) → (a1 : List ByteArray) → (k0 : List ByteArray → List ByteArray → Option β) → Option β) (jq93 : (k : List ByteArray → Option β) → Option β) (jq186 : Nat → Int → Int → Int → Int → List ByteArray → List ByteArray → (Int → Int → List ByteArray → Option β) → Option β) (jq172 : (a0 : Int) → (a1 : Int) → (k : Int → Option β) → Option β) (jq166 : (a0 : Int) → (k : ByteArray → Option β) → Option β) (jq180 : (a0 : Int) → (a1 : Int) → (k : Int → Option β) → Option β) (jq181 : (a0 : Int) → (a1 : Int) → (k : Bool → Option β) → Option β) (jq183 : (a0 : Bool) → (a1 : ByteArray) → (a2 : List ByteArray) → (k0 : List ByteArray → Option β) → (k1 : List ByteArray → Option β) → Option β) (jq184 : (a0 : List ByteArray) → (k0 : ByteArray → List ByteArray → Option β) → Option β) (a0 : Int) (a1 : Int) (k : ByteArray → Option β) : Option β :=
jq92 a0 a1 4 fun r3 =>
(cond (!r3)
(k ByteArray.empty)
(jq182 ((([] : List ByteArray) ++ [(strOf [109, 101, 97, 115, 117, 114, 101, 115])])) (([] : List ByteArray)) (fun r4_0 r4_1 =>
jq93  fun r5 =>
jq186  N ((r5.length : Int)) 0 a0 a1 r5 r4_1 (fun e9_0 e9_1 e9_2 =>
jq172 e9_0 e9_1 fun r10 =>
jq166 r10 fun r11 =>
jq180 e9_0 e9_1 fun r12 =>
jq166 r12 fun r13 =>
jq182 (((((([] : List ByteArray) ++ [(strOf [97, 118, 101, 114, 97, 103, 101])]) ++ [r11]) ++ [(strOf [107, 114, 97, 112, 99, 104, 101, 110, 107, 111])]) ++ [r13])) e9_2 (fun r14_0 r14_1 =>
jq181 e9_0 e9_1 fun r15 =>
jq183 r15 ((strOf [101, 118, 97, 115, 105, 118, 101])) r14_1 (fun r16_0 =>
jq184 r16_0 (fun r17_0 r17_1 =>
k r17_0)) (fun r18_0 =>
jq184 r18_0 (fun r19_0 r19_1 =>
k r19_0)))))))
theorem jt187 {β : Type} (N : Nat) (a0 : Int) (a1 : Int) (k : ByteArray → Option β) : j187 N a0 a1 k = jb187 N (j92 N) (j182 N) (j93 N) (j186 N) (j172 N) (j166 N) (j180 N) (j181 N) (j183 N) (j184 N) a0 a1 k := by
  unfold j187 jb187
  rfl
theorem ve8_0 {β : Type} (N : Nat) (jq92 : (a0 : Int) → (a1 : Int) → (a2 : Int) → (k : Bool → Option β) → Option β) (jq93 : (k : List ByteArray → Option β) → Option β) (jq165 : (a0 : ByteArray) → (a1 : Int) → (a2 : Int) → (k : Int → Option β) → Option β) (jq166 : (a0 : Int) → (k : ByteArray → Option β) → Option β) (jq172 : (a0 : Int) → (a1 : Int) → (k : Int → Option β) → Option β) (jq180 : (a0 : Int) → (a1 : Int) → (k : Int → Option β) → Option β) (jq181 : (a0 : Int) → (a1 : Int) → (k : Bool → Option β) → Option β) (jq186 : Nat → Int → Int → Int → Int → List ByteArray → List ByteArray → (Int → Int → List ByteArray → Option β) → Option β) (jq182 : (a0 : List ByteArray) → (a1 : List ByteArray) → (k0 : List ByteArray → List ByteArray → Option β) → Option β) (jq183 : (a0 : Bool) → (a1 : ByteArray) → (a2 : List ByteArray) → (k0 : List ByteArray → Option β) → (k1 : List ByteArray → Option β) → Option β) (jq184 : (a0 : List ByteArray) → (k0 : ByteArray → List ByteArray → Option β) → Option β)  (a0 : Int) (a1 : Int) (K : TV → Option β) : evFn lay (VE8 N jq92 jq93 jq165 jq166 jq172 jq180 jq181 jq186 jq182 jq183 jq184) Tryz.f8 [.v (.agg [.int .i64 a0, .int .i64 a1])] K = jb187 N jq92 jq182 jq93 jq186 jq172 jq166 jq180 jq181 jq183 jq184 a0 a1 (fun z2 => K (.v (.one (.str z2)))) := by kernel_rfl
theorem e8_0 {β : Type} (N : Nat)  (a0 : Int) (a1 : Int) (K : TV → Option β) : evFn lay (E8 N) Tryz.f8 [.v (.agg [.int .i64 a0, .int .i64 a1])] K = j187 N a0 a1 (fun z2 => K (.v (.one (.str z2)))) := (ve8_0 N (j92 N) (j93 N) (j165 N) (j166 N) (j172 N) (j180 N) (j181 N) (j186 N) (j182 N) (j183 N) (j184 N) a0 a1 K).trans (jt187 N a0 a1 (fun z2 => K (.v (.one (.str z2))))).symm
theorem o8 {β : Type} (N : Nat) : SpecOK (β := β) inv Tryz.prog 8 (S8 N) := by
  refine spec_of lay_ok mixed (E := E8 N) (specs_loops (specs_cons (o21 N) (specs_cons (o23 N) (specs_cons (o25 N) (specs_cons (o24 N) (specs_cons (o26 N) (specs_cons (o27 N) (specs_cons (o29 N) specs_nil)))))))) muts_nil (gs_cons (o22 N) (gs_cons (o28 N) (gs_cons (o30 N) gs_nil))) Tryz.func8 (by kernel_rfl) 1 (by kernel_rfl) ⟨trivial, rk8_0 N⟩ fun args K r h => ?_
  unfold S8 VS8 at h
  split at h
  · exact (e8_0 N _ _ _).trans h
  · cases h
def VS3 {β : Type} (N : Nat) (q_laws_FnExactMeasureLine : (a0 : Int) → (a1 : Int) → (k : Bool → Option β) → Option β) : Rv.Spec β := fun args K => match args with
  | [.v (.agg [.int .i64 a0, .int .i64 a1])] => q_laws_FnExactMeasureLine a0 a1 (fun z2 => K (.v (.one (.bool z2))))
  | _ => none
def S3 {β : Type} (N : Nat) : Rv.Spec β := VS3 N (laws_FnExactMeasureLine N)
def VE3 {β : Type} (N : Nat) (jq0 : (a0 : Int) → (a1 : Int) → (k : Int → Int → Option β) → Option β) (jq88 : (a0 : Int) → (a1 : Int) → (k : ByteArray → Option β) → Option β) (jq187 : (a0 : Int) → (a1 : Int) → (k : ByteArray → Option β) → Option β) : Env β := ⟨[(7, VS7 N jq0), (6, VS6 N jq88), (8, VS8 N jq187)], [], [], [], ⟨[], [], []⟩⟩
def E3 {β : Type} (N : Nat) : Env β := VE3 N (j0 N) (j88 N) (j187 N)
def BV_laws_FnExactMeasureLine {β : Type} (N : Nat) (jq0 : (a0 : Int) → (a1 : Int) → (k : Int → Int → Option β) → Option β) (jq88 : (a0 : Int) → (a1 : Int) → (k : ByteArray → Option β) → Option β) (jq187 : (a0 : Int) → (a1 : Int) → (k : ByteArray → Option β) → Option β) (a0 : Int) (a1 : Int) (k : Bool → Option β) : Option β :=
jq0 a0 a1 fun r3 r4 =>
jq88 r3 r4 fun r5 =>
jq0 a0 a1 fun r6 r7 =>
jq187 r6 r7 fun r8 =>
(cond ((!(r8.toList == r5.toList)))
(k false)
(k true))
theorem t_laws_FnExactMeasureLine {β : Type} (N : Nat) (a0 : Int) (a1 : Int) (k : Bool → Option β) : laws_FnExactMeasureLine N a0 a1 k = BV_laws_FnExactMeasureLine N (j0 N) (j88 N) (j187 N) a0 a1 k := by
  unfold laws_FnExactMeasureLine BV_laws_FnExactMeasureLine
  rfl
theorem ve3_0 {β : Type} (N : Nat) (jq0 : (a0 : Int) → (a1 : Int) → (k : Int → Int → Option β) → Option β) (jq88 : (a0 : Int) → (a1 : Int) → (k : ByteArray → Option β) → Option β) (jq187 : (a0 : Int) → (a1 : Int) → (k : ByteArray → Option β) → Option β)  (a0 : Int) (a1 : Int) (K : TV → Option β) : evFn lay (VE3 N jq0 jq88 jq187) Tryz.f3 [.v (.agg [.int .i64 a0, .int .i64 a1])] K = BV_laws_FnExactMeasureLine N jq0 jq88 jq187 a0 a1 (fun z2 => K (.v (.one (.bool z2)))) := by kernel_rfl
theorem e3_0 {β : Type} (N : Nat)  (a0 : Int) (a1 : Int) (K : TV → Option β) : evFn lay (E3 N) Tryz.f3 [.v (.agg [.int .i64 a0, .int .i64 a1])] K = laws_FnExactMeasureLine N a0 a1 (fun z2 => K (.v (.one (.bool z2)))) := (ve3_0 N (j0 N) (j88 N) (j187 N) a0 a1 K).trans (t_laws_FnExactMeasureLine N a0 a1 (fun z2 => K (.v (.one (.bool z2))))).symm
theorem o3 {β : Type} (N : Nat) : SpecOK (β := β) inv Tryz.prog 3 (S3 N) := by
  refine spec_of lay_ok mixed (E := E3 N) (specs_loops (specs_cons (o7 N) (specs_cons (o6 N) (specs_cons (o8 N) specs_nil)))) muts_nil gs_nil Tryz.func3 (by kernel_rfl) 0 (by kernel_rfl) trivial fun args K r h => ?_
  unfold S3 VS3 at h
  split at h
  · exact (e3_0 N _ _ _).trans h
  · cases h
end Go.Proofs.YtignjkbhdaiegaaGreatDoor
