/- The functions that the claims reach answer as their texts do. -/
import Derived.Test.YtignjkbhdaiegaaGreatDoorE3
namespace Go.Proofs.YtignjkbhdaiegaaGreatDoor
open Go.Rv
set_option maxRecDepth 100000
set_option maxHeartbeats 2000000
set_option linter.unusedVariables false
def VS6 {β : Type} (N : Nat) (jq88 : (a0 : Int) → (a1 : Int) → (k : ByteArray → Option β) → Option β) : Rv.Spec β := fun args K => match args with
  | [.v (.agg [.int .i64 a0, .int .i64 a1])] => jq88 a0 a1 (fun z2 => K (.v (.one (.str z2))))
  | _ => none
def S6 {β : Type} (N : Nat) : Rv.Spec β := VS6 N (j88 N)
def h6_0_0  (v0 : ByteArray) (v1 : Int) (v2 : Int) (v3 : Int) (v4 : List ByteArray) : St := ⟨tund :: .v (.one (.ptr 0 0)) :: tund :: .v (.one (.str v0)) :: .v (.one (.row 1)) :: .v (.one (.int .i64 v1)) :: tund :: tund :: tund :: tund :: tund :: tund :: tund :: tund :: tund :: tund :: tund :: tund :: tund :: tund :: tund :: tund :: tund :: tund :: tund :: tund :: tund :: tund :: tund :: tund :: tund :: tund :: tund :: tund :: tund :: tund :: tund :: tund :: tund :: tund :: tund :: tund :: tund :: tund :: tund :: tund :: tund :: tund :: tund :: tund :: tund :: tund :: [], [.cells 25 [.int .i64 v2, .int .i64 v3], .row 9 (.strs v4)]⟩
def x6_0_0_k0  (y0 : ByteArray) (y1 : Int) (y2 : Int) : St := ⟨tund :: .v (.one (.ptr 0 0)) :: tund :: .v (.one (.str y0)) :: tund :: tund :: tund :: tund :: tund :: tund :: tund :: tund :: tund :: tund :: tund :: tund :: tund :: tund :: tund :: tund :: tund :: tund :: tund :: tund :: tund :: tund :: tund :: tund :: tund :: tund :: tund :: tund :: tund :: tund :: tund :: tund :: tund :: tund :: tund :: tund :: tund :: tund :: tund :: tund :: tund :: tund :: tund :: tund :: tund :: tund :: tund :: tund :: [], [.cells 25 [.int .i64 y1, .int .i64 y2]]⟩
theorem fl6_0_0 (s : St) : refSt (h6_0_0 ByteArray.empty 0 0 0 []) s = h6_0_0 (strS (oneA (vT (nx tund s.tmps 3)))) (intS (oneA (vT (nx tund s.tmps 5)))) (intS (nx .und (cellsB (nx .dead s.blks 0)) 0)) (intS (nx .und (cellsB (nx .dead s.blks 0)) 1)) (rStrs (rowB_ (nx .dead s.blks 1))) := by kernel_rfl
def VLS6_0 {β : Type} (N : Nat) (jq87 : Nat → ByteArray → Int → Int → Int → List ByteArray → (ByteArray → Int → Int → Option β) → Option β) : LSpec β := fun s K => cond (shpSt (h6_0_0 ByteArray.empty 0 0 0 []) s) ((fun (v0 : ByteArray) (v1 : Int) (v2 : Int) (v3 : Int) (v4 : List ByteArray) => jq87  N v0 v1 v2 v3 v4 (fun y0 y1 y2 => K (.exit 0) (x6_0_0_k0  y0 y1 y2))) (strS (oneA (vT (nx tund s.tmps 3)))) (intS (oneA (vT (nx tund s.tmps 5)))) (intS (nx .und (cellsB (nx .dead s.blks 0)) 0)) (intS (nx .und (cellsB (nx .dead s.blks 0)) 1)) (rStrs (rowB_ (nx .dead s.blks 1)))) (none)
def LS6_0 {β : Type} (N : Nat) : LSpec β := VLS6_0 N (j87 N)
def VE6 {β : Type} (N : Nat) (jq2 : (a0 : Int) → (a1 : Int) → (k : Bool → Option β) → Option β) (jq3 : (k : List ByteArray → Option β) → Option β) (jq65 : (a0 : ByteArray) → (a1 : Int) → (a2 : Int) → (k : Int → Option β) → Option β) (jq68 : (a0 : Int) → (k : ByteArray → Option β) → Option β) (jq74 : (a0 : Int) → (a1 : Int) → (k : Int → Option β) → Option β) (jq83 : (a0 : Int) → (a1 : Int) → (k : Int → Option β) → Option β) (jq84 : (a0 : Int) → (a1 : Int) → (k : Bool → Option β) → Option β) (jq85 : (a0 : Bool) → (a1 : ByteArray) → (k : ByteArray → Option β) → Option β) (jq87 : Nat → ByteArray → Int → Int → Int → List ByteArray → (ByteArray → Int → Int → Option β) → Option β) : Env β := ⟨[(13, VS13 N jq2), (14, VS14 N jq3), (16, VS16 N jq65), (15, VS15 N jq68), (17, VS17 N jq74), (18, VS18 N jq83), (20, VS20 N jq84), (19, VS19 N jq85)], [], [(0, VLS6_0 N jq87)], [], ⟨[], [], []⟩⟩
def E6 {β : Type} (N : Nat) : Env β := VE6 N (j2 N) (j3 N) (j65 N) (j68 N) (j74 N) (j83 N) (j84 N) (j85 N) (j87 N)
def jb86 {β : Type} (N : Nat) (jq65 : (a0 : ByteArray) → (a1 : Int) → (a2 : Int) → (k : Int → Option β) → Option β) (jq68 : (a0 : Int) → (k : ByteArray → Option β) → Option β)  (v0 : ByteArray) (v1 : Int) (v2 : Int) (v3 : Int) (v4 : List ByteArray) (rec_ : ByteArray → Int → Int → Int → List ByteArray → Option β) (k0 : ByteArray → Int → Int → Option β) : Option β :=
(cond ((decide (v1 < (v4.length : Int))))
((gd ((decide (v0.size + ((strOf [32])).size ≤ 9223372036854775807)))
((gd ((decide (0 ≤ v1)))
((gd ((decide (v1 < (v4.length : Int))))
((gd ((decide (((v0 ++ (strOf [32]))).size + ((rd ByteArray.empty v4 v1)).size ≤ 9223372036854775807)))
((gd ((decide ((((v0 ++ (strOf [32])) ++ (rd ByteArray.empty v4 v1))).size + ((strOf [32])).size ≤ 9223372036854775807)))
((gd ((decide (0 ≤ v1)))
((gd ((decide (v1 < (v4.length : Int))))
(jq65 ((rd ByteArray.empty v4 v1)) v2 v3 fun r5 =>
jq68 r5 fun r6 =>
(gd ((decide (((((v0 ++ (strOf [32])) ++ (rd ByteArray.empty v4 v1)) ++ (strOf [32]))).size + r6.size ≤ 9223372036854775807)))
(rec_ (((((v0 ++ (strOf [32])) ++ (rd ByteArray.empty v4 v1)) ++ (strOf [32])) ++ r6)) ((w64 (v1 + 1))) v2 v3 v4)))))))))))))))))
(k0 v0 v2 v3))
theorem jt86 {β : Type} (N : Nat)  (v0 : ByteArray) (v1 : Int) (v2 : Int) (v3 : Int) (v4 : List ByteArray) (rec_ : ByteArray → Int → Int → Int → List ByteArray → Option β) (k0 : ByteArray → Int → Int → Option β) : j86 N v0 v1 v2 v3 v4 rec_ k0 = jb86 N (j65 N) (j68 N) v0 v1 v2 v3 v4 rec_ k0 := by
  unfold j86 jb86
  rfl
theorem vst6_0_0 {β : Type} (N : Nat) (jq2 : (a0 : Int) → (a1 : Int) → (k : Bool → Option β) → Option β) (jq3 : (k : List ByteArray → Option β) → Option β) (jq65 : (a0 : ByteArray) → (a1 : Int) → (a2 : Int) → (k : Int → Option β) → Option β) (jq68 : (a0 : Int) → (k : ByteArray → Option β) → Option β) (jq74 : (a0 : Int) → (a1 : Int) → (k : Int → Option β) → Option β) (jq83 : (a0 : Int) → (a1 : Int) → (k : Int → Option β) → Option β) (jq84 : (a0 : Int) → (a1 : Int) → (k : Bool → Option β) → Option β) (jq85 : (a0 : Bool) → (a1 : ByteArray) → (k : ByteArray → Option β) → Option β) (jq87 : Nat → ByteArray → Int → Int → Int → List ByteArray → (ByteArray → Int → Int → Option β) → Option β)  (v0 : ByteArray) (v1 : Int) (v2 : Int) (v3 : Int) (v4 : List ByteArray) (rec_ : St → Option β) (K : Exit → St → Option β) :
    ev lay (VE6 N jq2 jq3 jq65 jq68 jq74 jq83 jq84 jq85 jq87) (retMask Tryz.f6) (lp Tryz.f6 0).body (lp Tryz.f6 0).ex ((lp Tryz.f6 0).lv (retMask Tryz.f6)) (h6_0_0  v0 v1 v2 v3 v4) (nextR (fun s' => rec_ (s'.tidy ((lp Tryz.f6 0).lv (retMask Tryz.f6)))) K) = jb86 N jq65 jq68  v0 v1 v2 v3 v4 (fun v0 v1 v2 v3 v4 => rec_ (h6_0_0  v0 v1 v2 v3 v4)) (fun y0 y1 y2 => K (.exit 0) (x6_0_0_k0  y0 y1 y2)) := by kernel_rfl
theorem st6_0_0 {β : Type} (N : Nat)  (v0 : ByteArray) (v1 : Int) (v2 : Int) (v3 : Int) (v4 : List ByteArray) (rec_ : St → Option β) (K : Exit → St → Option β) :
    ev lay (E6 N) (retMask Tryz.f6) (lp Tryz.f6 0).body (lp Tryz.f6 0).ex ((lp Tryz.f6 0).lv (retMask Tryz.f6)) (h6_0_0  v0 v1 v2 v3 v4) (nextR (fun s' => rec_ (s'.tidy ((lp Tryz.f6 0).lv (retMask Tryz.f6)))) K) = j86 N  v0 v1 v2 v3 v4 (fun v0 v1 v2 v3 v4 => rec_ (h6_0_0  v0 v1 v2 v3 v4)) (fun y0 y1 y2 => K (.exit 0) (x6_0_0_k0  y0 y1 y2)) := (vst6_0_0 N (j2 N) (j3 N) (j65 N) (j68 N) (j74 N) (j83 N) (j84 N) (j85 N) (j87 N) v0 v1 v2 v3 v4 rec_ K).trans (jt86 N  v0 v1 v2 v3 v4 (fun v0 v1 v2 v3 v4 => rec_ (h6_0_0  v0 v1 v2 v3 v4)) (fun y0 y1 y2 => K (.exit 0) (x6_0_0_k0  y0 y1 y2))).symm
theorem ro6_0_0 {β : Type} (N : Nat)  (K : Exit → St → Option β) : ∀ (F : Nat) (v0 : ByteArray) (v1 : Int) (v2 : Int) (v3 : Int) (v4 : List ByteArray), (lp Tryz.f6 0).rounds lay (E6 N) (retMask Tryz.f6) F (h6_0_0  v0 v1 v2 v3 v4) K = j87 N  F v0 v1 v2 v3 v4 (fun y0 y1 y2 => K (.exit 0) (x6_0_0_k0  y0 y1 y2)) := by
  intro F
  induction F with
  | zero => intros; rfl
  | succ F ih =>
    intros
    rw [rounds_next]
    refine (st6_0_0 N  _ _ _ _ _ (fun s => (lp Tryz.f6 0).rounds lay (E6 N) (retMask Tryz.f6) F s K) K).trans ?_
    simp only [ih]
    rfl
theorem lk6_0 {β : Type} (N : Nat) : lookL (E6 (β := β) N).loops (lp Tryz.f6 0).id = LS6_0 N := by kernel_rfl
theorem rk6_0 {β : Type} (N : Nat) : RoundsOK lay (E6 (β := β) N) (retMask Tryz.f6) (lp Tryz.f6 0) := by
  intro s K r h
  rw [lk6_0] at h
  unfold LS6_0 VLS6_0 at h
  cases hb : shpSt (h6_0_0 ByteArray.empty 0 0 0 []) s with
  | true =>
    rw [hb, cond_true] at h
    exact ⟨N, by rw [← shpSt_ref hb, fl6_0_0 s]; exact (ro6_0_0 N  K N (strS (oneA (vT (nx tund s.tmps 3)))) (intS (oneA (vT (nx tund s.tmps 5)))) (intS (nx .und (cellsB (nx .dead s.blks 0)) 0)) (intS (nx .und (cellsB (nx .dead s.blks 0)) 1)) (rStrs (rowB_ (nx .dead s.blks 1)))).trans h⟩
  | false =>
  rw [hb, cond_false] at h
  clear hb
  cases h
def jb88 {β : Type} (N : Nat) (jq2 : (a0 : Int) → (a1 : Int) → (k : Bool → Option β) → Option β) (jq3 : (k : List ByteArray → Option β) → Option β) (jq87 : Nat → ByteArray → Int → Int → Int → List ByteArray → (ByteArray → Int → Int → Option β) → Option β) (jq74 : (a0 : Int) → (a1 : Int) → (k : Int → Option β) → Option β) (jq68 : (a0 : Int) → (k : ByteArray → Option β) → Option β) (jq83 : (a0 : Int) → (a1 : Int) → (k : Int → Option β) → Option β) (jq84 : (a0 : Int) → (a1 : Int) → (k : Bool → Option β) → Option β) (jq85 : (a0 : Bool) → (a1 : ByteArray) → (k : ByteArray → Option β) → Option β) (a0 : Int) (a1 : Int) (k : ByteArray → Option β) : Option β :=
jq2 a0 a1 fun r3 =>
(cond (!r3)
(k ByteArray.empty)
((cond ((decide (a0 > 4)))
(k ByteArray.empty)
(jq3  fun r4 =>
jq87  N ((strOf [109, 101, 97, 115, 117, 114, 101, 115])) 0 a0 a1 r4 (fun e7_0 e7_1 e7_2 =>
(gd ((decide (e7_0.size + ((strOf [32, 97, 118, 101, 114, 97, 103, 101, 32])).size ≤ 9223372036854775807)))
(jq74 e7_1 e7_2 fun r8 =>
jq68 r8 fun r9 =>
(gd ((decide (((e7_0 ++ (strOf [32, 97, 118, 101, 114, 97, 103, 101, 32]))).size + r9.size ≤ 9223372036854775807)))
((gd ((decide ((((e7_0 ++ (strOf [32, 97, 118, 101, 114, 97, 103, 101, 32])) ++ r9)).size + ((strOf [32, 107, 114, 97, 112, 99, 104, 101, 110, 107, 111, 32])).size ≤ 9223372036854775807)))
(jq83 e7_1 e7_2 fun r10 =>
jq68 r10 fun r11 =>
(gd ((decide (((((e7_0 ++ (strOf [32, 97, 118, 101, 114, 97, 103, 101, 32])) ++ r9) ++ (strOf [32, 107, 114, 97, 112, 99, 104, 101, 110, 107, 111, 32]))).size + r11.size ≤ 9223372036854775807)))
(jq84 e7_1 e7_2 fun r12 =>
jq85 r12 ((strOf [32, 101, 118, 97, 115, 105, 118, 101])) fun r13 =>
(gd ((decide ((((((e7_0 ++ (strOf [32, 97, 118, 101, 114, 97, 103, 101, 32])) ++ r9) ++ (strOf [32, 107, 114, 97, 112, 99, 104, 101, 110, 107, 111, 32])) ++ r11)).size + r13.size ≤ 9223372036854775807)))
(k ((((((e7_0 ++ (strOf [32, 97, 118, 101, 114, 97, 103, 101, 32])) ++ r9) ++ (strOf [32, 107, 114, 97, 112, 99, 104, 101, 110, 107, 111, 32])) ++ r11) ++ r13)))))))))))))))))
theorem jt88 {β : Type} (N : Nat) (a0 : Int) (a1 : Int) (k : ByteArray → Option β) : j88 N a0 a1 k = jb88 N (j2 N) (j3 N) (j87 N) (j74 N) (j68 N) (j83 N) (j84 N) (j85 N) a0 a1 k := by
  unfold j88 jb88
  rfl
theorem ve6_0 {β : Type} (N : Nat) (jq2 : (a0 : Int) → (a1 : Int) → (k : Bool → Option β) → Option β) (jq3 : (k : List ByteArray → Option β) → Option β) (jq65 : (a0 : ByteArray) → (a1 : Int) → (a2 : Int) → (k : Int → Option β) → Option β) (jq68 : (a0 : Int) → (k : ByteArray → Option β) → Option β) (jq74 : (a0 : Int) → (a1 : Int) → (k : Int → Option β) → Option β) (jq83 : (a0 : Int) → (a1 : Int) → (k : Int → Option β) → Option β) (jq84 : (a0 : Int) → (a1 : Int) → (k : Bool → Option β) → Option β) (jq85 : (a0 : Bool) → (a1 : ByteArray) → (k : ByteArray → Option β) → Option β) (jq87 : Nat → ByteArray → Int → Int → Int → List ByteArray → (ByteArray → Int → Int → Option β) → Option β)  (a0 : Int) (a1 : Int) (K : TV → Option β) : evFn lay (VE6 N jq2 jq3 jq65 jq68 jq74 jq83 jq84 jq85 jq87) Tryz.f6 [.v (.agg [.int .i64 a0, .int .i64 a1])] K = jb88 N jq2 jq3 jq87 jq74 jq68 jq83 jq84 jq85 a0 a1 (fun z2 => K (.v (.one (.str z2)))) := by kernel_rfl
theorem e6_0 {β : Type} (N : Nat)  (a0 : Int) (a1 : Int) (K : TV → Option β) : evFn lay (E6 N) Tryz.f6 [.v (.agg [.int .i64 a0, .int .i64 a1])] K = j88 N a0 a1 (fun z2 => K (.v (.one (.str z2)))) := (ve6_0 N (j2 N) (j3 N) (j65 N) (j68 N) (j74 N) (j83 N) (j84 N) (j85 N) (j87 N) a0 a1 K).trans (jt88 N a0 a1 (fun z2 => K (.v (.one (.str z2))))).symm
theorem o6 {β : Type} (N : Nat) : SpecOK (β := β) inv Tryz.prog 6 (S6 N) := by
  refine spec_of lay_ok mixed (E := E6 N) (specs_loops (specs_cons (o13 N) (specs_cons (o14 N) (specs_cons (o16 N) (specs_cons (o15 N) (specs_cons (o17 N) (specs_cons (o18 N) (specs_cons (o20 N) (specs_cons (o19 N) specs_nil))))))))) muts_nil gs_nil Tryz.func6 (by kernel_rfl) 1 (by kernel_rfl) ⟨trivial, rk6_0 N⟩ fun args K r h => ?_
  unfold S6 VS6 at h
  split at h
  · exact (e6_0 N _ _ _).trans h
  · cases h
def VS99 {β : Type} (N : Nat) (jq89 : (a0 : Int) → (k : Bool → Option β) → Option β) : Rv.Spec β := fun args K => match args with
  | [.v (.one (.int .i64 a0))] => jq89 a0 (fun z1 => K (.v (.one (.bool z1))))
  | _ => none
def S99 {β : Type} (N : Nat) : Rv.Spec β := VS99 N (j89 N)
def VE99 {β : Type} (N : Nat) : Env β := ⟨[], [], [], [], ⟨[], [], []⟩⟩
def E99 {β : Type} (N : Nat) : Env β := VE99 N
def jb89 {β : Type} (N : Nat) (a0 : Int) (k : Bool → Option β) : Option β :=
(cond ((decide (a0 ≥ 0)))
(k ((decide (a0 ≤ 5))))
(k false))
theorem jt89 {β : Type} (N : Nat) (a0 : Int) (k : Bool → Option β) : j89 N a0 k = jb89 N a0 k := by
  unfold j89 jb89
  rfl
theorem ve99_0 {β : Type} (N : Nat)  (a0 : Int) (K : TV → Option β) : evFn lay (VE99 N) Tryz.f99 [.v (.one (.int .i64 a0))] K = jb89 N a0 (fun z1 => K (.v (.one (.bool z1)))) := by kernel_rfl
theorem e99_0 {β : Type} (N : Nat)  (a0 : Int) (K : TV → Option β) : evFn lay (E99 N) Tryz.f99 [.v (.one (.int .i64 a0))] K = j89 N a0 (fun z1 => K (.v (.one (.bool z1)))) := (ve99_0 N a0 K).trans (jt89 N a0 (fun z1 => K (.v (.one (.bool z1))))).symm
theorem o99 {β : Type} (N : Nat) : SpecOK (β := β) inv Tryz.prog 99 (S99 N) := by
  refine spec_of lay_ok mixed (E := E99 N) (specs_loops specs_nil) muts_nil gs_nil Tryz.func99 (by kernel_rfl) 0 (by kernel_rfl) trivial fun args K r h => ?_
  unfold S99 VS99 at h
  split at h
  · exact (e99_0 N _ _).trans h
  · cases h
def VS100 {β : Type} (N : Nat) (jq90 : (a0 : Int) → (a1 : Int) → (k : Int → Option β) → Option β) : Rv.Spec β := fun args K => match args with
  | [.v (.agg [.int .i64 a0, .int .i64 a1])] => jq90 a0 a1 (fun z2 => K (.v (.one (.int .i64 z2))))
  | _ => none
def S100 {β : Type} (N : Nat) : Rv.Spec β := VS100 N (j90 N)
def VE100 {β : Type} (N : Nat) : Env β := ⟨[], [], [], [], ⟨[], [], []⟩⟩
def E100 {β : Type} (N : Nat) : Env β := VE100 N
def jb90 {β : Type} (N : Nat) (a0 : Int) (a1 : Int) (k : Int → Option β) : Option β :=
(gd ((decide (0 ≤ a0)))
(k ((shlI .i64 1 a0))))
theorem jt90 {β : Type} (N : Nat) (a0 : Int) (a1 : Int) (k : Int → Option β) : j90 N a0 a1 k = jb90 N a0 a1 k := by
  unfold j90 jb90
  rfl
theorem ve100_0 {β : Type} (N : Nat)  (a0 : Int) (a1 : Int) (K : TV → Option β) : evFn lay (VE100 N) Tryz.f100 [.v (.agg [.int .i64 a0, .int .i64 a1])] K = jb90 N a0 a1 (fun z2 => K (.v (.one (.int .i64 z2)))) := by kernel_rfl
theorem e100_0 {β : Type} (N : Nat)  (a0 : Int) (a1 : Int) (K : TV → Option β) : evFn lay (E100 N) Tryz.f100 [.v (.agg [.int .i64 a0, .int .i64 a1])] K = j90 N a0 a1 (fun z2 => K (.v (.one (.int .i64 z2)))) := (ve100_0 N a0 a1 K).trans (jt90 N a0 a1 (fun z2 => K (.v (.one (.int .i64 z2))))).symm
theorem o100 {β : Type} (N : Nat) : SpecOK (β := β) inv Tryz.prog 100 (S100 N) := by
  refine spec_of lay_ok mixed (E := E100 N) (specs_loops specs_nil) muts_nil gs_nil Tryz.func100 (by kernel_rfl) 0 (by kernel_rfl) trivial fun args K r h => ?_
  unfold S100 VS100 at h
  split at h
  · exact (e100_0 N _ _ _).trans h
  · cases h
def VS45 {β : Type} (N : Nat) (jq91 : (a0 : Int) → (a1 : Int) → (k : Bool → Option β) → Option β) : Rv.Spec β := fun args K => match args with
  | [.v (.agg [.int .i64 a0, .int .i64 a1])] => jq91 a0 a1 (fun z2 => K (.v (.one (.bool z2))))
  | _ => none
def S45 {β : Type} (N : Nat) : Rv.Spec β := VS45 N (j91 N)
def VE45 {β : Type} (N : Nat) (jq89 : (a0 : Int) → (k : Bool → Option β) → Option β) (jq90 : (a0 : Int) → (a1 : Int) → (k : Int → Option β) → Option β) : Env β := ⟨[(99, VS99 N jq89), (100, VS100 N jq90)], [], [], [], ⟨[], [], []⟩⟩
def E45 {β : Type} (N : Nat) : Env β := VE45 N (j89 N) (j90 N)
def jb91 {β : Type} (N : Nat) (jq89 : (a0 : Int) → (k : Bool → Option β) → Option β) (jq90 : (a0 : Int) → (a1 : Int) → (k : Int → Option β) → Option β) (a0 : Int) (a1 : Int) (k : Bool → Option β) : Option β :=
jq89 a0 fun r3 =>
(cond r3
((cond ((decide (a1 ≥ 0)))
(jq90 a0 a1 fun r4 =>
(gd ((decide (0 ≤ r4)))
(k (((shrI .i64 a1 r4) == 0)))))
(k false)))
(k false))
theorem jt91 {β : Type} (N : Nat) (a0 : Int) (a1 : Int) (k : Bool → Option β) : j91 N a0 a1 k = jb91 N (j89 N) (j90 N) a0 a1 k := by
  unfold j91 jb91
  rfl
theorem ve45_0 {β : Type} (N : Nat) (jq89 : (a0 : Int) → (k : Bool → Option β) → Option β) (jq90 : (a0 : Int) → (a1 : Int) → (k : Int → Option β) → Option β)  (a0 : Int) (a1 : Int) (K : TV → Option β) : evFn lay (VE45 N jq89 jq90) Tryz.f45 [.v (.agg [.int .i64 a0, .int .i64 a1])] K = jb91 N jq89 jq90 a0 a1 (fun z2 => K (.v (.one (.bool z2)))) := by kernel_rfl
theorem e45_0 {β : Type} (N : Nat)  (a0 : Int) (a1 : Int) (K : TV → Option β) : evFn lay (E45 N) Tryz.f45 [.v (.agg [.int .i64 a0, .int .i64 a1])] K = j91 N a0 a1 (fun z2 => K (.v (.one (.bool z2)))) := (ve45_0 N (j89 N) (j90 N) a0 a1 K).trans (jt91 N a0 a1 (fun z2 => K (.v (.one (.bool z2))))).symm
theorem o45 {β : Type} (N : Nat) : SpecOK (β := β) inv Tryz.prog 45 (S45 N) := by
  refine spec_of lay_ok mixed (E := E45 N) (specs_loops (specs_cons (o99 N) (specs_cons (o100 N) specs_nil))) muts_nil gs_nil Tryz.func45 (by kernel_rfl) 0 (by kernel_rfl) trivial fun args K r h => ?_
  unfold S45 VS45 at h
  split at h
  · exact (e45_0 N _ _ _).trans h
  · cases h
def VS21 {β : Type} (N : Nat) (jq92 : (a0 : Int) → (a1 : Int) → (a2 : Int) → (k : Bool → Option β) → Option β) : Rv.Spec β := fun args K => match args with
  | [.v (.agg [.int .i64 a0, .int .i64 a1]), .v (.one (.int .i64 a2))] => jq92 a0 a1 a2 (fun z3 => K (.v (.one (.bool z3))))
  | _ => none
def S21 {β : Type} (N : Nat) : Rv.Spec β := VS21 N (j92 N)
def VE21 {β : Type} (N : Nat) (jq91 : (a0 : Int) → (a1 : Int) → (k : Bool → Option β) → Option β) : Env β := ⟨[(45, VS45 N jq91)], [], [], [], ⟨[], [], []⟩⟩
def E21 {β : Type} (N : Nat) : Env β := VE21 N (j91 N)
def jb92 {β : Type} (N : Nat) (jq91 : (a0 : Int) → (a1 : Int) → (k : Bool → Option β) → Option β) (a0 : Int) (a1 : Int) (a2 : Int) (k : Bool → Option β) : Option β :=
jq91 a0 a1 fun r4 =>
(cond r4
(k ((decide (a0 ≤ a2))))
(k false))
theorem jt92 {β : Type} (N : Nat) (a0 : Int) (a1 : Int) (a2 : Int) (k : Bool → Option β) : j92 N a0 a1 a2 k = jb92 N (j91 N) a0 a1 a2 k := by
  unfold j92 jb92
  rfl
theorem ve21_0 {β : Type} (N : Nat) (jq91 : (a0 : Int) → (a1 : Int) → (k : Bool → Option β) → Option β)  (a0 : Int) (a1 : Int) (a2 : Int) (K : TV → Option β) : evFn lay (VE21 N jq91) Tryz.f21 [.v (.agg [.int .i64 a0, .int .i64 a1]), .v (.one (.int .i64 a2))] K = jb92 N jq91 a0 a1 a2 (fun z3 => K (.v (.one (.bool z3)))) := by kernel_rfl
theorem e21_0 {β : Type} (N : Nat)  (a0 : Int) (a1 : Int) (a2 : Int) (K : TV → Option β) : evFn lay (E21 N) Tryz.f21 [.v (.agg [.int .i64 a0, .int .i64 a1]), .v (.one (.int .i64 a2))] K = j92 N a0 a1 a2 (fun z3 => K (.v (.one (.bool z3)))) := (ve21_0 N (j91 N) a0 a1 a2 K).trans (jt92 N a0 a1 a2 (fun z3 => K (.v (.one (.bool z3))))).symm
theorem o21 {β : Type} (N : Nat) : SpecOK (β := β) inv Tryz.prog 21 (S21 N) := by
  refine spec_of lay_ok mixed (E := E21 N) (specs_loops (specs_cons (o45 N) specs_nil)) muts_nil gs_nil Tryz.func21 (by kernel_rfl) 0 (by kernel_rfl) trivial fun args K r h => ?_
  unfold S21 VS21 at h
  split at h
  · exact (e21_0 N _ _ _ _).trans h
  · cases h
def VS23 {β : Type} (N : Nat) (jq93 : (k : List ByteArray → Option β) → Option β) : Rv.Spec β := fun args K => match args with
  | [] => jq93  (fun z0 => K (.v (.one (.sl 9 (.strs z0)))))
  | _ => none
def S23 {β : Type} (N : Nat) : Rv.Spec β := VS23 N (j93 N)
def VE23 {β : Type} (N : Nat) : Env β := ⟨[], [], [], [], ⟨[], [], []⟩⟩
def E23 {β : Type} (N : Nat) : Env β := VE23 N
def jb93 {β : Type} (N : Nat)  (k : List ByteArray → Option β) : Option β :=
k (((((((((([] : List ByteArray) ++ [(strOf [115, 101, 110, 115, 105, 116, 105, 118, 105, 116, 121])]) ++ [(strOf [98, 108, 111, 99, 107, 115])]) ++ [(strOf [99, 101, 114, 116, 105, 102, 105, 99, 97, 116, 101])]) ++ [(strOf [100, 101, 112, 116, 104])]) ++ [(strOf [100, 101, 103, 114, 101, 101])]) ++ [(strOf [100, 101, 103, 114, 101, 101, 50])]) ++ [(strOf [111, 110, 101, 115])]) ++ [(strOf [105, 110, 102, 108, 117, 101, 110, 99, 101])]))
theorem jt93 {β : Type} (N : Nat)  (k : List ByteArray → Option β) : j93 N k = jb93 N k := by
  unfold j93 jb93
  rfl
theorem ve23_0 {β : Type} (N : Nat)   (K : TV → Option β) : evFn lay (VE23 N) Tryz.f23 [] K = jb93 N  (fun z0 => K (.v (.one (.sl 9 (.strs z0))))) := by kernel_rfl
theorem e23_0 {β : Type} (N : Nat)   (K : TV → Option β) : evFn lay (E23 N) Tryz.f23 [] K = j93 N  (fun z0 => K (.v (.one (.sl 9 (.strs z0))))) := (ve23_0 N K).trans (jt93 N  (fun z0 => K (.v (.one (.sl 9 (.strs z0)))))).symm
theorem o23 {β : Type} (N : Nat) : SpecOK (β := β) inv Tryz.prog 23 (S23 N) := by
  refine spec_of lay_ok mixed (E := E23 N) (specs_loops specs_nil) muts_nil gs_nil Tryz.func23 (by kernel_rfl) 0 (by kernel_rfl) trivial fun args K r h => ?_
  unfold S23 VS23 at h
  split at h
  · exact (e23_0 N  _).trans h
  · cases h
def VS103 {β : Type} (N : Nat) (jq94 : (a0 : Int) → (a1 : Int) → (a2 : Int) → (k : Int → Option β) → Option β) : Rv.Spec β := fun args K => match args with
  | [.v (.agg [.int .i64 a0, .int .i64 a1]), .v (.one (.int .i64 a2))] => jq94 a0 a1 a2 (fun z3 => K (.v (.one (.int .i64 z3))))
  | _ => none
def S103 {β : Type} (N : Nat) : Rv.Spec β := VS103 N (j94 N)
def VE103 {β : Type} (N : Nat) : Env β := ⟨[], [], [], [], ⟨[], [], []⟩⟩
def E103 {β : Type} (N : Nat) : Env β := VE103 N
def jb94 {β : Type} (N : Nat) (a0 : Int) (a1 : Int) (a2 : Int) (k : Int → Option β) : Option β :=
(gd ((decide (0 ≤ a2)))
(k ((bits .and .i64 (shrI .i64 a1 a2) 1))))
theorem jt94 {β : Type} (N : Nat) (a0 : Int) (a1 : Int) (a2 : Int) (k : Int → Option β) : j94 N a0 a1 a2 k = jb94 N a0 a1 a2 k := by
  unfold j94 jb94
  rfl
theorem ve103_0 {β : Type} (N : Nat)  (a0 : Int) (a1 : Int) (a2 : Int) (K : TV → Option β) : evFn lay (VE103 N) Tryz.f103 [.v (.agg [.int .i64 a0, .int .i64 a1]), .v (.one (.int .i64 a2))] K = jb94 N a0 a1 a2 (fun z3 => K (.v (.one (.int .i64 z3)))) := by kernel_rfl
theorem e103_0 {β : Type} (N : Nat)  (a0 : Int) (a1 : Int) (a2 : Int) (K : TV → Option β) : evFn lay (E103 N) Tryz.f103 [.v (.agg [.int .i64 a0, .int .i64 a1]), .v (.one (.int .i64 a2))] K = j94 N a0 a1 a2 (fun z3 => K (.v (.one (.int .i64 z3)))) := (ve103_0 N a0 a1 a2 K).trans (jt94 N a0 a1 a2 (fun z3 => K (.v (.one (.int .i64 z3))))).symm
theorem o103 {β : Type} (N : Nat) : SpecOK (β := β) inv Tryz.prog 103 (S103 N) := by
  refine spec_of lay_ok mixed (E := E103 N) (specs_loops specs_nil) muts_nil gs_nil Tryz.func103 (by kernel_rfl) 0 (by kernel_rfl) trivial fun args K r h => ?_
  unfold S103 VS103 at h
  split at h
  · exact (e103_0 N _ _ _ _).trans h
  · cases h
def VS198 {β : Type} (N : Nat) (jq95 : (a0 : Int) → (a1 : Int) → (a2 : Int) → (a3 : Int) → (k : Bool → Option β) → Option β) : Rv.Spec β := fun args K => match args with
  | [.v (.agg [.int .i64 a0, .int .i64 a1]), .v (.one (.int .i64 a2)), .v (.one (.int .i64 a3))] => jq95 a0 a1 a2 a3 (fun z4 => K (.v (.one (.bool z4))))
  | _ => none
def S198 {β : Type} (N : Nat) : Rv.Spec β := VS198 N (j95 N)
def VE198 {β : Type} (N : Nat) (jq94 : (a0 : Int) → (a1 : Int) → (a2 : Int) → (k : Int → Option β) → Option β) : Env β := ⟨[(103, VS103 N jq94)], [], [], [], ⟨[], [], []⟩⟩
def E198 {β : Type} (N : Nat) : Env β := VE198 N (j94 N)
def jb95 {β : Type} (N : Nat) (jq94 : (a0 : Int) → (a1 : Int) → (a2 : Int) → (k : Int → Option β) → Option β) (a0 : Int) (a1 : Int) (a2 : Int) (a3 : Int) (k : Bool → Option β) : Option β :=
jq94 a0 a1 a2 fun r5 =>
jq94 a0 a1 ((bits .xor .i64 a2 a3)) fun r6 =>
k ((r5 != r6))
theorem jt95 {β : Type} (N : Nat) (a0 : Int) (a1 : Int) (a2 : Int) (a3 : Int) (k : Bool → Option β) : j95 N a0 a1 a2 a3 k = jb95 N (j94 N) a0 a1 a2 a3 k := by
  unfold j95 jb95
  rfl
theorem ve198_0 {β : Type} (N : Nat) (jq94 : (a0 : Int) → (a1 : Int) → (a2 : Int) → (k : Int → Option β) → Option β)  (a0 : Int) (a1 : Int) (a2 : Int) (a3 : Int) (K : TV → Option β) : evFn lay (VE198 N jq94) Tryz.f198 [.v (.agg [.int .i64 a0, .int .i64 a1]), .v (.one (.int .i64 a2)), .v (.one (.int .i64 a3))] K = jb95 N jq94 a0 a1 a2 a3 (fun z4 => K (.v (.one (.bool z4)))) := by kernel_rfl
theorem e198_0 {β : Type} (N : Nat)  (a0 : Int) (a1 : Int) (a2 : Int) (a3 : Int) (K : TV → Option β) : evFn lay (E198 N) Tryz.f198 [.v (.agg [.int .i64 a0, .int .i64 a1]), .v (.one (.int .i64 a2)), .v (.one (.int .i64 a3))] K = j95 N a0 a1 a2 a3 (fun z4 => K (.v (.one (.bool z4)))) := (ve198_0 N (j94 N) a0 a1 a2 a3 K).trans (jt95 N a0 a1 a2 a3 (fun z4 => K (.v (.one (.bool z4))))).symm
theorem o198 {β : Type} (N : Nat) : SpecOK (β := β) inv Tryz.prog 198 (S198 N) := by
  refine spec_of lay_ok mixed (E := E198 N) (specs_loops (specs_cons (o103 N) specs_nil)) muts_nil gs_nil Tryz.func198 (by kernel_rfl) 0 (by kernel_rfl) trivial fun args K r h => ?_
  unfold S198 VS198 at h
  split at h
  · exact (e198_0 N _ _ _ _ _).trans h
  · cases h
def VS132 {β : Type} (N : Nat) (jq98 : (a0 : Int) → (a1 : Int) → (a2 : Int) → (k : Int → Option β) → Option β) : Rv.Spec β := fun args K => match args with
  | [.v (.agg [.int .i64 a0, .int .i64 a1]), .v (.one (.int .i64 a2))] => jq98 a0 a1 a2 (fun z3 => K (.v (.one (.int .i64 z3))))
  | _ => none
def S132 {β : Type} (N : Nat) : Rv.Spec β := VS132 N (j98 N)
def h132_0_0  (v0 : Int) (v1 : Int) (v2 : Int) (v3 : Int) (v4 : Int) (v5 : Int) : St := ⟨tund :: .v (.one (.int .i64 v0)) :: .v (.one (.ptr 0 0)) :: tund :: tund :: .v (.one (.int .i64 v1)) :: tund :: tund :: .v (.one (.int .i64 v2)) :: .v (.one (.int .i64 v3)) :: tund :: tund :: tund :: tund :: tund :: tund :: tund :: tund :: tund :: tund :: tund :: [], [.cells 25 [.int .i64 v4, .int .i64 v5]]⟩
def x132_0_0_k0  (y0 : Int) : St := ⟨tund :: tund :: tund :: tund :: tund :: .v (.one (.int .i64 y0)) :: tund :: tund :: tund :: tund :: tund :: tund :: tund :: tund :: tund :: tund :: tund :: tund :: tund :: tund :: tund :: [], []⟩
theorem fl132_0_0 (s : St) : refSt (h132_0_0 0 0 0 0 0 0) s = h132_0_0 (intS (oneA (vT (nx tund s.tmps 1)))) (intS (oneA (vT (nx tund s.tmps 5)))) (intS (oneA (vT (nx tund s.tmps 8)))) (intS (oneA (vT (nx tund s.tmps 9)))) (intS (nx .und (cellsB (nx .dead s.blks 0)) 0)) (intS (nx .und (cellsB (nx .dead s.blks 0)) 1)) := by kernel_rfl
def VLS132_0 {β : Type} (N : Nat) (jq97 : Nat → Int → Int → Int → Int → Int → Int → (Int → Option β) → Option β) : LSpec β := fun s K => cond (shpSt (h132_0_0 0 0 0 0 0 0) s) ((fun (v0 : Int) (v1 : Int) (v2 : Int) (v3 : Int) (v4 : Int) (v5 : Int) => jq97  N v0 v1 v2 v3 v4 v5 (fun y0 => K (.exit 0) (x132_0_0_k0  y0))) (intS (oneA (vT (nx tund s.tmps 1)))) (intS (oneA (vT (nx tund s.tmps 5)))) (intS (oneA (vT (nx tund s.tmps 8)))) (intS (oneA (vT (nx tund s.tmps 9)))) (intS (nx .und (cellsB (nx .dead s.blks 0)) 0)) (intS (nx .und (cellsB (nx .dead s.blks 0)) 1))) (none)
def LS132_0 {β : Type} (N : Nat) : LSpec β := VLS132_0 N (j97 N)
def VE132 {β : Type} (N : Nat) (jq95 : (a0 : Int) → (a1 : Int) → (a2 : Int) → (a3 : Int) → (k : Bool → Option β) → Option β) (jq97 : Nat → Int → Int → Int → Int → Int → Int → (Int → Option β) → Option β) : Env β := ⟨[(198, VS198 N jq95)], [], [(0, VLS132_0 N jq97)], [], ⟨[], [], []⟩⟩
def E132 {β : Type} (N : Nat) : Env β := VE132 N (j95 N) (j97 N)
def jb96 {β : Type} (N : Nat) (jq95 : (a0 : Int) → (a1 : Int) → (a2 : Int) → (a3 : Int) → (k : Bool → Option β) → Option β)  (v0 : Int) (v1 : Int) (v2 : Int) (v3 : Int) (v4 : Int) (v5 : Int) (rec_ : Int → Int → Int → Int → Int → Int → Option β) (k0 : Int → Option β) : Option β :=
(cond ((decide (v3 < v2)))
((gd ((decide (0 ≤ v3)))
(jq95 v4 v5 v0 ((shlI .i64 1 v3)) fun r4 =>
(cond r4
(rec_ v0 ((w64 (v1 + 1))) v2 ((w64 (v3 + 1))) v4 v5)
(rec_ v0 v1 v2 ((w64 (v3 + 1))) v4 v5)))))
(k0 v1))
theorem jt96 {β : Type} (N : Nat)  (v0 : Int) (v1 : Int) (v2 : Int) (v3 : Int) (v4 : Int) (v5 : Int) (rec_ : Int → Int → Int → Int → Int → Int → Option β) (k0 : Int → Option β) : j96 N v0 v1 v2 v3 v4 v5 rec_ k0 = jb96 N (j95 N) v0 v1 v2 v3 v4 v5 rec_ k0 := by
  unfold j96 jb96
  rfl
theorem vst132_0_0 {β : Type} (N : Nat) (jq95 : (a0 : Int) → (a1 : Int) → (a2 : Int) → (a3 : Int) → (k : Bool → Option β) → Option β) (jq97 : Nat → Int → Int → Int → Int → Int → Int → (Int → Option β) → Option β)  (v0 : Int) (v1 : Int) (v2 : Int) (v3 : Int) (v4 : Int) (v5 : Int) (rec_ : St → Option β) (K : Exit → St → Option β) :
    ev lay (VE132 N jq95 jq97) (retMask Tryz.f132) (lp Tryz.f132 0).body (lp Tryz.f132 0).ex ((lp Tryz.f132 0).lv (retMask Tryz.f132)) (h132_0_0  v0 v1 v2 v3 v4 v5) (nextR (fun s' => rec_ (s'.tidy ((lp Tryz.f132 0).lv (retMask Tryz.f132)))) K) = jb96 N jq95  v0 v1 v2 v3 v4 v5 (fun v0 v1 v2 v3 v4 v5 => rec_ (h132_0_0  v0 v1 v2 v3 v4 v5)) (fun y0 => K (.exit 0) (x132_0_0_k0  y0)) := by kernel_rfl
theorem st132_0_0 {β : Type} (N : Nat)  (v0 : Int) (v1 : Int) (v2 : Int) (v3 : Int) (v4 : Int) (v5 : Int) (rec_ : St → Option β) (K : Exit → St → Option β) :
    ev lay (E132 N) (retMask Tryz.f132) (lp Tryz.f132 0).body (lp Tryz.f132 0).ex ((lp Tryz.f132 0).lv (retMask Tryz.f132)) (h132_0_0  v0 v1 v2 v3 v4 v5) (nextR (fun s' => rec_ (s'.tidy ((lp Tryz.f132 0).lv (retMask Tryz.f132)))) K) = j96 N  v0 v1 v2 v3 v4 v5 (fun v0 v1 v2 v3 v4 v5 => rec_ (h132_0_0  v0 v1 v2 v3 v4 v5)) (fun y0 => K (.exit 0) (x132_0_0_k0  y0)) := (vst132_0_0 N (j95 N) (j97 N) v0 v1 v2 v3 v4 v5 rec_ K).trans (jt96 N  v0 v1 v2 v3 v4 v5 (fun v0 v1 v2 v3 v4 v5 => rec_ (h132_0_0  v0 v1 v2 v3 v4 v5)) (fun y0 => K (.exit 0) (x132_0_0_k0  y0))).symm
theorem ro132_0_0 {β : Type} (N : Nat)  (K : Exit → St → Option β) : ∀ (F : Nat) (v0 : Int) (v1 : Int) (v2 : Int) (v3 : Int) (v4 : Int) (v5 : Int), (lp Tryz.f132 0).rounds lay (E132 N) (retMask Tryz.f132) F (h132_0_0  v0 v1 v2 v3 v4 v5) K = j97 N  F v0 v1 v2 v3 v4 v5 (fun y0 => K (.exit 0) (x132_0_0_k0  y0)) := by
  intro F
  induction F with
  | zero => intros; rfl
  | succ F ih =>
    intros
    rw [rounds_next]
    refine (st132_0_0 N  _ _ _ _ _ _ (fun s => (lp Tryz.f132 0).rounds lay (E132 N) (retMask Tryz.f132) F s K) K).trans ?_
    simp only [ih]
    rfl
theorem lk132_0 {β : Type} (N : Nat) : lookL (E132 (β := β) N).loops (lp Tryz.f132 0).id = LS132_0 N := by kernel_rfl
theorem rk132_0 {β : Type} (N : Nat) : RoundsOK lay (E132 (β := β) N) (retMask Tryz.f132) (lp Tryz.f132 0) := by
  intro s K r h
  rw [lk132_0] at h
  unfold LS132_0 VLS132_0 at h
  cases hb : shpSt (h132_0_0 0 0 0 0 0 0) s with
  | true =>
    rw [hb, cond_true] at h
    exact ⟨N, by rw [← shpSt_ref hb, fl132_0_0 s]; exact (ro132_0_0 N  K N (intS (oneA (vT (nx tund s.tmps 1)))) (intS (oneA (vT (nx tund s.tmps 5)))) (intS (oneA (vT (nx tund s.tmps 8)))) (intS (oneA (vT (nx tund s.tmps 9)))) (intS (nx .und (cellsB (nx .dead s.blks 0)) 0)) (intS (nx .und (cellsB (nx .dead s.blks 0)) 1))).trans h⟩
  | false =>
  rw [hb, cond_false] at h
  clear hb
  cases h
def jb98 {β : Type} (N : Nat) (jq97 : Nat → Int → Int → Int → Int → Int → Int → (Int → Option β) → Option β) (a0 : Int) (a1 : Int) (a2 : Int) (k : Int → Option β) : Option β :=
jq97  N a2 0 a0 0 a0 a1 (fun e5_0 =>
k e5_0)
theorem jt98 {β : Type} (N : Nat) (a0 : Int) (a1 : Int) (a2 : Int) (k : Int → Option β) : j98 N a0 a1 a2 k = jb98 N (j97 N) a0 a1 a2 k := by
  unfold j98 jb98
  rfl
theorem ve132_0 {β : Type} (N : Nat) (jq95 : (a0 : Int) → (a1 : Int) → (a2 : Int) → (a3 : Int) → (k : Bool → Option β) → Option β) (jq97 : Nat → Int → Int → Int → Int → Int → Int → (Int → Option β) → Option β)  (a0 : Int) (a1 : Int) (a2 : Int) (K : TV → Option β) : evFn lay (VE132 N jq95 jq97) Tryz.f132 [.v (.agg [.int .i64 a0, .int .i64 a1]), .v (.one (.int .i64 a2))] K = jb98 N jq97 a0 a1 a2 (fun z3 => K (.v (.one (.int .i64 z3)))) := by kernel_rfl
theorem e132_0 {β : Type} (N : Nat)  (a0 : Int) (a1 : Int) (a2 : Int) (K : TV → Option β) : evFn lay (E132 N) Tryz.f132 [.v (.agg [.int .i64 a0, .int .i64 a1]), .v (.one (.int .i64 a2))] K = j98 N a0 a1 a2 (fun z3 => K (.v (.one (.int .i64 z3)))) := (ve132_0 N (j95 N) (j97 N) a0 a1 a2 K).trans (jt98 N a0 a1 a2 (fun z3 => K (.v (.one (.int .i64 z3))))).symm
theorem o132 {β : Type} (N : Nat) : SpecOK (β := β) inv Tryz.prog 132 (S132 N) := by
  refine spec_of lay_ok mixed (E := E132 N) (specs_loops (specs_cons (o198 N) specs_nil)) muts_nil gs_nil Tryz.func132 (by kernel_rfl) 1 (by kernel_rfl) ⟨trivial, rk132_0 N⟩ fun args K r h => ?_
  unfold S132 VS132 at h
  split at h
  · exact (e132_0 N _ _ _ _).trans h
  · cases h
def VS76 {β : Type} (N : Nat) (jq101 : (a0 : Int) → (a1 : Int) → (k : Int → Option β) → Option β) : Rv.Spec β := fun args K => match args with
  | [.v (.agg [.int .i64 a0, .int .i64 a1])] => jq101 a0 a1 (fun z2 => K (.v (.one (.int .i64 z2))))
  | _ => none
def S76 {β : Type} (N : Nat) : Rv.Spec β := VS76 N (j101 N)
def h76_0_0  (v0 : Int) (v1 : Int) (v2 : Int) (v3 : Int) (v4 : Int) : St := ⟨tund :: .v (.one (.ptr 0 0)) :: tund :: .v (.one (.int .i64 v0)) :: tund :: tund :: tund :: tund :: tund :: .v (.one (.int .i64 v1)) :: .v (.one (.int .i64 v2)) :: tund :: tund :: tund :: tund :: tund :: tund :: tund :: tund :: tund :: [], [.cells 25 [.int .i64 v3, .int .i64 v4]]⟩
def x76_0_0_k0  (y0 : Int) : St := ⟨tund :: tund :: tund :: .v (.one (.int .i64 y0)) :: tund :: tund :: tund :: tund :: tund :: tund :: tund :: tund :: tund :: tund :: tund :: tund :: tund :: tund :: tund :: tund :: [], []⟩
theorem fl76_0_0 (s : St) : refSt (h76_0_0 0 0 0 0 0) s = h76_0_0 (intS (oneA (vT (nx tund s.tmps 3)))) (intS (oneA (vT (nx tund s.tmps 9)))) (intS (oneA (vT (nx tund s.tmps 10)))) (intS (nx .und (cellsB (nx .dead s.blks 0)) 0)) (intS (nx .und (cellsB (nx .dead s.blks 0)) 1)) := by kernel_rfl
def VLS76_0 {β : Type} (N : Nat) (jq100 : Nat → Int → Int → Int → Int → Int → (Int → Option β) → Option β) : LSpec β := fun s K => cond (shpSt (h76_0_0 0 0 0 0 0) s) ((fun (v0 : Int) (v1 : Int) (v2 : Int) (v3 : Int) (v4 : Int) => jq100  N v0 v1 v2 v3 v4 (fun y0 => K (.exit 0) (x76_0_0_k0  y0))) (intS (oneA (vT (nx tund s.tmps 3)))) (intS (oneA (vT (nx tund s.tmps 9)))) (intS (oneA (vT (nx tund s.tmps 10)))) (intS (nx .und (cellsB (nx .dead s.blks 0)) 0)) (intS (nx .und (cellsB (nx .dead s.blks 0)) 1))) (none)
def LS76_0 {β : Type} (N : Nat) : LSpec β := VLS76_0 N (j100 N)
def VE76 {β : Type} (N : Nat) (jq91 : (a0 : Int) → (a1 : Int) → (k : Bool → Option β) → Option β) (jq90 : (a0 : Int) → (a1 : Int) → (k : Int → Option β) → Option β) (jq98 : (a0 : Int) → (a1 : Int) → (a2 : Int) → (k : Int → Option β) → Option β) (jq100 : Nat → Int → Int → Int → Int → Int → (Int → Option β) → Option β) : Env β := ⟨[(45, VS45 N jq91), (100, VS100 N jq90), (132, VS132 N jq98)], [], [(0, VLS76_0 N jq100)], [], ⟨[], [], []⟩⟩
def E76 {β : Type} (N : Nat) : Env β := VE76 N (j91 N) (j90 N) (j98 N) (j100 N)
def jb99 {β : Type} (N : Nat) (jq98 : (a0 : Int) → (a1 : Int) → (a2 : Int) → (k : Int → Option β) → Option β)  (v0 : Int) (v1 : Int) (v2 : Int) (v3 : Int) (v4 : Int) (rec_ : Int → Int → Int → Int → Int → Option β) (k0 : Int → Option β) : Option β :=
(cond ((decide (v2 < v1)))
(jq98 v3 v4 v2 fun r5 =>
rec_ ((mxI v0 r5)) v1 ((w64 (v2 + 1))) v3 v4)
(k0 v0))
theorem jt99 {β : Type} (N : Nat)  (v0 : Int) (v1 : Int) (v2 : Int) (v3 : Int) (v4 : Int) (rec_ : Int → Int → Int → Int → Int → Option β) (k0 : Int → Option β) : j99 N v0 v1 v2 v3 v4 rec_ k0 = jb99 N (j98 N) v0 v1 v2 v3 v4 rec_ k0 := by
  unfold j99 jb99
  rfl
theorem vst76_0_0 {β : Type} (N : Nat) (jq91 : (a0 : Int) → (a1 : Int) → (k : Bool → Option β) → Option β) (jq90 : (a0 : Int) → (a1 : Int) → (k : Int → Option β) → Option β) (jq98 : (a0 : Int) → (a1 : Int) → (a2 : Int) → (k : Int → Option β) → Option β) (jq100 : Nat → Int → Int → Int → Int → Int → (Int → Option β) → Option β)  (v0 : Int) (v1 : Int) (v2 : Int) (v3 : Int) (v4 : Int) (rec_ : St → Option β) (K : Exit → St → Option β) :
    ev lay (VE76 N jq91 jq90 jq98 jq100) (retMask Tryz.f76) (lp Tryz.f76 0).body (lp Tryz.f76 0).ex ((lp Tryz.f76 0).lv (retMask Tryz.f76)) (h76_0_0  v0 v1 v2 v3 v4) (nextR (fun s' => rec_ (s'.tidy ((lp Tryz.f76 0).lv (retMask Tryz.f76)))) K) = jb99 N jq98  v0 v1 v2 v3 v4 (fun v0 v1 v2 v3 v4 => rec_ (h76_0_0  v0 v1 v2 v3 v4)) (fun y0 => K (.exit 0) (x76_0_0_k0  y0)) := by kernel_rfl
theorem st76_0_0 {β : Type} (N : Nat)  (v0 : Int) (v1 : Int) (v2 : Int) (v3 : Int) (v4 : Int) (rec_ : St → Option β) (K : Exit → St → Option β) :
    ev lay (E76 N) (retMask Tryz.f76) (lp Tryz.f76 0).body (lp Tryz.f76 0).ex ((lp Tryz.f76 0).lv (retMask Tryz.f76)) (h76_0_0  v0 v1 v2 v3 v4) (nextR (fun s' => rec_ (s'.tidy ((lp Tryz.f76 0).lv (retMask Tryz.f76)))) K) = j99 N  v0 v1 v2 v3 v4 (fun v0 v1 v2 v3 v4 => rec_ (h76_0_0  v0 v1 v2 v3 v4)) (fun y0 => K (.exit 0) (x76_0_0_k0  y0)) := (vst76_0_0 N (j91 N) (j90 N) (j98 N) (j100 N) v0 v1 v2 v3 v4 rec_ K).trans (jt99 N  v0 v1 v2 v3 v4 (fun v0 v1 v2 v3 v4 => rec_ (h76_0_0  v0 v1 v2 v3 v4)) (fun y0 => K (.exit 0) (x76_0_0_k0  y0))).symm
theorem ro76_0_0 {β : Type} (N : Nat)  (K : Exit → St → Option β) : ∀ (F : Nat) (v0 : Int) (v1 : Int) (v2 : Int) (v3 : Int) (v4 : Int), (lp Tryz.f76 0).rounds lay (E76 N) (retMask Tryz.f76) F (h76_0_0  v0 v1 v2 v3 v4) K = j100 N  F v0 v1 v2 v3 v4 (fun y0 => K (.exit 0) (x76_0_0_k0  y0)) := by
  intro F
  induction F with
  | zero => intros; rfl
  | succ F ih =>
    intros
    rw [rounds_next]
    refine (st76_0_0 N  _ _ _ _ _ (fun s => (lp Tryz.f76 0).rounds lay (E76 N) (retMask Tryz.f76) F s K) K).trans ?_
    simp only [ih]
    rfl
theorem lk76_0 {β : Type} (N : Nat) : lookL (E76 (β := β) N).loops (lp Tryz.f76 0).id = LS76_0 N := by kernel_rfl
theorem rk76_0 {β : Type} (N : Nat) : RoundsOK lay (E76 (β := β) N) (retMask Tryz.f76) (lp Tryz.f76 0) := by
  intro s K r h
  rw [lk76_0] at h
  unfold LS76_0 VLS76_0 at h
  cases hb : shpSt (h76_0_0 0 0 0 0 0) s with
  | true =>
    rw [hb, cond_true] at h
    exact ⟨N, by rw [← shpSt_ref hb, fl76_0_0 s]; exact (ro76_0_0 N  K N (intS (oneA (vT (nx tund s.tmps 3)))) (intS (oneA (vT (nx tund s.tmps 9)))) (intS (oneA (vT (nx tund s.tmps 10)))) (intS (nx .und (cellsB (nx .dead s.blks 0)) 0)) (intS (nx .und (cellsB (nx .dead s.blks 0)) 1))).trans h⟩
  | false =>
  rw [hb, cond_false] at h
  clear hb
  cases h
def jb101 {β : Type} (N : Nat) (jq91 : (a0 : Int) → (a1 : Int) → (k : Bool → Option β) → Option β) (jq90 : (a0 : Int) → (a1 : Int) → (k : Int → Option β) → Option β) (jq100 : Nat → Int → Int → Int → Int → Int → (Int → Option β) → Option β) (a0 : Int) (a1 : Int) (k : Int → Option β) : Option β :=
jq91 a0 a1 fun r3 =>
(cond (!r3)
(k (-1))
(jq90 a0 a1 fun r4 =>
jq100  N 0 r4 0 a0 a1 (fun e6_0 =>
k e6_0)))
theorem jt101 {β : Type} (N : Nat) (a0 : Int) (a1 : Int) (k : Int → Option β) : j101 N a0 a1 k = jb101 N (j91 N) (j90 N) (j100 N) a0 a1 k := by
  unfold j101 jb101
  rfl
theorem ve76_0 {β : Type} (N : Nat) (jq91 : (a0 : Int) → (a1 : Int) → (k : Bool → Option β) → Option β) (jq90 : (a0 : Int) → (a1 : Int) → (k : Int → Option β) → Option β) (jq98 : (a0 : Int) → (a1 : Int) → (a2 : Int) → (k : Int → Option β) → Option β) (jq100 : Nat → Int → Int → Int → Int → Int → (Int → Option β) → Option β)  (a0 : Int) (a1 : Int) (K : TV → Option β) : evFn lay (VE76 N jq91 jq90 jq98 jq100) Tryz.f76 [.v (.agg [.int .i64 a0, .int .i64 a1])] K = jb101 N jq91 jq90 jq100 a0 a1 (fun z2 => K (.v (.one (.int .i64 z2)))) := by kernel_rfl
theorem e76_0 {β : Type} (N : Nat)  (a0 : Int) (a1 : Int) (K : TV → Option β) : evFn lay (E76 N) Tryz.f76 [.v (.agg [.int .i64 a0, .int .i64 a1])] K = j101 N a0 a1 (fun z2 => K (.v (.one (.int .i64 z2)))) := (ve76_0 N (j91 N) (j90 N) (j98 N) (j100 N) a0 a1 K).trans (jt101 N a0 a1 (fun z2 => K (.v (.one (.int .i64 z2))))).symm
theorem o76 {β : Type} (N : Nat) : SpecOK (β := β) inv Tryz.prog 76 (S76 N) := by
  refine spec_of lay_ok mixed (E := E76 N) (specs_loops (specs_cons (o45 N) (specs_cons (o100 N) (specs_cons (o132 N) specs_nil)))) muts_nil gs_nil Tryz.func76 (by kernel_rfl) 1 (by kernel_rfl) ⟨trivial, rk76_0 N⟩ fun args K r h => ?_
  unfold S76 VS76 at h
  split at h
  · exact (e76_0 N _ _ _).trans h
  · cases h
def VS199 {β : Type} (N : Nat) (jq106 : (a0 : Int) → (a1 : Int) → (a2 : Int) → (k : List Int → Option β) → Option β) : Rv.Spec β := fun args K => match args with
  | [.v (.agg [.int .i64 a0, .int .i64 a1]), .v (.one (.int .i64 a2))] => jq106 a0 a1 a2 (fun z3 => K (.v (.one (.sl 3 (.ints .i64 z3)))))
  | _ => none
def S199 {β : Type} (N : Nat) : Rv.Spec β := VS199 N (j106 N)
def h199_0_0  (v0 : Int) (v1 : Int) (v2 : Int) (v3 : Int) (v4 : Int) (v5 : List Int) : St := ⟨tund :: .v (.one (.int .i64 v0)) :: .v (.one (.ptr 0 0)) :: tund :: tund :: .v (.one (.row 1)) :: tund :: tund :: tund :: tund :: .v (.one (.int .i64 v1)) :: .v (.one (.int .i64 v2)) :: tund :: tund :: tund :: tund :: tund :: tund :: tund :: tund :: tund :: tund :: tund :: tund :: tund :: tund :: tund :: tund :: tund :: tund :: tund :: tund :: tund :: tund :: tund :: tund :: tund :: tund :: tund :: tund :: tund :: tund :: tund :: [], [.cells 25 [.int .i64 v3, .int .i64 v4], .row 3 (.ints .i64 v5)]⟩
def x199_0_0_k0  (y0 : List Int) : St := ⟨tund :: tund :: tund :: tund :: tund :: .v (.one (.row 0)) :: tund :: tund :: tund :: tund :: tund :: tund :: tund :: tund :: tund :: tund :: tund :: tund :: tund :: tund :: tund :: tund :: tund :: tund :: tund :: tund :: tund :: tund :: tund :: tund :: tund :: tund :: tund :: tund :: tund :: tund :: tund :: tund :: tund :: tund :: tund :: tund :: tund :: [], [.row 3 (.ints .i64 y0)]⟩
def h199_1_0  (v0 : Int) (v1 : Int) (v2 : Bool) (v3 : Int) (v4 : Int) (v5 : Int) (v6 : Int) (v7 : Int) (v8 : List Int) : St := ⟨tund :: .v (.one (.int .i64 v0)) :: .v (.one (.ptr 0 0)) :: tund :: tund :: .v (.one (.row 1)) :: .v (.one (.int .i64 v1)) :: .v (.one (.bool v2)) :: .v (.one (.int .i64 v3)) :: tund :: .v (.one (.int .i64 v4)) :: .v (.one (.int .i64 v5)) :: tund :: tund :: tund :: tund :: tund :: tund :: tund :: tund :: tund :: tund :: tund :: tund :: tund :: tund :: tund :: tund :: tund :: tund :: tund :: tund :: tund :: tund :: tund :: tund :: tund :: tund :: tund :: tund :: tund :: tund :: tund :: [], [.cells 25 [.int .i64 v6, .int .i64 v7], .row 3 (.ints .i64 v8)]⟩
def x199_1_0_k0  (y0 : Int) (y1 : Int) (y2 : Bool) (y3 : Int) (y4 : Int) (y5 : Int) (y6 : Int) (y7 : List Int) : St := ⟨tund :: .v (.one (.int .i64 y0)) :: .v (.one (.ptr 0 0)) :: tund :: tund :: .v (.one (.row 1)) :: .v (.one (.int .i64 y1)) :: .v (.one (.bool y2)) :: tund :: tund :: .v (.one (.int .i64 y3)) :: .v (.one (.int .i64 y4)) :: tund :: tund :: tund :: tund :: tund :: tund :: tund :: tund :: tund :: tund :: tund :: tund :: tund :: tund :: tund :: tund :: tund :: tund :: tund :: tund :: tund :: tund :: tund :: tund :: tund :: tund :: tund :: tund :: tund :: tund :: tund :: [], [.cells 25 [.int .i64 y5, .int .i64 y6], .row 3 (.ints .i64 y7)]⟩
theorem fl199_0_0 (s : St) : refSt (h199_0_0 0 0 0 0 0 []) s = h199_0_0 (intS (oneA (vT (nx tund s.tmps 1)))) (intS (oneA (vT (nx tund s.tmps 10)))) (intS (oneA (vT (nx tund s.tmps 11)))) (intS (nx .und (cellsB (nx .dead s.blks 0)) 0)) (intS (nx .und (cellsB (nx .dead s.blks 0)) 1)) (rInts (rowB_ (nx .dead s.blks 1))) := by kernel_rfl
def VLS199_0 {β : Type} (N : Nat) (jq105 : Nat → Int → Int → Int → Int → Int → List Int → (List Int → Option β) → Option β) : LSpec β := fun s K => cond (shpSt (h199_0_0 0 0 0 0 0 []) s) ((fun (v0 : Int) (v1 : Int) (v2 : Int) (v3 : Int) (v4 : Int) (v5 : List Int) => jq105  N v0 v1 v2 v3 v4 v5 (fun y0 => K (.exit 0) (x199_0_0_k0  y0))) (intS (oneA (vT (nx tund s.tmps 1)))) (intS (oneA (vT (nx tund s.tmps 10)))) (intS (oneA (vT (nx tund s.tmps 11)))) (intS (nx .und (cellsB (nx .dead s.blks 0)) 0)) (intS (nx .und (cellsB (nx .dead s.blks 0)) 1)) (rInts (rowB_ (nx .dead s.blks 1)))) (none)
def LS199_0 {β : Type} (N : Nat) : LSpec β := VLS199_0 N (j105 N)
theorem fl199_1_0 (s : St) : refSt (h199_1_0 0 0 false 0 0 0 0 0 []) s = h199_1_0 (intS (oneA (vT (nx tund s.tmps 1)))) (intS (oneA (vT (nx tund s.tmps 6)))) (boolS (oneA (vT (nx tund s.tmps 7)))) (intS (oneA (vT (nx tund s.tmps 8)))) (intS (oneA (vT (nx tund s.tmps 10)))) (intS (oneA (vT (nx tund s.tmps 11)))) (intS (nx .und (cellsB (nx .dead s.blks 0)) 0)) (intS (nx .und (cellsB (nx .dead s.blks 0)) 1)) (rInts (rowB_ (nx .dead s.blks 1))) := by kernel_rfl
def VLS199_2 {β : Type} (N : Nat) (jq103 : Nat → Int → Int → Bool → Int → Int → Int → Int → Int → List Int → (Int → Int → Bool → Int → Int → Int → Int → List Int → Option β) → Option β) : LSpec β := fun s K => cond (shpSt (h199_1_0 0 0 false 0 0 0 0 0 []) s) ((fun (v0 : Int) (v1 : Int) (v2 : Bool) (v3 : Int) (v4 : Int) (v5 : Int) (v6 : Int) (v7 : Int) (v8 : List Int) => jq103  N v0 v1 v2 v3 v4 v5 v6 v7 v8 (fun y0 y1 y2 y3 y4 y5 y6 y7 => K (.exit 2) (x199_1_0_k0  y0 y1 y2 y3 y4 y5 y6 y7))) (intS (oneA (vT (nx tund s.tmps 1)))) (intS (oneA (vT (nx tund s.tmps 6)))) (boolS (oneA (vT (nx tund s.tmps 7)))) (intS (oneA (vT (nx tund s.tmps 8)))) (intS (oneA (vT (nx tund s.tmps 10)))) (intS (oneA (vT (nx tund s.tmps 11)))) (intS (nx .und (cellsB (nx .dead s.blks 0)) 0)) (intS (nx .und (cellsB (nx .dead s.blks 0)) 1)) (rInts (rowB_ (nx .dead s.blks 1)))) (none)
def LS199_2 {β : Type} (N : Nat) : LSpec β := VLS199_2 N (j103 N)
def VE199 {β : Type} (N : Nat) (jq90 : (a0 : Int) → (a1 : Int) → (k : Int → Option β) → Option β) (jq95 : (a0 : Int) → (a1 : Int) → (a2 : Int) → (a3 : Int) → (k : Bool → Option β) → Option β) (jq105 : Nat → Int → Int → Int → Int → Int → List Int → (List Int → Option β) → Option β) (jq103 : Nat → Int → Int → Bool → Int → Int → Int → Int → Int → List Int → (Int → Int → Bool → Int → Int → Int → Int → List Int → Option β) → Option β) : Env β := ⟨[(100, VS100 N jq90), (198, VS198 N jq95)], [], [(0, VLS199_0 N jq105), (2, VLS199_2 N jq103)], [], ⟨[], [], []⟩⟩
def E199 {β : Type} (N : Nat) : Env β := VE199 N (j90 N) (j95 N) (j105 N) (j103 N)
def jb104 {β : Type} (N : Nat) (jq95 : (a0 : Int) → (a1 : Int) → (a2 : Int) → (a3 : Int) → (k : Bool → Option β) → Option β) (jq103 : Nat → Int → Int → Bool → Int → Int → Int → Int → Int → List Int → (Int → Int → Bool → Int → Int → Int → Int → List Int → Option β) → Option β)  (v0 : Int) (v1 : Int) (v2 : Int) (v3 : Int) (v4 : Int) (v5 : List Int) (rec_ : Int → Int → Int → Int → Int → List Int → Option β) (k0 : List Int → Option β) : Option β :=
(cond ((decide (v2 < v1)))
(jq95 v3 v4 v0 v2 fun r5 =>
jq103  N v0 v2 r5 ((bits .and .i64 (w64 (v2 - 1)) v2)) v1 v2 v3 v4 v5 (fun e7_0 e7_1 e7_2 e7_3 e7_4 e7_5 e7_6 e7_7 =>
(cond e7_2
((gd ((decide ((e7_7.length + ((([] : List Int) ++ [e7_1])).length) * 8 ≤ 140737488355328)))
(rec_ e7_0 e7_3 ((w64 (e7_4 + 1))) e7_5 e7_6 ((e7_7 ++ (([] : List Int) ++ [e7_1]))))))
(rec_ e7_0 e7_3 ((w64 (e7_4 + 1))) e7_5 e7_6 e7_7))))
(k0 v5))
theorem jt104 {β : Type} (N : Nat)  (v0 : Int) (v1 : Int) (v2 : Int) (v3 : Int) (v4 : Int) (v5 : List Int) (rec_ : Int → Int → Int → Int → Int → List Int → Option β) (k0 : List Int → Option β) : j104 N v0 v1 v2 v3 v4 v5 rec_ k0 = jb104 N (j95 N) (j103 N) v0 v1 v2 v3 v4 v5 rec_ k0 := by
  unfold j104 jb104
  rfl
theorem vst199_0_0 {β : Type} (N : Nat) (jq90 : (a0 : Int) → (a1 : Int) → (k : Int → Option β) → Option β) (jq95 : (a0 : Int) → (a1 : Int) → (a2 : Int) → (a3 : Int) → (k : Bool → Option β) → Option β) (jq105 : Nat → Int → Int → Int → Int → Int → List Int → (List Int → Option β) → Option β) (jq103 : Nat → Int → Int → Bool → Int → Int → Int → Int → Int → List Int → (Int → Int → Bool → Int → Int → Int → Int → List Int → Option β) → Option β)  (v0 : Int) (v1 : Int) (v2 : Int) (v3 : Int) (v4 : Int) (v5 : List Int) (rec_ : St → Option β) (K : Exit → St → Option β) :
    ev lay (VE199 N jq90 jq95 jq105 jq103) (retMask Tryz.f199) (lp Tryz.f199 0).body (lp Tryz.f199 0).ex ((lp Tryz.f199 0).lv (retMask Tryz.f199)) (h199_0_0  v0 v1 v2 v3 v4 v5) (nextR (fun s' => rec_ (s'.tidy ((lp Tryz.f199 0).lv (retMask Tryz.f199)))) K) = jb104 N jq95 jq103  v0 v1 v2 v3 v4 v5 (fun v0 v1 v2 v3 v4 v5 => rec_ (h199_0_0  v0 v1 v2 v3 v4 v5)) (fun y0 => K (.exit 0) (x199_0_0_k0  y0)) := by kernel_rfl
theorem st199_0_0 {β : Type} (N : Nat)  (v0 : Int) (v1 : Int) (v2 : Int) (v3 : Int) (v4 : Int) (v5 : List Int) (rec_ : St → Option β) (K : Exit → St → Option β) :
    ev lay (E199 N) (retMask Tryz.f199) (lp Tryz.f199 0).body (lp Tryz.f199 0).ex ((lp Tryz.f199 0).lv (retMask Tryz.f199)) (h199_0_0  v0 v1 v2 v3 v4 v5) (nextR (fun s' => rec_ (s'.tidy ((lp Tryz.f199 0).lv (retMask Tryz.f199)))) K) = j104 N  v0 v1 v2 v3 v4 v5 (fun v0 v1 v2 v3 v4 v5 => rec_ (h199_0_0  v0 v1 v2 v3 v4 v5)) (fun y0 => K (.exit 0) (x199_0_0_k0  y0)) := (vst199_0_0 N (j90 N) (j95 N) (j105 N) (j103 N) v0 v1 v2 v3 v4 v5 rec_ K).trans (jt104 N  v0 v1 v2 v3 v4 v5 (fun v0 v1 v2 v3 v4 v5 => rec_ (h199_0_0  v0 v1 v2 v3 v4 v5)) (fun y0 => K (.exit 0) (x199_0_0_k0  y0))).symm
theorem ro199_0_0 {β : Type} (N : Nat)  (K : Exit → St → Option β) : ∀ (F : Nat) (v0 : Int) (v1 : Int) (v2 : Int) (v3 : Int) (v4 : Int) (v5 : List Int), (lp Tryz.f199 0).rounds lay (E199 N) (retMask Tryz.f199) F (h199_0_0  v0 v1 v2 v3 v4 v5) K = j105 N  F v0 v1 v2 v3 v4 v5 (fun y0 => K (.exit 0) (x199_0_0_k0  y0)) := by
  intro F
  induction F with
  | zero => intros; rfl
  | succ F ih =>
    intros
    rw [rounds_next]
    refine (st199_0_0 N  _ _ _ _ _ _ (fun s => (lp Tryz.f199 0).rounds lay (E199 N) (retMask Tryz.f199) F s K) K).trans ?_
    simp only [ih]
    rfl
theorem lk199_0 {β : Type} (N : Nat) : lookL (E199 (β := β) N).loops (lp Tryz.f199 0).id = LS199_0 N := by kernel_rfl
theorem rk199_0 {β : Type} (N : Nat) : RoundsOK lay (E199 (β := β) N) (retMask Tryz.f199) (lp Tryz.f199 0) := by
  intro s K r h
  rw [lk199_0] at h
  unfold LS199_0 VLS199_0 at h
  cases hb : shpSt (h199_0_0 0 0 0 0 0 []) s with
  | true =>
    rw [hb, cond_true] at h
    exact ⟨N, by rw [← shpSt_ref hb, fl199_0_0 s]; exact (ro199_0_0 N  K N (intS (oneA (vT (nx tund s.tmps 1)))) (intS (oneA (vT (nx tund s.tmps 10)))) (intS (oneA (vT (nx tund s.tmps 11)))) (intS (nx .und (cellsB (nx .dead s.blks 0)) 0)) (intS (nx .und (cellsB (nx .dead s.blks 0)) 1)) (rInts (rowB_ (nx .dead s.blks 1)))).trans h⟩
  | false =>
  rw [hb, cond_false] at h
  clear hb
  cases h
def jb102 {β : Type} (N : Nat) (jq95 : (a0 : Int) → (a1 : Int) → (a2 : Int) → (a3 : Int) → (k : Bool → Option β) → Option β)  (v0 : Int) (v1 : Int) (v2 : Bool) (v3 : Int) (v4 : Int) (v5 : Int) (v6 : Int) (v7 : Int) (v8 : List Int) (rec_ : Int → Int → Bool → Int → Int → Int → Int → Int → List Int → Option β) (k0 : Int → Int → Bool → Int → Int → Int → Int → List Int → Option β) : Option β :=
(cond v2
((cond ((decide (v3 > 0)))
(jq95 v6 v7 v0 v3 fun r6 =>
rec_ v0 v1 (!r6) ((bits .and .i64 (w64 (v3 - 1)) v1)) v4 v5 v6 v7 v8)
(k0 v0 v1 v2 v4 v5 v6 v7 v8)))
(k0 v0 v1 v2 v4 v5 v6 v7 v8))
theorem jt102 {β : Type} (N : Nat)  (v0 : Int) (v1 : Int) (v2 : Bool) (v3 : Int) (v4 : Int) (v5 : Int) (v6 : Int) (v7 : Int) (v8 : List Int) (rec_ : Int → Int → Bool → Int → Int → Int → Int → Int → List Int → Option β) (k0 : Int → Int → Bool → Int → Int → Int → Int → List Int → Option β) : j102 N v0 v1 v2 v3 v4 v5 v6 v7 v8 rec_ k0 = jb102 N (j95 N) v0 v1 v2 v3 v4 v5 v6 v7 v8 rec_ k0 := by
  unfold j102 jb102
  rfl
theorem vst199_1_0 {β : Type} (N : Nat) (jq90 : (a0 : Int) → (a1 : Int) → (k : Int → Option β) → Option β) (jq95 : (a0 : Int) → (a1 : Int) → (a2 : Int) → (a3 : Int) → (k : Bool → Option β) → Option β) (jq105 : Nat → Int → Int → Int → Int → Int → List Int → (List Int → Option β) → Option β) (jq103 : Nat → Int → Int → Bool → Int → Int → Int → Int → Int → List Int → (Int → Int → Bool → Int → Int → Int → Int → List Int → Option β) → Option β)  (v0 : Int) (v1 : Int) (v2 : Bool) (v3 : Int) (v4 : Int) (v5 : Int) (v6 : Int) (v7 : Int) (v8 : List Int) (rec_ : St → Option β) (K : Exit → St → Option β) :
    ev lay (VE199 N jq90 jq95 jq105 jq103) (retMask Tryz.f199) (lp Tryz.f199 1).body (lp Tryz.f199 1).ex ((lp Tryz.f199 1).lv (retMask Tryz.f199)) (h199_1_0  v0 v1 v2 v3 v4 v5 v6 v7 v8) (nextR (fun s' => rec_ (s'.tidy ((lp Tryz.f199 1).lv (retMask Tryz.f199)))) K) = jb102 N jq95  v0 v1 v2 v3 v4 v5 v6 v7 v8 (fun v0 v1 v2 v3 v4 v5 v6 v7 v8 => rec_ (h199_1_0  v0 v1 v2 v3 v4 v5 v6 v7 v8)) (fun y0 y1 y2 y3 y4 y5 y6 y7 => K (.exit 2) (x199_1_0_k0  y0 y1 y2 y3 y4 y5 y6 y7)) := by kernel_rfl
theorem st199_1_0 {β : Type} (N : Nat)  (v0 : Int) (v1 : Int) (v2 : Bool) (v3 : Int) (v4 : Int) (v5 : Int) (v6 : Int) (v7 : Int) (v8 : List Int) (rec_ : St → Option β) (K : Exit → St → Option β) :
    ev lay (E199 N) (retMask Tryz.f199) (lp Tryz.f199 1).body (lp Tryz.f199 1).ex ((lp Tryz.f199 1).lv (retMask Tryz.f199)) (h199_1_0  v0 v1 v2 v3 v4 v5 v6 v7 v8) (nextR (fun s' => rec_ (s'.tidy ((lp Tryz.f199 1).lv (retMask Tryz.f199)))) K) = j102 N  v0 v1 v2 v3 v4 v5 v6 v7 v8 (fun v0 v1 v2 v3 v4 v5 v6 v7 v8 => rec_ (h199_1_0  v0 v1 v2 v3 v4 v5 v6 v7 v8)) (fun y0 y1 y2 y3 y4 y5 y6 y7 => K (.exit 2) (x199_1_0_k0  y0 y1 y2 y3 y4 y5 y6 y7)) := (vst199_1_0 N (j90 N) (j95 N) (j105 N) (j103 N) v0 v1 v2 v3 v4 v5 v6 v7 v8 rec_ K).trans (jt102 N  v0 v1 v2 v3 v4 v5 v6 v7 v8 (fun v0 v1 v2 v3 v4 v5 v6 v7 v8 => rec_ (h199_1_0  v0 v1 v2 v3 v4 v5 v6 v7 v8)) (fun y0 y1 y2 y3 y4 y5 y6 y7 => K (.exit 2) (x199_1_0_k0  y0 y1 y2 y3 y4 y5 y6 y7))).symm
theorem ro199_1_0 {β : Type} (N : Nat)  (K : Exit → St → Option β) : ∀ (F : Nat) (v0 : Int) (v1 : Int) (v2 : Bool) (v3 : Int) (v4 : Int) (v5 : Int) (v6 : Int) (v7 : Int) (v8 : List Int), (lp Tryz.f199 1).rounds lay (E199 N) (retMask Tryz.f199) F (h199_1_0  v0 v1 v2 v3 v4 v5 v6 v7 v8) K = j103 N  F v0 v1 v2 v3 v4 v5 v6 v7 v8 (fun y0 y1 y2 y3 y4 y5 y6 y7 => K (.exit 2) (x199_1_0_k0  y0 y1 y2 y3 y4 y5 y6 y7)) := by
  intro F
  induction F with
  | zero => intros; rfl
  | succ F ih =>
    intros
    rw [rounds_next]
    refine (st199_1_0 N  _ _ _ _ _ _ _ _ _ (fun s => (lp Tryz.f199 1).rounds lay (E199 N) (retMask Tryz.f199) F s K) K).trans ?_
    simp only [ih]
    rfl
theorem lk199_2 {β : Type} (N : Nat) : lookL (E199 (β := β) N).loops (lp Tryz.f199 1).id = LS199_2 N := by kernel_rfl
theorem rk199_2 {β : Type} (N : Nat) : RoundsOK lay (E199 (β := β) N) (retMask Tryz.f199) (lp Tryz.f199 1) := by
  intro s K r h
  rw [lk199_2] at h
  unfold LS199_2 VLS199_2 at h
  cases hb : shpSt (h199_1_0 0 0 false 0 0 0 0 0 []) s with
  | true =>
    rw [hb, cond_true] at h
    exact ⟨N, by rw [← shpSt_ref hb, fl199_1_0 s]; exact (ro199_1_0 N  K N (intS (oneA (vT (nx tund s.tmps 1)))) (intS (oneA (vT (nx tund s.tmps 6)))) (boolS (oneA (vT (nx tund s.tmps 7)))) (intS (oneA (vT (nx tund s.tmps 8)))) (intS (oneA (vT (nx tund s.tmps 10)))) (intS (oneA (vT (nx tund s.tmps 11)))) (intS (nx .und (cellsB (nx .dead s.blks 0)) 0)) (intS (nx .und (cellsB (nx .dead s.blks 0)) 1)) (rInts (rowB_ (nx .dead s.blks 1)))).trans h⟩
  | false =>
  rw [hb, cond_false] at h
  clear hb
  cases h
def jb106 {β : Type} (N : Nat) (jq90 : (a0 : Int) → (a1 : Int) → (k : Int → Option β) → Option β) (jq105 : Nat → Int → Int → Int → Int → Int → List Int → (List Int → Option β) → Option β) (a0 : Int) (a1 : Int) (a2 : Int) (k : List Int → Option β) : Option β :=
jq90 a0 a1 fun r4 =>
jq105  N a2 r4 0 a0 a1 (([] : List Int)) (fun e8_0 =>
k e8_0)
theorem jt106 {β : Type} (N : Nat) (a0 : Int) (a1 : Int) (a2 : Int) (k : List Int → Option β) : j106 N a0 a1 a2 k = jb106 N (j90 N) (j105 N) a0 a1 a2 k := by
  unfold j106 jb106
  rfl
theorem ve199_0 {β : Type} (N : Nat) (jq90 : (a0 : Int) → (a1 : Int) → (k : Int → Option β) → Option β) (jq95 : (a0 : Int) → (a1 : Int) → (a2 : Int) → (a3 : Int) → (k : Bool → Option β) → Option β) (jq105 : Nat → Int → Int → Int → Int → Int → List Int → (List Int → Option β) → Option β) (jq103 : Nat → Int → Int → Bool → Int → Int → Int → Int → Int → List Int → (Int → Int → Bool → Int → Int → Int → Int → List Int → Option β) → Option β)  (a0 : Int) (a1 : Int) (a2 : Int) (K : TV → Option β) : evFn lay (VE199 N jq90 jq95 jq105 jq103) Tryz.f199 [.v (.agg [.int .i64 a0, .int .i64 a1]), .v (.one (.int .i64 a2))] K = jb106 N jq90 jq105 a0 a1 a2 (fun z3 => K (.v (.one (.sl 3 (.ints .i64 z3))))) := by kernel_rfl
theorem e199_0 {β : Type} (N : Nat)  (a0 : Int) (a1 : Int) (a2 : Int) (K : TV → Option β) : evFn lay (E199 N) Tryz.f199 [.v (.agg [.int .i64 a0, .int .i64 a1]), .v (.one (.int .i64 a2))] K = j106 N a0 a1 a2 (fun z3 => K (.v (.one (.sl 3 (.ints .i64 z3))))) := (ve199_0 N (j90 N) (j95 N) (j105 N) (j103 N) a0 a1 a2 K).trans (jt106 N a0 a1 a2 (fun z3 => K (.v (.one (.sl 3 (.ints .i64 z3)))))).symm
theorem o199 {β : Type} (N : Nat) : SpecOK (β := β) inv Tryz.prog 199 (S199 N) := by
  refine spec_of lay_ok mixed (E := E199 N) (specs_loops (specs_cons (o100 N) (specs_cons (o198 N) specs_nil))) muts_nil gs_nil Tryz.func199 (by kernel_rfl) 2 (by kernel_rfl) ⟨⟨trivial, rk199_0 N⟩, rk199_2 N⟩ fun args K r h => ?_
  unfold S199 VS199 at h
  split at h
  · exact (e199_0 N _ _ _ _).trans h
  · cases h
end Go.Proofs.YtignjkbhdaiegaaGreatDoor
