/- The functions that the claims reach answer as their texts do. -/
import Derived.Test.YtignjkbhdaiegaaGreatDoorE7
namespace Go.Proofs.YtignjkbhdaiegaaGreatDoor
open Go.Rv
set_option maxRecDepth 100000
set_option maxHeartbeats 2000000
set_option linter.unusedVariables false
def VS82 {β : Type} (N : Nat) (jq164 : (a0 : Int) → (a1 : Int) → (k : Int → Option β) → Option β) : Rv.Spec β := fun args K => match args with
  | [.v (.agg [.int .i64 a0, .int .i64 a1])] => jq164 a0 a1 (fun z2 => K (.v (.one (.int .i64 z2))))
  | _ => none
def S82 {β : Type} (N : Nat) : Rv.Spec β := VS82 N (j164 N)
def h82_0_0  (v0 : Int) (v1 : Int) (v2 : Int) (v3 : List Int) : St := ⟨tund :: tund :: tund :: .v (.one (.int .i64 v0)) :: tund :: tund :: tund :: tund :: tund :: tund :: .v (.one (.row 0)) :: .v (.one (.int .i64 v1)) :: .v (.one (.int .i64 v2)) :: tund :: tund :: tund :: tund :: tund :: tund :: tund :: tund :: [], [.row 3 (.ints .i64 v3)]⟩
def x82_0_0_k0  (y0 : Int) : St := ⟨tund :: tund :: tund :: .v (.one (.int .i64 y0)) :: tund :: tund :: tund :: tund :: tund :: tund :: tund :: tund :: tund :: tund :: tund :: tund :: tund :: tund :: tund :: tund :: tund :: [], []⟩
theorem fl82_0_0 (s : St) : refSt (h82_0_0 0 0 0 []) s = h82_0_0 (intS (oneA (vT (nx tund s.tmps 3)))) (intS (oneA (vT (nx tund s.tmps 11)))) (intS (oneA (vT (nx tund s.tmps 12)))) (rInts (rowB_ (nx .dead s.blks 0))) := by kernel_rfl
def VLS82_0 {β : Type} (N : Nat) (jq163 : Nat → Int → Int → Int → List Int → (Int → Option β) → Option β) : LSpec β := fun s K => cond (shpSt (h82_0_0 0 0 0 []) s) ((fun (v0 : Int) (v1 : Int) (v2 : Int) (v3 : List Int) => jq163  N v0 v1 v2 v3 (fun y0 => K (.exit 0) (x82_0_0_k0  y0))) (intS (oneA (vT (nx tund s.tmps 3)))) (intS (oneA (vT (nx tund s.tmps 11)))) (intS (oneA (vT (nx tund s.tmps 12)))) (rInts (rowB_ (nx .dead s.blks 0)))) (none)
def LS82_0 {β : Type} (N : Nat) : LSpec β := VLS82_0 N (j163 N)
def VE82 {β : Type} (N : Nat) (jq91 : (a0 : Int) → (a1 : Int) → (k : Bool → Option β) → Option β) (jq161 : (a0 : Int) → (a1 : Int) → (k : List Int → Option β) → Option β) (jq163 : Nat → Int → Int → Int → List Int → (Int → Option β) → Option β) : Env β := ⟨[(45, VS45 N jq91), (142, VS142 N jq161)], [], [(0, VLS82_0 N jq163)], [], ⟨[], [], []⟩⟩
def E82 {β : Type} (N : Nat) : Env β := VE82 N (j91 N) (j161 N) (j163 N)
def jb162 {β : Type} (N : Nat)  (v0 : Int) (v1 : Int) (v2 : Int) (v3 : List Int) (rec_ : Int → Int → Int → List Int → Option β) (k0 : Int → Option β) : Option β :=
(cond ((decide (v2 < v1)))
((gd ((decide (0 ≤ v2)))
((gd ((decide (v2 < (v3.length : Int))))
(rec_ ((w64 (v0 + (rd 0 v3 v2)))) v1 ((w64 (v2 + 1))) v3)))))
(k0 v0))
theorem jt162 {β : Type} (N : Nat)  (v0 : Int) (v1 : Int) (v2 : Int) (v3 : List Int) (rec_ : Int → Int → Int → List Int → Option β) (k0 : Int → Option β) : j162 N v0 v1 v2 v3 rec_ k0 = jb162 N v0 v1 v2 v3 rec_ k0 := by
  unfold j162 jb162
  rfl
theorem vst82_0_0 {β : Type} (N : Nat) (jq91 : (a0 : Int) → (a1 : Int) → (k : Bool → Option β) → Option β) (jq161 : (a0 : Int) → (a1 : Int) → (k : List Int → Option β) → Option β) (jq163 : Nat → Int → Int → Int → List Int → (Int → Option β) → Option β)  (v0 : Int) (v1 : Int) (v2 : Int) (v3 : List Int) (rec_ : St → Option β) (K : Exit → St → Option β) :
    ev lay (VE82 N jq91 jq161 jq163) (retMask Tryz.f82) (lp Tryz.f82 0).body (lp Tryz.f82 0).ex ((lp Tryz.f82 0).lv (retMask Tryz.f82)) (h82_0_0  v0 v1 v2 v3) (nextR (fun s' => rec_ (s'.tidy ((lp Tryz.f82 0).lv (retMask Tryz.f82)))) K) = jb162 N  v0 v1 v2 v3 (fun v0 v1 v2 v3 => rec_ (h82_0_0  v0 v1 v2 v3)) (fun y0 => K (.exit 0) (x82_0_0_k0  y0)) := by kernel_rfl
theorem st82_0_0 {β : Type} (N : Nat)  (v0 : Int) (v1 : Int) (v2 : Int) (v3 : List Int) (rec_ : St → Option β) (K : Exit → St → Option β) :
    ev lay (E82 N) (retMask Tryz.f82) (lp Tryz.f82 0).body (lp Tryz.f82 0).ex ((lp Tryz.f82 0).lv (retMask Tryz.f82)) (h82_0_0  v0 v1 v2 v3) (nextR (fun s' => rec_ (s'.tidy ((lp Tryz.f82 0).lv (retMask Tryz.f82)))) K) = j162 N  v0 v1 v2 v3 (fun v0 v1 v2 v3 => rec_ (h82_0_0  v0 v1 v2 v3)) (fun y0 => K (.exit 0) (x82_0_0_k0  y0)) := (vst82_0_0 N (j91 N) (j161 N) (j163 N) v0 v1 v2 v3 rec_ K).trans (jt162 N  v0 v1 v2 v3 (fun v0 v1 v2 v3 => rec_ (h82_0_0  v0 v1 v2 v3)) (fun y0 => K (.exit 0) (x82_0_0_k0  y0))).symm
theorem ro82_0_0 {β : Type} (N : Nat)  (K : Exit → St → Option β) : ∀ (F : Nat) (v0 : Int) (v1 : Int) (v2 : Int) (v3 : List Int), (lp Tryz.f82 0).rounds lay (E82 N) (retMask Tryz.f82) F (h82_0_0  v0 v1 v2 v3) K = j163 N  F v0 v1 v2 v3 (fun y0 => K (.exit 0) (x82_0_0_k0  y0)) := by
  intro F
  induction F with
  | zero => intros; rfl
  | succ F ih =>
    intros
    rw [rounds_next]
    refine (st82_0_0 N  _ _ _ _ (fun s => (lp Tryz.f82 0).rounds lay (E82 N) (retMask Tryz.f82) F s K) K).trans ?_
    simp only [ih]
    rfl
theorem lk82_0 {β : Type} (N : Nat) : lookL (E82 (β := β) N).loops (lp Tryz.f82 0).id = LS82_0 N := by kernel_rfl
theorem rk82_0 {β : Type} (N : Nat) : RoundsOK lay (E82 (β := β) N) (retMask Tryz.f82) (lp Tryz.f82 0) := by
  intro s K r h
  rw [lk82_0] at h
  unfold LS82_0 VLS82_0 at h
  cases hb : shpSt (h82_0_0 0 0 0 []) s with
  | true =>
    rw [hb, cond_true] at h
    exact ⟨N, by rw [← shpSt_ref hb, fl82_0_0 s]; exact (ro82_0_0 N  K N (intS (oneA (vT (nx tund s.tmps 3)))) (intS (oneA (vT (nx tund s.tmps 11)))) (intS (oneA (vT (nx tund s.tmps 12)))) (rInts (rowB_ (nx .dead s.blks 0)))).trans h⟩
  | false =>
  rw [hb, cond_false] at h
  clear hb
  cases h
def jb164 {β : Type} (N : Nat) (jq91 : (a0 : Int) → (a1 : Int) → (k : Bool → Option β) → Option β) (jq161 : (a0 : Int) → (a1 : Int) → (k : List Int → Option β) → Option β) (jq163 : Nat → Int → Int → Int → List Int → (Int → Option β) → Option β) (a0 : Int) (a1 : Int) (k : Int → Option β) : Option β :=
jq91 a0 a1 fun r3 =>
(cond (!r3)
(k (-1))
(jq161 a0 a1 fun r4 =>
jq163  N 0 ((r4.length : Int)) 0 r4 (fun e5_0 =>
k e5_0)))
theorem jt164 {β : Type} (N : Nat) (a0 : Int) (a1 : Int) (k : Int → Option β) : j164 N a0 a1 k = jb164 N (j91 N) (j161 N) (j163 N) a0 a1 k := by
  unfold j164 jb164
  rfl
theorem ve82_0 {β : Type} (N : Nat) (jq91 : (a0 : Int) → (a1 : Int) → (k : Bool → Option β) → Option β) (jq161 : (a0 : Int) → (a1 : Int) → (k : List Int → Option β) → Option β) (jq163 : Nat → Int → Int → Int → List Int → (Int → Option β) → Option β)  (a0 : Int) (a1 : Int) (K : TV → Option β) : evFn lay (VE82 N jq91 jq161 jq163) Tryz.f82 [.v (.agg [.int .i64 a0, .int .i64 a1])] K = jb164 N jq91 jq161 jq163 a0 a1 (fun z2 => K (.v (.one (.int .i64 z2)))) := by kernel_rfl
theorem e82_0 {β : Type} (N : Nat)  (a0 : Int) (a1 : Int) (K : TV → Option β) : evFn lay (E82 N) Tryz.f82 [.v (.agg [.int .i64 a0, .int .i64 a1])] K = j164 N a0 a1 (fun z2 => K (.v (.one (.int .i64 z2)))) := (ve82_0 N (j91 N) (j161 N) (j163 N) a0 a1 K).trans (jt164 N a0 a1 (fun z2 => K (.v (.one (.int .i64 z2))))).symm
theorem o82 {β : Type} (N : Nat) : SpecOK (β := β) inv Tryz.prog 82 (S82 N) := by
  refine spec_of lay_ok mixed (E := E82 N) (specs_loops (specs_cons (o45 N) (specs_cons (o142 N) specs_nil))) muts_nil gs_nil Tryz.func82 (by kernel_rfl) 1 (by kernel_rfl) ⟨trivial, rk82_0 N⟩ fun args K r h => ?_
  unfold S82 VS82 at h
  split at h
  · exact (e82_0 N _ _ _).trans h
  · cases h
def VS25 {β : Type} (N : Nat) (jq165 : (a0 : ByteArray) → (a1 : Int) → (a2 : Int) → (k : Int → Option β) → Option β) : Rv.Spec β := fun args K => match args with
  | [.v (.one (.str a0)), .v (.agg [.int .i64 a1, .int .i64 a2])] => jq165 a0 a1 a2 (fun z3 => K (.v (.one (.int .i64 z3))))
  | _ => none
def S25 {β : Type} (N : Nat) : Rv.Spec β := VS25 N (j165 N)
def VE25 {β : Type} (N : Nat) (jq101 : (a0 : Int) → (a1 : Int) → (k : Int → Option β) → Option β) (jq114 : (a0 : Int) → (a1 : Int) → (k : Int → Option β) → Option β) (jq127 : (a0 : Int) → (a1 : Int) → (a2 : Int) → (k : Int → Option β) → Option β) (jq135 : (a0 : Int) → (a1 : Int) → (k : Int → Option β) → Option β) (jq146 : (a0 : Int) → (a1 : Int) → (k : Int → Option β) → Option β) (jq154 : (a0 : Int) → (a1 : Int) → (k : Int → Option β) → Option β) (jq155 : (a0 : Int) → (a1 : Int) → (k : Int → Option β) → Option β) (jq164 : (a0 : Int) → (a1 : Int) → (k : Int → Option β) → Option β) : Env β := ⟨[(76, VS76 N jq101), (77, VS77 N jq114), (78, VS78 N jq127), (79, VS79 N jq135), (80, VS80 N jq146), (81, VS81 N jq154), (48, VS48 N jq155), (82, VS82 N jq164)], [], [], [], ⟨[], [], []⟩⟩
def E25 {β : Type} (N : Nat) : Env β := VE25 N (j101 N) (j114 N) (j127 N) (j135 N) (j146 N) (j154 N) (j155 N) (j164 N)
def jb165 {β : Type} (N : Nat) (jq101 : (a0 : Int) → (a1 : Int) → (k : Int → Option β) → Option β) (jq114 : (a0 : Int) → (a1 : Int) → (k : Int → Option β) → Option β) (jq127 : (a0 : Int) → (a1 : Int) → (a2 : Int) → (k : Int → Option β) → Option β) (jq135 : (a0 : Int) → (a1 : Int) → (k : Int → Option β) → Option β) (jq146 : (a0 : Int) → (a1 : Int) → (k : Int → Option β) → Option β) (jq154 : (a0 : Int) → (a1 : Int) → (k : Int → Option β) → Option β) (jq155 : (a0 : Int) → (a1 : Int) → (k : Int → Option β) → Option β) (jq164 : (a0 : Int) → (a1 : Int) → (k : Int → Option β) → Option β) (a0 : ByteArray) (a1 : Int) (a2 : Int) (k : Int → Option β) : Option β :=
(cond ((a0.toList == ((strOf [115, 101, 110, 115, 105, 116, 105, 118, 105, 116, 121])).toList))
(jq101 a1 a2 fun r4 =>
k r4)
((cond ((a0.toList == ((strOf [98, 108, 111, 99, 107, 115])).toList))
(jq114 a1 a2 fun r5 =>
k r5)
((cond ((a0.toList == ((strOf [99, 101, 114, 116, 105, 102, 105, 99, 97, 116, 101])).toList))
(jq127 a1 a2 0 fun r6 =>
jq127 a1 a2 1 fun r7 =>
k ((mxI r6 r7)))
((cond ((a0.toList == ((strOf [100, 101, 112, 116, 104])).toList))
(jq135 a1 a2 fun r8 =>
k r8)
((cond ((a0.toList == ((strOf [100, 101, 103, 114, 101, 101])).toList))
(jq146 a1 a2 fun r9 =>
k ((mxI r9 0)))
((cond ((a0.toList == ((strOf [100, 101, 103, 114, 101, 101, 50])).toList))
(jq154 a1 a2 fun r10 =>
k ((mxI r10 0)))
((cond ((a0.toList == ((strOf [111, 110, 101, 115])).toList))
(jq155 a1 a2 fun r11 =>
k r11)
((cond ((a0.toList == ((strOf [105, 110, 102, 108, 117, 101, 110, 99, 101])).toList))
(jq164 a1 a2 fun r12 =>
k r12)
(k (-1)))))))))))))))))
theorem jt165 {β : Type} (N : Nat) (a0 : ByteArray) (a1 : Int) (a2 : Int) (k : Int → Option β) : j165 N a0 a1 a2 k = jb165 N (j101 N) (j114 N) (j127 N) (j135 N) (j146 N) (j154 N) (j155 N) (j164 N) a0 a1 a2 k := by
  unfold j165 jb165
  rfl
theorem ve25_0 {β : Type} (N : Nat) (jq101 : (a0 : Int) → (a1 : Int) → (k : Int → Option β) → Option β) (jq114 : (a0 : Int) → (a1 : Int) → (k : Int → Option β) → Option β) (jq127 : (a0 : Int) → (a1 : Int) → (a2 : Int) → (k : Int → Option β) → Option β) (jq135 : (a0 : Int) → (a1 : Int) → (k : Int → Option β) → Option β) (jq146 : (a0 : Int) → (a1 : Int) → (k : Int → Option β) → Option β) (jq154 : (a0 : Int) → (a1 : Int) → (k : Int → Option β) → Option β) (jq155 : (a0 : Int) → (a1 : Int) → (k : Int → Option β) → Option β) (jq164 : (a0 : Int) → (a1 : Int) → (k : Int → Option β) → Option β)  (a0 : ByteArray) (a1 : Int) (a2 : Int) (K : TV → Option β) : evFn lay (VE25 N jq101 jq114 jq127 jq135 jq146 jq154 jq155 jq164) Tryz.f25 [.v (.one (.str a0)), .v (.agg [.int .i64 a1, .int .i64 a2])] K = jb165 N jq101 jq114 jq127 jq135 jq146 jq154 jq155 jq164 a0 a1 a2 (fun z3 => K (.v (.one (.int .i64 z3)))) := by kernel_rfl
theorem e25_0 {β : Type} (N : Nat)  (a0 : ByteArray) (a1 : Int) (a2 : Int) (K : TV → Option β) : evFn lay (E25 N) Tryz.f25 [.v (.one (.str a0)), .v (.agg [.int .i64 a1, .int .i64 a2])] K = j165 N a0 a1 a2 (fun z3 => K (.v (.one (.int .i64 z3)))) := (ve25_0 N (j101 N) (j114 N) (j127 N) (j135 N) (j146 N) (j154 N) (j155 N) (j164 N) a0 a1 a2 K).trans (jt165 N a0 a1 a2 (fun z3 => K (.v (.one (.int .i64 z3))))).symm
theorem o25 {β : Type} (N : Nat) : SpecOK (β := β) inv Tryz.prog 25 (S25 N) := by
  refine spec_of lay_ok mixed (E := E25 N) (specs_loops (specs_cons (o76 N) (specs_cons (o77 N) (specs_cons (o78 N) (specs_cons (o79 N) (specs_cons (o80 N) (specs_cons (o81 N) (specs_cons (o48 N) (specs_cons (o82 N) specs_nil))))))))) muts_nil gs_nil Tryz.func25 (by kernel_rfl) 0 (by kernel_rfl) trivial fun args K r h => ?_
  unfold S25 VS25 at h
  split at h
  · exact (e25_0 N _ _ _ _).trans h
  · cases h
def VS24 {β : Type} (N : Nat) (jq166 : (a0 : Int) → (k : ByteArray → Option β) → Option β) : Rv.Spec β := fun args K => match args with
  | [.v (.one (.int .i64 a0))] => jq166 a0 (fun z1 => K (.v (.one (.str z1))))
  | _ => none
def S24 {β : Type} (N : Nat) : Rv.Spec β := VS24 N (j166 N)
def VE24 {β : Type} (N : Nat) : Env β := ⟨[(75, S75 N)], [], [], [], ⟨[], [], []⟩⟩
def E24 {β : Type} (N : Nat) : Env β := VE24 N
def jb166 {β : Type} (N : Nat) (a0 : Int) (k : ByteArray → Option β) : Option β :=
strconv_Itoa N a0 fun r2 =>
k r2
theorem jt166 {β : Type} (N : Nat) (a0 : Int) (k : ByteArray → Option β) : j166 N a0 k = jb166 N a0 k := by
  unfold j166 jb166
  rfl
theorem ve24_0 {β : Type} (N : Nat)  (a0 : Int) (K : TV → Option β) : evFn lay (VE24 N) Tryz.f24 [.v (.one (.int .i64 a0))] K = jb166 N a0 (fun z1 => K (.v (.one (.str z1)))) := by kernel_rfl
theorem e24_0 {β : Type} (N : Nat)  (a0 : Int) (K : TV → Option β) : evFn lay (E24 N) Tryz.f24 [.v (.one (.int .i64 a0))] K = j166 N a0 (fun z1 => K (.v (.one (.str z1)))) := (ve24_0 N a0 K).trans (jt166 N a0 (fun z1 => K (.v (.one (.str z1))))).symm
theorem o24 {β : Type} (N : Nat) : SpecOK (β := β) inv Tryz.prog 24 (S24 N) := by
  refine spec_of lay_ok mixed (E := E24 N) (specs_loops (specs_cons (o75 N) specs_nil)) muts_nil gs_nil Tryz.func24 (by kernel_rfl) 0 (by kernel_rfl) trivial fun args K r h => ?_
  unfold S24 VS24 at h
  split at h
  · exact (e24_0 N _ _).trans h
  · cases h
def VSF84 {β : Type} (N : Nat) (jq170 : Nat → Int → Int → Int → Int → Mp → Mp → (Int → Int → Int → Mp → Mp → Option β) → Option β) (G : Nat) : GSpec β := fun args bl K => match args, bl with
  | [.v (.one (.ptr 0 0)), .v (.agg [.int .i64 a0, .int .i64 a1])], [.pcells 0 91 [.int .i64 a2, .int .i64 a3, .mp 1, .mp 2], .pmp 1 ⟨true, false⟩ a4, .pmp 2 ⟨true, false⟩ a5] => jq170 G a0 a1 a2 a3 a4 a5 (fun y0 y1 y2 y3 y4 => K (.v (.one (.int .i64 y0))) [.pcells 0 91 [.int .i64 y1, .int .i64 y2, .mp 1, .mp 2], .pmp 1 ⟨true, false⟩ y3, .pmp 2 ⟨true, false⟩ y4])
  | _, _ => none
def SF84 {β : Type} (N : Nat) (G : Nat) : GSpec β := VSF84 N (j170 N) G
def VS84 {β : Type} (N : Nat) (jq170 : Nat → Int → Int → Int → Int → Mp → Mp → (Int → Int → Int → Mp → Mp → Option β) → Option β) : GSpec β := VSF84 N jq170 N
def S84 {β : Type} (N : Nat) : GSpec β := SF84 N N
def h84_0_0  (v0 : Int) (v1 : Int) (v2 : Int) (v3 : Int) (v4 : Int) (v5 : Int) (v6 : Mp) (v7 : Mp) (v8 : Int) (v9 : Int) : St := ⟨.v (.one (.ptr 0 0)) :: tund :: tund :: .v (.one (.ptr 3 0)) :: tund :: tund :: tund :: .v (.one (.int .i64 v0)) :: .v (.one (.int .i64 v1)) :: tund :: tund :: tund :: tund :: tund :: tund :: tund :: tund :: tund :: tund :: tund :: tund :: tund :: tund :: tund :: tund :: tund :: tund :: tund :: tund :: tund :: tund :: tund :: tund :: tund :: tund :: tund :: tund :: tund :: tund :: tund :: tund :: tund :: tund :: tund :: tund :: tund :: tund :: tund :: tund :: tund :: tund :: tund :: .v (.one (.int .i64 v2)) :: .v (.one (.int .i64 v3)) :: tund :: tund :: tund :: tund :: tund :: tund :: tund :: tund :: tund :: tund :: tund :: tund :: tund :: tund :: tund :: tund :: tund :: tund :: tund :: tund :: tund :: tund :: tund :: tund :: tund :: tund :: tund :: tund :: tund :: tund :: tund :: [], [.pcells 0 91 [.int .i64 v4, .int .i64 v5, .mp 1, .mp 2], .pmp 1 ⟨true, false⟩ v6, .pmp 2 ⟨true, false⟩ v7, .cells 63 [.int .i64 v8, .int .i64 v9]]⟩
def x84_0_0_k0  (y0 : Int) (y1 : Int) (y2 : Int) (y3 : Mp) (y4 : Mp) (y5 : Int) (y6 : Int) : St := ⟨.v (.one (.ptr 0 0)) :: tund :: tund :: .v (.one (.ptr 3 0)) :: tund :: tund :: tund :: .v (.one (.int .i64 y0)) :: tund :: tund :: tund :: tund :: tund :: tund :: tund :: tund :: tund :: tund :: tund :: tund :: tund :: tund :: tund :: tund :: tund :: tund :: tund :: tund :: tund :: tund :: tund :: tund :: tund :: tund :: tund :: tund :: tund :: tund :: tund :: tund :: tund :: tund :: tund :: tund :: tund :: tund :: tund :: tund :: tund :: tund :: tund :: tund :: tund :: tund :: tund :: tund :: tund :: tund :: tund :: tund :: tund :: tund :: tund :: tund :: tund :: tund :: tund :: tund :: tund :: tund :: tund :: tund :: tund :: tund :: tund :: tund :: tund :: tund :: tund :: tund :: tund :: tund :: tund :: tund :: tund :: [], [.pcells 0 91 [.int .i64 y1, .int .i64 y2, .mp 1, .mp 2], .pmp 1 ⟨true, false⟩ y3, .pmp 2 ⟨true, false⟩ y4, .cells 63 [.int .i64 y5, .int .i64 y6]]⟩
theorem fl84_0_0 (s : St) : refSt (h84_0_0 0 0 0 0 0 0 [] [] 0 0) s = h84_0_0 (intS (oneA (vT (nx tund s.tmps 7)))) (intS (oneA (vT (nx tund s.tmps 8)))) (intS (oneA (vT (nx tund s.tmps 52)))) (intS (oneA (vT (nx tund s.tmps 53)))) (intS (nx .und (cellsB (nx .dead s.blks 0)) 0)) (intS (nx .und (cellsB (nx .dead s.blks 0)) 1)) (mpB (nx .dead s.blks 1)) (mpB (nx .dead s.blks 2)) (intS (nx .und (cellsB (nx .dead s.blks 3)) 0)) (intS (nx .und (cellsB (nx .dead s.blks 3)) 1)) := by kernel_rfl
def VLS84_0 {β : Type} (N : Nat) (jq168 : (self : Int → Int → Int → Int → Mp → Mp → (Int → Int → Int → Mp → Mp → Option β) → Option β) → Nat → Int → Int → Int → Int → Int → Int → Mp → Mp → Int → Int → (Int → Int → Int → Mp → Mp → Int → Int → Option β) → Option β) (jq170 : Nat → Int → Int → Int → Int → Mp → Mp → (Int → Int → Int → Mp → Mp → Option β) → Option β) (G : Nat) : LSpec β := fun s K => cond (shpSt (h84_0_0 0 0 0 0 0 0 [] [] 0 0) s) ((fun (v0 : Int) (v1 : Int) (v2 : Int) (v3 : Int) (v4 : Int) (v5 : Int) (v6 : Mp) (v7 : Mp) (v8 : Int) (v9 : Int) => jq168 (jq170 G)  N v0 v1 v2 v3 v4 v5 v6 v7 v8 v9 (fun y0 y1 y2 y3 y4 y5 y6 => K (.exit 0) (x84_0_0_k0  y0 y1 y2 y3 y4 y5 y6))) (intS (oneA (vT (nx tund s.tmps 7)))) (intS (oneA (vT (nx tund s.tmps 8)))) (intS (oneA (vT (nx tund s.tmps 52)))) (intS (oneA (vT (nx tund s.tmps 53)))) (intS (nx .und (cellsB (nx .dead s.blks 0)) 0)) (intS (nx .und (cellsB (nx .dead s.blks 0)) 1)) (mpB (nx .dead s.blks 1)) (mpB (nx .dead s.blks 2)) (intS (nx .und (cellsB (nx .dead s.blks 3)) 0)) (intS (nx .und (cellsB (nx .dead s.blks 3)) 1))) (none)
def LS84_0 {β : Type} (N : Nat) (G : Nat) : LSpec β := VLS84_0 N (j168 N) (j170 N) G
def VE84 {β : Type} (N : Nat) (jq120 : (a0 : Int) → (a1 : Int) → (a2 : Int) → (a3 : Int) → (k : Int → Option β) → Option β) (jq117 : (a0 : Int) → (k : Int → Option β) → Option β) (jq129 : (a0 : Int) → (a1 : Int) → (a2 : Int) → (a3 : Int) → (k : Int → Int → Option β) → Option β) (jq168 : (self : Int → Int → Int → Int → Mp → Mp → (Int → Int → Int → Mp → Mp → Option β) → Option β) → Nat → Int → Int → Int → Int → Int → Int → Mp → Mp → Int → Int → (Int → Int → Int → Mp → Mp → Int → Int → Option β) → Option β) (jq170 : Nat → Int → Int → Int → Int → Mp → Mp → (Int → Int → Int → Mp → Mp → Option β) → Option β) (G : Nat) : Env β := ⟨[(143, VS143 N jq120), (104, VS104 N jq117), (144, VS144 N jq129)], [], [(0, VLS84_0 N jq168 jq170 G)], [(84, VSF84 N jq170 G)], ⟨[], [], []⟩⟩
def E84 {β : Type} (N : Nat) (G : Nat) : Env β := VE84 N (j120 N) (j117 N) (j129 N) (j168 N) (j170 N) G
def jb167 {β : Type} (N : Nat) (jq129 : (a0 : Int) → (a1 : Int) → (a2 : Int) → (a3 : Int) → (k : Int → Int → Option β) → Option β) (self : Int → Int → Int → Int → Mp → Mp → (Int → Int → Int → Mp → Mp → Option β) → Option β)  (v0 : Int) (v1 : Int) (v2 : Int) (v3 : Int) (v4 : Int) (v5 : Int) (v6 : Mp) (v7 : Mp) (v8 : Int) (v9 : Int) (rec_ : Int → Int → Int → Int → Int → Int → Mp → Mp → Int → Int → Option β) (k0 : Int → Int → Int → Mp → Mp → Int → Int → Option β) : Option β :=
(cond ((decide (v3 < v2)))
((gd ((decide (0 ≤ v3)))
((cond (((bits .and .i64 (shrI .i64 v8 v3) 1) == 0))
(jq129 v8 v9 v3 0 fun r7 r8 =>
self r7 r8 v4 v5 v6 v7 (fun r9_0 r9_1 r9_2 r9_3 r9_4 =>
jq129 v8 v9 v3 1 fun r10 r11 =>
self r10 r11 r9_1 r9_2 r9_3 r9_4 (fun r12_0 r12_1 r12_2 r12_3 r12_4 =>
rec_ ((mnI v0 (w64 ((w64 (v1 + r9_0)) + r12_0)))) v1 v2 ((w64 (v3 + 1))) r12_1 r12_2 r12_3 r12_4 v8 v9)))
(rec_ v0 v1 v2 ((w64 (v3 + 1))) v4 v5 v6 v7 v8 v9)))))
(k0 v0 v4 v5 v6 v7 v8 v9))
theorem jt167 {β : Type} (N : Nat) (self : Int → Int → Int → Int → Mp → Mp → (Int → Int → Int → Mp → Mp → Option β) → Option β)  (v0 : Int) (v1 : Int) (v2 : Int) (v3 : Int) (v4 : Int) (v5 : Int) (v6 : Mp) (v7 : Mp) (v8 : Int) (v9 : Int) (rec_ : Int → Int → Int → Int → Int → Int → Mp → Mp → Int → Int → Option β) (k0 : Int → Int → Int → Mp → Mp → Int → Int → Option β) : j167 N self v0 v1 v2 v3 v4 v5 v6 v7 v8 v9 rec_ k0 = jb167 N (j129 N) self v0 v1 v2 v3 v4 v5 v6 v7 v8 v9 rec_ k0 := by
  unfold j167 jb167
  rfl
theorem vst84_0_0 {β : Type} (N : Nat) (jq120 : (a0 : Int) → (a1 : Int) → (a2 : Int) → (a3 : Int) → (k : Int → Option β) → Option β) (jq117 : (a0 : Int) → (k : Int → Option β) → Option β) (jq129 : (a0 : Int) → (a1 : Int) → (a2 : Int) → (a3 : Int) → (k : Int → Int → Option β) → Option β) (jq168 : (self : Int → Int → Int → Int → Mp → Mp → (Int → Int → Int → Mp → Mp → Option β) → Option β) → Nat → Int → Int → Int → Int → Int → Int → Mp → Mp → Int → Int → (Int → Int → Int → Mp → Mp → Int → Int → Option β) → Option β) (jq170 : Nat → Int → Int → Int → Int → Mp → Mp → (Int → Int → Int → Mp → Mp → Option β) → Option β) (G : Nat)  (v0 : Int) (v1 : Int) (v2 : Int) (v3 : Int) (v4 : Int) (v5 : Int) (v6 : Mp) (v7 : Mp) (v8 : Int) (v9 : Int) (rec_ : St → Option β) (K : Exit → St → Option β) :
    ev lay (VE84 N jq120 jq117 jq129 jq168 jq170 G) (retMask Tryz.f84) (lp Tryz.f84 0).body (lp Tryz.f84 0).ex ((lp Tryz.f84 0).lv (retMask Tryz.f84)) (h84_0_0  v0 v1 v2 v3 v4 v5 v6 v7 v8 v9) (nextR (fun s' => rec_ (s'.tidy ((lp Tryz.f84 0).lv (retMask Tryz.f84)))) K) = jb167 N jq129 (jq170 G)  v0 v1 v2 v3 v4 v5 v6 v7 v8 v9 (fun v0 v1 v2 v3 v4 v5 v6 v7 v8 v9 => rec_ (h84_0_0  v0 v1 v2 v3 v4 v5 v6 v7 v8 v9)) (fun y0 y1 y2 y3 y4 y5 y6 => K (.exit 0) (x84_0_0_k0  y0 y1 y2 y3 y4 y5 y6)) := by kernel_rfl
theorem st84_0_0 {β : Type} (N : Nat) (G : Nat)  (v0 : Int) (v1 : Int) (v2 : Int) (v3 : Int) (v4 : Int) (v5 : Int) (v6 : Mp) (v7 : Mp) (v8 : Int) (v9 : Int) (rec_ : St → Option β) (K : Exit → St → Option β) :
    ev lay (E84 N G) (retMask Tryz.f84) (lp Tryz.f84 0).body (lp Tryz.f84 0).ex ((lp Tryz.f84 0).lv (retMask Tryz.f84)) (h84_0_0  v0 v1 v2 v3 v4 v5 v6 v7 v8 v9) (nextR (fun s' => rec_ (s'.tidy ((lp Tryz.f84 0).lv (retMask Tryz.f84)))) K) = j167 N (j170 N G)  v0 v1 v2 v3 v4 v5 v6 v7 v8 v9 (fun v0 v1 v2 v3 v4 v5 v6 v7 v8 v9 => rec_ (h84_0_0  v0 v1 v2 v3 v4 v5 v6 v7 v8 v9)) (fun y0 y1 y2 y3 y4 y5 y6 => K (.exit 0) (x84_0_0_k0  y0 y1 y2 y3 y4 y5 y6)) := (vst84_0_0 N (j120 N) (j117 N) (j129 N) (j168 N) (j170 N) G v0 v1 v2 v3 v4 v5 v6 v7 v8 v9 rec_ K).trans (jt167 N (j170 N G)  v0 v1 v2 v3 v4 v5 v6 v7 v8 v9 (fun v0 v1 v2 v3 v4 v5 v6 v7 v8 v9 => rec_ (h84_0_0  v0 v1 v2 v3 v4 v5 v6 v7 v8 v9)) (fun y0 y1 y2 y3 y4 y5 y6 => K (.exit 0) (x84_0_0_k0  y0 y1 y2 y3 y4 y5 y6))).symm
theorem ro84_0_0 {β : Type} (N : Nat) (G : Nat)  (K : Exit → St → Option β) : ∀ (F : Nat) (v0 : Int) (v1 : Int) (v2 : Int) (v3 : Int) (v4 : Int) (v5 : Int) (v6 : Mp) (v7 : Mp) (v8 : Int) (v9 : Int), (lp Tryz.f84 0).rounds lay (E84 N G) (retMask Tryz.f84) F (h84_0_0  v0 v1 v2 v3 v4 v5 v6 v7 v8 v9) K = j168 N (j170 N G)  F v0 v1 v2 v3 v4 v5 v6 v7 v8 v9 (fun y0 y1 y2 y3 y4 y5 y6 => K (.exit 0) (x84_0_0_k0  y0 y1 y2 y3 y4 y5 y6)) := by
  intro F
  induction F with
  | zero => intros; rfl
  | succ F ih =>
    intros
    rw [rounds_next]
    refine (st84_0_0 N G  _ _ _ _ _ _ _ _ _ _ (fun s => (lp Tryz.f84 0).rounds lay (E84 N G) (retMask Tryz.f84) F s K) K).trans ?_
    simp only [ih]
    rfl
theorem lk84_0 {β : Type} (N : Nat) (G : Nat) : lookL (E84 (β := β) N G).loops (lp Tryz.f84 0).id = LS84_0 N G := by kernel_rfl
theorem rk84_0 {β : Type} (N : Nat) (G : Nat) : RoundsOK lay (E84 (β := β) N G) (retMask Tryz.f84) (lp Tryz.f84 0) := by
  intro s K r h
  rw [lk84_0] at h
  unfold LS84_0 VLS84_0 at h
  cases hb : shpSt (h84_0_0 0 0 0 0 0 0 [] [] 0 0) s with
  | true =>
    rw [hb, cond_true] at h
    exact ⟨N, by rw [← shpSt_ref hb, fl84_0_0 s]; exact (ro84_0_0 N G  K N (intS (oneA (vT (nx tund s.tmps 7)))) (intS (oneA (vT (nx tund s.tmps 8)))) (intS (oneA (vT (nx tund s.tmps 52)))) (intS (oneA (vT (nx tund s.tmps 53)))) (intS (nx .und (cellsB (nx .dead s.blks 0)) 0)) (intS (nx .und (cellsB (nx .dead s.blks 0)) 1)) (mpB (nx .dead s.blks 1)) (mpB (nx .dead s.blks 2)) (intS (nx .und (cellsB (nx .dead s.blks 3)) 0)) (intS (nx .und (cellsB (nx .dead s.blks 3)) 1))).trans h⟩
  | false =>
  rw [hb, cond_false] at h
  clear hb
  cases h
def jb169 {β : Type} (N : Nat) (jq120 : (a0 : Int) → (a1 : Int) → (a2 : Int) → (a3 : Int) → (k : Int → Option β) → Option β) (jq117 : (a0 : Int) → (k : Int → Option β) → Option β) (jq168 : (self : Int → Int → Int → Int → Mp → Mp → (Int → Int → Int → Mp → Mp → Option β) → Option β) → Nat → Int → Int → Int → Int → Int → Int → Mp → Mp → Int → Int → (Int → Int → Int → Mp → Mp → Int → Int → Option β) → Option β) (self : Int → Int → Int → Int → Mp → Mp → (Int → Int → Int → Mp → Mp → Option β) → Option β) (a0 : Int) (a1 : Int) (a2 : Int) (a3 : Int) (a4 : Mp) (a5 : Mp) (k0 : Int → Int → Int → Mp → Mp → Option β) : Option β :=
(cond ((hasM ⟨true, false⟩ a5 a0 a1))
(k0 ((getM ⟨true, false⟩ a5 a0 a1)) a2 a3 a4 a5)
(jq120 a2 a3 a0 a1 fun r5 =>
(cond ((r5 == 2))
(jq117 a0 fun r6 =>
(gd ((decide (0 ≤ (w64 (a2 - r6)))))
(jq168 self  N ((w64 ((shlI .i64 1 (w64 (a2 - r6))) * a2))) ((shlI .i64 1 (w64 (a2 - r6)))) a2 0 a2 a3 a4 a5 a0 a1 (fun e13_0 e13_1 e13_2 e13_3 e13_4 e13_5 e13_6 =>
k0 e13_0 e13_1 e13_2 e13_3 ((putM ⟨true, false⟩ e13_4 e13_5 e13_6 e13_0))))))
(k0 0 a2 a3 a4 ((putM ⟨true, false⟩ a5 a0 a1 0))))))
theorem jt169 {β : Type} (N : Nat) (self : Int → Int → Int → Int → Mp → Mp → (Int → Int → Int → Mp → Mp → Option β) → Option β) (a0 : Int) (a1 : Int) (a2 : Int) (a3 : Int) (a4 : Mp) (a5 : Mp) (k0 : Int → Int → Int → Mp → Mp → Option β) : j169 N self a0 a1 a2 a3 a4 a5 k0 = jb169 N (j120 N) (j117 N) (j168 N) self a0 a1 a2 a3 a4 a5 k0 := by
  unfold j169 jb169
  rfl
theorem ve84_0 {β : Type} (N : Nat) (jq120 : (a0 : Int) → (a1 : Int) → (a2 : Int) → (a3 : Int) → (k : Int → Option β) → Option β) (jq117 : (a0 : Int) → (k : Int → Option β) → Option β) (jq129 : (a0 : Int) → (a1 : Int) → (a2 : Int) → (a3 : Int) → (k : Int → Int → Option β) → Option β) (jq168 : (self : Int → Int → Int → Int → Mp → Mp → (Int → Int → Int → Mp → Mp → Option β) → Option β) → Nat → Int → Int → Int → Int → Int → Int → Mp → Mp → Int → Int → (Int → Int → Int → Mp → Mp → Int → Int → Option β) → Option β) (jq170 : Nat → Int → Int → Int → Int → Mp → Mp → (Int → Int → Int → Mp → Mp → Option β) → Option β) (G : Nat) (a0 : Int) (a1 : Int) (a2 : Int) (a3 : Int) (a4 : Mp) (a5 : Mp) (K : TV → List Blk → Option β) : evFnG lay (VE84 N jq120 jq117 jq129 jq168 jq170 G) Tryz.f84 [.v (.one (.ptr 0 0)), .v (.agg [.int .i64 a0, .int .i64 a1])] [.pcells 0 91 [.int .i64 a2, .int .i64 a3, .mp 1, .mp 2], .pmp 1 ⟨true, false⟩ a4, .pmp 2 ⟨true, false⟩ a5] K = jb169 N jq120 jq117 jq168 (jq170 G) a0 a1 a2 a3 a4 a5 (fun y0 y1 y2 y3 y4 => K (.v (.one (.int .i64 y0))) [.pcells 0 91 [.int .i64 y1, .int .i64 y2, .mp 1, .mp 2], .pmp 1 ⟨true, false⟩ y3, .pmp 2 ⟨true, false⟩ y4]) := by kernel_rfl
theorem e84_0 {β : Type} (N : Nat) (G : Nat) (a0 : Int) (a1 : Int) (a2 : Int) (a3 : Int) (a4 : Mp) (a5 : Mp) (K : TV → List Blk → Option β) : evFnG lay (E84 N G) Tryz.f84 [.v (.one (.ptr 0 0)), .v (.agg [.int .i64 a0, .int .i64 a1])] [.pcells 0 91 [.int .i64 a2, .int .i64 a3, .mp 1, .mp 2], .pmp 1 ⟨true, false⟩ a4, .pmp 2 ⟨true, false⟩ a5] K = j170 N (G + 1) a0 a1 a2 a3 a4 a5 (fun y0 y1 y2 y3 y4 => K (.v (.one (.int .i64 y0))) [.pcells 0 91 [.int .i64 y1, .int .i64 y2, .mp 1, .mp 2], .pmp 1 ⟨true, false⟩ y3, .pmp 2 ⟨true, false⟩ y4]) := (ve84_0 N (j120 N) (j117 N) (j129 N) (j168 N) (j170 N) G a0 a1 a2 a3 a4 a5 K).trans (jt169 N (j170 N G) a0 a1 a2 a3 a4 a5 (fun y0 y1 y2 y3 y4 => K (.v (.one (.int .i64 y0))) [.pcells 0 91 [.int .i64 y1, .int .i64 y2, .mp 1, .mp 2], .pmp 1 ⟨true, false⟩ y3, .pmp 2 ⟨true, false⟩ y4])).symm
theorem z84 {β : Type} (N : Nat) : ∀ args bl K r, SF84 (β := β) N 0 args bl K = some r → (none : Option β) = some r := by
  intro args bl K r h
  unfold SF84 VSF84 at h
  split at h <;> exact h
theorem of84 {β : Type} (N : Nat) : ∀ G, GOK (β := β) inv Tryz.prog 84 (SF84 N G) := by
  intro G
  induction G with
  | zero => exact g_zero Tryz.func84 (by kernel_rfl) (z84 N)
  | succ G ih =>
    refine g_of lay_ok mixed (E := E84 N G) (specs_loops (specs_cons (o143 N) (specs_cons (o104 N) (specs_cons (o144 N) specs_nil)))) muts_nil (gs_cons ih gs_nil) Tryz.func84 (by kernel_rfl) 1 (by kernel_rfl) ⟨trivial, rk84_0 N G⟩ fun args bl K r h => ?_
    unfold SF84 VSF84 at h
    split at h
    · exact (e84_0 N G _ _ _ _ _ _ _).trans h
    · cases h
theorem o84 {β : Type} (N : Nat) : GOK (β := β) inv Tryz.prog 84 (S84 N) := of84 N N
def VS26 {β : Type} (N : Nat) (jq172 : (a0 : Int) → (a1 : Int) → (k : Int → Option β) → Option β) : Rv.Spec β := fun args K => match args with
  | [.v (.agg [.int .i64 a0, .int .i64 a1])] => jq172 a0 a1 (fun z2 => K (.v (.one (.int .i64 z2))))
  | _ => none
def S26 {β : Type} (N : Nat) : Rv.Spec β := VS26 N (j172 N)
def VE26 {β : Type} (N : Nat) (jq92 : (a0 : Int) → (a1 : Int) → (a2 : Int) → (k : Bool → Option β) → Option β) (jq128 : (a0 : Int) → (a1 : Int) → (k0 : Int → Int → Mp → Mp → Option β) → Option β) (jq170 : Nat → Int → Int → Int → Int → Mp → Mp → (Int → Int → Int → Mp → Mp → Option β) → Option β) : Env β := ⟨[(21, VS21 N jq92)], [], [], [(83, VS83 N jq128), (84, VS84 N jq170)], ⟨[], [], []⟩⟩
def E26 {β : Type} (N : Nat) : Env β := VE26 N (j92 N) (j128 N) (j170 N)
def jb172 {β : Type} (N : Nat) (jq92 : (a0 : Int) → (a1 : Int) → (a2 : Int) → (k : Bool → Option β) → Option β) (jq128 : (a0 : Int) → (a1 : Int) → (k0 : Int → Int → Mp → Mp → Option β) → Option β) (jq170 : Nat → Int → Int → Int → Int → Mp → Mp → (Int → Int → Int → Mp → Mp → Option β) → Option β) (a0 : Int) (a1 : Int) (k : Int → Option β) : Option β :=
jq92 a0 a1 4 fun r3 =>
(cond (!r3)
(k (-1))
(jq128 a0 a1 (fun r4_0 r4_1 r4_2 r4_3 =>
jq170 N 0 0 r4_0 r4_1 r4_2 r4_3 (fun r5_0 r5_1 r5_2 r5_3 r5_4 =>
k r5_0))))
theorem jt172 {β : Type} (N : Nat) (a0 : Int) (a1 : Int) (k : Int → Option β) : j172 N a0 a1 k = jb172 N (j92 N) (j128 N) (j170 N) a0 a1 k := by
  unfold j172 jb172
  rfl
theorem ve26_0 {β : Type} (N : Nat) (jq92 : (a0 : Int) → (a1 : Int) → (a2 : Int) → (k : Bool → Option β) → Option β) (jq128 : (a0 : Int) → (a1 : Int) → (k0 : Int → Int → Mp → Mp → Option β) → Option β) (jq170 : Nat → Int → Int → Int → Int → Mp → Mp → (Int → Int → Int → Mp → Mp → Option β) → Option β)  (a0 : Int) (a1 : Int) (K : TV → Option β) : evFn lay (VE26 N jq92 jq128 jq170) Tryz.f26 [.v (.agg [.int .i64 a0, .int .i64 a1])] K = jb172 N jq92 jq128 jq170 a0 a1 (fun z2 => K (.v (.one (.int .i64 z2)))) := by kernel_rfl
theorem e26_0 {β : Type} (N : Nat)  (a0 : Int) (a1 : Int) (K : TV → Option β) : evFn lay (E26 N) Tryz.f26 [.v (.agg [.int .i64 a0, .int .i64 a1])] K = j172 N a0 a1 (fun z2 => K (.v (.one (.int .i64 z2)))) := (ve26_0 N (j92 N) (j128 N) (j170 N) a0 a1 K).trans (jt172 N a0 a1 (fun z2 => K (.v (.one (.int .i64 z2))))).symm
theorem o26 {β : Type} (N : Nat) : SpecOK (β := β) inv Tryz.prog 26 (S26 N) := by
  refine spec_of lay_ok mixed (E := E26 N) (specs_loops (specs_cons (o21 N) specs_nil)) muts_nil (gs_cons (o83 N) (gs_cons (o84 N) gs_nil)) Tryz.func26 (by kernel_rfl) 0 (by kernel_rfl) trivial fun args K r h => ?_
  unfold S26 VS26 at h
  split at h
  · exact (e26_0 N _ _ _).trans h
  · cases h
def VS86 {β : Type} (N : Nat) (jq173 : (a0 : Int) → (a1 : Int) → (k : Int → Int → Option β) → Option β) : Rv.Spec β := fun args K => match args with
  | [.v (.agg [.int .i64 a0, .int .i64 a1])] => jq173 a0 a1 (fun z2 z3 => K (.v (.agg [.int .i64 z2, .int .i64 z3])))
  | _ => none
def S86 {β : Type} (N : Nat) : Rv.Spec β := VS86 N (j173 N)
def VE86 {β : Type} (N : Nat) (jq90 : (a0 : Int) → (a1 : Int) → (k : Int → Option β) → Option β) : Env β := ⟨[(100, VS100 N jq90)], [], [], [], ⟨[], [], []⟩⟩
def E86 {β : Type} (N : Nat) : Env β := VE86 N (j90 N)
def jb173 {β : Type} (N : Nat) (jq90 : (a0 : Int) → (a1 : Int) → (k : Int → Option β) → Option β) (a0 : Int) (a1 : Int) (k : Int → Int → Option β) : Option β :=
jq90 a0 a1 fun r4 =>
(gd ((decide (0 ≤ r4)))
(k a0 ((bits .xor .i64 a1 (w64 ((shlI .i64 1 r4) - 1))))))
theorem jt173 {β : Type} (N : Nat) (a0 : Int) (a1 : Int) (k : Int → Int → Option β) : j173 N a0 a1 k = jb173 N (j90 N) a0 a1 k := by
  unfold j173 jb173
  rfl
theorem ve86_0 {β : Type} (N : Nat) (jq90 : (a0 : Int) → (a1 : Int) → (k : Int → Option β) → Option β)  (a0 : Int) (a1 : Int) (K : TV → Option β) : evFn lay (VE86 N jq90) Tryz.f86 [.v (.agg [.int .i64 a0, .int .i64 a1])] K = jb173 N jq90 a0 a1 (fun z2 z3 => K (.v (.agg [.int .i64 z2, .int .i64 z3]))) := by kernel_rfl
theorem e86_0 {β : Type} (N : Nat)  (a0 : Int) (a1 : Int) (K : TV → Option β) : evFn lay (E86 N) Tryz.f86 [.v (.agg [.int .i64 a0, .int .i64 a1])] K = j173 N a0 a1 (fun z2 z3 => K (.v (.agg [.int .i64 z2, .int .i64 z3]))) := (ve86_0 N (j90 N) a0 a1 K).trans (jt173 N a0 a1 (fun z2 z3 => K (.v (.agg [.int .i64 z2, .int .i64 z3])))).symm
theorem o86 {β : Type} (N : Nat) : SpecOK (β := β) inv Tryz.prog 86 (S86 N) := by
  refine spec_of lay_ok mixed (E := E86 N) (specs_loops (specs_cons (o100 N) specs_nil)) muts_nil gs_nil Tryz.func86 (by kernel_rfl) 0 (by kernel_rfl) trivial fun args K r h => ?_
  unfold S86 VS86 at h
  split at h
  · exact (e86_0 N _ _ _).trans h
  · cases h
def VS145 {β : Type} (N : Nat) (jq178 : (a0 : Int) → (a1 : Int) → (a2 : Int) → (k : Int → Option β) → Option β) : Rv.Spec β := fun args K => match args with
  | [.v (.one (.int .i64 a0)), .v (.one (.int .i64 a1)), .v (.one (.int .i64 a2))] => jq178 a0 a1 a2 (fun z3 => K (.v (.one (.int .i64 z3))))
  | _ => none
def S145 {β : Type} (N : Nat) : Rv.Spec β := VS145 N (j178 N)
def h145_0_0  (v0 : Int) (v1 : Int) (v2 : Int) (v3 : Int) (v4 : Int) (v5 : Int) : St := ⟨.v (.one (.int .i64 v0)) :: .v (.one (.int .i64 v1)) :: .v (.one (.int .i64 v2)) :: tund :: tund :: tund :: tund :: .v (.one (.int .i64 v3)) :: tund :: tund :: tund :: .v (.one (.int .i64 v4)) :: .v (.one (.int .i64 v5)) :: tund :: tund :: tund :: tund :: tund :: tund :: tund :: tund :: tund :: tund :: tund :: tund :: tund :: tund :: tund :: tund :: tund :: tund :: tund :: tund :: tund :: tund :: [], []⟩
def x145_0_0_k0  (y0 : Int) : St := ⟨tund :: tund :: tund :: tund :: tund :: tund :: tund :: .v (.one (.int .i64 y0)) :: tund :: tund :: tund :: tund :: tund :: tund :: tund :: tund :: tund :: tund :: tund :: tund :: tund :: tund :: tund :: tund :: tund :: tund :: tund :: tund :: tund :: tund :: tund :: tund :: tund :: tund :: tund :: [], []⟩
def h145_1_0  (v0 : Int) (v1 : Int) (v2 : Int) (v3 : Int) (v4 : Int) (v5 : Int) (v6 : Int) (v7 : Int) (v8 : Int) : St := ⟨.v (.one (.int .i64 v0)) :: .v (.one (.int .i64 v1)) :: .v (.one (.int .i64 v2)) :: tund :: tund :: tund :: tund :: .v (.one (.int .i64 v3)) :: .v (.one (.int .i64 v4)) :: tund :: tund :: .v (.one (.int .i64 v5)) :: .v (.one (.int .i64 v6)) :: tund :: tund :: .v (.one (.int .i64 v7)) :: .v (.one (.int .i64 v8)) :: tund :: tund :: tund :: tund :: tund :: tund :: tund :: tund :: tund :: tund :: tund :: tund :: tund :: tund :: tund :: tund :: tund :: tund :: [], []⟩
def x145_1_0_k0  (y0 : Int) (y1 : Int) (y2 : Int) (y3 : Int) (y4 : Int) (y5 : Int) : St := ⟨.v (.one (.int .i64 y0)) :: .v (.one (.int .i64 y1)) :: .v (.one (.int .i64 y2)) :: tund :: tund :: tund :: tund :: .v (.one (.int .i64 y3)) :: tund :: tund :: tund :: .v (.one (.int .i64 y4)) :: .v (.one (.int .i64 y5)) :: tund :: tund :: tund :: tund :: tund :: tund :: tund :: tund :: tund :: tund :: tund :: tund :: tund :: tund :: tund :: tund :: tund :: tund :: tund :: tund :: tund :: tund :: [], []⟩
theorem fl145_0_0 (s : St) : refSt (h145_0_0 0 0 0 0 0 0) s = h145_0_0 (intS (oneA (vT (nx tund s.tmps 0)))) (intS (oneA (vT (nx tund s.tmps 1)))) (intS (oneA (vT (nx tund s.tmps 2)))) (intS (oneA (vT (nx tund s.tmps 7)))) (intS (oneA (vT (nx tund s.tmps 11)))) (intS (oneA (vT (nx tund s.tmps 12)))) := by kernel_rfl
def VLS145_0 {β : Type} (N : Nat) (jq177 : Nat → Int → Int → Int → Int → Int → Int → (Int → Option β) → Option β) : LSpec β := fun s K => cond (shpSt (h145_0_0 0 0 0 0 0 0) s) ((fun (v0 : Int) (v1 : Int) (v2 : Int) (v3 : Int) (v4 : Int) (v5 : Int) => jq177  N v0 v1 v2 v3 v4 v5 (fun y0 => K (.exit 0) (x145_0_0_k0  y0))) (intS (oneA (vT (nx tund s.tmps 0)))) (intS (oneA (vT (nx tund s.tmps 1)))) (intS (oneA (vT (nx tund s.tmps 2)))) (intS (oneA (vT (nx tund s.tmps 7)))) (intS (oneA (vT (nx tund s.tmps 11)))) (intS (oneA (vT (nx tund s.tmps 12))))) (none)
def LS145_0 {β : Type} (N : Nat) : LSpec β := VLS145_0 N (j177 N)
theorem fl145_1_0 (s : St) : refSt (h145_1_0 0 0 0 0 0 0 0 0 0) s = h145_1_0 (intS (oneA (vT (nx tund s.tmps 0)))) (intS (oneA (vT (nx tund s.tmps 1)))) (intS (oneA (vT (nx tund s.tmps 2)))) (intS (oneA (vT (nx tund s.tmps 7)))) (intS (oneA (vT (nx tund s.tmps 8)))) (intS (oneA (vT (nx tund s.tmps 11)))) (intS (oneA (vT (nx tund s.tmps 12)))) (intS (oneA (vT (nx tund s.tmps 15)))) (intS (oneA (vT (nx tund s.tmps 16)))) := by kernel_rfl
def VLS145_2 {β : Type} (N : Nat) (jq175 : Nat → Int → Int → Int → Int → Int → Int → Int → Int → Int → (Int → Int → Int → Int → Int → Int → Option β) → Option β) : LSpec β := fun s K => cond (shpSt (h145_1_0 0 0 0 0 0 0 0 0 0) s) ((fun (v0 : Int) (v1 : Int) (v2 : Int) (v3 : Int) (v4 : Int) (v5 : Int) (v6 : Int) (v7 : Int) (v8 : Int) => jq175  N v0 v1 v2 v3 v4 v5 v6 v7 v8 (fun y0 y1 y2 y3 y4 y5 => K (.exit 2) (x145_1_0_k0  y0 y1 y2 y3 y4 y5))) (intS (oneA (vT (nx tund s.tmps 0)))) (intS (oneA (vT (nx tund s.tmps 1)))) (intS (oneA (vT (nx tund s.tmps 2)))) (intS (oneA (vT (nx tund s.tmps 7)))) (intS (oneA (vT (nx tund s.tmps 8)))) (intS (oneA (vT (nx tund s.tmps 11)))) (intS (oneA (vT (nx tund s.tmps 12)))) (intS (oneA (vT (nx tund s.tmps 15)))) (intS (oneA (vT (nx tund s.tmps 16))))) (none)
def LS145_2 {β : Type} (N : Nat) : LSpec β := VLS145_2 N (j175 N)
def VE145 {β : Type} (N : Nat) (jq177 : Nat → Int → Int → Int → Int → Int → Int → (Int → Option β) → Option β) (jq175 : Nat → Int → Int → Int → Int → Int → Int → Int → Int → Int → (Int → Int → Int → Int → Int → Int → Option β) → Option β) : Env β := ⟨[], [], [(0, VLS145_0 N jq177), (2, VLS145_2 N jq175)], [], ⟨[], [], []⟩⟩
def E145 {β : Type} (N : Nat) : Env β := VE145 N (j177 N) (j175 N)
def jb176 {β : Type} (N : Nat) (jq175 : Nat → Int → Int → Int → Int → Int → Int → Int → Int → Int → (Int → Int → Int → Int → Int → Int → Option β) → Option β)  (v0 : Int) (v1 : Int) (v2 : Int) (v3 : Int) (v4 : Int) (v5 : Int) (rec_ : Int → Int → Int → Int → Int → Int → Option β) (k0 : Int → Option β) : Option β :=
(cond ((decide (v5 < v4)))
(jq175  N v0 v1 v2 v3 v5 v4 v5 v0 0 (fun e4_0 e4_1 e4_2 e4_3 e4_4 e4_5 =>
rec_ e4_0 e4_1 e4_2 e4_3 e4_4 ((w64 (e4_5 + 1)))))
(k0 v3))
theorem jt176 {β : Type} (N : Nat)  (v0 : Int) (v1 : Int) (v2 : Int) (v3 : Int) (v4 : Int) (v5 : Int) (rec_ : Int → Int → Int → Int → Int → Int → Option β) (k0 : Int → Option β) : j176 N v0 v1 v2 v3 v4 v5 rec_ k0 = jb176 N (j175 N) v0 v1 v2 v3 v4 v5 rec_ k0 := by
  unfold j176 jb176
  rfl
theorem vst145_0_0 {β : Type} (N : Nat) (jq177 : Nat → Int → Int → Int → Int → Int → Int → (Int → Option β) → Option β) (jq175 : Nat → Int → Int → Int → Int → Int → Int → Int → Int → Int → (Int → Int → Int → Int → Int → Int → Option β) → Option β)  (v0 : Int) (v1 : Int) (v2 : Int) (v3 : Int) (v4 : Int) (v5 : Int) (rec_ : St → Option β) (K : Exit → St → Option β) :
    ev lay (VE145 N jq177 jq175) (retMask Tryz.f145) (lp Tryz.f145 0).body (lp Tryz.f145 0).ex ((lp Tryz.f145 0).lv (retMask Tryz.f145)) (h145_0_0  v0 v1 v2 v3 v4 v5) (nextR (fun s' => rec_ (s'.tidy ((lp Tryz.f145 0).lv (retMask Tryz.f145)))) K) = jb176 N jq175  v0 v1 v2 v3 v4 v5 (fun v0 v1 v2 v3 v4 v5 => rec_ (h145_0_0  v0 v1 v2 v3 v4 v5)) (fun y0 => K (.exit 0) (x145_0_0_k0  y0)) := by kernel_rfl
theorem st145_0_0 {β : Type} (N : Nat)  (v0 : Int) (v1 : Int) (v2 : Int) (v3 : Int) (v4 : Int) (v5 : Int) (rec_ : St → Option β) (K : Exit → St → Option β) :
    ev lay (E145 N) (retMask Tryz.f145) (lp Tryz.f145 0).body (lp Tryz.f145 0).ex ((lp Tryz.f145 0).lv (retMask Tryz.f145)) (h145_0_0  v0 v1 v2 v3 v4 v5) (nextR (fun s' => rec_ (s'.tidy ((lp Tryz.f145 0).lv (retMask Tryz.f145)))) K) = j176 N  v0 v1 v2 v3 v4 v5 (fun v0 v1 v2 v3 v4 v5 => rec_ (h145_0_0  v0 v1 v2 v3 v4 v5)) (fun y0 => K (.exit 0) (x145_0_0_k0  y0)) := (vst145_0_0 N (j177 N) (j175 N) v0 v1 v2 v3 v4 v5 rec_ K).trans (jt176 N  v0 v1 v2 v3 v4 v5 (fun v0 v1 v2 v3 v4 v5 => rec_ (h145_0_0  v0 v1 v2 v3 v4 v5)) (fun y0 => K (.exit 0) (x145_0_0_k0  y0))).symm
theorem ro145_0_0 {β : Type} (N : Nat)  (K : Exit → St → Option β) : ∀ (F : Nat) (v0 : Int) (v1 : Int) (v2 : Int) (v3 : Int) (v4 : Int) (v5 : Int), (lp Tryz.f145 0).rounds lay (E145 N) (retMask Tryz.f145) F (h145_0_0  v0 v1 v2 v3 v4 v5) K = j177 N  F v0 v1 v2 v3 v4 v5 (fun y0 => K (.exit 0) (x145_0_0_k0  y0)) := by
  intro F
  induction F with
  | zero => intros; rfl
  | succ F ih =>
    intros
    rw [rounds_next]
    refine (st145_0_0 N  _ _ _ _ _ _ (fun s => (lp Tryz.f145 0).rounds lay (E145 N) (retMask Tryz.f145) F s K) K).trans ?_
    simp only [ih]
    rfl
theorem lk145_0 {β : Type} (N : Nat) : lookL (E145 (β := β) N).loops (lp Tryz.f145 0).id = LS145_0 N := by kernel_rfl
theorem rk145_0 {β : Type} (N : Nat) : RoundsOK lay (E145 (β := β) N) (retMask Tryz.f145) (lp Tryz.f145 0) := by
  intro s K r h
  rw [lk145_0] at h
  unfold LS145_0 VLS145_0 at h
  cases hb : shpSt (h145_0_0 0 0 0 0 0 0) s with
  | true =>
    rw [hb, cond_true] at h
    exact ⟨N, by rw [← shpSt_ref hb, fl145_0_0 s]; exact (ro145_0_0 N  K N (intS (oneA (vT (nx tund s.tmps 0)))) (intS (oneA (vT (nx tund s.tmps 1)))) (intS (oneA (vT (nx tund s.tmps 2)))) (intS (oneA (vT (nx tund s.tmps 7)))) (intS (oneA (vT (nx tund s.tmps 11)))) (intS (oneA (vT (nx tund s.tmps 12))))).trans h⟩
  | false =>
  rw [hb, cond_false] at h
  clear hb
  cases h
def jb174 {β : Type} (N : Nat)  (v0 : Int) (v1 : Int) (v2 : Int) (v3 : Int) (v4 : Int) (v5 : Int) (v6 : Int) (v7 : Int) (v8 : Int) (rec_ : Int → Int → Int → Int → Int → Int → Int → Int → Int → Option β) (k0 : Int → Int → Int → Int → Int → Int → Option β) : Option β :=
(cond ((decide (v8 < v7)))
((gd ((decide (0 ≤ v4)))
((gd ((decide (0 ≤ v8)))
((gd ((decide (0 ≤ (bits .xor .i64 v4 (shlI .i64 1 v8)))))
(rec_ v0 v1 v2 ((w64 (v3 + (bits .and .i64 (bits .and .i64 (shrI .i64 v1 v4) 1) (shrI .i64 v2 (bits .xor .i64 v4 (shlI .i64 1 v8))))))) v4 v5 v6 v7 ((w64 (v8 + 1))))))))))
(k0 v0 v1 v2 v3 v5 v6))
theorem jt174 {β : Type} (N : Nat)  (v0 : Int) (v1 : Int) (v2 : Int) (v3 : Int) (v4 : Int) (v5 : Int) (v6 : Int) (v7 : Int) (v8 : Int) (rec_ : Int → Int → Int → Int → Int → Int → Int → Int → Int → Option β) (k0 : Int → Int → Int → Int → Int → Int → Option β) : j174 N v0 v1 v2 v3 v4 v5 v6 v7 v8 rec_ k0 = jb174 N v0 v1 v2 v3 v4 v5 v6 v7 v8 rec_ k0 := by
  unfold j174 jb174
  rfl
theorem vst145_1_0 {β : Type} (N : Nat) (jq177 : Nat → Int → Int → Int → Int → Int → Int → (Int → Option β) → Option β) (jq175 : Nat → Int → Int → Int → Int → Int → Int → Int → Int → Int → (Int → Int → Int → Int → Int → Int → Option β) → Option β)  (v0 : Int) (v1 : Int) (v2 : Int) (v3 : Int) (v4 : Int) (v5 : Int) (v6 : Int) (v7 : Int) (v8 : Int) (rec_ : St → Option β) (K : Exit → St → Option β) :
    ev lay (VE145 N jq177 jq175) (retMask Tryz.f145) (lp Tryz.f145 1).body (lp Tryz.f145 1).ex ((lp Tryz.f145 1).lv (retMask Tryz.f145)) (h145_1_0  v0 v1 v2 v3 v4 v5 v6 v7 v8) (nextR (fun s' => rec_ (s'.tidy ((lp Tryz.f145 1).lv (retMask Tryz.f145)))) K) = jb174 N  v0 v1 v2 v3 v4 v5 v6 v7 v8 (fun v0 v1 v2 v3 v4 v5 v6 v7 v8 => rec_ (h145_1_0  v0 v1 v2 v3 v4 v5 v6 v7 v8)) (fun y0 y1 y2 y3 y4 y5 => K (.exit 2) (x145_1_0_k0  y0 y1 y2 y3 y4 y5)) := by kernel_rfl
theorem st145_1_0 {β : Type} (N : Nat)  (v0 : Int) (v1 : Int) (v2 : Int) (v3 : Int) (v4 : Int) (v5 : Int) (v6 : Int) (v7 : Int) (v8 : Int) (rec_ : St → Option β) (K : Exit → St → Option β) :
    ev lay (E145 N) (retMask Tryz.f145) (lp Tryz.f145 1).body (lp Tryz.f145 1).ex ((lp Tryz.f145 1).lv (retMask Tryz.f145)) (h145_1_0  v0 v1 v2 v3 v4 v5 v6 v7 v8) (nextR (fun s' => rec_ (s'.tidy ((lp Tryz.f145 1).lv (retMask Tryz.f145)))) K) = j174 N  v0 v1 v2 v3 v4 v5 v6 v7 v8 (fun v0 v1 v2 v3 v4 v5 v6 v7 v8 => rec_ (h145_1_0  v0 v1 v2 v3 v4 v5 v6 v7 v8)) (fun y0 y1 y2 y3 y4 y5 => K (.exit 2) (x145_1_0_k0  y0 y1 y2 y3 y4 y5)) := (vst145_1_0 N (j177 N) (j175 N) v0 v1 v2 v3 v4 v5 v6 v7 v8 rec_ K).trans (jt174 N  v0 v1 v2 v3 v4 v5 v6 v7 v8 (fun v0 v1 v2 v3 v4 v5 v6 v7 v8 => rec_ (h145_1_0  v0 v1 v2 v3 v4 v5 v6 v7 v8)) (fun y0 y1 y2 y3 y4 y5 => K (.exit 2) (x145_1_0_k0  y0 y1 y2 y3 y4 y5))).symm
theorem ro145_1_0 {β : Type} (N : Nat)  (K : Exit → St → Option β) : ∀ (F : Nat) (v0 : Int) (v1 : Int) (v2 : Int) (v3 : Int) (v4 : Int) (v5 : Int) (v6 : Int) (v7 : Int) (v8 : Int), (lp Tryz.f145 1).rounds lay (E145 N) (retMask Tryz.f145) F (h145_1_0  v0 v1 v2 v3 v4 v5 v6 v7 v8) K = j175 N  F v0 v1 v2 v3 v4 v5 v6 v7 v8 (fun y0 y1 y2 y3 y4 y5 => K (.exit 2) (x145_1_0_k0  y0 y1 y2 y3 y4 y5)) := by
  intro F
  induction F with
  | zero => intros; rfl
  | succ F ih =>
    intros
    rw [rounds_next]
    refine (st145_1_0 N  _ _ _ _ _ _ _ _ _ (fun s => (lp Tryz.f145 1).rounds lay (E145 N) (retMask Tryz.f145) F s K) K).trans ?_
    simp only [ih]
    rfl
theorem lk145_2 {β : Type} (N : Nat) : lookL (E145 (β := β) N).loops (lp Tryz.f145 1).id = LS145_2 N := by kernel_rfl
theorem rk145_2 {β : Type} (N : Nat) : RoundsOK lay (E145 (β := β) N) (retMask Tryz.f145) (lp Tryz.f145 1) := by
  intro s K r h
  rw [lk145_2] at h
  unfold LS145_2 VLS145_2 at h
  cases hb : shpSt (h145_1_0 0 0 0 0 0 0 0 0 0) s with
  | true =>
    rw [hb, cond_true] at h
    exact ⟨N, by rw [← shpSt_ref hb, fl145_1_0 s]; exact (ro145_1_0 N  K N (intS (oneA (vT (nx tund s.tmps 0)))) (intS (oneA (vT (nx tund s.tmps 1)))) (intS (oneA (vT (nx tund s.tmps 2)))) (intS (oneA (vT (nx tund s.tmps 7)))) (intS (oneA (vT (nx tund s.tmps 8)))) (intS (oneA (vT (nx tund s.tmps 11)))) (intS (oneA (vT (nx tund s.tmps 12)))) (intS (oneA (vT (nx tund s.tmps 15)))) (intS (oneA (vT (nx tund s.tmps 16))))).trans h⟩
  | false =>
  rw [hb, cond_false] at h
  clear hb
  cases h
def jb178 {β : Type} (N : Nat) (jq177 : Nat → Int → Int → Int → Int → Int → Int → (Int → Option β) → Option β) (a0 : Int) (a1 : Int) (a2 : Int) (k : Int → Option β) : Option β :=
(gd ((decide (0 ≤ a0)))
(jq177  N a0 a1 a2 0 ((shlI .i64 1 a0)) 0 (fun e5_0 =>
k e5_0)))
theorem jt178 {β : Type} (N : Nat) (a0 : Int) (a1 : Int) (a2 : Int) (k : Int → Option β) : j178 N a0 a1 a2 k = jb178 N (j177 N) a0 a1 a2 k := by
  unfold j178 jb178
  rfl
theorem ve145_0 {β : Type} (N : Nat) (jq177 : Nat → Int → Int → Int → Int → Int → Int → (Int → Option β) → Option β) (jq175 : Nat → Int → Int → Int → Int → Int → Int → Int → Int → Int → (Int → Int → Int → Int → Int → Int → Option β) → Option β)  (a0 : Int) (a1 : Int) (a2 : Int) (K : TV → Option β) : evFn lay (VE145 N jq177 jq175) Tryz.f145 [.v (.one (.int .i64 a0)), .v (.one (.int .i64 a1)), .v (.one (.int .i64 a2))] K = jb178 N jq177 a0 a1 a2 (fun z3 => K (.v (.one (.int .i64 z3)))) := by kernel_rfl
theorem e145_0 {β : Type} (N : Nat)  (a0 : Int) (a1 : Int) (a2 : Int) (K : TV → Option β) : evFn lay (E145 N) Tryz.f145 [.v (.one (.int .i64 a0)), .v (.one (.int .i64 a1)), .v (.one (.int .i64 a2))] K = j178 N a0 a1 a2 (fun z3 => K (.v (.one (.int .i64 z3)))) := (ve145_0 N (j177 N) (j175 N) a0 a1 a2 K).trans (jt178 N a0 a1 a2 (fun z3 => K (.v (.one (.int .i64 z3))))).symm
theorem o145 {β : Type} (N : Nat) : SpecOK (β := β) inv Tryz.prog 145 (S145 N) := by
  refine spec_of lay_ok mixed (E := E145 N) (specs_loops specs_nil) muts_nil gs_nil Tryz.func145 (by kernel_rfl) 2 (by kernel_rfl) ⟨⟨trivial, rk145_0 N⟩, rk145_2 N⟩ fun args K r h => ?_
  unfold S145 VS145 at h
  split at h
  · exact (e145_0 N _ _ _ _).trans h
  · cases h
def VS85 {β : Type} (N : Nat) (jq179 : (a0 : Int) → (a1 : Int) → (a2 : Int) → (k : Int → Option β) → Option β) : Rv.Spec β := fun args K => match args with
  | [.v (.one (.int .i64 a0)), .v (.one (.int .i64 a1)), .v (.one (.int .i64 a2))] => jq179 a0 a1 a2 (fun z3 => K (.v (.one (.int .i64 z3))))
  | _ => none
def S85 {β : Type} (N : Nat) : Rv.Spec β := VS85 N (j179 N)
def VE85 {β : Type} (N : Nat) (jq117 : (a0 : Int) → (k : Int → Option β) → Option β) (jq178 : (a0 : Int) → (a1 : Int) → (a2 : Int) → (k : Int → Option β) → Option β) : Env β := ⟨[(104, VS104 N jq117), (145, VS145 N jq178)], [], [], [], ⟨[], [], []⟩⟩
def E85 {β : Type} (N : Nat) : Env β := VE85 N (j117 N) (j178 N)
def jb179 {β : Type} (N : Nat) (jq117 : (a0 : Int) → (k : Int → Option β) → Option β) (jq178 : (a0 : Int) → (a1 : Int) → (a2 : Int) → (k : Int → Option β) → Option β) (a0 : Int) (a1 : Int) (a2 : Int) (k : Int → Option β) : Option β :=
jq117 a1 fun r4 =>
jq117 a2 fun r5 =>
(cond (((w64 (r4 * r5)) == 0))
(k 0)
(jq178 a0 a1 a2 fun r6 =>
(gd (((w64 (r4 * r5)) != 0))
(k ((quoI .i64 (w64 ((w64 ((w64 (r6 * r6)) + (w64 (r4 * r5)))) - 1)) (w64 (r4 * r5))))))))
theorem jt179 {β : Type} (N : Nat) (a0 : Int) (a1 : Int) (a2 : Int) (k : Int → Option β) : j179 N a0 a1 a2 k = jb179 N (j117 N) (j178 N) a0 a1 a2 k := by
  unfold j179 jb179
  rfl
theorem ve85_0 {β : Type} (N : Nat) (jq117 : (a0 : Int) → (k : Int → Option β) → Option β) (jq178 : (a0 : Int) → (a1 : Int) → (a2 : Int) → (k : Int → Option β) → Option β)  (a0 : Int) (a1 : Int) (a2 : Int) (K : TV → Option β) : evFn lay (VE85 N jq117 jq178) Tryz.f85 [.v (.one (.int .i64 a0)), .v (.one (.int .i64 a1)), .v (.one (.int .i64 a2))] K = jb179 N jq117 jq178 a0 a1 a2 (fun z3 => K (.v (.one (.int .i64 z3)))) := by kernel_rfl
theorem e85_0 {β : Type} (N : Nat)  (a0 : Int) (a1 : Int) (a2 : Int) (K : TV → Option β) : evFn lay (E85 N) Tryz.f85 [.v (.one (.int .i64 a0)), .v (.one (.int .i64 a1)), .v (.one (.int .i64 a2))] K = j179 N a0 a1 a2 (fun z3 => K (.v (.one (.int .i64 z3)))) := (ve85_0 N (j117 N) (j178 N) a0 a1 a2 K).trans (jt179 N a0 a1 a2 (fun z3 => K (.v (.one (.int .i64 z3))))).symm
theorem o85 {β : Type} (N : Nat) : SpecOK (β := β) inv Tryz.prog 85 (S85 N) := by
  refine spec_of lay_ok mixed (E := E85 N) (specs_loops (specs_cons (o104 N) (specs_cons (o145 N) specs_nil))) muts_nil gs_nil Tryz.func85 (by kernel_rfl) 0 (by kernel_rfl) trivial fun args K r h => ?_
  unfold S85 VS85 at h
  split at h
  · exact (e85_0 N _ _ _ _).trans h
  · cases h
def VS27 {β : Type} (N : Nat) (jq180 : (a0 : Int) → (a1 : Int) → (k : Int → Option β) → Option β) : Rv.Spec β := fun args K => match args with
  | [.v (.agg [.int .i64 a0, .int .i64 a1])] => jq180 a0 a1 (fun z2 => K (.v (.one (.int .i64 z2))))
  | _ => none
def S27 {β : Type} (N : Nat) : Rv.Spec β := VS27 N (j180 N)
def VE27 {β : Type} (N : Nat) (jq92 : (a0 : Int) → (a1 : Int) → (a2 : Int) → (k : Bool → Option β) → Option β) (jq173 : (a0 : Int) → (a1 : Int) → (k : Int → Int → Option β) → Option β) (jq179 : (a0 : Int) → (a1 : Int) → (a2 : Int) → (k : Int → Option β) → Option β) : Env β := ⟨[(21, VS21 N jq92), (86, VS86 N jq173), (85, VS85 N jq179)], [], [], [], ⟨[], [], []⟩⟩
def E27 {β : Type} (N : Nat) : Env β := VE27 N (j92 N) (j173 N) (j179 N)
def jb180 {β : Type} (N : Nat) (jq92 : (a0 : Int) → (a1 : Int) → (a2 : Int) → (k : Bool → Option β) → Option β) (jq173 : (a0 : Int) → (a1 : Int) → (k : Int → Int → Option β) → Option β) (jq179 : (a0 : Int) → (a1 : Int) → (a2 : Int) → (k : Int → Option β) → Option β) (a0 : Int) (a1 : Int) (k : Int → Option β) : Option β :=
jq92 a0 a1 4 fun r3 =>
(cond (!r3)
(k (-1))
(jq173 a0 a1 fun r4 r5 =>
jq179 a0 a1 r5 fun r6 =>
k r6))
theorem jt180 {β : Type} (N : Nat) (a0 : Int) (a1 : Int) (k : Int → Option β) : j180 N a0 a1 k = jb180 N (j92 N) (j173 N) (j179 N) a0 a1 k := by
  unfold j180 jb180
  rfl
theorem ve27_0 {β : Type} (N : Nat) (jq92 : (a0 : Int) → (a1 : Int) → (a2 : Int) → (k : Bool → Option β) → Option β) (jq173 : (a0 : Int) → (a1 : Int) → (k : Int → Int → Option β) → Option β) (jq179 : (a0 : Int) → (a1 : Int) → (a2 : Int) → (k : Int → Option β) → Option β)  (a0 : Int) (a1 : Int) (K : TV → Option β) : evFn lay (VE27 N jq92 jq173 jq179) Tryz.f27 [.v (.agg [.int .i64 a0, .int .i64 a1])] K = jb180 N jq92 jq173 jq179 a0 a1 (fun z2 => K (.v (.one (.int .i64 z2)))) := by kernel_rfl
theorem e27_0 {β : Type} (N : Nat)  (a0 : Int) (a1 : Int) (K : TV → Option β) : evFn lay (E27 N) Tryz.f27 [.v (.agg [.int .i64 a0, .int .i64 a1])] K = j180 N a0 a1 (fun z2 => K (.v (.one (.int .i64 z2)))) := (ve27_0 N (j92 N) (j173 N) (j179 N) a0 a1 K).trans (jt180 N a0 a1 (fun z2 => K (.v (.one (.int .i64 z2))))).symm
theorem o27 {β : Type} (N : Nat) : SpecOK (β := β) inv Tryz.prog 27 (S27 N) := by
  refine spec_of lay_ok mixed (E := E27 N) (specs_loops (specs_cons (o21 N) (specs_cons (o86 N) (specs_cons (o85 N) specs_nil)))) muts_nil gs_nil Tryz.func27 (by kernel_rfl) 0 (by kernel_rfl) trivial fun args K r h => ?_
  unfold S27 VS27 at h
  split at h
  · exact (e27_0 N _ _ _).trans h
  · cases h
def VS29 {β : Type} (N : Nat) (jq181 : (a0 : Int) → (a1 : Int) → (k : Bool → Option β) → Option β) : Rv.Spec β := fun args K => match args with
  | [.v (.agg [.int .i64 a0, .int .i64 a1])] => jq181 a0 a1 (fun z2 => K (.v (.one (.bool z2))))
  | _ => none
def S29 {β : Type} (N : Nat) : Rv.Spec β := VS29 N (j181 N)
def VE29 {β : Type} (N : Nat) (jq92 : (a0 : Int) → (a1 : Int) → (a2 : Int) → (k : Bool → Option β) → Option β) (jq135 : (a0 : Int) → (a1 : Int) → (k : Int → Option β) → Option β) : Env β := ⟨[(21, VS21 N jq92), (79, VS79 N jq135)], [], [], [], ⟨[], [], []⟩⟩
def E29 {β : Type} (N : Nat) : Env β := VE29 N (j92 N) (j135 N)
def jb181 {β : Type} (N : Nat) (jq92 : (a0 : Int) → (a1 : Int) → (a2 : Int) → (k : Bool → Option β) → Option β) (jq135 : (a0 : Int) → (a1 : Int) → (k : Int → Option β) → Option β) (a0 : Int) (a1 : Int) (k : Bool → Option β) : Option β :=
jq92 a0 a1 4 fun r3 =>
(cond r3
(jq135 a0 a1 fun r4 =>
k ((r4 == a0)))
(k false))
theorem jt181 {β : Type} (N : Nat) (a0 : Int) (a1 : Int) (k : Bool → Option β) : j181 N a0 a1 k = jb181 N (j92 N) (j135 N) a0 a1 k := by
  unfold j181 jb181
  rfl
theorem ve29_0 {β : Type} (N : Nat) (jq92 : (a0 : Int) → (a1 : Int) → (a2 : Int) → (k : Bool → Option β) → Option β) (jq135 : (a0 : Int) → (a1 : Int) → (k : Int → Option β) → Option β)  (a0 : Int) (a1 : Int) (K : TV → Option β) : evFn lay (VE29 N jq92 jq135) Tryz.f29 [.v (.agg [.int .i64 a0, .int .i64 a1])] K = jb181 N jq92 jq135 a0 a1 (fun z2 => K (.v (.one (.bool z2)))) := by kernel_rfl
theorem e29_0 {β : Type} (N : Nat)  (a0 : Int) (a1 : Int) (K : TV → Option β) : evFn lay (E29 N) Tryz.f29 [.v (.agg [.int .i64 a0, .int .i64 a1])] K = j181 N a0 a1 (fun z2 => K (.v (.one (.bool z2)))) := (ve29_0 N (j92 N) (j135 N) a0 a1 K).trans (jt181 N a0 a1 (fun z2 => K (.v (.one (.bool z2))))).symm
theorem o29 {β : Type} (N : Nat) : SpecOK (β := β) inv Tryz.prog 29 (S29 N) := by
  refine spec_of lay_ok mixed (E := E29 N) (specs_loops (specs_cons (o21 N) (specs_cons (o79 N) specs_nil))) muts_nil gs_nil Tryz.func29 (by kernel_rfl) 0 (by kernel_rfl) trivial fun args K r h => ?_
  unfold S29 VS29 at h
  split at h
  · exact (e29_0 N _ _ _).trans h
  · cases h
def VS22 {β : Type} (N : Nat) (jq182 : (a0 : List ByteArray) → (a1 : List ByteArray) → (k0 : List ByteArray → List ByteArray → Option β) → Option β) : GSpec β := fun args bl K => match args, bl with
  | [.v (.one (.ptr 0 0)), .v (.one (.row 1))], [.pcells 0 38 [.row 2], .prow 1 9 (.strs a0), .prow 2 9 (.strs a1)] => jq182 a0 a1 (fun y0 y1 => K (.tup []) [.pcells 0 38 [.row 2], .prow 1 9 (.strs y0), .row 9 (.strs y1)])
  | _, _ => none
def S22 {β : Type} (N : Nat) : GSpec β := VS22 N (j182 N)
def VE22 {β : Type} (N : Nat) : Env β := ⟨[], [], [], [], ⟨[], [], []⟩⟩
def E22 {β : Type} (N : Nat) : Env β := VE22 N
def jb182 {β : Type} (N : Nat) (a0 : List ByteArray) (a1 : List ByteArray) (k0 : List ByteArray → List ByteArray → Option β) : Option β :=
(gd ((decide ((a1.length + a0.length) * 16 ≤ 140737488355328)))
(k0 a0 ((a1 ++ a0))))
theorem jt182 {β : Type} (N : Nat) (a0 : List ByteArray) (a1 : List ByteArray) (k0 : List ByteArray → List ByteArray → Option β) : j182 N a0 a1 k0 = jb182 N a0 a1 k0 := by
  unfold j182 jb182
  rfl
theorem ve22_0 {β : Type} (N : Nat) (a0 : List ByteArray) (a1 : List ByteArray) (K : TV → List Blk → Option β) : evFnG lay (VE22 N) Tryz.f22 [.v (.one (.ptr 0 0)), .v (.one (.row 1))] [.pcells 0 38 [.row 2], .prow 1 9 (.strs a0), .prow 2 9 (.strs a1)] K = jb182 N a0 a1 (fun y0 y1 => K (.tup []) [.pcells 0 38 [.row 2], .prow 1 9 (.strs y0), .row 9 (.strs y1)]) := by kernel_rfl
theorem e22_0 {β : Type} (N : Nat) (a0 : List ByteArray) (a1 : List ByteArray) (K : TV → List Blk → Option β) : evFnG lay (E22 N) Tryz.f22 [.v (.one (.ptr 0 0)), .v (.one (.row 1))] [.pcells 0 38 [.row 2], .prow 1 9 (.strs a0), .prow 2 9 (.strs a1)] K = j182 N a0 a1 (fun y0 y1 => K (.tup []) [.pcells 0 38 [.row 2], .prow 1 9 (.strs y0), .row 9 (.strs y1)]) := (ve22_0 N a0 a1 K).trans (jt182 N a0 a1 (fun y0 y1 => K (.tup []) [.pcells 0 38 [.row 2], .prow 1 9 (.strs y0), .row 9 (.strs y1)])).symm
theorem o22 {β : Type} (N : Nat) : GOK (β := β) inv Tryz.prog 22 (S22 N) := by
  refine g_of lay_ok mixed (E := E22 N) (specs_loops specs_nil) muts_nil gs_nil Tryz.func22 (by kernel_rfl) 0 (by kernel_rfl) trivial fun args bl K r h => ?_
  unfold S22 VS22 at h
  split at h
  · exact (e22_0 N _ _ _).trans h
  · cases h
end Go.Proofs.YtignjkbhdaiegaaGreatDoor
