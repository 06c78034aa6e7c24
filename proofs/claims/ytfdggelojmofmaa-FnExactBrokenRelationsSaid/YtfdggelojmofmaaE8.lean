/- The functions that the claims reach answer as their texts do. -/
import Derived.Test.YtfdggelojmofmaaE7
namespace Go.Proofs.Ytfdggelojmofmaa
open Go.Rv
set_option maxRecDepth 100000
set_option maxHeartbeats 2000000
set_option linter.unusedVariables false
def VS142 {β : Type} (N : Nat) (zq155 : (a0 : Int) → (a1 : Int) → (k : Int → Option β) → Option β) : Rv.Spec β := fun args K => match args with
  | [.v (.agg [.int .i64 a0, .int .i64 a1])] => zq155 a0 a1 (fun z2 => K (.v (.one (.int .i64 z2))))
  | _ => none
def S142 {β : Type} (N : Nat) : Rv.Spec β := VS142 N (zj155 N)
def h142_0_0  (v0 : Int) (v1 : Int) (v2 : Int) (v3 : List Int) : St := ⟨tund :: tund :: tund :: .v (.one (.int .i64 v0)) :: tund :: tund :: tund :: tund :: tund :: tund :: .v (.one (.row 0)) :: .v (.one (.int .i64 v1)) :: .v (.one (.int .i64 v2)) :: tund :: tund :: tund :: tund :: tund :: tund :: tund :: tund :: [], [.row 3 (.ints .i64 v3)]⟩
def x142_0_0_k0  (y0 : Int) : St := ⟨tund :: tund :: tund :: .v (.one (.int .i64 y0)) :: tund :: tund :: tund :: tund :: tund :: tund :: tund :: tund :: tund :: tund :: tund :: tund :: tund :: tund :: tund :: tund :: tund :: [], []⟩
theorem fl142_0_0 (s : St) : refSt (h142_0_0 0 0 0 []) s = h142_0_0 (intS (oneA (vT (nx tund s.tmps 3)))) (intS (oneA (vT (nx tund s.tmps 11)))) (intS (oneA (vT (nx tund s.tmps 12)))) (rInts (rowB_ (nx .dead s.blks 0))) := by kernel_rfl
def VLS142_0 {β : Type} (N : Nat) (zq154 : Nat → Int → Int → Int → List Int → (Int → Option β) → Option β) : LSpec β := fun s K => cond (shpSt (h142_0_0 0 0 0 []) s) ((fun (v0 : Int) (v1 : Int) (v2 : Int) (v3 : List Int) => zq154  N v0 v1 v2 v3 (fun y0 => K (.exit 0) (x142_0_0_k0  y0))) (intS (oneA (vT (nx tund s.tmps 3)))) (intS (oneA (vT (nx tund s.tmps 11)))) (intS (oneA (vT (nx tund s.tmps 12)))) (rInts (rowB_ (nx .dead s.blks 0)))) (none)
def LS142_0 {β : Type} (N : Nat) : LSpec β := VLS142_0 N (zj154 N)
def VE142 {β : Type} (N : Nat) (zq80 : (a0 : Int) → (a1 : Int) → (k : Bool → Option β) → Option β) (zq152 : (a0 : Int) → (a1 : Int) → (k : List Int → Option β) → Option β) (zq154 : Nat → Int → Int → Int → List Int → (Int → Option β) → Option β) : Env β := ⟨[(82, VS82 N zq80), (181, VS181 N zq152)], [], [(0, VLS142_0 N zq154)], [], ⟨[], [], [], [61]⟩⟩
def E142 {β : Type} (N : Nat) : Env β := VE142 N (zj80 N) (zj152 N) (zj154 N)
def zb153 {β : Type} (N : Nat)  (v0 : Int) (v1 : Int) (v2 : Int) (v3 : List Int) (rec_ : Int → Int → Int → List Int → Option β) (k0 : Int → Option β) : Option β :=
(cond ((decide (v2 < v1)))
((gd ((decide (0 ≤ v2)))
((gd ((decide (v2 < (v3.length : Int))))
(rec_ ((w64 (v0 + (rd 0 v3 v2)))) v1 ((w64 (v2 + 1))) v3)))))
(k0 v0))
theorem zt153 {β : Type} (N : Nat)  (v0 : Int) (v1 : Int) (v2 : Int) (v3 : List Int) (rec_ : Int → Int → Int → List Int → Option β) (k0 : Int → Option β) : zj153 N v0 v1 v2 v3 rec_ k0 = zb153 N v0 v1 v2 v3 rec_ k0 := by
  unfold zj153 zb153
  rfl
theorem vst142_0_0 {β : Type} (N : Nat) (zq80 : (a0 : Int) → (a1 : Int) → (k : Bool → Option β) → Option β) (zq152 : (a0 : Int) → (a1 : Int) → (k : List Int → Option β) → Option β) (zq154 : Nat → Int → Int → Int → List Int → (Int → Option β) → Option β)  (v0 : Int) (v1 : Int) (v2 : Int) (v3 : List Int) (rec_ : St → Option β) (K : Exit → St → Option β) :
    ev lay (VE142 N zq80 zq152 zq154) (retMask Try.f142) (lp Try.f142 0).body (lp Try.f142 0).ex ((lp Try.f142 0).lv (retMask Try.f142)) (h142_0_0  v0 v1 v2 v3) (nextR (fun s' => rec_ (s'.tidy ((lp Try.f142 0).lv (retMask Try.f142)))) K) = zb153 N  v0 v1 v2 v3 (fun v0 v1 v2 v3 => rec_ (h142_0_0  v0 v1 v2 v3)) (fun y0 => K (.exit 0) (x142_0_0_k0  y0)) := by kernel_rfl
theorem st142_0_0 {β : Type} (N : Nat)  (v0 : Int) (v1 : Int) (v2 : Int) (v3 : List Int) (rec_ : St → Option β) (K : Exit → St → Option β) :
    ev lay (E142 N) (retMask Try.f142) (lp Try.f142 0).body (lp Try.f142 0).ex ((lp Try.f142 0).lv (retMask Try.f142)) (h142_0_0  v0 v1 v2 v3) (nextR (fun s' => rec_ (s'.tidy ((lp Try.f142 0).lv (retMask Try.f142)))) K) = zj153 N  v0 v1 v2 v3 (fun v0 v1 v2 v3 => rec_ (h142_0_0  v0 v1 v2 v3)) (fun y0 => K (.exit 0) (x142_0_0_k0  y0)) := (vst142_0_0 N (zj80 N) (zj152 N) (zj154 N) v0 v1 v2 v3 rec_ K).trans (zt153 N  v0 v1 v2 v3 (fun v0 v1 v2 v3 => rec_ (h142_0_0  v0 v1 v2 v3)) (fun y0 => K (.exit 0) (x142_0_0_k0  y0))).symm
theorem ro142_0_0 {β : Type} (N : Nat)  (K : Exit → St → Option β) : ∀ (F : Nat) (v0 : Int) (v1 : Int) (v2 : Int) (v3 : List Int), (lp Try.f142 0).rounds lay (E142 N) (retMask Try.f142) F (h142_0_0  v0 v1 v2 v3) K = zj154 N  F v0 v1 v2 v3 (fun y0 => K (.exit 0) (x142_0_0_k0  y0)) := by
  intro F
  induction F with
  | zero => intros; rfl
  | succ F ih =>
    intros
    rw [rounds_next]
    refine (st142_0_0 N  _ _ _ _ (fun s => (lp Try.f142 0).rounds lay (E142 N) (retMask Try.f142) F s K) K).trans ?_
    simp only [ih]
    rfl
theorem lk142_0 {β : Type} (N : Nat) : lookL (E142 (β := β) N).loops (lp Try.f142 0).id = LS142_0 N := by kernel_rfl
theorem rk142_0 {β : Type} (N : Nat) : RoundsOK lay (E142 (β := β) N) (retMask Try.f142) (lp Try.f142 0) := by
  intro s K r h
  rw [lk142_0] at h
  unfold LS142_0 VLS142_0 at h
  cases hb : shpSt (h142_0_0 0 0 0 []) s with
  | true =>
    rw [hb, cond_true] at h
    exact ⟨N, by rw [← shpSt_ref hb, fl142_0_0 s]; exact (ro142_0_0 N  K N (intS (oneA (vT (nx tund s.tmps 3)))) (intS (oneA (vT (nx tund s.tmps 11)))) (intS (oneA (vT (nx tund s.tmps 12)))) (rInts (rowB_ (nx .dead s.blks 0)))).trans h⟩
  | false =>
  rw [hb, cond_false] at h
  clear hb
  cases h
def zb155 {β : Type} (N : Nat) (zq80 : (a0 : Int) → (a1 : Int) → (k : Bool → Option β) → Option β) (zq152 : (a0 : Int) → (a1 : Int) → (k : List Int → Option β) → Option β) (zq154 : Nat → Int → Int → Int → List Int → (Int → Option β) → Option β) (a0 : Int) (a1 : Int) (k : Int → Option β) : Option β :=
zq80 a0 a1 fun r3 =>
(cond (!r3)
(k (-1))
(zq152 a0 a1 fun r4 =>
zq154  N 0 ((r4.length : Int)) 0 r4 (fun e5_0 =>
k e5_0)))
theorem zt155 {β : Type} (N : Nat) (a0 : Int) (a1 : Int) (k : Int → Option β) : zj155 N a0 a1 k = zb155 N (zj80 N) (zj152 N) (zj154 N) a0 a1 k := by
  unfold zj155 zb155
  rfl
theorem ve142_0 {β : Type} (N : Nat) (zq80 : (a0 : Int) → (a1 : Int) → (k : Bool → Option β) → Option β) (zq152 : (a0 : Int) → (a1 : Int) → (k : List Int → Option β) → Option β) (zq154 : Nat → Int → Int → Int → List Int → (Int → Option β) → Option β)  (a0 : Int) (a1 : Int) (K : TV → Option β) : evFn lay (VE142 N zq80 zq152 zq154) Try.f142 [.v (.agg [.int .i64 a0, .int .i64 a1])] K = zb155 N zq80 zq152 zq154 a0 a1 (fun z2 => K (.v (.one (.int .i64 z2)))) := by kernel_rfl
theorem e142_0 {β : Type} (N : Nat)  (a0 : Int) (a1 : Int) (K : TV → Option β) : evFn lay (E142 N) Try.f142 [.v (.agg [.int .i64 a0, .int .i64 a1])] K = zj155 N a0 a1 (fun z2 => K (.v (.one (.int .i64 z2)))) := (ve142_0 N (zj80 N) (zj152 N) (zj154 N) a0 a1 K).trans (zt155 N a0 a1 (fun z2 => K (.v (.one (.int .i64 z2))))).symm
theorem o142 {β : Type} (N : Nat) : SpecOK (β := β) inv Try.prog 142 (S142 N) := by
  refine spec_of lay_ok mixed (E := E142 N) (specs_loops (specs_cons (o82 N) (specs_cons (o181 N) specs_nil))) muts_nil gs_nil Try.func142 (by kernel_rfl) 1 (by kernel_rfl) ⟨trivial, rk142_0 N⟩ fun args K r h => ?_
  unfold S142 VS142 at h
  split at h
  · exact (e142_0 N _ _ _).trans h
  · cases h
def VS104 {β : Type} (N : Nat) (zq156 : (a0 : ByteArray) → (a1 : Int) → (a2 : Int) → (k : Int → Option β) → Option β) : Rv.Spec β := fun args K => match args with
  | [.v (.one (.str a0)), .v (.agg [.int .i64 a1, .int .i64 a2])] => zq156 a0 a1 a2 (fun z3 => K (.v (.one (.int .i64 z3))))
  | _ => none
def S104 {β : Type} (N : Nat) : Rv.Spec β := VS104 N (zj156 N)
def VE104 {β : Type} (N : Nat) (zq90 : (a0 : Int) → (a1 : Int) → (k : Int → Option β) → Option β) (zq103 : (a0 : Int) → (a1 : Int) → (k : Int → Option β) → Option β) (zq116 : (a0 : Int) → (a1 : Int) → (a2 : Int) → (k : Int → Option β) → Option β) (zq124 : (a0 : Int) → (a1 : Int) → (k : Int → Option β) → Option β) (zq135 : (a0 : Int) → (a1 : Int) → (k : Int → Option β) → Option β) (zq145 : (a0 : Int) → (a1 : Int) → (k : Int → Option β) → Option β) (zq146 : (a0 : Int) → (a1 : Int) → (k : Int → Option β) → Option β) (zq155 : (a0 : Int) → (a1 : Int) → (k : Int → Option β) → Option β) : Env β := ⟨[(136, VS136 N zq90), (137, VS137 N zq103), (105, VS105 N zq116), (138, VS138 N zq124), (139, VS139 N zq135), (140, VS140 N zq145), (141, VS141 N zq146), (142, VS142 N zq155)], [], [], [], ⟨[], [], [], [61]⟩⟩
def E104 {β : Type} (N : Nat) : Env β := VE104 N (zj90 N) (zj103 N) (zj116 N) (zj124 N) (zj135 N) (zj145 N) (zj146 N) (zj155 N)
def zb156 {β : Type} (N : Nat) (zq90 : (a0 : Int) → (a1 : Int) → (k : Int → Option β) → Option β) (zq103 : (a0 : Int) → (a1 : Int) → (k : Int → Option β) → Option β) (zq116 : (a0 : Int) → (a1 : Int) → (a2 : Int) → (k : Int → Option β) → Option β) (zq124 : (a0 : Int) → (a1 : Int) → (k : Int → Option β) → Option β) (zq135 : (a0 : Int) → (a1 : Int) → (k : Int → Option β) → Option β) (zq145 : (a0 : Int) → (a1 : Int) → (k : Int → Option β) → Option β) (zq146 : (a0 : Int) → (a1 : Int) → (k : Int → Option β) → Option β) (zq155 : (a0 : Int) → (a1 : Int) → (k : Int → Option β) → Option β) (a0 : ByteArray) (a1 : Int) (a2 : Int) (k : Int → Option β) : Option β :=
(cond ((a0.toList == ((strOf [115, 101, 110, 115, 105, 116, 105, 118, 105, 116, 121])).toList))
(zq90 a1 a2 fun r4 =>
k r4)
((cond ((a0.toList == ((strOf [98, 108, 111, 99, 107, 115])).toList))
(zq103 a1 a2 fun r5 =>
k r5)
((cond ((a0.toList == ((strOf [99, 101, 114, 116, 105, 102, 105, 99, 97, 116, 101])).toList))
(zq116 a1 a2 0 fun r6 =>
zq116 a1 a2 1 fun r7 =>
k ((mxI r6 r7)))
((cond ((a0.toList == ((strOf [100, 101, 112, 116, 104])).toList))
(zq124 a1 a2 fun r8 =>
k r8)
((cond ((a0.toList == ((strOf [100, 101, 103, 114, 101, 101])).toList))
(zq135 a1 a2 fun r9 =>
k ((mxI r9 0)))
((cond ((a0.toList == ((strOf [100, 101, 103, 114, 101, 101, 50])).toList))
(zq145 a1 a2 fun r10 =>
k ((mxI r10 0)))
((cond ((a0.toList == ((strOf [111, 110, 101, 115])).toList))
(zq146 a1 a2 fun r11 =>
k r11)
((cond ((a0.toList == ((strOf [105, 110, 102, 108, 117, 101, 110, 99, 101])).toList))
(zq155 a1 a2 fun r12 =>
k r12)
(k (-1)))))))))))))))))
theorem zt156 {β : Type} (N : Nat) (a0 : ByteArray) (a1 : Int) (a2 : Int) (k : Int → Option β) : zj156 N a0 a1 a2 k = zb156 N (zj90 N) (zj103 N) (zj116 N) (zj124 N) (zj135 N) (zj145 N) (zj146 N) (zj155 N) a0 a1 a2 k := by
  unfold zj156 zb156
  rfl
theorem ve104_0 {β : Type} (N : Nat) (zq90 : (a0 : Int) → (a1 : Int) → (k : Int → Option β) → Option β) (zq103 : (a0 : Int) → (a1 : Int) → (k : Int → Option β) → Option β) (zq116 : (a0 : Int) → (a1 : Int) → (a2 : Int) → (k : Int → Option β) → Option β) (zq124 : (a0 : Int) → (a1 : Int) → (k : Int → Option β) → Option β) (zq135 : (a0 : Int) → (a1 : Int) → (k : Int → Option β) → Option β) (zq145 : (a0 : Int) → (a1 : Int) → (k : Int → Option β) → Option β) (zq146 : (a0 : Int) → (a1 : Int) → (k : Int → Option β) → Option β) (zq155 : (a0 : Int) → (a1 : Int) → (k : Int → Option β) → Option β)  (a0 : ByteArray) (a1 : Int) (a2 : Int) (K : TV → Option β) : evFn lay (VE104 N zq90 zq103 zq116 zq124 zq135 zq145 zq146 zq155) Try.f104 [.v (.one (.str a0)), .v (.agg [.int .i64 a1, .int .i64 a2])] K = zb156 N zq90 zq103 zq116 zq124 zq135 zq145 zq146 zq155 a0 a1 a2 (fun z3 => K (.v (.one (.int .i64 z3)))) := by kernel_rfl
theorem e104_0 {β : Type} (N : Nat)  (a0 : ByteArray) (a1 : Int) (a2 : Int) (K : TV → Option β) : evFn lay (E104 N) Try.f104 [.v (.one (.str a0)), .v (.agg [.int .i64 a1, .int .i64 a2])] K = zj156 N a0 a1 a2 (fun z3 => K (.v (.one (.int .i64 z3)))) := (ve104_0 N (zj90 N) (zj103 N) (zj116 N) (zj124 N) (zj135 N) (zj145 N) (zj146 N) (zj155 N) a0 a1 a2 K).trans (zt156 N a0 a1 a2 (fun z3 => K (.v (.one (.int .i64 z3))))).symm
theorem o104 {β : Type} (N : Nat) : SpecOK (β := β) inv Try.prog 104 (S104 N) := by
  refine spec_of lay_ok mixed (E := E104 N) (specs_loops (specs_cons (o136 N) (specs_cons (o137 N) (specs_cons (o105 N) (specs_cons (o138 N) (specs_cons (o139 N) (specs_cons (o140 N) (specs_cons (o141 N) (specs_cons (o142 N) specs_nil))))))))) muts_nil gs_nil Try.func104 (by kernel_rfl) 0 (by kernel_rfl) trivial fun args K r h => ?_
  unfold S104 VS104 at h
  split at h
  · exact (e104_0 N _ _ _ _).trans h
  · cases h
def VS103 {β : Type} (N : Nat) (zq157 : (a0 : ByteArray) → (c0 : Int) → (c1 : Int) → (k : Int → Option β) → Option β) : Rv.Spec β := fun args K => match args with
  | [.v (.one (.str a0)), .v (.one (.cref [.int .i64 c0, .int .i64 c1] 0))] => zq157 a0 c0 c1 (fun z1 => K (.v (.one (.int .i64 z1))))
  | _ => none
def S103 {β : Type} (N : Nat) : Rv.Spec β := VS103 N (zj157 N)
def VE103 {β : Type} (N : Nat) (zq156 : (a0 : ByteArray) → (a1 : Int) → (a2 : Int) → (k : Int → Option β) → Option β) : Env β := ⟨[(104, VS104 N zq156)], [], [], [], ⟨[], [], [], [61]⟩⟩
def E103 {β : Type} (N : Nat) : Env β := VE103 N (zj156 N)
def zb157 {β : Type} (N : Nat) (zq156 : (a0 : ByteArray) → (a1 : Int) → (a2 : Int) → (k : Int → Option β) → Option β) (a0 : ByteArray) (c0 : Int) (c1 : Int) (k : Int → Option β) : Option β :=
zq156 a0 c0 c1 fun r2 =>
k r2
theorem zt157 {β : Type} (N : Nat) (a0 : ByteArray) (c0 : Int) (c1 : Int) (k : Int → Option β) : zj157 N a0 c0 c1 k = zb157 N (zj156 N) a0 c0 c1 k := by
  unfold zj157 zb157
  rfl
theorem ve103_0 {β : Type} (N : Nat) (zq156 : (a0 : ByteArray) → (a1 : Int) → (a2 : Int) → (k : Int → Option β) → Option β)  (a0 : ByteArray) (c0 : Int) (c1 : Int) (K : TV → Option β) : evFn lay (VE103 N zq156) Try.f103 [.v (.one (.str a0)), .v (.one (.cref [.int .i64 c0, .int .i64 c1] 0))] K = zb157 N zq156 a0 c0 c1 (fun z1 => K (.v (.one (.int .i64 z1)))) := by kernel_rfl
theorem e103_0 {β : Type} (N : Nat)  (a0 : ByteArray) (c0 : Int) (c1 : Int) (K : TV → Option β) : evFn lay (E103 N) Try.f103 [.v (.one (.str a0)), .v (.one (.cref [.int .i64 c0, .int .i64 c1] 0))] K = zj157 N a0 c0 c1 (fun z1 => K (.v (.one (.int .i64 z1)))) := (ve103_0 N (zj156 N) a0 c0 c1 K).trans (zt157 N a0 c0 c1 (fun z1 => K (.v (.one (.int .i64 z1))))).symm
theorem o103 {β : Type} (N : Nat) : SpecOK (β := β) inv Try.prog 103 (S103 N) := by
  refine spec_of lay_ok mixed (E := E103 N) (specs_loops (specs_cons (o104 N) specs_nil)) muts_nil gs_nil Try.func103 (by kernel_rfl) 0 (by kernel_rfl) trivial fun args K r h => ?_
  unfold S103 VS103 at h
  split at h
  · exact (e103_0 N _ _ _ _).trans h
  · cases h
def VS120 {β : Type} (N : Nat) (zq158 : (a0 : Int) → (a1 : Int) → (a2 : Int) → (a3 : Int) → (k : Int → Int → Option β) → Option β) : Rv.Spec β := fun args K => match args with
  | [.v (.agg [.int .i64 a0, .int .i64 a1]), .v (.one (.int .i64 a2)), .v (.one (.int .i64 a3))] => zq158 a0 a1 a2 a3 (fun z4 z5 => K (.v (.agg [.int .i64 z4, .int .i64 z5])))
  | _ => none
def S120 {β : Type} (N : Nat) : Rv.Spec β := VS120 N (zj158 N)
def VE120 {β : Type} (N : Nat) (zq143 : (a0 : Int) → (a1 : (Int → (Bool → Option β) → Option β)) → (k : Int → Int → Option β) → Option β) (zq138 : (a0 : Int) → (c0 : Int) → (c1 : Int) → (k : Bool → Option β) → Option β) (zq140 : (a0 : Int) → (c0 : Int) → (c1 : Int) → (c2 : Int) → (c3 : Int) → (k : Bool → Option β) → Option β) : Env β := ⟨[(115, VS115 N zq143 zq138 zq140), (158, VS158 N zq140)], [], [], [], ⟨[], [], [], [61]⟩⟩
def E120 {β : Type} (N : Nat) : Env β := VE120 N (zj143 N) (zj138 N) (zj140 N)
def zb158 {β : Type} (N : Nat) (zq143 : (a0 : Int) → (a1 : (Int → (Bool → Option β) → Option β)) → (k : Int → Int → Option β) → Option β) (zq140 : (a0 : Int) → (c0 : Int) → (c1 : Int) → (c2 : Int) → (c3 : Int) → (k : Bool → Option β) → Option β) (a0 : Int) (a1 : Int) (a2 : Int) (a3 : Int) (k : Int → Int → Option β) : Option β :=
zq143 ((w64 (a0 - 1))) (fun x0 k => zq140 x0 a0 a1 a2 a3 k) fun r6 r7 =>
k r6 r7
theorem zt158 {β : Type} (N : Nat) (a0 : Int) (a1 : Int) (a2 : Int) (a3 : Int) (k : Int → Int → Option β) : zj158 N a0 a1 a2 a3 k = zb158 N (zj143 N) (zj140 N) a0 a1 a2 a3 k := by
  unfold zj158 zb158
  rfl
theorem ve120_0 {β : Type} (N : Nat) (zq143 : (a0 : Int) → (a1 : (Int → (Bool → Option β) → Option β)) → (k : Int → Int → Option β) → Option β) (zq138 : (a0 : Int) → (c0 : Int) → (c1 : Int) → (k : Bool → Option β) → Option β) (zq140 : (a0 : Int) → (c0 : Int) → (c1 : Int) → (c2 : Int) → (c3 : Int) → (k : Bool → Option β) → Option β)  (a0 : Int) (a1 : Int) (a2 : Int) (a3 : Int) (K : TV → Option β) : evFn lay (VE120 N zq143 zq138 zq140) Try.f120 [.v (.agg [.int .i64 a0, .int .i64 a1]), .v (.one (.int .i64 a2)), .v (.one (.int .i64 a3))] K = zb158 N zq143 zq140 a0 a1 a2 a3 (fun z4 z5 => K (.v (.agg [.int .i64 z4, .int .i64 z5]))) := by kernel_rfl
theorem e120_0 {β : Type} (N : Nat)  (a0 : Int) (a1 : Int) (a2 : Int) (a3 : Int) (K : TV → Option β) : evFn lay (E120 N) Try.f120 [.v (.agg [.int .i64 a0, .int .i64 a1]), .v (.one (.int .i64 a2)), .v (.one (.int .i64 a3))] K = zj158 N a0 a1 a2 a3 (fun z4 z5 => K (.v (.agg [.int .i64 z4, .int .i64 z5]))) := (ve120_0 N (zj143 N) (zj138 N) (zj140 N) a0 a1 a2 a3 K).trans (zt158 N a0 a1 a2 a3 (fun z4 z5 => K (.v (.agg [.int .i64 z4, .int .i64 z5])))).symm
theorem o120 {β : Type} (N : Nat) : SpecOK (β := β) inv Try.prog 120 (S120 N) := by
  refine spec_of lay_ok mixed (E := E120 N) (specs_loops (specs_cons (o115 N) (specs_cons (o158 N) specs_nil))) muts_nil gs_nil Try.func120 (by kernel_rfl) 0 (by kernel_rfl) trivial fun args K r h => ?_
  unfold S120 VS120 at h
  split at h
  · exact (e120_0 N _ _ _ _ _).trans h
  · cases h
def VS85 {β : Type} (N : Nat) (zq159 : (a0 : Int) → (a1 : Int) → (a2 : Int) → (k : Bool → Option β) → Option β) : Rv.Spec β := fun args K => match args with
  | [.v (.agg [.int .i64 a0, .int .i64 a1]), .v (.one (.int .i64 a2))] => zq159 a0 a1 a2 (fun z3 => K (.v (.one (.bool z3))))
  | _ => none
def S85 {β : Type} (N : Nat) : Rv.Spec β := VS85 N (zj159 N)
def VE85 {β : Type} (N : Nat) (zq158 : (a0 : Int) → (a1 : Int) → (a2 : Int) → (a3 : Int) → (k : Int → Int → Option β) → Option β) : Env β := ⟨[(120, VS120 N zq158)], [], [], [], ⟨[], [], [], [61]⟩⟩
def E85 {β : Type} (N : Nat) : Env β := VE85 N (zj158 N)
def zb159 {β : Type} (N : Nat) (zq158 : (a0 : Int) → (a1 : Int) → (a2 : Int) → (a3 : Int) → (k : Int → Int → Option β) → Option β) (a0 : Int) (a1 : Int) (a2 : Int) (k : Bool → Option β) : Option β :=
zq158 a0 a1 a2 0 fun r4 r5 =>
zq158 a0 a1 a2 1 fun r6 r7 =>
k ((!((r4 == r6) && (r5 == r7))))
theorem zt159 {β : Type} (N : Nat) (a0 : Int) (a1 : Int) (a2 : Int) (k : Bool → Option β) : zj159 N a0 a1 a2 k = zb159 N (zj158 N) a0 a1 a2 k := by
  unfold zj159 zb159
  rfl
theorem ve85_0 {β : Type} (N : Nat) (zq158 : (a0 : Int) → (a1 : Int) → (a2 : Int) → (a3 : Int) → (k : Int → Int → Option β) → Option β)  (a0 : Int) (a1 : Int) (a2 : Int) (K : TV → Option β) : evFn lay (VE85 N zq158) Try.f85 [.v (.agg [.int .i64 a0, .int .i64 a1]), .v (.one (.int .i64 a2))] K = zb159 N zq158 a0 a1 a2 (fun z3 => K (.v (.one (.bool z3)))) := by kernel_rfl
theorem e85_0 {β : Type} (N : Nat)  (a0 : Int) (a1 : Int) (a2 : Int) (K : TV → Option β) : evFn lay (E85 N) Try.f85 [.v (.agg [.int .i64 a0, .int .i64 a1]), .v (.one (.int .i64 a2))] K = zj159 N a0 a1 a2 (fun z3 => K (.v (.one (.bool z3)))) := (ve85_0 N (zj158 N) a0 a1 a2 K).trans (zt159 N a0 a1 a2 (fun z3 => K (.v (.one (.bool z3))))).symm
theorem o85 {β : Type} (N : Nat) : SpecOK (β := β) inv Try.prog 85 (S85 N) := by
  refine spec_of lay_ok mixed (E := E85 N) (specs_loops (specs_cons (o120 N) specs_nil)) muts_nil gs_nil Try.func85 (by kernel_rfl) 0 (by kernel_rfl) trivial fun args K r h => ?_
  unfold S85 VS85 at h
  split at h
  · exact (e85_0 N _ _ _ _).trans h
  · cases h
def VS35 {β : Type} (N : Nat) (zq162 : (a0 : Int) → (a1 : Int) → (k : List Int → Option β) → Option β) : Rv.Spec β := fun args K => match args with
  | [.v (.agg [.int .i64 a0, .int .i64 a1])] => zq162 a0 a1 (fun z2 => K (.v (.one (.sl 3 (.ints .i64 z2)))))
  | _ => none
def S35 {β : Type} (N : Nat) : Rv.Spec β := VS35 N (zj162 N)
def h35_0_0  (v0 : Int) (v1 : Int) (v2 : Int) (v3 : Int) (v4 : List Int) : St := ⟨tund :: .v (.one (.ptr 0 0)) :: tund :: .v (.one (.row 1)) :: tund :: tund :: tund :: tund :: tund :: .v (.one (.int .i64 v0)) :: .v (.one (.int .i64 v1)) :: tund :: tund :: tund :: tund :: tund :: tund :: tund :: tund :: tund :: tund :: tund :: [], [.cells 27 [.int .i64 v2, .int .i64 v3], .row 3 (.ints .i64 v4)]⟩
def x35_0_0_k0  (y0 : List Int) : St := ⟨tund :: tund :: tund :: .v (.one (.row 0)) :: tund :: tund :: tund :: tund :: tund :: tund :: tund :: tund :: tund :: tund :: tund :: tund :: tund :: tund :: tund :: tund :: tund :: tund :: [], [.row 3 (.ints .i64 y0)]⟩
theorem fl35_0_0 (s : St) : refSt (h35_0_0 0 0 0 0 []) s = h35_0_0 (intS (oneA (vT (nx tund s.tmps 9)))) (intS (oneA (vT (nx tund s.tmps 10)))) (intS (nx .und (cellsB (nx .dead s.blks 0)) 0)) (intS (nx .und (cellsB (nx .dead s.blks 0)) 1)) (rInts (rowB_ (nx .dead s.blks 1))) := by kernel_rfl
def VLS35_0 {β : Type} (N : Nat) (zq161 : Nat → Int → Int → Int → Int → List Int → (List Int → Option β) → Option β) : LSpec β := fun s K => cond (shpSt (h35_0_0 0 0 0 0 []) s) ((fun (v0 : Int) (v1 : Int) (v2 : Int) (v3 : Int) (v4 : List Int) => zq161  N v0 v1 v2 v3 v4 (fun y0 => K (.exit 0) (x35_0_0_k0  y0))) (intS (oneA (vT (nx tund s.tmps 9)))) (intS (oneA (vT (nx tund s.tmps 10)))) (intS (nx .und (cellsB (nx .dead s.blks 0)) 0)) (intS (nx .und (cellsB (nx .dead s.blks 0)) 1)) (rInts (rowB_ (nx .dead s.blks 1)))) (none)
def LS35_0 {β : Type} (N : Nat) : LSpec β := VLS35_0 N (zj161 N)
def VE35 {β : Type} (N : Nat) (zq80 : (a0 : Int) → (a1 : Int) → (k : Bool → Option β) → Option β) (zq159 : (a0 : Int) → (a1 : Int) → (a2 : Int) → (k : Bool → Option β) → Option β) (zq161 : Nat → Int → Int → Int → Int → List Int → (List Int → Option β) → Option β) : Env β := ⟨[(82, VS82 N zq80), (85, VS85 N zq159)], [], [(0, VLS35_0 N zq161)], [], ⟨[], [], [], [61]⟩⟩
def E35 {β : Type} (N : Nat) : Env β := VE35 N (zj80 N) (zj159 N) (zj161 N)
def zb160 {β : Type} (N : Nat) (zq159 : (a0 : Int) → (a1 : Int) → (a2 : Int) → (k : Bool → Option β) → Option β)  (v0 : Int) (v1 : Int) (v2 : Int) (v3 : Int) (v4 : List Int) (rec_ : Int → Int → Int → Int → List Int → Option β) (k0 : List Int → Option β) : Option β :=
(cond ((decide (v1 < v0)))
(zq159 v2 v3 v1 fun r4 =>
(cond r4
((gd ((decide ((v4.length + ((([] : List Int) ++ [v1])).length) * 8 ≤ 140737488355328)))
(rec_ v0 ((w64 (v1 + 1))) v2 v3 ((v4 ++ (([] : List Int) ++ [v1]))))))
(rec_ v0 ((w64 (v1 + 1))) v2 v3 v4)))
(k0 v4))
theorem zt160 {β : Type} (N : Nat)  (v0 : Int) (v1 : Int) (v2 : Int) (v3 : Int) (v4 : List Int) (rec_ : Int → Int → Int → Int → List Int → Option β) (k0 : List Int → Option β) : zj160 N v0 v1 v2 v3 v4 rec_ k0 = zb160 N (zj159 N) v0 v1 v2 v3 v4 rec_ k0 := by
  unfold zj160 zb160
  rfl
theorem vst35_0_0 {β : Type} (N : Nat) (zq80 : (a0 : Int) → (a1 : Int) → (k : Bool → Option β) → Option β) (zq159 : (a0 : Int) → (a1 : Int) → (a2 : Int) → (k : Bool → Option β) → Option β) (zq161 : Nat → Int → Int → Int → Int → List Int → (List Int → Option β) → Option β)  (v0 : Int) (v1 : Int) (v2 : Int) (v3 : Int) (v4 : List Int) (rec_ : St → Option β) (K : Exit → St → Option β) :
    ev lay (VE35 N zq80 zq159 zq161) (retMask Try.f35) (lp Try.f35 0).body (lp Try.f35 0).ex ((lp Try.f35 0).lv (retMask Try.f35)) (h35_0_0  v0 v1 v2 v3 v4) (nextR (fun s' => rec_ (s'.tidy ((lp Try.f35 0).lv (retMask Try.f35)))) K) = zb160 N zq159  v0 v1 v2 v3 v4 (fun v0 v1 v2 v3 v4 => rec_ (h35_0_0  v0 v1 v2 v3 v4)) (fun y0 => K (.exit 0) (x35_0_0_k0  y0)) := by kernel_rfl
theorem st35_0_0 {β : Type} (N : Nat)  (v0 : Int) (v1 : Int) (v2 : Int) (v3 : Int) (v4 : List Int) (rec_ : St → Option β) (K : Exit → St → Option β) :
    ev lay (E35 N) (retMask Try.f35) (lp Try.f35 0).body (lp Try.f35 0).ex ((lp Try.f35 0).lv (retMask Try.f35)) (h35_0_0  v0 v1 v2 v3 v4) (nextR (fun s' => rec_ (s'.tidy ((lp Try.f35 0).lv (retMask Try.f35)))) K) = zj160 N  v0 v1 v2 v3 v4 (fun v0 v1 v2 v3 v4 => rec_ (h35_0_0  v0 v1 v2 v3 v4)) (fun y0 => K (.exit 0) (x35_0_0_k0  y0)) := (vst35_0_0 N (zj80 N) (zj159 N) (zj161 N) v0 v1 v2 v3 v4 rec_ K).trans (zt160 N  v0 v1 v2 v3 v4 (fun v0 v1 v2 v3 v4 => rec_ (h35_0_0  v0 v1 v2 v3 v4)) (fun y0 => K (.exit 0) (x35_0_0_k0  y0))).symm
theorem ro35_0_0 {β : Type} (N : Nat)  (K : Exit → St → Option β) : ∀ (F : Nat) (v0 : Int) (v1 : Int) (v2 : Int) (v3 : Int) (v4 : List Int), (lp Try.f35 0).rounds lay (E35 N) (retMask Try.f35) F (h35_0_0  v0 v1 v2 v3 v4) K = zj161 N  F v0 v1 v2 v3 v4 (fun y0 => K (.exit 0) (x35_0_0_k0  y0)) := by
  intro F
  induction F with
  | zero => intros; rfl
  | succ F ih =>
    intros
    rw [rounds_next]
    refine (st35_0_0 N  _ _ _ _ _ (fun s => (lp Try.f35 0).rounds lay (E35 N) (retMask Try.f35) F s K) K).trans ?_
    simp only [ih]
    rfl
theorem lk35_0 {β : Type} (N : Nat) : lookL (E35 (β := β) N).loops (lp Try.f35 0).id = LS35_0 N := by kernel_rfl
theorem rk35_0 {β : Type} (N : Nat) : RoundsOK lay (E35 (β := β) N) (retMask Try.f35) (lp Try.f35 0) := by
  intro s K r h
  rw [lk35_0] at h
  unfold LS35_0 VLS35_0 at h
  cases hb : shpSt (h35_0_0 0 0 0 0 []) s with
  | true =>
    rw [hb, cond_true] at h
    exact ⟨N, by rw [← shpSt_ref hb, fl35_0_0 s]; exact (ro35_0_0 N  K N (intS (oneA (vT (nx tund s.tmps 9)))) (intS (oneA (vT (nx tund s.tmps 10)))) (intS (nx .und (cellsB (nx .dead s.blks 0)) 0)) (intS (nx .und (cellsB (nx .dead s.blks 0)) 1)) (rInts (rowB_ (nx .dead s.blks 1)))).trans h⟩
  | false =>
  rw [hb, cond_false] at h
  clear hb
  cases h
def zb162 {β : Type} (N : Nat) (zq80 : (a0 : Int) → (a1 : Int) → (k : Bool → Option β) → Option β) (zq161 : Nat → Int → Int → Int → Int → List Int → (List Int → Option β) → Option β) (a0 : Int) (a1 : Int) (k : List Int → Option β) : Option β :=
zq80 a0 a1 fun r3 =>
(cond (!r3)
(k (([] : List Int)))
(zq161  N a0 0 a0 a1 (([] : List Int)) (fun e5_0 =>
k e5_0)))
theorem zt162 {β : Type} (N : Nat) (a0 : Int) (a1 : Int) (k : List Int → Option β) : zj162 N a0 a1 k = zb162 N (zj80 N) (zj161 N) a0 a1 k := by
  unfold zj162 zb162
  rfl
theorem ve35_0 {β : Type} (N : Nat) (zq80 : (a0 : Int) → (a1 : Int) → (k : Bool → Option β) → Option β) (zq159 : (a0 : Int) → (a1 : Int) → (a2 : Int) → (k : Bool → Option β) → Option β) (zq161 : Nat → Int → Int → Int → Int → List Int → (List Int → Option β) → Option β)  (a0 : Int) (a1 : Int) (K : TV → Option β) : evFn lay (VE35 N zq80 zq159 zq161) Try.f35 [.v (.agg [.int .i64 a0, .int .i64 a1])] K = zb162 N zq80 zq161 a0 a1 (fun z2 => K (.v (.one (.sl 3 (.ints .i64 z2))))) := by kernel_rfl
theorem e35_0 {β : Type} (N : Nat)  (a0 : Int) (a1 : Int) (K : TV → Option β) : evFn lay (E35 N) Try.f35 [.v (.agg [.int .i64 a0, .int .i64 a1])] K = zj162 N a0 a1 (fun z2 => K (.v (.one (.sl 3 (.ints .i64 z2))))) := (ve35_0 N (zj80 N) (zj159 N) (zj161 N) a0 a1 K).trans (zt162 N a0 a1 (fun z2 => K (.v (.one (.sl 3 (.ints .i64 z2)))))).symm
theorem o35 {β : Type} (N : Nat) : SpecOK (β := β) inv Try.prog 35 (S35 N) := by
  refine spec_of lay_ok mixed (E := E35 N) (specs_loops (specs_cons (o82 N) (specs_cons (o85 N) specs_nil))) muts_nil gs_nil Try.func35 (by kernel_rfl) 1 (by kernel_rfl) ⟨trivial, rk35_0 N⟩ fun args K r h => ?_
  unfold S35 VS35 at h
  split at h
  · exact (e35_0 N _ _ _).trans h
  · cases h
def VS64 {β : Type} (N : Nat) (zq163 : (a0 : ByteArray) → (a1 : Int) → (a2 : Int) → (k : Bool → Option β) → Option β) : Rv.Spec β := fun args K => match args with
  | [.v (.one (.str a0)), .v (.agg [.int .i64 a1, .int .i64 a2])] => zq163 a0 a1 a2 (fun z3 => K (.v (.one (.bool z3))))
  | _ => none
def S64 {β : Type} (N : Nat) : Rv.Spec β := VS64 N (zj163 N)
def VE64 {β : Type} (N : Nat) (zq81 : (a0 : Int) → (a1 : Int) → (a2 : Int) → (k : Bool → Option β) → Option β) (zq157 : (a0 : ByteArray) → (c0 : Int) → (c1 : Int) → (k : Int → Option β) → Option β) (zq116 : (a0 : Int) → (a1 : Int) → (a2 : Int) → (k : Int → Option β) → Option β) (zq162 : (a0 : Int) → (a1 : Int) → (k : List Int → Option β) → Option β) (zq79 : (a0 : Int) → (a1 : Int) → (k : Int → Option β) → Option β) : Env β := ⟨[(51, VS51 N zq81), (103, VS103 N zq157), (105, VS105 N zq116), (35, VS35 N zq162), (96, VS96 N zq79)], [], [], [], ⟨[], [], [], [61]⟩⟩
def E64 {β : Type} (N : Nat) : Env β := VE64 N (zj81 N) (zj157 N) (zj116 N) (zj162 N) (zj79 N)
def zb163 {β : Type} (N : Nat) (zq81 : (a0 : Int) → (a1 : Int) → (a2 : Int) → (k : Bool → Option β) → Option β) (zq157 : (a0 : ByteArray) → (c0 : Int) → (c1 : Int) → (k : Int → Option β) → Option β) (zq116 : (a0 : Int) → (a1 : Int) → (a2 : Int) → (k : Int → Option β) → Option β) (zq162 : (a0 : Int) → (a1 : Int) → (k : List Int → Option β) → Option β) (zq79 : (a0 : Int) → (a1 : Int) → (k : Int → Option β) → Option β) (a0 : ByteArray) (a1 : Int) (a2 : Int) (k : Bool → Option β) : Option β :=
zq81 a1 a2 4 fun r4 =>
(cond (!r4)
(k false)
(zq157 ((strOf [115, 101, 110, 115, 105, 116, 105, 118, 105, 116, 121])) a1 a2 fun r5 =>
zq157 ((strOf [98, 108, 111, 99, 107, 115])) a1 a2 fun r6 =>
zq157 ((strOf [99, 101, 114, 116, 105, 102, 105, 99, 97, 116, 101])) a1 a2 fun r7 =>
zq157 ((strOf [100, 101, 112, 116, 104])) a1 a2 fun r8 =>
(cond ((a0.toList == ((strOf [111, 114, 100, 101, 114])).toList))
((cond ((decide (r5 ≤ r6)))
((cond ((decide (r6 ≤ r7)))
((cond ((decide (r7 ≤ r8)))
(zq157 ((strOf [100, 101, 103, 114, 101, 101])) a1 a2 fun r9 =>
k ((decide (r9 ≤ r8))))
(k false)))
(k false)))
(k false)))
((cond ((a0.toList == ((strOf [112, 114, 111, 100, 117, 99, 116])).toList))
(zq116 a1 a2 0 fun r10 =>
zq116 a1 a2 1 fun r11 =>
k ((decide (r8 ≤ (w64 (r10 * r11))))))
((cond ((a0.toList == ((strOf [104, 117, 97, 110, 103])).toList))
(zq157 ((strOf [100, 101, 103, 114, 101, 101])) a1 a2 fun r12 =>
k ((decide (r12 ≤ (w64 (r5 * r5))))))
((cond ((a0.toList == ((strOf [98, 108, 111, 99, 107, 115])).toList))
((cond ((decide (r7 ≤ (w64 (r5 * r6)))))
(k ((decide (r8 ≤ (w64 ((w64 (r6 * r6)) * r6))))))
(k false)))
((cond ((a0.toList == ((strOf [100, 101, 103, 114, 101, 101, 115])).toList))
(zq157 ((strOf [100, 101, 103, 114, 101, 101, 50])) a1 a2 fun r13 =>
zq157 ((strOf [100, 101, 103, 114, 101, 101])) a1 a2 fun r14 =>
k ((decide (r13 ≤ r14))))
((cond ((a0.toList == ((strOf [118, 97, 114, 105, 97, 98, 108, 101, 115])).toList))
(zq162 a1 a2 fun r15 =>
(cond ((decide (r8 ≤ (r15.length : Int))))
((cond (((r15.length : Int) == 0))
(zq157 ((strOf [105, 110, 102, 108, 117, 101, 110, 99, 101])) a1 a2 fun r16 =>
zq79 a1 a2 fun r17 =>
k ((decide (r16 ≤ (w64 (r5 * r17))))))
((cond ((decide (r5 > 0)))
(zq157 ((strOf [105, 110, 102, 108, 117, 101, 110, 99, 101])) a1 a2 fun r18 =>
zq79 a1 a2 fun r19 =>
k ((decide (r18 ≤ (w64 (r5 * r19))))))
(k false)))))
(k false)))
(k false))))))))))))))
theorem zt163 {β : Type} (N : Nat) (a0 : ByteArray) (a1 : Int) (a2 : Int) (k : Bool → Option β) : zj163 N a0 a1 a2 k = zb163 N (zj81 N) (zj157 N) (zj116 N) (zj162 N) (zj79 N) a0 a1 a2 k := by
  unfold zj163 zb163
  rfl
theorem ve64_0 {β : Type} (N : Nat) (zq81 : (a0 : Int) → (a1 : Int) → (a2 : Int) → (k : Bool → Option β) → Option β) (zq157 : (a0 : ByteArray) → (c0 : Int) → (c1 : Int) → (k : Int → Option β) → Option β) (zq116 : (a0 : Int) → (a1 : Int) → (a2 : Int) → (k : Int → Option β) → Option β) (zq162 : (a0 : Int) → (a1 : Int) → (k : List Int → Option β) → Option β) (zq79 : (a0 : Int) → (a1 : Int) → (k : Int → Option β) → Option β)  (a0 : ByteArray) (a1 : Int) (a2 : Int) (K : TV → Option β) : evFn lay (VE64 N zq81 zq157 zq116 zq162 zq79) Try.f64 [.v (.one (.str a0)), .v (.agg [.int .i64 a1, .int .i64 a2])] K = zb163 N zq81 zq157 zq116 zq162 zq79 a0 a1 a2 (fun z3 => K (.v (.one (.bool z3)))) := by kernel_rfl
theorem e64_0 {β : Type} (N : Nat)  (a0 : ByteArray) (a1 : Int) (a2 : Int) (K : TV → Option β) : evFn lay (E64 N) Try.f64 [.v (.one (.str a0)), .v (.agg [.int .i64 a1, .int .i64 a2])] K = zj163 N a0 a1 a2 (fun z3 => K (.v (.one (.bool z3)))) := (ve64_0 N (zj81 N) (zj157 N) (zj116 N) (zj162 N) (zj79 N) a0 a1 a2 K).trans (zt163 N a0 a1 a2 (fun z3 => K (.v (.one (.bool z3))))).symm
theorem o64 {β : Type} (N : Nat) : SpecOK (β := β) inv Try.prog 64 (S64 N) := by
  refine spec_of lay_ok mixed (E := E64 N) (specs_loops (specs_cons (o51 N) (specs_cons (o103 N) (specs_cons (o105 N) (specs_cons (o35 N) (specs_cons (o96 N) specs_nil)))))) muts_nil gs_nil Try.func64 (by kernel_rfl) 0 (by kernel_rfl) trivial fun args K r h => ?_
  unfold S64 VS64 at h
  split at h
  · exact (e64_0 N _ _ _ _).trans h
  · cases h
def VS63 {β : Type} (N : Nat) (zq164 : (a0 : ByteArray) → (c0 : Int) → (c1 : Int) → (k : Bool → Option β) → Option β) : Rv.Spec β := fun args K => match args with
  | [.v (.one (.str a0)), .v (.one (.cref [.int .i64 c0, .int .i64 c1] 0))] => zq164 a0 c0 c1 (fun z1 => K (.v (.one (.bool z1))))
  | _ => none
def S63 {β : Type} (N : Nat) : Rv.Spec β := VS63 N (zj164 N)
def VE63 {β : Type} (N : Nat) (zq163 : (a0 : ByteArray) → (a1 : Int) → (a2 : Int) → (k : Bool → Option β) → Option β) : Env β := ⟨[(64, VS64 N zq163)], [], [], [], ⟨[], [], [], [61]⟩⟩
def E63 {β : Type} (N : Nat) : Env β := VE63 N (zj163 N)
def zb164 {β : Type} (N : Nat) (zq163 : (a0 : ByteArray) → (a1 : Int) → (a2 : Int) → (k : Bool → Option β) → Option β) (a0 : ByteArray) (c0 : Int) (c1 : Int) (k : Bool → Option β) : Option β :=
zq163 a0 c0 c1 fun r2 =>
k r2
theorem zt164 {β : Type} (N : Nat) (a0 : ByteArray) (c0 : Int) (c1 : Int) (k : Bool → Option β) : zj164 N a0 c0 c1 k = zb164 N (zj163 N) a0 c0 c1 k := by
  unfold zj164 zb164
  rfl
theorem ve63_0 {β : Type} (N : Nat) (zq163 : (a0 : ByteArray) → (a1 : Int) → (a2 : Int) → (k : Bool → Option β) → Option β)  (a0 : ByteArray) (c0 : Int) (c1 : Int) (K : TV → Option β) : evFn lay (VE63 N zq163) Try.f63 [.v (.one (.str a0)), .v (.one (.cref [.int .i64 c0, .int .i64 c1] 0))] K = zb164 N zq163 a0 c0 c1 (fun z1 => K (.v (.one (.bool z1)))) := by kernel_rfl
theorem e63_0 {β : Type} (N : Nat)  (a0 : ByteArray) (c0 : Int) (c1 : Int) (K : TV → Option β) : evFn lay (E63 N) Try.f63 [.v (.one (.str a0)), .v (.one (.cref [.int .i64 c0, .int .i64 c1] 0))] K = zj164 N a0 c0 c1 (fun z1 => K (.v (.one (.bool z1)))) := (ve63_0 N (zj163 N) a0 c0 c1 K).trans (zt164 N a0 c0 c1 (fun z1 => K (.v (.one (.bool z1))))).symm
theorem o63 {β : Type} (N : Nat) : SpecOK (β := β) inv Try.prog 63 (S63 N) := by
  refine spec_of lay_ok mixed (E := E63 N) (specs_loops (specs_cons (o64 N) specs_nil)) muts_nil gs_nil Try.func63 (by kernel_rfl) 0 (by kernel_rfl) trivial fun args K r h => ?_
  unfold S63 VS63 at h
  split at h
  · exact (e63_0 N _ _ _ _).trans h
  · cases h
def VS102 {β : Type} (N : Nat) (zq167 : (a0 : List ByteArray) → (a1 : (ByteArray → (Bool → Option β) → Option β)) → (k : Int → Option β) → Option β) (zq164 : (a0 : ByteArray) → (c0 : Int) → (c1 : Int) → (k : Bool → Option β) → Option β) : Rv.Spec β := fun args K => match args with
  | [.v (.one (.sl 9 (.strs a0))), .v (.one (.dfn 63 [([.int .i64 q0, .int .i64 q1], 0)]))] => zq167 a0 (fun x0 k => zq164 x0 q0 q1 k) (fun z2 => K (.v (.one (.int .i64 z2))))
  | _ => none
def S102 {β : Type} (N : Nat) : Rv.Spec β := VS102 N (zj167 N) (zj164 N)
def h102_0_0 (q0 : Int) (q1 : Int) (v0 : List ByteArray) (v1 : Int) (v2 : Int) : St := ⟨.v (.one (.sl 9 (.strs v0))) :: .v (.one (.dfn 63 [([.int .i64 q0, .int .i64 q1], 0)])) :: tund :: tund :: tund :: tund :: tund :: .v (.one (.int .i64 v1)) :: .v (.one (.int .i64 v2)) :: tund :: tund :: tund :: tund :: tund :: tund :: tund :: tund :: tund :: tund :: [], []⟩
def x102_0_0_k0 (q0 : Int) (q1 : Int) (y0 : Int) : St := ⟨tund :: tund :: tund :: tund :: .v (.one (.int .i64 y0)) :: tund :: tund :: tund :: tund :: tund :: tund :: tund :: tund :: tund :: tund :: tund :: tund :: tund :: tund :: [], []⟩
def x102_0_0_k1 (q0 : Int) (q1 : Int)  : St := ⟨tund :: tund :: tund :: tund :: tund :: tund :: tund :: tund :: tund :: tund :: tund :: tund :: tund :: tund :: tund :: tund :: tund :: tund :: tund :: [], []⟩
theorem fl102_0_0 (s : St) : refSt (h102_0_0 0 0 [] 0 0) s = h102_0_0 (intF (nx .no (nx ([], 0) (dfnS (oneA (vT (nx tund s.tmps 1)))) 0).1 0)) (intF (nx .no (nx ([], 0) (dfnS (oneA (vT (nx tund s.tmps 1)))) 0).1 1)) (rStrs (rowV (oneA (vT (nx tund s.tmps 0))))) (intS (oneA (vT (nx tund s.tmps 7)))) (intS (oneA (vT (nx tund s.tmps 8)))) := by kernel_rfl
def VLS102_0 {β : Type} (N : Nat) (zq166 : (a1 : (ByteArray → (Bool → Option β) → Option β)) → Nat → List ByteArray → Int → Int → (Int → Option β) → (Option β) → Option β) (zq164 : (a0 : ByteArray) → (c0 : Int) → (c1 : Int) → (k : Bool → Option β) → Option β) : LSpec β := fun s K => cond (shpSt (h102_0_0 0 0 [] 0 0) s) ((fun (q0 : Int) (q1 : Int) (v0 : List ByteArray) (v1 : Int) (v2 : Int) => zq166 (fun x0 k => zq164 x0 q0 q1 k) N v0 v1 v2 (fun y0 => K .ret (x102_0_0_k0 q0 q1 y0)) (K (.exit 0) (x102_0_0_k1 q0 q1 ))) (intF (nx .no (nx ([], 0) (dfnS (oneA (vT (nx tund s.tmps 1)))) 0).1 0)) (intF (nx .no (nx ([], 0) (dfnS (oneA (vT (nx tund s.tmps 1)))) 0).1 1)) (rStrs (rowV (oneA (vT (nx tund s.tmps 0))))) (intS (oneA (vT (nx tund s.tmps 7)))) (intS (oneA (vT (nx tund s.tmps 8))))) (none)
def LS102_0 {β : Type} (N : Nat) : LSpec β := VLS102_0 N (zj166 N) (zj164 N)
def VE102 {β : Type} (N : Nat) (zq164 : (a0 : ByteArray) → (c0 : Int) → (c1 : Int) → (k : Bool → Option β) → Option β) (zq166 : (a1 : (ByteArray → (Bool → Option β) → Option β)) → Nat → List ByteArray → Int → Int → (Int → Option β) → (Option β) → Option β) : Env β := ⟨[(63, VS63 N zq164)], [], [(0, VLS102_0 N zq166 zq164)], [], ⟨[], [], [], [61]⟩⟩
def E102 {β : Type} (N : Nat) : Env β := VE102 N (zj164 N) (zj166 N)
def zb165 {β : Type} (N : Nat) (a1 : (ByteArray → (Bool → Option β) → Option β)) (v0 : List ByteArray) (v1 : Int) (v2 : Int) (rec_ : List ByteArray → Int → Int → Option β) (k0 : Int → Option β) (k1 : Option β) : Option β :=
(cond ((decide (v2 < v1)))
((gd ((decide (0 ≤ v2)))
((gd ((decide (v2 < (v0.length : Int))))
(a1 ((rd ByteArray.empty v0 v2)) fun r3 =>
(cond r3
(k0 v2)
(rec_ v0 v1 ((w64 (v2 + 1))))))))))
(k1 ))
theorem zt165 {β : Type} (N : Nat) (a1 : (ByteArray → (Bool → Option β) → Option β)) (v0 : List ByteArray) (v1 : Int) (v2 : Int) (rec_ : List ByteArray → Int → Int → Option β) (k0 : Int → Option β) (k1 : Option β) : zj165 N a1 v0 v1 v2 rec_ k0 k1 = zb165 N a1 v0 v1 v2 rec_ k0 k1 := by
  unfold zj165 zb165
  rfl
theorem vst102_0_0 {β : Type} (N : Nat) (zq164 : (a0 : ByteArray) → (c0 : Int) → (c1 : Int) → (k : Bool → Option β) → Option β) (zq166 : (a1 : (ByteArray → (Bool → Option β) → Option β)) → Nat → List ByteArray → Int → Int → (Int → Option β) → (Option β) → Option β) (q0 : Int) (q1 : Int) (v0 : List ByteArray) (v1 : Int) (v2 : Int) (rec_ : St → Option β) (K : Exit → St → Option β) :
    ev lay (VE102 N zq164 zq166) (retMask Try.f102) (lp Try.f102 0).body (lp Try.f102 0).ex ((lp Try.f102 0).lv (retMask Try.f102)) (h102_0_0 q0 q1 v0 v1 v2) (nextR (fun s' => rec_ (s'.tidy ((lp Try.f102 0).lv (retMask Try.f102)))) K) = zb165 N (fun x0 k => zq164 x0 q0 q1 k) v0 v1 v2 (fun v0 v1 v2 => rec_ (h102_0_0 q0 q1 v0 v1 v2)) (fun y0 => K .ret (x102_0_0_k0 q0 q1 y0)) (K (.exit 0) (x102_0_0_k1 q0 q1 )) := by kernel_rfl
theorem st102_0_0 {β : Type} (N : Nat) (q0 : Int) (q1 : Int) (v0 : List ByteArray) (v1 : Int) (v2 : Int) (rec_ : St → Option β) (K : Exit → St → Option β) :
    ev lay (E102 N) (retMask Try.f102) (lp Try.f102 0).body (lp Try.f102 0).ex ((lp Try.f102 0).lv (retMask Try.f102)) (h102_0_0 q0 q1 v0 v1 v2) (nextR (fun s' => rec_ (s'.tidy ((lp Try.f102 0).lv (retMask Try.f102)))) K) = zj165 N (fun x0 k => zj164 N x0 q0 q1 k) v0 v1 v2 (fun v0 v1 v2 => rec_ (h102_0_0 q0 q1 v0 v1 v2)) (fun y0 => K .ret (x102_0_0_k0 q0 q1 y0)) (K (.exit 0) (x102_0_0_k1 q0 q1 )) := (vst102_0_0 N (zj164 N) (zj166 N) q0 q1 v0 v1 v2 rec_ K).trans (zt165 N (fun x0 k => zj164 N x0 q0 q1 k) v0 v1 v2 (fun v0 v1 v2 => rec_ (h102_0_0 q0 q1 v0 v1 v2)) (fun y0 => K .ret (x102_0_0_k0 q0 q1 y0)) (K (.exit 0) (x102_0_0_k1 q0 q1 ))).symm
theorem ro102_0_0 {β : Type} (N : Nat) (q0 : Int) (q1 : Int) (K : Exit → St → Option β) : ∀ (F : Nat) (v0 : List ByteArray) (v1 : Int) (v2 : Int), (lp Try.f102 0).rounds lay (E102 N) (retMask Try.f102) F (h102_0_0 q0 q1 v0 v1 v2) K = zj166 N (fun x0 k => zj164 N x0 q0 q1 k) F v0 v1 v2 (fun y0 => K .ret (x102_0_0_k0 q0 q1 y0)) (K (.exit 0) (x102_0_0_k1 q0 q1 )) := by
  intro F
  induction F with
  | zero => intros; rfl
  | succ F ih =>
    intros
    rw [rounds_next]
    refine (st102_0_0 N q0 q1 _ _ _ (fun s => (lp Try.f102 0).rounds lay (E102 N) (retMask Try.f102) F s K) K).trans ?_
    simp only [ih]
    rfl
theorem lk102_0 {β : Type} (N : Nat) : lookL (E102 (β := β) N).loops (lp Try.f102 0).id = LS102_0 N := by kernel_rfl
theorem rk102_0 {β : Type} (N : Nat) : RoundsOK lay (E102 (β := β) N) (retMask Try.f102) (lp Try.f102 0) := by
  intro s K r h
  rw [lk102_0] at h
  unfold LS102_0 VLS102_0 at h
  cases hb : shpSt (h102_0_0 0 0 [] 0 0) s with
  | true =>
    rw [hb, cond_true] at h
    exact ⟨N, by rw [← shpSt_ref hb, fl102_0_0 s]; exact (ro102_0_0 N (intF (nx .no (nx ([], 0) (dfnS (oneA (vT (nx tund s.tmps 1)))) 0).1 0)) (intF (nx .no (nx ([], 0) (dfnS (oneA (vT (nx tund s.tmps 1)))) 0).1 1)) K N (rStrs (rowV (oneA (vT (nx tund s.tmps 0))))) (intS (oneA (vT (nx tund s.tmps 7)))) (intS (oneA (vT (nx tund s.tmps 8))))).trans h⟩
  | false =>
  rw [hb, cond_false] at h
  clear hb
  cases h
def zb167 {β : Type} (N : Nat) (zq166 : (a1 : (ByteArray → (Bool → Option β) → Option β)) → Nat → List ByteArray → Int → Int → (Int → Option β) → (Option β) → Option β) (a0 : List ByteArray) (a1 : (ByteArray → (Bool → Option β) → Option β)) (k : Int → Option β) : Option β :=
zq166 a1 N a0 ((a0.length : Int)) 0 (fun e4_0 =>
k e4_0) (k (-1))
theorem zt167 {β : Type} (N : Nat) (a0 : List ByteArray) (a1 : (ByteArray → (Bool → Option β) → Option β)) (k : Int → Option β) : zj167 N a0 a1 k = zb167 N (zj166 N) a0 a1 k := by
  unfold zj167 zb167
  rfl
theorem ve102_0 {β : Type} (N : Nat) (zq164 : (a0 : ByteArray) → (c0 : Int) → (c1 : Int) → (k : Bool → Option β) → Option β) (zq166 : (a1 : (ByteArray → (Bool → Option β) → Option β)) → Nat → List ByteArray → Int → Int → (Int → Option β) → (Option β) → Option β) (q0 : Int) (q1 : Int) (a0 : List ByteArray) (K : TV → Option β) : evFn lay (VE102 N zq164 zq166) Try.f102 [.v (.one (.sl 9 (.strs a0))), .v (.one (.dfn 63 [([.int .i64 q0, .int .i64 q1], 0)]))] K = zb167 N zq166 a0 (fun x0 k => zq164 x0 q0 q1 k) (fun z2 => K (.v (.one (.int .i64 z2)))) := by kernel_rfl
theorem e102_0 {β : Type} (N : Nat) (q0 : Int) (q1 : Int) (a0 : List ByteArray) (K : TV → Option β) : evFn lay (E102 N) Try.f102 [.v (.one (.sl 9 (.strs a0))), .v (.one (.dfn 63 [([.int .i64 q0, .int .i64 q1], 0)]))] K = zj167 N a0 (fun x0 k => zj164 N x0 q0 q1 k) (fun z2 => K (.v (.one (.int .i64 z2)))) := (ve102_0 N (zj164 N) (zj166 N) q0 q1 a0 K).trans (zt167 N a0 (fun x0 k => zj164 N x0 q0 q1 k) (fun z2 => K (.v (.one (.int .i64 z2))))).symm
theorem o102 {β : Type} (N : Nat) : SpecOK (β := β) inv Try.prog 102 (S102 N) := by
  refine spec_of lay_ok mixed (E := E102 N) (specs_loops (specs_cons (o63 N) specs_nil)) muts_nil gs_nil Try.func102 (by kernel_rfl) 1 (by kernel_rfl) ⟨trivial, rk102_0 N⟩ fun args K r h => ?_
  unfold S102 VS102 at h
  split at h
  · exact (e102_0 N _ _ _ _).trans h
  · cases h
def VS61 {β : Type} (N : Nat) (zq170 : (a0 : List ByteArray) → (a1 : Int) → (a2 : Int) → (k0 : Int → Int → List ByteArray → Option β) → Option β) : GSpec β := fun args bl K => match args, bl with
  | [.v (.one (.row 0)), .v (.one (.fn 63 [(1, 0)]))], [.row 9 (.strs a0), .pcells 1 27 [.int .i64 a1, .int .i64 a2]] => zq170 a0 a1 a2 (fun y0 y1 y2 => K (.v (.one (.row 1))) [.pcells 1 27 [.int .i64 y0, .int .i64 y1], .row 9 (.strs y2)])
  | _, _ => none
def S61 {β : Type} (N : Nat) : GSpec β := VS61 N (zj170 N)
def h61_0_0  (v0 : Int) (v1 : Int) (v2 : Int) (v3 : Int) (v4 : List ByteArray) : St := ⟨.v (.one (.row 1)) :: .v (.one (.fn 63 [(0, 0)])) :: tund :: tund :: tund :: .v (.one (.int .i64 v0)) :: .v (.one (.int .i64 v1)) :: tund :: tund :: tund :: tund :: tund :: tund :: tund :: tund :: tund :: tund :: tund :: tund :: tund :: tund :: tund :: tund :: tund :: tund :: tund :: tund :: tund :: tund :: tund :: tund :: tund :: tund :: tund :: tund :: tund :: tund :: tund :: tund :: tund :: tund :: tund :: [], [.pcells 1 27 [.int .i64 v2, .int .i64 v3], .row 9 (.strs v4)]⟩
def x61_0_0_k0  (y0 : Int) (y1 : Int) (y2 : Int) (y3 : List ByteArray) : St := ⟨.v (.one (.row 1)) :: tund :: tund :: tund :: tund :: .v (.one (.int .i64 y0)) :: tund :: tund :: tund :: tund :: tund :: tund :: tund :: tund :: tund :: tund :: tund :: tund :: tund :: tund :: tund :: tund :: tund :: tund :: tund :: tund :: tund :: tund :: tund :: tund :: tund :: tund :: tund :: tund :: tund :: tund :: tund :: tund :: tund :: tund :: tund :: tund :: [], [.pcells 1 27 [.int .i64 y1, .int .i64 y2], .row 9 (.strs y3)]⟩
theorem fl61_0_0 (s : St) : refSt (h61_0_0 0 0 0 0 []) s = h61_0_0 (intS (oneA (vT (nx tund s.tmps 5)))) (intS (oneA (vT (nx tund s.tmps 6)))) (intS (nx .und (cellsB (nx .dead s.blks 0)) 0)) (intS (nx .und (cellsB (nx .dead s.blks 0)) 1)) (rStrs (rowB_ (nx .dead s.blks 1))) := by kernel_rfl
def VLS61_0 {β : Type} (N : Nat) (zq169 : Nat → Int → Int → Int → Int → List ByteArray → (Int → Int → Int → List ByteArray → Option β) → Option β) : LSpec β := fun s K => cond (shpSt (h61_0_0 0 0 0 0 []) s) ((fun (v0 : Int) (v1 : Int) (v2 : Int) (v3 : Int) (v4 : List ByteArray) => zq169  N v0 v1 v2 v3 v4 (fun y0 y1 y2 y3 => K (.exit 0) (x61_0_0_k0  y0 y1 y2 y3))) (intS (oneA (vT (nx tund s.tmps 5)))) (intS (oneA (vT (nx tund s.tmps 6)))) (intS (nx .und (cellsB (nx .dead s.blks 0)) 0)) (intS (nx .und (cellsB (nx .dead s.blks 0)) 1)) (rStrs (rowB_ (nx .dead s.blks 1)))) (none)
def LS61_0 {β : Type} (N : Nat) : LSpec β := VLS61_0 N (zj169 N)
def VE61 {β : Type} (N : Nat) (zq167 : (a0 : List ByteArray) → (a1 : (ByteArray → (Bool → Option β) → Option β)) → (k : Int → Option β) → Option β) (zq164 : (a0 : ByteArray) → (c0 : Int) → (c1 : Int) → (k : Bool → Option β) → Option β) (zq169 : Nat → Int → Int → Int → Int → List ByteArray → (Int → Int → Int → List ByteArray → Option β) → Option β) : Env β := ⟨[(102, VS102 N zq167 zq164), (63, VS63 N zq164)], [], [(0, VLS61_0 N zq169)], [], ⟨[], [], [], [61]⟩⟩
def E61 {β : Type} (N : Nat) : Env β := VE61 N (zj167 N) (zj164 N) (zj169 N)
def zb168 {β : Type} (N : Nat) (zq164 : (a0 : ByteArray) → (c0 : Int) → (c1 : Int) → (k : Bool → Option β) → Option β)  (v0 : Int) (v1 : Int) (v2 : Int) (v3 : Int) (v4 : List ByteArray) (rec_ : Int → Int → Int → Int → List ByteArray → Option β) (k0 : Int → Int → Int → List ByteArray → Option β) : Option β :=
(cond ((decide (v1 < (v4.length : Int))))
((gd ((decide (0 ≤ v1)))
((gd ((decide (v1 < (v4.length : Int))))
(zq164 ((rd ByteArray.empty v4 v1)) v2 v3 fun r7 =>
(cond (!r7)
((gd ((decide (0 ≤ v0)))
((gd ((decide (v0 < (v4.length : Int))))
(rec_ ((w64 (v0 + 1))) ((w64 (v1 + 1))) v2 v3 ((wr v4 v0 ((rd ByteArray.empty v4 v1)))))))))
(rec_ v0 ((w64 (v1 + 1))) v2 v3 v4)))))))
(k0 v0 v2 v3 v4))
theorem zt168 {β : Type} (N : Nat)  (v0 : Int) (v1 : Int) (v2 : Int) (v3 : Int) (v4 : List ByteArray) (rec_ : Int → Int → Int → Int → List ByteArray → Option β) (k0 : Int → Int → Int → List ByteArray → Option β) : zj168 N v0 v1 v2 v3 v4 rec_ k0 = zb168 N (zj164 N) v0 v1 v2 v3 v4 rec_ k0 := by
  unfold zj168 zb168
  rfl
theorem vst61_0_0 {β : Type} (N : Nat) (zq167 : (a0 : List ByteArray) → (a1 : (ByteArray → (Bool → Option β) → Option β)) → (k : Int → Option β) → Option β) (zq164 : (a0 : ByteArray) → (c0 : Int) → (c1 : Int) → (k : Bool → Option β) → Option β) (zq169 : Nat → Int → Int → Int → Int → List ByteArray → (Int → Int → Int → List ByteArray → Option β) → Option β)  (v0 : Int) (v1 : Int) (v2 : Int) (v3 : Int) (v4 : List ByteArray) (rec_ : St → Option β) (K : Exit → St → Option β) :
    ev lay (VE61 N zq167 zq164 zq169) (retMask Try.f61) (lp Try.f61 0).body (lp Try.f61 0).ex ((lp Try.f61 0).lv (retMask Try.f61)) (h61_0_0  v0 v1 v2 v3 v4) (nextR (fun s' => rec_ (s'.tidy ((lp Try.f61 0).lv (retMask Try.f61)))) K) = zb168 N zq164  v0 v1 v2 v3 v4 (fun v0 v1 v2 v3 v4 => rec_ (h61_0_0  v0 v1 v2 v3 v4)) (fun y0 y1 y2 y3 => K (.exit 0) (x61_0_0_k0  y0 y1 y2 y3)) := by kernel_rfl
theorem st61_0_0 {β : Type} (N : Nat)  (v0 : Int) (v1 : Int) (v2 : Int) (v3 : Int) (v4 : List ByteArray) (rec_ : St → Option β) (K : Exit → St → Option β) :
    ev lay (E61 N) (retMask Try.f61) (lp Try.f61 0).body (lp Try.f61 0).ex ((lp Try.f61 0).lv (retMask Try.f61)) (h61_0_0  v0 v1 v2 v3 v4) (nextR (fun s' => rec_ (s'.tidy ((lp Try.f61 0).lv (retMask Try.f61)))) K) = zj168 N  v0 v1 v2 v3 v4 (fun v0 v1 v2 v3 v4 => rec_ (h61_0_0  v0 v1 v2 v3 v4)) (fun y0 y1 y2 y3 => K (.exit 0) (x61_0_0_k0  y0 y1 y2 y3)) := (vst61_0_0 N (zj167 N) (zj164 N) (zj169 N) v0 v1 v2 v3 v4 rec_ K).trans (zt168 N  v0 v1 v2 v3 v4 (fun v0 v1 v2 v3 v4 => rec_ (h61_0_0  v0 v1 v2 v3 v4)) (fun y0 y1 y2 y3 => K (.exit 0) (x61_0_0_k0  y0 y1 y2 y3))).symm
theorem ro61_0_0 {β : Type} (N : Nat)  (K : Exit → St → Option β) : ∀ (F : Nat) (v0 : Int) (v1 : Int) (v2 : Int) (v3 : Int) (v4 : List ByteArray), (lp Try.f61 0).rounds lay (E61 N) (retMask Try.f61) F (h61_0_0  v0 v1 v2 v3 v4) K = zj169 N  F v0 v1 v2 v3 v4 (fun y0 y1 y2 y3 => K (.exit 0) (x61_0_0_k0  y0 y1 y2 y3)) := by
  intro F
  induction F with
  | zero => intros; rfl
  | succ F ih =>
    intros
    rw [rounds_next]
    refine (st61_0_0 N  _ _ _ _ _ (fun s => (lp Try.f61 0).rounds lay (E61 N) (retMask Try.f61) F s K) K).trans ?_
    simp only [ih]
    rfl
theorem lk61_0 {β : Type} (N : Nat) : lookL (E61 (β := β) N).loops (lp Try.f61 0).id = LS61_0 N := by kernel_rfl
theorem rk61_0 {β : Type} (N : Nat) : RoundsOK lay (E61 (β := β) N) (retMask Try.f61) (lp Try.f61 0) := by
  intro s K r h
  rw [lk61_0] at h
  unfold LS61_0 VLS61_0 at h
  cases hb : shpSt (h61_0_0 0 0 0 0 []) s with
  | true =>
    rw [hb, cond_true] at h
    exact ⟨N, by rw [← shpSt_ref hb, fl61_0_0 s]; exact (ro61_0_0 N  K N (intS (oneA (vT (nx tund s.tmps 5)))) (intS (oneA (vT (nx tund s.tmps 6)))) (intS (nx .und (cellsB (nx .dead s.blks 0)) 0)) (intS (nx .und (cellsB (nx .dead s.blks 0)) 1)) (rStrs (rowB_ (nx .dead s.blks 1)))).trans h⟩
  | false =>
  rw [hb, cond_false] at h
  clear hb
  cases h
def zb170 {β : Type} (N : Nat) (zq167 : (a0 : List ByteArray) → (a1 : (ByteArray → (Bool → Option β) → Option β)) → (k : Int → Option β) → Option β) (zq164 : (a0 : ByteArray) → (c0 : Int) → (c1 : Int) → (k : Bool → Option β) → Option β) (zq169 : Nat → Int → Int → Int → Int → List ByteArray → (Int → Int → Int → List ByteArray → Option β) → Option β) (a0 : List ByteArray) (a1 : Int) (a2 : Int) (k0 : Int → Int → List ByteArray → Option β) : Option β :=
zq167 a0 (fun x0 k => zq164 x0 a1 a2 k) fun r6 =>
(cond ((r6 == (-1)))
(k0 a1 a2 a0)
(zq169  N r6 ((w64 (r6 + 1))) a1 a2 a0 (fun e8_0 e8_1 e8_2 e8_3 =>
(gd ((decide (0 ≤ e8_0)))
((gd ((decide (e8_0 < (e8_3.length : Int))))
((gd ((decide (0 ≤ e8_0)))
((gd ((decide (e8_0 ≤ (((clearF e8_3 e8_0)).length : Int))))
(k0 e8_1 e8_2 ((List.drop 0 (List.take (Int.toNat e8_0) ((clearF e8_3 e8_0))))))))))))))))
theorem zt170 {β : Type} (N : Nat) (a0 : List ByteArray) (a1 : Int) (a2 : Int) (k0 : Int → Int → List ByteArray → Option β) : zj170 N a0 a1 a2 k0 = zb170 N (zj167 N) (zj164 N) (zj169 N) a0 a1 a2 k0 := by
  unfold zj170 zb170
  rfl
theorem ve61_0 {β : Type} (N : Nat) (zq167 : (a0 : List ByteArray) → (a1 : (ByteArray → (Bool → Option β) → Option β)) → (k : Int → Option β) → Option β) (zq164 : (a0 : ByteArray) → (c0 : Int) → (c1 : Int) → (k : Bool → Option β) → Option β) (zq169 : Nat → Int → Int → Int → Int → List ByteArray → (Int → Int → Int → List ByteArray → Option β) → Option β) (a0 : List ByteArray) (a1 : Int) (a2 : Int) (K : TV → List Blk → Option β) : evFnG lay (VE61 N zq167 zq164 zq169) Try.f61 [.v (.one (.row 0)), .v (.one (.fn 63 [(1, 0)]))] [.row 9 (.strs a0), .pcells 1 27 [.int .i64 a1, .int .i64 a2]] K = zb170 N zq167 zq164 zq169 a0 a1 a2 (fun y0 y1 y2 => K (.v (.one (.row 1))) [.pcells 1 27 [.int .i64 y0, .int .i64 y1], .row 9 (.strs y2)]) := by kernel_rfl
theorem e61_0 {β : Type} (N : Nat) (a0 : List ByteArray) (a1 : Int) (a2 : Int) (K : TV → List Blk → Option β) : evFnG lay (E61 N) Try.f61 [.v (.one (.row 0)), .v (.one (.fn 63 [(1, 0)]))] [.row 9 (.strs a0), .pcells 1 27 [.int .i64 a1, .int .i64 a2]] K = zj170 N a0 a1 a2 (fun y0 y1 y2 => K (.v (.one (.row 1))) [.pcells 1 27 [.int .i64 y0, .int .i64 y1], .row 9 (.strs y2)]) := (ve61_0 N (zj167 N) (zj164 N) (zj169 N) a0 a1 a2 K).trans (zt170 N a0 a1 a2 (fun y0 y1 y2 => K (.v (.one (.row 1))) [.pcells 1 27 [.int .i64 y0, .int .i64 y1], .row 9 (.strs y2)])).symm
theorem o61 {β : Type} (N : Nat) : GOK (β := β) inv Try.prog 61 (S61 N) := by
  refine g_of lay_ok mixed (E := E61 N) (specs_loops (specs_cons (o102 N) (specs_cons (o63 N) specs_nil))) muts_nil gs_nil Try.func61 (by kernel_rfl) 1 (by kernel_rfl) ⟨trivial, rk61_0 N⟩ fun args bl K r h => ?_
  unfold S61 VS61 at h
  split at h
  · exact (e61_0 N _ _ _ _).trans h
  · cases h
def VS17 {β : Type} (N : Nat) (zq171 : (a0 : Int) → (a1 : Int) → (k : List ByteArray → Bool → Option β) → Option β) : Rv.Spec β := fun args K => match args with
  | [.v (.agg [.int .i64 a0, .int .i64 a1])] => zq171 a0 a1 (fun z2 z3 => K (.tup [.one (.sl 9 (.strs z2)), .one (.bool z3)]))
  | _ => none
def S17 {β : Type} (N : Nat) : Rv.Spec β := VS17 N (zj171 N)
def VE17 {β : Type} (N : Nat) (zq81 : (a0 : Int) → (a1 : Int) → (a2 : Int) → (k : Bool → Option β) → Option β) (zq82 : (k : List ByteArray → Option β) → Option β) (zq170 : (a0 : List ByteArray) → (a1 : Int) → (a2 : Int) → (k0 : Int → Int → List ByteArray → Option β) → Option β) : Env β := ⟨[(51, VS51 N zq81), (62, VS62 N zq82)], [], [], [(61, VS61 N zq170)], ⟨[], [], [], [61]⟩⟩
def E17 {β : Type} (N : Nat) : Env β := VE17 N (zj81 N) (zj82 N) (zj170 N)
def zb171 {β : Type} (N : Nat) (zq81 : (a0 : Int) → (a1 : Int) → (a2 : Int) → (k : Bool → Option β) → Option β) (zq82 : (k : List ByteArray → Option β) → Option β) (zq170 : (a0 : List ByteArray) → (a1 : Int) → (a2 : Int) → (k0 : Int → Int → List ByteArray → Option β) → Option β) (a0 : Int) (a1 : Int) (k : List ByteArray → Bool → Option β) : Option β :=
zq81 a0 a1 4 fun r4 =>
(cond (!r4)
(k (([] : List ByteArray)) false)
(zq82  fun r5 =>
zq170 r5 a0 a1 (fun r6_0 r6_1 r6_2 =>
k r6_2 true)))
theorem zt171 {β : Type} (N : Nat) (a0 : Int) (a1 : Int) (k : List ByteArray → Bool → Option β) : zj171 N a0 a1 k = zb171 N (zj81 N) (zj82 N) (zj170 N) a0 a1 k := by
  unfold zj171 zb171
  rfl
theorem ve17_0 {β : Type} (N : Nat) (zq81 : (a0 : Int) → (a1 : Int) → (a2 : Int) → (k : Bool → Option β) → Option β) (zq82 : (k : List ByteArray → Option β) → Option β) (zq170 : (a0 : List ByteArray) → (a1 : Int) → (a2 : Int) → (k0 : Int → Int → List ByteArray → Option β) → Option β)  (a0 : Int) (a1 : Int) (K : TV → Option β) : evFn lay (VE17 N zq81 zq82 zq170) Try.f17 [.v (.agg [.int .i64 a0, .int .i64 a1])] K = zb171 N zq81 zq82 zq170 a0 a1 (fun z2 z3 => K (.tup [.one (.sl 9 (.strs z2)), .one (.bool z3)])) := by kernel_rfl
theorem e17_0 {β : Type} (N : Nat)  (a0 : Int) (a1 : Int) (K : TV → Option β) : evFn lay (E17 N) Try.f17 [.v (.agg [.int .i64 a0, .int .i64 a1])] K = zj171 N a0 a1 (fun z2 z3 => K (.tup [.one (.sl 9 (.strs z2)), .one (.bool z3)])) := (ve17_0 N (zj81 N) (zj82 N) (zj170 N) a0 a1 K).trans (zt171 N a0 a1 (fun z2 z3 => K (.tup [.one (.sl 9 (.strs z2)), .one (.bool z3)]))).symm
theorem o17 {β : Type} (N : Nat) : SpecOK (β := β) inv Try.prog 17 (S17 N) := by
  refine spec_of lay_ok mixed (E := E17 N) (specs_loops (specs_cons (o51 N) (specs_cons (o62 N) specs_nil))) muts_nil (gs_cons (o61 N) gs_nil) Try.func17 (by kernel_rfl) 0 (by kernel_rfl) trivial fun args K r h => ?_
  unfold S17 VS17 at h
  split at h
  · exact (e17_0 N _ _ _).trans h
  · cases h
end Go.Proofs.Ytfdggelojmofmaa
