/- The functions that the claims reach answer as their texts do. -/
import Derived.Test.YtignjkbhdaiegaaDoorE0
namespace Go.Proofs.YtignjkbhdaiegaaDoor
open Go.Rv
set_option maxRecDepth 100000
set_option maxHeartbeats 2000000
set_option linter.unusedVariables false
def VS17 {β : Type} (N : Nat) (q_spec_l33Numbers : (a0 : List Int) → (k : ByteArray → Option β) → Option β) : Rv.Spec β := fun args K => match args with
  | [.v (.one (.sl 3 (.ints .i64 a0)))] => q_spec_l33Numbers a0 (fun z1 => K (.v (.one (.str z1))))
  | _ => none
def S17 {β : Type} (N : Nat) : Rv.Spec β := VS17 N (spec_l33Numbers N)
def h17_0_0  (v0 : List Int) (v1 : ByteArray) (v2 : Int) : St := ⟨.v (.one (.sl 3 (.ints .i64 v0))) :: .v (.one .und) :: .v (.one .und) :: .v (.one (.str v1)) :: .v (.one (.int .i64 v2)) :: .v (.one .und) :: .v (.one .und) :: .v (.one .und) :: .v (.one .und) :: .v (.one .und) :: .v (.one .und) :: .v (.one .und) :: .v (.one .und) :: .v (.one .und) :: .v (.one .und) :: .v (.one .und) :: .v (.one .und) :: .v (.one .und) :: .v (.one .und) :: .v (.one .und) :: .v (.one .und) :: .v (.one .und) :: .v (.one .und) :: .v (.one .und) :: .v (.one .und) :: .v (.one .und) :: .v (.one .und) :: .v (.one .und) :: .v (.one .und) :: .v (.one .und) :: .v (.one .und) :: .v (.one .und) :: [], []⟩
def x17_0_0_k0  (y0 : ByteArray) : St := ⟨.v (.one .und) :: .v (.one .und) :: .v (.one .und) :: .v (.one (.str y0)) :: .v (.one .und) :: .v (.one .und) :: .v (.one .und) :: .v (.one .und) :: .v (.one .und) :: .v (.one .und) :: .v (.one .und) :: .v (.one .und) :: .v (.one .und) :: .v (.one .und) :: .v (.one .und) :: .v (.one .und) :: .v (.one .und) :: .v (.one .und) :: .v (.one .und) :: .v (.one .und) :: .v (.one .und) :: .v (.one .und) :: .v (.one .und) :: .v (.one .und) :: .v (.one .und) :: .v (.one .und) :: .v (.one .und) :: .v (.one .und) :: .v (.one .und) :: .v (.one .und) :: .v (.one .und) :: .v (.one .und) :: [], []⟩
theorem fl17_0_0 (s : St) : refSt (h17_0_0 [] ByteArray.empty 0) s = h17_0_0 (rInts (rowV (oneA (vT (nx tund s.tmps 0))))) (strS (oneA (vT (nx tund s.tmps 3)))) (intS (oneA (vT (nx tund s.tmps 4)))) := by kernel_rfl
def VLS17_0 {β : Type} (N : Nat) (q_spec_l33Numbers_l0 : Nat → List Int → ByteArray → Int → (ByteArray → Option β) → Option β) : LSpec β := fun s K => cond (shpSt (h17_0_0 [] ByteArray.empty 0) s) ((fun (v0 : List Int) (v1 : ByteArray) (v2 : Int) => q_spec_l33Numbers_l0  N v0 v1 v2 (fun y0 => K (.exit 0) (x17_0_0_k0  y0))) (rInts (rowV (oneA (vT (nx tund s.tmps 0))))) (strS (oneA (vT (nx tund s.tmps 3)))) (intS (oneA (vT (nx tund s.tmps 4))))) (none)
def LS17_0 {β : Type} (N : Nat) : LSpec β := VLS17_0 N (spec_l33Numbers_l0 N)
def VE17 {β : Type} (N : Nat) (q_spec_FormatInt : (a0 : Int) → (k : ByteArray → Option β) → Option β) (q_spec_l33Numbers_l0 : Nat → List Int → ByteArray → Int → (ByteArray → Option β) → Option β) : Env β := ⟨[(13, VS13 N q_spec_FormatInt)], [], [(0, VLS17_0 N q_spec_l33Numbers_l0)], [], ⟨[], [], []⟩⟩
def E17 {β : Type} (N : Nat) : Env β := VE17 N (spec_FormatInt N) (spec_l33Numbers_l0 N)
def BV_spec_l33Numbers_l0b {β : Type} (N : Nat) (q_spec_FormatInt : (a0 : Int) → (k : ByteArray → Option β) → Option β)  (v0 : List Int) (v1 : ByteArray) (v2 : Int) (rec_ : List Int → ByteArray → Int → Option β) (k0 : ByteArray → Option β) : Option β :=
(cond ((decide (v2 < (v0.length : Int))))
((cond ((decide ((v0.length : Int) ≤ 40)))
((cond ((decide (v2 > 0)))
((gd ((decide (v1.size + ((strOf [44])).size ≤ 9223372036854775807)))
((gd ((decide (0 ≤ v2)))
((gd ((decide (v2 < (v0.length : Int))))
(q_spec_FormatInt ((mxI (-99) (mnI 99 (rd 0 v0 v2)))) fun r2 =>
(gd ((decide (((v1 ++ (strOf [44]))).size + r2.size ≤ 9223372036854775807)))
(rec_ v0 (((v1 ++ (strOf [44])) ++ r2)) ((w64 (v2 + 1))))))))))))
((gd ((decide (0 ≤ v2)))
((gd ((decide (v2 < (v0.length : Int))))
(q_spec_FormatInt ((mxI (-99) (mnI 99 (rd 0 v0 v2)))) fun r3 =>
(gd ((decide (v1.size + r3.size ≤ 9223372036854775807)))
(rec_ v0 ((v1 ++ r3)) ((w64 (v2 + 1))))))))))))
(k0 v1)))
(k0 v1))
theorem t_spec_l33Numbers_l0b {β : Type} (N : Nat)  (v0 : List Int) (v1 : ByteArray) (v2 : Int) (rec_ : List Int → ByteArray → Int → Option β) (k0 : ByteArray → Option β) : spec_l33Numbers_l0b N v0 v1 v2 rec_ k0 = BV_spec_l33Numbers_l0b N (spec_FormatInt N) v0 v1 v2 rec_ k0 := by
  unfold spec_l33Numbers_l0b BV_spec_l33Numbers_l0b
  rfl
theorem vst17_0_0 {β : Type} (N : Nat) (q_spec_FormatInt : (a0 : Int) → (k : ByteArray → Option β) → Option β) (q_spec_l33Numbers_l0 : Nat → List Int → ByteArray → Int → (ByteArray → Option β) → Option β)  (v0 : List Int) (v1 : ByteArray) (v2 : Int) (rec_ : St → Option β) (K : Exit → St → Option β) :
    ev lay (VE17 N q_spec_FormatInt q_spec_l33Numbers_l0) (retMask Tryd.f17) (lp Tryd.f17 0).body (lp Tryd.f17 0).ex ((lp Tryd.f17 0).lv (retMask Tryd.f17)) (h17_0_0  v0 v1 v2) (nextR (fun s' => rec_ (s'.tidy ((lp Tryd.f17 0).lv (retMask Tryd.f17)))) K) = BV_spec_l33Numbers_l0b N q_spec_FormatInt  v0 v1 v2 (fun v0 v1 v2 => rec_ (h17_0_0  v0 v1 v2)) (fun y0 => K (.exit 0) (x17_0_0_k0  y0)) := by kernel_rfl
theorem st17_0_0 {β : Type} (N : Nat)  (v0 : List Int) (v1 : ByteArray) (v2 : Int) (rec_ : St → Option β) (K : Exit → St → Option β) :
    ev lay (E17 N) (retMask Tryd.f17) (lp Tryd.f17 0).body (lp Tryd.f17 0).ex ((lp Tryd.f17 0).lv (retMask Tryd.f17)) (h17_0_0  v0 v1 v2) (nextR (fun s' => rec_ (s'.tidy ((lp Tryd.f17 0).lv (retMask Tryd.f17)))) K) = spec_l33Numbers_l0b N  v0 v1 v2 (fun v0 v1 v2 => rec_ (h17_0_0  v0 v1 v2)) (fun y0 => K (.exit 0) (x17_0_0_k0  y0)) := (vst17_0_0 N (spec_FormatInt N) (spec_l33Numbers_l0 N) v0 v1 v2 rec_ K).trans (t_spec_l33Numbers_l0b N  v0 v1 v2 (fun v0 v1 v2 => rec_ (h17_0_0  v0 v1 v2)) (fun y0 => K (.exit 0) (x17_0_0_k0  y0))).symm
theorem ro17_0_0 {β : Type} (N : Nat)  (K : Exit → St → Option β) : ∀ (F : Nat) (v0 : List Int) (v1 : ByteArray) (v2 : Int), (lp Tryd.f17 0).rounds lay (E17 N) (retMask Tryd.f17) F (h17_0_0  v0 v1 v2) K = spec_l33Numbers_l0 N  F v0 v1 v2 (fun y0 => K (.exit 0) (x17_0_0_k0  y0)) := by
  intro F
  induction F with
  | zero => intros; rfl
  | succ F ih =>
    intros
    rw [rounds_next]
    refine (st17_0_0 N  _ _ _ (fun s => (lp Tryd.f17 0).rounds lay (E17 N) (retMask Tryd.f17) F s K) K).trans ?_
    simp only [ih]
    rfl
theorem lk17_0 {β : Type} (N : Nat) : lookL (E17 (β := β) N).loops (lp Tryd.f17 0).id = LS17_0 N := by kernel_rfl
theorem rk17_0 {β : Type} (N : Nat) : RoundsOK lay (E17 (β := β) N) (retMask Tryd.f17) (lp Tryd.f17 0) := by
  intro s K r h
  rw [lk17_0] at h
  unfold LS17_0 VLS17_0 at h
  cases hb : shpSt (h17_0_0 [] ByteArray.empty 0) s with
  | true =>
    rw [hb, cond_true] at h
    exact ⟨N, by rw [← shpSt_ref hb, fl17_0_0 s]; exact (ro17_0_0 N  K N (rInts (rowV (oneA (vT (nx tund s.tmps 0))))) (strS (oneA (vT (nx tund s.tmps 3)))) (intS (oneA (vT (nx tund s.tmps 4))))).trans h⟩
  | false =>
  rw [hb, cond_false] at h
  clear hb
  cases h
def BV_spec_l33Numbers {β : Type} (N : Nat) (q_spec_l33Numbers_l0 : Nat → List Int → ByteArray → Int → (ByteArray → Option β) → Option β) (a0 : List Int) (k : ByteArray → Option β) : Option β :=
q_spec_l33Numbers_l0  N a0 ByteArray.empty 0 (fun e4_0 =>
(cond ((e4_0.toList == ByteArray.empty.toList))
(k ((strOf [110, 111, 110, 101])))
(k e4_0)))
theorem t_spec_l33Numbers {β : Type} (N : Nat) (a0 : List Int) (k : ByteArray → Option β) : spec_l33Numbers N a0 k = BV_spec_l33Numbers N (spec_l33Numbers_l0 N) a0 k := by
  unfold spec_l33Numbers BV_spec_l33Numbers
  rfl
theorem ve17_0 {β : Type} (N : Nat) (q_spec_FormatInt : (a0 : Int) → (k : ByteArray → Option β) → Option β) (q_spec_l33Numbers_l0 : Nat → List Int → ByteArray → Int → (ByteArray → Option β) → Option β)  (a0 : List Int) (K : TV → Option β) : evFn lay (VE17 N q_spec_FormatInt q_spec_l33Numbers_l0) Tryd.f17 [.v (.one (.sl 3 (.ints .i64 a0)))] K = BV_spec_l33Numbers N q_spec_l33Numbers_l0 a0 (fun z1 => K (.v (.one (.str z1)))) := by kernel_rfl
theorem e17_0 {β : Type} (N : Nat)  (a0 : List Int) (K : TV → Option β) : evFn lay (E17 N) Tryd.f17 [.v (.one (.sl 3 (.ints .i64 a0)))] K = spec_l33Numbers N a0 (fun z1 => K (.v (.one (.str z1)))) := (ve17_0 N (spec_FormatInt N) (spec_l33Numbers_l0 N) a0 K).trans (t_spec_l33Numbers N a0 (fun z1 => K (.v (.one (.str z1))))).symm
theorem o17 {β : Type} (N : Nat) : SpecOK (β := β) inv Tryd.prog 17 (S17 N) := by
  refine spec_of lay_ok mixed (E := E17 N) (specs_loops (specs_cons (o13 N) specs_nil)) muts_nil gs_nil Tryd.func17 (by kernel_rfl) 1 (by kernel_rfl) ⟨trivial, rk17_0 N⟩ fun args K r h => ?_
  unfold S17 VS17 at h
  split at h
  · exact (e17_0 N _ _).trans h
  · cases h
def VS5 {β : Type} (N : Nat) (q_spec_FormatClaim : (a0 : Int) → (a1 : Int) → (a2 : Int) → (a3 : Int) → (a4 : Int) → (a5 : ByteArray) → (a6 : List Int) → (k : ByteArray → Option β) → Option β) : Rv.Spec β := fun args K => match args with
  | [.v (.agg [.int .i64 a0, .int .i64 a1, .int .i64 a2, .int .i64 a3, .int .i64 a4, .str a5, .sl 3 (.ints .i64 a6)])] => q_spec_FormatClaim a0 a1 a2 a3 a4 a5 a6 (fun z7 => K (.v (.one (.str z7))))
  | _ => none
def S5 {β : Type} (N : Nat) : Rv.Spec β := VS5 N (spec_FormatClaim N)
def VE5 {β : Type} (N : Nat) (q_spec_ClaimWord : (a0 : Int) → (k : ByteArray → Option β) → Option β) (q_spec_IsTable : (a0 : Int) → (a1 : Int) → (k : Bool → Option β) → Option β) (q_spec_FormatTable : (a0 : Int) → (a1 : Int) → (k : ByteArray → Option β) → Option β) (q_spec_FormatInt : (a0 : Int) → (k : ByteArray → Option β) → Option β) (q_spec_IsTree : (a0 : ByteArray) → (k : Bool → Option β) → Option β) (q_spec_IsFormula : (a0 : ByteArray) → (k : Bool → Option β) → Option β) (q_spec_IsProtocol : (a0 : ByteArray) → (k : Bool → Option β) → Option β) (q_spec_l33Numbers : (a0 : List Int) → (k : ByteArray → Option β) → Option β) : Env β := ⟨[(10, VS10 N q_spec_ClaimWord), (11, VS11 N q_spec_IsTable), (12, VS12 N q_spec_FormatTable), (13, VS13 N q_spec_FormatInt), (14, VS14 N q_spec_IsTree), (15, VS15 N q_spec_IsFormula), (16, VS16 N q_spec_IsProtocol), (17, VS17 N q_spec_l33Numbers)], [], [], [], ⟨[], [], []⟩⟩
def E5 {β : Type} (N : Nat) : Env β := VE5 N (spec_ClaimWord N) (spec_IsTable N) (spec_FormatTable N) (spec_FormatInt N) (spec_IsTree N) (spec_IsFormula N) (spec_IsProtocol N) (spec_l33Numbers N)
def BV_spec_FormatClaim {β : Type} (N : Nat) (q_spec_ClaimWord : (a0 : Int) → (k : ByteArray → Option β) → Option β) (q_spec_IsTable : (a0 : Int) → (a1 : Int) → (k : Bool → Option β) → Option β) (q_spec_FormatTable : (a0 : Int) → (a1 : Int) → (k : ByteArray → Option β) → Option β) (q_spec_FormatInt : (a0 : Int) → (k : ByteArray → Option β) → Option β) (q_spec_IsTree : (a0 : ByteArray) → (k : Bool → Option β) → Option β) (q_spec_IsFormula : (a0 : ByteArray) → (k : Bool → Option β) → Option β) (q_spec_IsProtocol : (a0 : ByteArray) → (k : Bool → Option β) → Option β) (q_spec_l33Numbers : (a0 : List Int) → (k : ByteArray → Option β) → Option β) (a0 : Int) (a1 : Int) (a2 : Int) (a3 : Int) (a4 : Int) (a5 : ByteArray) (a6 : List Int) (k : ByteArray → Option β) : Option β :=
q_spec_ClaimWord a0 fun r8 =>
(cond ((r8.toList == ByteArray.empty.toList))
(k ByteArray.empty)
(q_spec_IsTable a1 a2 fun r9 =>
(cond (!r9)
(k ByteArray.empty)
((gd ((decide (r8.size + ((strOf [32])).size ≤ 9223372036854775807)))
(q_spec_FormatTable a1 a2 fun r10 =>
(gd ((decide (((r8 ++ (strOf [32]))).size + r10.size ≤ 9223372036854775807)))
((gd ((decide ((((r8 ++ (strOf [32])) ++ r10)).size + ((strOf [32])).size ≤ 9223372036854775807)))
(q_spec_FormatInt ((mxI (-99) (mnI 99 a3))) fun r11 =>
(gd ((decide (((((r8 ++ (strOf [32])) ++ r10) ++ (strOf [32]))).size + r11.size ≤ 9223372036854775807)))
((cond ((a0 == 1))
(q_spec_IsTree a5 fun r12 =>
(cond (!r12)
(k ByteArray.empty)
((gd ((decide ((((((r8 ++ (strOf [32])) ++ r10) ++ (strOf [32])) ++ r11)).size + ((strOf [32, 98, 121, 32])).size ≤ 9223372036854775807)))
((gd ((decide (((((((r8 ++ (strOf [32])) ++ r10) ++ (strOf [32])) ++ r11) ++ (strOf [32, 98, 121, 32]))).size + a5.size ≤ 9223372036854775807)))
(k (((((((r8 ++ (strOf [32])) ++ r10) ++ (strOf [32])) ++ r11) ++ (strOf [32, 98, 121, 32])) ++ a5)))))))))
((cond ((a0 == 4))
(q_spec_IsFormula a5 fun r13 =>
(cond (!r13)
(k ByteArray.empty)
((gd ((decide ((((((r8 ++ (strOf [32])) ++ r10) ++ (strOf [32])) ++ r11)).size + ((strOf [32, 98, 121, 32])).size ≤ 9223372036854775807)))
((gd ((decide (((((((r8 ++ (strOf [32])) ++ r10) ++ (strOf [32])) ++ r11) ++ (strOf [32, 98, 121, 32]))).size + a5.size ≤ 9223372036854775807)))
(k (((((((r8 ++ (strOf [32])) ++ r10) ++ (strOf [32])) ++ r11) ++ (strOf [32, 98, 121, 32])) ++ a5)))))))))
((cond ((a0 == 5))
(q_spec_IsProtocol a5 fun r14 =>
(cond (!r14)
(k ByteArray.empty)
((gd ((decide ((((((r8 ++ (strOf [32])) ++ r10) ++ (strOf [32])) ++ r11)).size + ((strOf [32, 115, 105, 100, 101, 32])).size ≤ 9223372036854775807)))
(q_spec_FormatInt ((mxI (-99) (mnI 99 a4))) fun r15 =>
(gd ((decide (((((((r8 ++ (strOf [32])) ++ r10) ++ (strOf [32])) ++ r11) ++ (strOf [32, 115, 105, 100, 101, 32]))).size + r15.size ≤ 9223372036854775807)))
((gd ((decide ((((((((r8 ++ (strOf [32])) ++ r10) ++ (strOf [32])) ++ r11) ++ (strOf [32, 115, 105, 100, 101, 32])) ++ r15)).size + ((strOf [32, 98, 121, 32])).size ≤ 9223372036854775807)))
((gd ((decide (((((((((r8 ++ (strOf [32])) ++ r10) ++ (strOf [32])) ++ r11) ++ (strOf [32, 115, 105, 100, 101, 32])) ++ r15) ++ (strOf [32, 98, 121, 32]))).size + a5.size ≤ 9223372036854775807)))
(k (((((((((r8 ++ (strOf [32])) ++ r10) ++ (strOf [32])) ++ r11) ++ (strOf [32, 115, 105, 100, 101, 32])) ++ r15) ++ (strOf [32, 98, 121, 32])) ++ a5)))))))))))))
((gd ((decide ((((((r8 ++ (strOf [32])) ++ r10) ++ (strOf [32])) ++ r11)).size + ((strOf [32, 98, 121, 32])).size ≤ 9223372036854775807)))
(q_spec_l33Numbers a6 fun r16 =>
(gd ((decide (((((((r8 ++ (strOf [32])) ++ r10) ++ (strOf [32])) ++ r11) ++ (strOf [32, 98, 121, 32]))).size + r16.size ≤ 9223372036854775807)))
(k (((((((r8 ++ (strOf [32])) ++ r10) ++ (strOf [32])) ++ r11) ++ (strOf [32, 98, 121, 32])) ++ r16))))))))))))))))))))))))
theorem t_spec_FormatClaim {β : Type} (N : Nat) (a0 : Int) (a1 : Int) (a2 : Int) (a3 : Int) (a4 : Int) (a5 : ByteArray) (a6 : List Int) (k : ByteArray → Option β) : spec_FormatClaim N a0 a1 a2 a3 a4 a5 a6 k = BV_spec_FormatClaim N (spec_ClaimWord N) (spec_IsTable N) (spec_FormatTable N) (spec_FormatInt N) (spec_IsTree N) (spec_IsFormula N) (spec_IsProtocol N) (spec_l33Numbers N) a0 a1 a2 a3 a4 a5 a6 k := by
  unfold spec_FormatClaim BV_spec_FormatClaim
  rfl
theorem ve5_0 {β : Type} (N : Nat) (q_spec_ClaimWord : (a0 : Int) → (k : ByteArray → Option β) → Option β) (q_spec_IsTable : (a0 : Int) → (a1 : Int) → (k : Bool → Option β) → Option β) (q_spec_FormatTable : (a0 : Int) → (a1 : Int) → (k : ByteArray → Option β) → Option β) (q_spec_FormatInt : (a0 : Int) → (k : ByteArray → Option β) → Option β) (q_spec_IsTree : (a0 : ByteArray) → (k : Bool → Option β) → Option β) (q_spec_IsFormula : (a0 : ByteArray) → (k : Bool → Option β) → Option β) (q_spec_IsProtocol : (a0 : ByteArray) → (k : Bool → Option β) → Option β) (q_spec_l33Numbers : (a0 : List Int) → (k : ByteArray → Option β) → Option β)  (a0 : Int) (a1 : Int) (a2 : Int) (a3 : Int) (a4 : Int) (a5 : ByteArray) (a6 : List Int) (K : TV → Option β) : evFn lay (VE5 N q_spec_ClaimWord q_spec_IsTable q_spec_FormatTable q_spec_FormatInt q_spec_IsTree q_spec_IsFormula q_spec_IsProtocol q_spec_l33Numbers) Tryd.f5 [.v (.agg [.int .i64 a0, .int .i64 a1, .int .i64 a2, .int .i64 a3, .int .i64 a4, .str a5, .sl 3 (.ints .i64 a6)])] K = BV_spec_FormatClaim N q_spec_ClaimWord q_spec_IsTable q_spec_FormatTable q_spec_FormatInt q_spec_IsTree q_spec_IsFormula q_spec_IsProtocol q_spec_l33Numbers a0 a1 a2 a3 a4 a5 a6 (fun z7 => K (.v (.one (.str z7)))) := by kernel_rfl
theorem e5_0 {β : Type} (N : Nat)  (a0 : Int) (a1 : Int) (a2 : Int) (a3 : Int) (a4 : Int) (a5 : ByteArray) (a6 : List Int) (K : TV → Option β) : evFn lay (E5 N) Tryd.f5 [.v (.agg [.int .i64 a0, .int .i64 a1, .int .i64 a2, .int .i64 a3, .int .i64 a4, .str a5, .sl 3 (.ints .i64 a6)])] K = spec_FormatClaim N a0 a1 a2 a3 a4 a5 a6 (fun z7 => K (.v (.one (.str z7)))) := (ve5_0 N (spec_ClaimWord N) (spec_IsTable N) (spec_FormatTable N) (spec_FormatInt N) (spec_IsTree N) (spec_IsFormula N) (spec_IsProtocol N) (spec_l33Numbers N) a0 a1 a2 a3 a4 a5 a6 K).trans (t_spec_FormatClaim N a0 a1 a2 a3 a4 a5 a6 (fun z7 => K (.v (.one (.str z7))))).symm
theorem o5 {β : Type} (N : Nat) : SpecOK (β := β) inv Tryd.prog 5 (S5 N) := by
  refine spec_of lay_ok mixed (E := E5 N) (specs_loops (specs_cons (o10 N) (specs_cons (o11 N) (specs_cons (o12 N) (specs_cons (o13 N) (specs_cons (o14 N) (specs_cons (o15 N) (specs_cons (o16 N) (specs_cons (o17 N) specs_nil))))))))) muts_nil gs_nil Tryd.func5 (by kernel_rfl) 0 (by kernel_rfl) trivial fun args K r h => ?_
  unfold S5 VS5 at h
  split at h
  · exact (e5_0 N _ _ _ _ _ _ _ _).trans h
  · cases h
def VS20 {β : Type} (N : Nat) (q_impl_ClaimWord : (a0 : Int) → (k : ByteArray → Option β) → Option β) : Rv.Spec β := fun args K => match args with
  | [.v (.one (.int .i64 a0))] => q_impl_ClaimWord a0 (fun z1 => K (.v (.one (.str z1))))
  | _ => none
def S20 {β : Type} (N : Nat) : Rv.Spec β := VS20 N (impl_ClaimWord N)
def VE20 {β : Type} (N : Nat) : Env β := ⟨[], [], [], [], ⟨[], [], []⟩⟩
def E20 {β : Type} (N : Nat) : Env β := VE20 N
def BV_impl_ClaimWord {β : Type} (N : Nat) (a0 : Int) (k : ByteArray → Option β) : Option β :=
(cond ((a0 == 1))
(k ((strOf [100, 101, 112, 116, 104])))
((cond ((a0 == 2))
(k ((strOf [119, 101, 105, 103, 104, 116, 115])))
((cond ((a0 == 3))
(k ((strOf [110, 111, 110, 101])))
((cond ((a0 == 4))
(k ((strOf [102, 111, 114, 109, 117, 108, 97])))
((cond ((a0 == 5))
(k ((strOf [112, 114, 111, 116, 111, 99, 111, 108])))
((cond ((a0 == 6))
(k ((strOf [111, 114, 100, 101, 114])))
((cond ((a0 == 7))
(k ((strOf [116, 101, 115, 116, 115])))
(k ByteArray.empty))))))))))))))
theorem t_impl_ClaimWord {β : Type} (N : Nat) (a0 : Int) (k : ByteArray → Option β) : impl_ClaimWord N a0 k = BV_impl_ClaimWord N a0 k := by
  unfold impl_ClaimWord BV_impl_ClaimWord
  rfl
theorem ve20_0 {β : Type} (N : Nat)  (a0 : Int) (K : TV → Option β) : evFn lay (VE20 N) Tryd.f20 [.v (.one (.int .i64 a0))] K = BV_impl_ClaimWord N a0 (fun z1 => K (.v (.one (.str z1)))) := by kernel_rfl
theorem e20_0 {β : Type} (N : Nat)  (a0 : Int) (K : TV → Option β) : evFn lay (E20 N) Tryd.f20 [.v (.one (.int .i64 a0))] K = impl_ClaimWord N a0 (fun z1 => K (.v (.one (.str z1)))) := (ve20_0 N a0 K).trans (t_impl_ClaimWord N a0 (fun z1 => K (.v (.one (.str z1))))).symm
theorem o20 {β : Type} (N : Nat) : SpecOK (β := β) inv Tryd.prog 20 (S20 N) := by
  refine spec_of lay_ok mixed (E := E20 N) (specs_loops specs_nil) muts_nil gs_nil Tryd.func20 (by kernel_rfl) 0 (by kernel_rfl) trivial fun args K r h => ?_
  unfold S20 VS20 at h
  split at h
  · exact (e20_0 N _ _).trans h
  · cases h
def VS35 {β : Type} (N : Nat) (q_impl_isBits : (a0 : Int) → (k : Bool → Option β) → Option β) : Rv.Spec β := fun args K => match args with
  | [.v (.one (.int .i64 a0))] => q_impl_isBits a0 (fun z1 => K (.v (.one (.bool z1))))
  | _ => none
def S35 {β : Type} (N : Nat) : Rv.Spec β := VS35 N (impl_isBits N)
def VE35 {β : Type} (N : Nat) : Env β := ⟨[], [], [], [], ⟨[], [], []⟩⟩
def E35 {β : Type} (N : Nat) : Env β := VE35 N
def BV_impl_isBits {β : Type} (N : Nat) (a0 : Int) (k : Bool → Option β) : Option β :=
(cond ((decide (a0 ≥ 0)))
(k ((decide (a0 ≤ 5))))
(k false))
theorem t_impl_isBits {β : Type} (N : Nat) (a0 : Int) (k : Bool → Option β) : impl_isBits N a0 k = BV_impl_isBits N a0 k := by
  unfold impl_isBits BV_impl_isBits
  rfl
theorem ve35_0 {β : Type} (N : Nat)  (a0 : Int) (K : TV → Option β) : evFn lay (VE35 N) Tryd.f35 [.v (.one (.int .i64 a0))] K = BV_impl_isBits N a0 (fun z1 => K (.v (.one (.bool z1)))) := by kernel_rfl
theorem e35_0 {β : Type} (N : Nat)  (a0 : Int) (K : TV → Option β) : evFn lay (E35 N) Tryd.f35 [.v (.one (.int .i64 a0))] K = impl_isBits N a0 (fun z1 => K (.v (.one (.bool z1)))) := (ve35_0 N a0 K).trans (t_impl_isBits N a0 (fun z1 => K (.v (.one (.bool z1))))).symm
theorem o35 {β : Type} (N : Nat) : SpecOK (β := β) inv Tryd.prog 35 (S35 N) := by
  refine spec_of lay_ok mixed (E := E35 N) (specs_loops specs_nil) muts_nil gs_nil Tryd.func35 (by kernel_rfl) 0 (by kernel_rfl) trivial fun args K r h => ?_
  unfold S35 VS35 at h
  split at h
  · exact (e35_0 N _ _).trans h
  · cases h
def VS36 {β : Type} (N : Nat) (q_impl_Table_size : (a0 : Int) → (a1 : Int) → (k : Int → Option β) → Option β) : Rv.Spec β := fun args K => match args with
  | [.v (.agg [.int .i64 a0, .int .i64 a1])] => q_impl_Table_size a0 a1 (fun z2 => K (.v (.one (.int .i64 z2))))
  | _ => none
def S36 {β : Type} (N : Nat) : Rv.Spec β := VS36 N (impl_Table_size N)
def VE36 {β : Type} (N : Nat) : Env β := ⟨[], [], [], [], ⟨[], [], []⟩⟩
def E36 {β : Type} (N : Nat) : Env β := VE36 N
def BV_impl_Table_size {β : Type} (N : Nat) (a0 : Int) (a1 : Int) (k : Int → Option β) : Option β :=
(gd ((decide (0 ≤ a0)))
(k ((shlI .i64 1 a0))))
theorem t_impl_Table_size {β : Type} (N : Nat) (a0 : Int) (a1 : Int) (k : Int → Option β) : impl_Table_size N a0 a1 k = BV_impl_Table_size N a0 a1 k := by
  unfold impl_Table_size BV_impl_Table_size
  rfl
theorem ve36_0 {β : Type} (N : Nat)  (a0 : Int) (a1 : Int) (K : TV → Option β) : evFn lay (VE36 N) Tryd.f36 [.v (.agg [.int .i64 a0, .int .i64 a1])] K = BV_impl_Table_size N a0 a1 (fun z2 => K (.v (.one (.int .i64 z2)))) := by kernel_rfl
theorem e36_0 {β : Type} (N : Nat)  (a0 : Int) (a1 : Int) (K : TV → Option β) : evFn lay (E36 N) Tryd.f36 [.v (.agg [.int .i64 a0, .int .i64 a1])] K = impl_Table_size N a0 a1 (fun z2 => K (.v (.one (.int .i64 z2)))) := (ve36_0 N a0 a1 K).trans (t_impl_Table_size N a0 a1 (fun z2 => K (.v (.one (.int .i64 z2))))).symm
theorem o36 {β : Type} (N : Nat) : SpecOK (β := β) inv Tryd.prog 36 (S36 N) := by
  refine spec_of lay_ok mixed (E := E36 N) (specs_loops specs_nil) muts_nil gs_nil Tryd.func36 (by kernel_rfl) 0 (by kernel_rfl) trivial fun args K r h => ?_
  unfold S36 VS36 at h
  split at h
  · exact (e36_0 N _ _ _).trans h
  · cases h
def VS21 {β : Type} (N : Nat) (q_impl_IsTable : (a0 : Int) → (a1 : Int) → (k : Bool → Option β) → Option β) : Rv.Spec β := fun args K => match args with
  | [.v (.agg [.int .i64 a0, .int .i64 a1])] => q_impl_IsTable a0 a1 (fun z2 => K (.v (.one (.bool z2))))
  | _ => none
def S21 {β : Type} (N : Nat) : Rv.Spec β := VS21 N (impl_IsTable N)
def VE21 {β : Type} (N : Nat) (q_impl_isBits : (a0 : Int) → (k : Bool → Option β) → Option β) (q_impl_Table_size : (a0 : Int) → (a1 : Int) → (k : Int → Option β) → Option β) : Env β := ⟨[(35, VS35 N q_impl_isBits), (36, VS36 N q_impl_Table_size)], [], [], [], ⟨[], [], []⟩⟩
def E21 {β : Type} (N : Nat) : Env β := VE21 N (impl_isBits N) (impl_Table_size N)
def BV_impl_IsTable {β : Type} (N : Nat) (q_impl_isBits : (a0 : Int) → (k : Bool → Option β) → Option β) (q_impl_Table_size : (a0 : Int) → (a1 : Int) → (k : Int → Option β) → Option β) (a0 : Int) (a1 : Int) (k : Bool → Option β) : Option β :=
q_impl_isBits a0 fun r3 =>
(cond r3
((cond ((decide (a1 ≥ 0)))
(q_impl_Table_size a0 a1 fun r4 =>
(gd ((decide (0 ≤ r4)))
(k (((shrI .i64 a1 r4) == 0)))))
(k false)))
(k false))
theorem t_impl_IsTable {β : Type} (N : Nat) (a0 : Int) (a1 : Int) (k : Bool → Option β) : impl_IsTable N a0 a1 k = BV_impl_IsTable N (impl_isBits N) (impl_Table_size N) a0 a1 k := by
  unfold impl_IsTable BV_impl_IsTable
  rfl
theorem ve21_0 {β : Type} (N : Nat) (q_impl_isBits : (a0 : Int) → (k : Bool → Option β) → Option β) (q_impl_Table_size : (a0 : Int) → (a1 : Int) → (k : Int → Option β) → Option β)  (a0 : Int) (a1 : Int) (K : TV → Option β) : evFn lay (VE21 N q_impl_isBits q_impl_Table_size) Tryd.f21 [.v (.agg [.int .i64 a0, .int .i64 a1])] K = BV_impl_IsTable N q_impl_isBits q_impl_Table_size a0 a1 (fun z2 => K (.v (.one (.bool z2)))) := by kernel_rfl
theorem e21_0 {β : Type} (N : Nat)  (a0 : Int) (a1 : Int) (K : TV → Option β) : evFn lay (E21 N) Tryd.f21 [.v (.agg [.int .i64 a0, .int .i64 a1])] K = impl_IsTable N a0 a1 (fun z2 => K (.v (.one (.bool z2)))) := (ve21_0 N (impl_isBits N) (impl_Table_size N) a0 a1 K).trans (t_impl_IsTable N a0 a1 (fun z2 => K (.v (.one (.bool z2))))).symm
theorem o21 {β : Type} (N : Nat) : SpecOK (β := β) inv Tryd.prog 21 (S21 N) := by
  refine spec_of lay_ok mixed (E := E21 N) (specs_loops (specs_cons (o35 N) (specs_cons (o36 N) specs_nil))) muts_nil gs_nil Tryd.func21 (by kernel_rfl) 0 (by kernel_rfl) trivial fun args K r h => ?_
  unfold S21 VS21 at h
  split at h
  · exact (e21_0 N _ _ _).trans h
  · cases h
def VS37 {β : Type} (N : Nat) (q_impl_Table_at : (a0 : Int) → (a1 : Int) → (a2 : Int) → (k : Int → Option β) → Option β) : Rv.Spec β := fun args K => match args with
  | [.v (.agg [.int .i64 a0, .int .i64 a1]), .v (.one (.int .i64 a2))] => q_impl_Table_at a0 a1 a2 (fun z3 => K (.v (.one (.int .i64 z3))))
  | _ => none
def S37 {β : Type} (N : Nat) : Rv.Spec β := VS37 N (impl_Table_at N)
def VE37 {β : Type} (N : Nat) : Env β := ⟨[], [], [], [], ⟨[], [], []⟩⟩
def E37 {β : Type} (N : Nat) : Env β := VE37 N
def BV_impl_Table_at {β : Type} (N : Nat) (a0 : Int) (a1 : Int) (a2 : Int) (k : Int → Option β) : Option β :=
(gd ((decide (0 ≤ a2)))
(k ((bits .and .i64 (shrI .i64 a1 a2) 1))))
theorem t_impl_Table_at {β : Type} (N : Nat) (a0 : Int) (a1 : Int) (a2 : Int) (k : Int → Option β) : impl_Table_at N a0 a1 a2 k = BV_impl_Table_at N a0 a1 a2 k := by
  unfold impl_Table_at BV_impl_Table_at
  rfl
theorem ve37_0 {β : Type} (N : Nat)  (a0 : Int) (a1 : Int) (a2 : Int) (K : TV → Option β) : evFn lay (VE37 N) Tryd.f37 [.v (.agg [.int .i64 a0, .int .i64 a1]), .v (.one (.int .i64 a2))] K = BV_impl_Table_at N a0 a1 a2 (fun z3 => K (.v (.one (.int .i64 z3)))) := by kernel_rfl
theorem e37_0 {β : Type} (N : Nat)  (a0 : Int) (a1 : Int) (a2 : Int) (K : TV → Option β) : evFn lay (E37 N) Tryd.f37 [.v (.agg [.int .i64 a0, .int .i64 a1]), .v (.one (.int .i64 a2))] K = impl_Table_at N a0 a1 a2 (fun z3 => K (.v (.one (.int .i64 z3)))) := (ve37_0 N a0 a1 a2 K).trans (t_impl_Table_at N a0 a1 a2 (fun z3 => K (.v (.one (.int .i64 z3))))).symm
theorem o37 {β : Type} (N : Nat) : SpecOK (β := β) inv Tryd.prog 37 (S37 N) := by
  refine spec_of lay_ok mixed (E := E37 N) (specs_loops specs_nil) muts_nil gs_nil Tryd.func37 (by kernel_rfl) 0 (by kernel_rfl) trivial fun args K r h => ?_
  unfold S37 VS37 at h
  split at h
  · exact (e37_0 N _ _ _ _).trans h
  · cases h
def VS22 {β : Type} (N : Nat) (q_impl_FormatTable : (a0 : Int) → (a1 : Int) → (k : ByteArray → Option β) → Option β) : Rv.Spec β := fun args K => match args with
  | [.v (.agg [.int .i64 a0, .int .i64 a1])] => q_impl_FormatTable a0 a1 (fun z2 => K (.v (.one (.str z2))))
  | _ => none
def S22 {β : Type} (N : Nat) : Rv.Spec β := VS22 N (impl_FormatTable N)
def h22_0_0  (v0 : Int) (v1 : Int) (v2 : Int) (v3 : Int) (v4 : List Int) : St := ⟨.v (.one .und) :: .v (.one (.ptr 0 0)) :: .v (.one .und) :: .v (.one (.row 1)) :: .v (.one .und) :: .v (.one .und) :: .v (.one .und) :: .v (.one .und) :: .v (.one .und) :: .v (.one .und) :: .v (.one .und) :: .v (.one .und) :: .v (.one (.int .i64 v0)) :: .v (.one (.int .i64 v1)) :: .v (.one .und) :: .v (.one .und) :: .v (.one .und) :: .v (.one .und) :: .v (.one .und) :: .v (.one .und) :: .v (.one .und) :: .v (.one .und) :: .v (.one .und) :: .v (.one .und) :: .v (.one .und) :: .v (.one .und) :: .v (.one .und) :: [], [.cells 29 [.int .i64 v2, .int .i64 v3], .row 5 (.ints .u8 v4)]⟩
def x22_0_0_k0  (y0 : List Int) : St := ⟨.v (.one .und) :: .v (.one .und) :: .v (.one .und) :: .v (.one (.row 0)) :: .v (.one .und) :: .v (.one .und) :: .v (.one .und) :: .v (.one .und) :: .v (.one .und) :: .v (.one .und) :: .v (.one .und) :: .v (.one .und) :: .v (.one .und) :: .v (.one .und) :: .v (.one .und) :: .v (.one .und) :: .v (.one .und) :: .v (.one .und) :: .v (.one .und) :: .v (.one .und) :: .v (.one .und) :: .v (.one .und) :: .v (.one .und) :: .v (.one .und) :: .v (.one .und) :: .v (.one .und) :: .v (.one .und) :: [], [.row 5 (.ints .u8 y0)]⟩
theorem fl22_0_0 (s : St) : refSt (h22_0_0 0 0 0 0 []) s = h22_0_0 (intS (oneA (vT (nx tund s.tmps 12)))) (intS (oneA (vT (nx tund s.tmps 13)))) (intS (nx .und (cellsB (nx .dead s.blks 0)) 0)) (intS (nx .und (cellsB (nx .dead s.blks 0)) 1)) (rInts (rowB_ (nx .dead s.blks 1))) := by kernel_rfl
def VLS22_0 {β : Type} (N : Nat) (q_impl_FormatTable_l0 : Nat → Int → Int → Int → Int → List Int → (List Int → Option β) → Option β) : LSpec β := fun s K => cond (shpSt (h22_0_0 0 0 0 0 []) s) ((fun (v0 : Int) (v1 : Int) (v2 : Int) (v3 : Int) (v4 : List Int) => q_impl_FormatTable_l0  N v0 v1 v2 v3 v4 (fun y0 => K (.exit 0) (x22_0_0_k0  y0))) (intS (oneA (vT (nx tund s.tmps 12)))) (intS (oneA (vT (nx tund s.tmps 13)))) (intS (nx .und (cellsB (nx .dead s.blks 0)) 0)) (intS (nx .und (cellsB (nx .dead s.blks 0)) 1)) (rInts (rowB_ (nx .dead s.blks 1)))) (none)
def LS22_0 {β : Type} (N : Nat) : LSpec β := VLS22_0 N (impl_FormatTable_l0 N)
def VE22 {β : Type} (N : Nat) (q_impl_IsTable : (a0 : Int) → (a1 : Int) → (k : Bool → Option β) → Option β) (q_impl_Table_size : (a0 : Int) → (a1 : Int) → (k : Int → Option β) → Option β) (q_impl_Table_at : (a0 : Int) → (a1 : Int) → (a2 : Int) → (k : Int → Option β) → Option β) (q_impl_FormatTable_l0 : Nat → Int → Int → Int → Int → List Int → (List Int → Option β) → Option β) : Env β := ⟨[(21, VS21 N q_impl_IsTable), (36, VS36 N q_impl_Table_size), (37, VS37 N q_impl_Table_at)], [], [(0, VLS22_0 N q_impl_FormatTable_l0)], [], ⟨[], [], []⟩⟩
def E22 {β : Type} (N : Nat) : Env β := VE22 N (impl_IsTable N) (impl_Table_size N) (impl_Table_at N) (impl_FormatTable_l0 N)
def BV_impl_FormatTable_l0b {β : Type} (N : Nat) (q_impl_Table_at : (a0 : Int) → (a1 : Int) → (a2 : Int) → (k : Int → Option β) → Option β)  (v0 : Int) (v1 : Int) (v2 : Int) (v3 : Int) (v4 : List Int) (rec_ : Int → Int → Int → Int → List Int → Option β) (k0 : List Int → Option β) : Option β :=
(cond ((decide (v1 < v0)))
(q_impl_Table_at v2 v3 v1 fun r5 =>
(gd ((decide (0 ≤ v1)))
((gd ((decide (v1 < (v4.length : Int))))
(rec_ v0 ((w64 (v1 + 1))) v2 v3 ((wr v4 v1 (w8 (48 + (w8 (r5)))))))))))
(k0 v4))
theorem t_impl_FormatTable_l0b {β : Type} (N : Nat)  (v0 : Int) (v1 : Int) (v2 : Int) (v3 : Int) (v4 : List Int) (rec_ : Int → Int → Int → Int → List Int → Option β) (k0 : List Int → Option β) : impl_FormatTable_l0b N v0 v1 v2 v3 v4 rec_ k0 = BV_impl_FormatTable_l0b N (impl_Table_at N) v0 v1 v2 v3 v4 rec_ k0 := by
  unfold impl_FormatTable_l0b BV_impl_FormatTable_l0b
  rfl
theorem vst22_0_0 {β : Type} (N : Nat) (q_impl_IsTable : (a0 : Int) → (a1 : Int) → (k : Bool → Option β) → Option β) (q_impl_Table_size : (a0 : Int) → (a1 : Int) → (k : Int → Option β) → Option β) (q_impl_Table_at : (a0 : Int) → (a1 : Int) → (a2 : Int) → (k : Int → Option β) → Option β) (q_impl_FormatTable_l0 : Nat → Int → Int → Int → Int → List Int → (List Int → Option β) → Option β)  (v0 : Int) (v1 : Int) (v2 : Int) (v3 : Int) (v4 : List Int) (rec_ : St → Option β) (K : Exit → St → Option β) :
    ev lay (VE22 N q_impl_IsTable q_impl_Table_size q_impl_Table_at q_impl_FormatTable_l0) (retMask Tryd.f22) (lp Tryd.f22 0).body (lp Tryd.f22 0).ex ((lp Tryd.f22 0).lv (retMask Tryd.f22)) (h22_0_0  v0 v1 v2 v3 v4) (nextR (fun s' => rec_ (s'.tidy ((lp Tryd.f22 0).lv (retMask Tryd.f22)))) K) = BV_impl_FormatTable_l0b N q_impl_Table_at  v0 v1 v2 v3 v4 (fun v0 v1 v2 v3 v4 => rec_ (h22_0_0  v0 v1 v2 v3 v4)) (fun y0 => K (.exit 0) (x22_0_0_k0  y0)) := by kernel_rfl
theorem st22_0_0 {β : Type} (N : Nat)  (v0 : Int) (v1 : Int) (v2 : Int) (v3 : Int) (v4 : List Int) (rec_ : St → Option β) (K : Exit → St → Option β) :
    ev lay (E22 N) (retMask Tryd.f22) (lp Tryd.f22 0).body (lp Tryd.f22 0).ex ((lp Tryd.f22 0).lv (retMask Tryd.f22)) (h22_0_0  v0 v1 v2 v3 v4) (nextR (fun s' => rec_ (s'.tidy ((lp Tryd.f22 0).lv (retMask Tryd.f22)))) K) = impl_FormatTable_l0b N  v0 v1 v2 v3 v4 (fun v0 v1 v2 v3 v4 => rec_ (h22_0_0  v0 v1 v2 v3 v4)) (fun y0 => K (.exit 0) (x22_0_0_k0  y0)) := (vst22_0_0 N (impl_IsTable N) (impl_Table_size N) (impl_Table_at N) (impl_FormatTable_l0 N) v0 v1 v2 v3 v4 rec_ K).trans (t_impl_FormatTable_l0b N  v0 v1 v2 v3 v4 (fun v0 v1 v2 v3 v4 => rec_ (h22_0_0  v0 v1 v2 v3 v4)) (fun y0 => K (.exit 0) (x22_0_0_k0  y0))).symm
theorem ro22_0_0 {β : Type} (N : Nat)  (K : Exit → St → Option β) : ∀ (F : Nat) (v0 : Int) (v1 : Int) (v2 : Int) (v3 : Int) (v4 : List Int), (lp Tryd.f22 0).rounds lay (E22 N) (retMask Tryd.f22) F (h22_0_0  v0 v1 v2 v3 v4) K = impl_FormatTable_l0 N  F v0 v1 v2 v3 v4 (fun y0 => K (.exit 0) (x22_0_0_k0  y0)) := by
  intro F
  induction F with
  | zero => intros; rfl
  | succ F ih =>
    intros
    rw [rounds_next]
    refine (st22_0_0 N  _ _ _ _ _ (fun s => (lp Tryd.f22 0).rounds lay (E22 N) (retMask Tryd.f22) F s K) K).trans ?_
    simp only [ih]
    rfl
theorem lk22_0 {β : Type} (N : Nat) : lookL (E22 (β := β) N).loops (lp Tryd.f22 0).id = LS22_0 N := by kernel_rfl
theorem rk22_0 {β : Type} (N : Nat) : RoundsOK lay (E22 (β := β) N) (retMask Tryd.f22) (lp Tryd.f22 0) := by
  intro s K r h
  rw [lk22_0] at h
  unfold LS22_0 VLS22_0 at h
  cases hb : shpSt (h22_0_0 0 0 0 0 []) s with
  | true =>
    rw [hb, cond_true] at h
    exact ⟨N, by rw [← shpSt_ref hb, fl22_0_0 s]; exact (ro22_0_0 N  K N (intS (oneA (vT (nx tund s.tmps 12)))) (intS (oneA (vT (nx tund s.tmps 13)))) (intS (nx .und (cellsB (nx .dead s.blks 0)) 0)) (intS (nx .und (cellsB (nx .dead s.blks 0)) 1)) (rInts (rowB_ (nx .dead s.blks 1)))).trans h⟩
  | false =>
  rw [hb, cond_false] at h
  clear hb
  cases h
def BV_impl_FormatTable {β : Type} (N : Nat) (q_impl_IsTable : (a0 : Int) → (a1 : Int) → (k : Bool → Option β) → Option β) (q_impl_Table_size : (a0 : Int) → (a1 : Int) → (k : Int → Option β) → Option β) (q_impl_FormatTable_l0 : Nat → Int → Int → Int → Int → List Int → (List Int → Option β) → Option β) (a0 : Int) (a1 : Int) (k : ByteArray → Option β) : Option β :=
q_impl_IsTable a0 a1 fun r3 =>
(cond (!r3)
(k ByteArray.empty)
(q_impl_Table_size a0 a1 fun r4 =>
(gd ((decide (0 ≤ r4)))
((gd ((decide (r4 ≤ r4)))
((gd ((decide (1 * r4 ≤ 281474976710656)))
(q_impl_FormatTable_l0  N ((((List.replicate (Int.toNat r4) (0 : Int))).length : Int)) 0 a0 a1 ((List.replicate (Int.toNat r4) (0 : Int))) (fun e6_0 =>
k ((strOf e6_0)))))))))))
theorem t_impl_FormatTable {β : Type} (N : Nat) (a0 : Int) (a1 : Int) (k : ByteArray → Option β) : impl_FormatTable N a0 a1 k = BV_impl_FormatTable N (impl_IsTable N) (impl_Table_size N) (impl_FormatTable_l0 N) a0 a1 k := by
  unfold impl_FormatTable BV_impl_FormatTable
  rfl
theorem ve22_0 {β : Type} (N : Nat) (q_impl_IsTable : (a0 : Int) → (a1 : Int) → (k : Bool → Option β) → Option β) (q_impl_Table_size : (a0 : Int) → (a1 : Int) → (k : Int → Option β) → Option β) (q_impl_Table_at : (a0 : Int) → (a1 : Int) → (a2 : Int) → (k : Int → Option β) → Option β) (q_impl_FormatTable_l0 : Nat → Int → Int → Int → Int → List Int → (List Int → Option β) → Option β)  (a0 : Int) (a1 : Int) (K : TV → Option β) : evFn lay (VE22 N q_impl_IsTable q_impl_Table_size q_impl_Table_at q_impl_FormatTable_l0) Tryd.f22 [.v (.agg [.int .i64 a0, .int .i64 a1])] K = BV_impl_FormatTable N q_impl_IsTable q_impl_Table_size q_impl_FormatTable_l0 a0 a1 (fun z2 => K (.v (.one (.str z2)))) := by kernel_rfl
theorem e22_0 {β : Type} (N : Nat)  (a0 : Int) (a1 : Int) (K : TV → Option β) : evFn lay (E22 N) Tryd.f22 [.v (.agg [.int .i64 a0, .int .i64 a1])] K = impl_FormatTable N a0 a1 (fun z2 => K (.v (.one (.str z2)))) := (ve22_0 N (impl_IsTable N) (impl_Table_size N) (impl_Table_at N) (impl_FormatTable_l0 N) a0 a1 K).trans (t_impl_FormatTable N a0 a1 (fun z2 => K (.v (.one (.str z2))))).symm
theorem o22 {β : Type} (N : Nat) : SpecOK (β := β) inv Tryd.prog 22 (S22 N) := by
  refine spec_of lay_ok mixed (E := E22 N) (specs_loops (specs_cons (o21 N) (specs_cons (o36 N) (specs_cons (o37 N) specs_nil)))) muts_nil gs_nil Tryd.func22 (by kernel_rfl) 1 (by kernel_rfl) ⟨trivial, rk22_0 N⟩ fun args K r h => ?_
  unfold S22 VS22 at h
  split at h
  · exact (e22_0 N _ _ _).trans h
  · cases h
def VS38 {β : Type} (N : Nat) (q_impl_FormatInt : (a0 : Int) → (k : ByteArray → Option β) → Option β) : Rv.Spec β := fun args K => match args with
  | [.v (.one (.int .i64 a0))] => q_impl_FormatInt a0 (fun z1 => K (.v (.one (.str z1))))
  | _ => none
def S38 {β : Type} (N : Nat) : Rv.Spec β := VS38 N (impl_FormatInt N)
def VE38 {β : Type} (N : Nat) : Env β := ⟨[(46, S46 N)], [], [], [], ⟨[], [], []⟩⟩
def E38 {β : Type} (N : Nat) : Env β := VE38 N
def BV_impl_FormatInt {β : Type} (N : Nat) (a0 : Int) (k : ByteArray → Option β) : Option β :=
strconv_Itoa N a0 fun r2 =>
k r2
theorem t_impl_FormatInt {β : Type} (N : Nat) (a0 : Int) (k : ByteArray → Option β) : impl_FormatInt N a0 k = BV_impl_FormatInt N a0 k := by
  unfold impl_FormatInt BV_impl_FormatInt
  rfl
theorem ve38_0 {β : Type} (N : Nat)  (a0 : Int) (K : TV → Option β) : evFn lay (VE38 N) Tryd.f38 [.v (.one (.int .i64 a0))] K = BV_impl_FormatInt N a0 (fun z1 => K (.v (.one (.str z1)))) := by kernel_rfl
theorem e38_0 {β : Type} (N : Nat)  (a0 : Int) (K : TV → Option β) : evFn lay (E38 N) Tryd.f38 [.v (.one (.int .i64 a0))] K = impl_FormatInt N a0 (fun z1 => K (.v (.one (.str z1)))) := (ve38_0 N a0 K).trans (t_impl_FormatInt N a0 (fun z1 => K (.v (.one (.str z1))))).symm
theorem o38 {β : Type} (N : Nat) : SpecOK (β := β) inv Tryd.prog 38 (S38 N) := by
  refine spec_of lay_ok mixed (E := E38 N) (specs_loops (specs_cons (o46 N) specs_nil)) muts_nil gs_nil Tryd.func38 (by kernel_rfl) 0 (by kernel_rfl) trivial fun args K r h => ?_
  unfold S38 VS38 at h
  split at h
  · exact (e38_0 N _ _).trans h
  · cases h
def VS23 {β : Type} (N : Nat) (q_impl_written : (a0 : Int) → (k : ByteArray → Option β) → Option β) : Rv.Spec β := fun args K => match args with
  | [.v (.one (.int .i64 a0))] => q_impl_written a0 (fun z1 => K (.v (.one (.str z1))))
  | _ => none
def S23 {β : Type} (N : Nat) : Rv.Spec β := VS23 N (impl_written N)
def VE23 {β : Type} (N : Nat) (q_impl_FormatInt : (a0 : Int) → (k : ByteArray → Option β) → Option β) : Env β := ⟨[(38, VS38 N q_impl_FormatInt)], [], [], [], ⟨[], [], []⟩⟩
def E23 {β : Type} (N : Nat) : Env β := VE23 N (impl_FormatInt N)
def BV_impl_written {β : Type} (N : Nat) (q_impl_FormatInt : (a0 : Int) → (k : ByteArray → Option β) → Option β) (a0 : Int) (k : ByteArray → Option β) : Option β :=
q_impl_FormatInt ((mnI (mxI a0 (-99)) 99)) fun r2 =>
k r2
theorem t_impl_written {β : Type} (N : Nat) (a0 : Int) (k : ByteArray → Option β) : impl_written N a0 k = BV_impl_written N (impl_FormatInt N) a0 k := by
  unfold impl_written BV_impl_written
  rfl
theorem ve23_0 {β : Type} (N : Nat) (q_impl_FormatInt : (a0 : Int) → (k : ByteArray → Option β) → Option β)  (a0 : Int) (K : TV → Option β) : evFn lay (VE23 N q_impl_FormatInt) Tryd.f23 [.v (.one (.int .i64 a0))] K = BV_impl_written N q_impl_FormatInt a0 (fun z1 => K (.v (.one (.str z1)))) := by kernel_rfl
theorem e23_0 {β : Type} (N : Nat)  (a0 : Int) (K : TV → Option β) : evFn lay (E23 N) Tryd.f23 [.v (.one (.int .i64 a0))] K = impl_written N a0 (fun z1 => K (.v (.one (.str z1)))) := (ve23_0 N (impl_FormatInt N) a0 K).trans (t_impl_written N a0 (fun z1 => K (.v (.one (.str z1))))).symm
theorem o23 {β : Type} (N : Nat) : SpecOK (β := β) inv Tryd.prog 23 (S23 N) := by
  refine spec_of lay_ok mixed (E := E23 N) (specs_loops (specs_cons (o38 N) specs_nil)) muts_nil gs_nil Tryd.func23 (by kernel_rfl) 0 (by kernel_rfl) trivial fun args K r h => ?_
  unfold S23 VS23 at h
  split at h
  · exact (e23_0 N _ _).trans h
  · cases h
def VS24 {β : Type} (N : Nat) (q_impl_writtenList : (a0 : List Int) → (k : ByteArray → Option β) → Option β) : Rv.Spec β := fun args K => match args with
  | [.v (.one (.sl 3 (.ints .i64 a0)))] => q_impl_writtenList a0 (fun z1 => K (.v (.one (.str z1))))
  | _ => none
def S24 {β : Type} (N : Nat) : Rv.Spec β := VS24 N (impl_writtenList N)
def h24_0_0  (v0 : List Int) (v1 : Int) (v2 : Int) (v3 : List ByteArray) : St := ⟨.v (.one .und) :: .v (.one .und) :: .v (.one .und) :: .v (.one (.row 0)) :: .v (.one .und) :: .v (.one .und) :: .v (.one .und) :: .v (.one .und) :: .v (.one .und) :: .v (.one .und) :: .v (.one .und) :: .v (.one .und) :: .v (.one .und) :: .v (.one .und) :: .v (.one .und) :: .v (.one .und) :: .v (.one .und) :: .v (.one (.sl 3 (.ints .i64 v0))) :: .v (.one (.int .i64 v1)) :: .v (.one (.int .i64 v2)) :: .v (.one .und) :: .v (.one .und) :: .v (.one .und) :: .v (.one .und) :: .v (.one .und) :: .v (.one .und) :: .v (.one .und) :: .v (.one .und) :: .v (.one .und) :: .v (.one .und) :: .v (.one .und) :: .v (.one .und) :: [], [.row 9 (.strs v3)]⟩
def x24_0_0_k0  (y0 : List ByteArray) : St := ⟨.v (.one .und) :: .v (.one .und) :: .v (.one .und) :: .v (.one (.row 0)) :: .v (.one .und) :: .v (.one .und) :: .v (.one .und) :: .v (.one .und) :: .v (.one .und) :: .v (.one .und) :: .v (.one .und) :: .v (.one .und) :: .v (.one .und) :: .v (.one .und) :: .v (.one .und) :: .v (.one .und) :: .v (.one .und) :: .v (.one .und) :: .v (.one .und) :: .v (.one .und) :: .v (.one .und) :: .v (.one .und) :: .v (.one .und) :: .v (.one .und) :: .v (.one .und) :: .v (.one .und) :: .v (.one .und) :: .v (.one .und) :: .v (.one .und) :: .v (.one .und) :: .v (.one .und) :: .v (.one .und) :: [], [.row 9 (.strs y0)]⟩
theorem fl24_0_0 (s : St) : refSt (h24_0_0 [] 0 0 []) s = h24_0_0 (rInts (rowV (oneA (vT (nx tund s.tmps 17))))) (intS (oneA (vT (nx tund s.tmps 18)))) (intS (oneA (vT (nx tund s.tmps 19)))) (rStrs (rowB_ (nx .dead s.blks 0))) := by kernel_rfl
def VLS24_0 {β : Type} (N : Nat) (q_impl_writtenList_l0 : Nat → List Int → Int → Int → List ByteArray → (List ByteArray → Option β) → Option β) : LSpec β := fun s K => cond (shpSt (h24_0_0 [] 0 0 []) s) ((fun (v0 : List Int) (v1 : Int) (v2 : Int) (v3 : List ByteArray) => q_impl_writtenList_l0  N v0 v1 v2 v3 (fun y0 => K (.exit 0) (x24_0_0_k0  y0))) (rInts (rowV (oneA (vT (nx tund s.tmps 17))))) (intS (oneA (vT (nx tund s.tmps 18)))) (intS (oneA (vT (nx tund s.tmps 19)))) (rStrs (rowB_ (nx .dead s.blks 0)))) (none)
def LS24_0 {β : Type} (N : Nat) : LSpec β := VLS24_0 N (impl_writtenList_l0 N)
def VE24 {β : Type} (N : Nat) (q_impl_written : (a0 : Int) → (k : ByteArray → Option β) → Option β) (q_impl_writtenList_l0 : Nat → List Int → Int → Int → List ByteArray → (List ByteArray → Option β) → Option β) : Env β := ⟨[(23, VS23 N q_impl_written), (28, S28 N)], [], [(0, VLS24_0 N q_impl_writtenList_l0)], [], ⟨[], [], []⟩⟩
def E24 {β : Type} (N : Nat) : Env β := VE24 N (impl_written N) (impl_writtenList_l0 N)
def BV_impl_writtenList_l0b {β : Type} (N : Nat) (q_impl_written : (a0 : Int) → (k : ByteArray → Option β) → Option β)  (v0 : List Int) (v1 : Int) (v2 : Int) (v3 : List ByteArray) (rec_ : List Int → Int → Int → List ByteArray → Option β) (k0 : List ByteArray → Option β) : Option β :=
(cond ((decide (v2 < v1)))
((gd ((decide (0 ≤ v2)))
((gd ((decide (v2 < (v0.length : Int))))
(q_impl_written ((rd 0 v0 v2)) fun r2 =>
(gd ((decide (0 ≤ v2)))
((gd ((decide (v2 < (v3.length : Int))))
(rec_ v0 v1 ((w64 (v2 + 1))) ((wr v3 v2 r2)))))))))))
(k0 v3))
theorem t_impl_writtenList_l0b {β : Type} (N : Nat)  (v0 : List Int) (v1 : Int) (v2 : Int) (v3 : List ByteArray) (rec_ : List Int → Int → Int → List ByteArray → Option β) (k0 : List ByteArray → Option β) : impl_writtenList_l0b N v0 v1 v2 v3 rec_ k0 = BV_impl_writtenList_l0b N (impl_written N) v0 v1 v2 v3 rec_ k0 := by
  unfold impl_writtenList_l0b BV_impl_writtenList_l0b
  rfl
theorem vst24_0_0 {β : Type} (N : Nat) (q_impl_written : (a0 : Int) → (k : ByteArray → Option β) → Option β) (q_impl_writtenList_l0 : Nat → List Int → Int → Int → List ByteArray → (List ByteArray → Option β) → Option β)  (v0 : List Int) (v1 : Int) (v2 : Int) (v3 : List ByteArray) (rec_ : St → Option β) (K : Exit → St → Option β) :
    ev lay (VE24 N q_impl_written q_impl_writtenList_l0) (retMask Tryd.f24) (lp Tryd.f24 0).body (lp Tryd.f24 0).ex ((lp Tryd.f24 0).lv (retMask Tryd.f24)) (h24_0_0  v0 v1 v2 v3) (nextR (fun s' => rec_ (s'.tidy ((lp Tryd.f24 0).lv (retMask Tryd.f24)))) K) = BV_impl_writtenList_l0b N q_impl_written  v0 v1 v2 v3 (fun v0 v1 v2 v3 => rec_ (h24_0_0  v0 v1 v2 v3)) (fun y0 => K (.exit 0) (x24_0_0_k0  y0)) := by kernel_rfl
theorem st24_0_0 {β : Type} (N : Nat)  (v0 : List Int) (v1 : Int) (v2 : Int) (v3 : List ByteArray) (rec_ : St → Option β) (K : Exit → St → Option β) :
    ev lay (E24 N) (retMask Tryd.f24) (lp Tryd.f24 0).body (lp Tryd.f24 0).ex ((lp Tryd.f24 0).lv (retMask Tryd.f24)) (h24_0_0  v0 v1 v2 v3) (nextR (fun s' => rec_ (s'.tidy ((lp Tryd.f24 0).lv (retMask Tryd.f24)))) K) = impl_writtenList_l0b N  v0 v1 v2 v3 (fun v0 v1 v2 v3 => rec_ (h24_0_0  v0 v1 v2 v3)) (fun y0 => K (.exit 0) (x24_0_0_k0  y0)) := (vst24_0_0 N (impl_written N) (impl_writtenList_l0 N) v0 v1 v2 v3 rec_ K).trans (t_impl_writtenList_l0b N  v0 v1 v2 v3 (fun v0 v1 v2 v3 => rec_ (h24_0_0  v0 v1 v2 v3)) (fun y0 => K (.exit 0) (x24_0_0_k0  y0))).symm
theorem ro24_0_0 {β : Type} (N : Nat)  (K : Exit → St → Option β) : ∀ (F : Nat) (v0 : List Int) (v1 : Int) (v2 : Int) (v3 : List ByteArray), (lp Tryd.f24 0).rounds lay (E24 N) (retMask Tryd.f24) F (h24_0_0  v0 v1 v2 v3) K = impl_writtenList_l0 N  F v0 v1 v2 v3 (fun y0 => K (.exit 0) (x24_0_0_k0  y0)) := by
  intro F
  induction F with
  | zero => intros; rfl
  | succ F ih =>
    intros
    rw [rounds_next]
    refine (st24_0_0 N  _ _ _ _ (fun s => (lp Tryd.f24 0).rounds lay (E24 N) (retMask Tryd.f24) F s K) K).trans ?_
    simp only [ih]
    rfl
theorem lk24_0 {β : Type} (N : Nat) : lookL (E24 (β := β) N).loops (lp Tryd.f24 0).id = LS24_0 N := by kernel_rfl
theorem rk24_0 {β : Type} (N : Nat) : RoundsOK lay (E24 (β := β) N) (retMask Tryd.f24) (lp Tryd.f24 0) := by
  intro s K r h
  rw [lk24_0] at h
  unfold LS24_0 VLS24_0 at h
  cases hb : shpSt (h24_0_0 [] 0 0 []) s with
  | true =>
    rw [hb, cond_true] at h
    exact ⟨N, by rw [← shpSt_ref hb, fl24_0_0 s]; exact (ro24_0_0 N  K N (rInts (rowV (oneA (vT (nx tund s.tmps 17))))) (intS (oneA (vT (nx tund s.tmps 18)))) (intS (oneA (vT (nx tund s.tmps 19)))) (rStrs (rowB_ (nx .dead s.blks 0)))).trans h⟩
  | false =>
  rw [hb, cond_false] at h
  clear hb
  cases h
def BV_impl_writtenList {β : Type} (N : Nat) (q_impl_writtenList_l0 : Nat → List Int → Int → Int → List ByteArray → (List ByteArray → Option β) → Option β) (a0 : List Int) (k : ByteArray → Option β) : Option β :=
(cond (((a0.length : Int) == 0))
(k ((strOf [110, 111, 110, 101])))
((cond ((decide ((a0.length : Int) > 40)))
(k ((strOf [110, 111, 110, 101])))
((gd ((decide (0 ≤ (a0.length : Int))))
((gd ((decide ((a0.length : Int) ≤ (a0.length : Int))))
((gd ((decide (16 * (a0.length : Int) ≤ 281474976710656)))
(q_impl_writtenList_l0  N a0 ((a0.length : Int)) 0 ((List.replicate (Int.toNat (a0.length : Int)) ByteArray.empty)) (fun e3_0 =>
strings_Join N e3_0 ((strOf [44])) fun r4 =>
k r4)))))))))))
theorem t_impl_writtenList {β : Type} (N : Nat) (a0 : List Int) (k : ByteArray → Option β) : impl_writtenList N a0 k = BV_impl_writtenList N (impl_writtenList_l0 N) a0 k := by
  unfold impl_writtenList BV_impl_writtenList
  rfl
theorem ve24_0 {β : Type} (N : Nat) (q_impl_written : (a0 : Int) → (k : ByteArray → Option β) → Option β) (q_impl_writtenList_l0 : Nat → List Int → Int → Int → List ByteArray → (List ByteArray → Option β) → Option β)  (a0 : List Int) (K : TV → Option β) : evFn lay (VE24 N q_impl_written q_impl_writtenList_l0) Tryd.f24 [.v (.one (.sl 3 (.ints .i64 a0)))] K = BV_impl_writtenList N q_impl_writtenList_l0 a0 (fun z1 => K (.v (.one (.str z1)))) := by kernel_rfl
theorem e24_0 {β : Type} (N : Nat)  (a0 : List Int) (K : TV → Option β) : evFn lay (E24 N) Tryd.f24 [.v (.one (.sl 3 (.ints .i64 a0)))] K = impl_writtenList N a0 (fun z1 => K (.v (.one (.str z1)))) := (ve24_0 N (impl_written N) (impl_writtenList_l0 N) a0 K).trans (t_impl_writtenList N a0 (fun z1 => K (.v (.one (.str z1))))).symm
theorem o24 {β : Type} (N : Nat) : SpecOK (β := β) inv Tryd.prog 24 (S24 N) := by
  refine spec_of lay_ok mixed (E := E24 N) (specs_loops (specs_cons (o23 N) (specs_cons (o28 N) specs_nil))) muts_nil gs_nil Tryd.func24 (by kernel_rfl) 1 (by kernel_rfl) ⟨trivial, rk24_0 N⟩ fun args K r h => ?_
  unfold S24 VS24 at h
  split at h
  · exact (e24_0 N _ _).trans h
  · cases h
def VS53 {β : Type} (N : Nat) (q_impl_isLetter : (a0 : Int) → (k : Bool → Option β) → Option β) : Rv.Spec β := fun args K => match args with
  | [.v (.one (.int .u8 a0))] => q_impl_isLetter a0 (fun z1 => K (.v (.one (.bool z1))))
  | _ => none
def S53 {β : Type} (N : Nat) : Rv.Spec β := VS53 N (impl_isLetter N)
def VE53 {β : Type} (N : Nat) : Env β := ⟨[], [], [], [], ⟨[], [], []⟩⟩
def E53 {β : Type} (N : Nat) : Env β := VE53 N
def BV_impl_isLetter {β : Type} (N : Nat) (a0 : Int) (k : Bool → Option β) : Option β :=
(cond ((decide (a0 ≥ 97)))
(k ((decide (a0 < 102))))
(k false))
theorem t_impl_isLetter {β : Type} (N : Nat) (a0 : Int) (k : Bool → Option β) : impl_isLetter N a0 k = BV_impl_isLetter N a0 k := by
  unfold impl_isLetter BV_impl_isLetter
  rfl
theorem ve53_0 {β : Type} (N : Nat)  (a0 : Int) (K : TV → Option β) : evFn lay (VE53 N) Tryd.f53 [.v (.one (.int .u8 a0))] K = BV_impl_isLetter N a0 (fun z1 => K (.v (.one (.bool z1)))) := by kernel_rfl
theorem e53_0 {β : Type} (N : Nat)  (a0 : Int) (K : TV → Option β) : evFn lay (E53 N) Tryd.f53 [.v (.one (.int .u8 a0))] K = impl_isLetter N a0 (fun z1 => K (.v (.one (.bool z1)))) := (ve53_0 N a0 K).trans (t_impl_isLetter N a0 (fun z1 => K (.v (.one (.bool z1))))).symm
theorem o53 {β : Type} (N : Nat) : SpecOK (β := β) inv Tryd.prog 53 (S53 N) := by
  refine spec_of lay_ok mixed (E := E53 N) (specs_loops specs_nil) muts_nil gs_nil Tryd.func53 (by kernel_rfl) 0 (by kernel_rfl) trivial fun args K r h => ?_
  unfold S53 VS53 at h
  split at h
  · exact (e53_0 N _ _).trans h
  · cases h
def VS54 {β : Type} (N : Nat) (q_impl_tree_variable_g0 : (a0 : Int) → (k0 : Int → Int → Option β) → Option β) : GSpec β := fun args bl K => match args, bl with
  | [.v (.one (.ptr 0 0))], [.pcells 0 82 [.int .u8 a0, .nilp, .nilp]] => q_impl_tree_variable_g0 a0 (fun y0 y1 => K (.v (.one (.int .i64 y0))) [.pcells 0 82 [.int .u8 y1, .nilp, .nilp]])
  | _, _ => none
def S54 {β : Type} (N : Nat) : GSpec β := VS54 N (impl_tree_variable_g0 N)
def VE54 {β : Type} (N : Nat) : Env β := ⟨[], [], [], [], ⟨[], [], []⟩⟩
def E54 {β : Type} (N : Nat) : Env β := VE54 N
def BV_impl_tree_variable_g0 {β : Type} (N : Nat) (a0 : Int) (k0 : Int → Int → Option β) : Option β :=
k0 ((w64 ((w8 (a0 - 97))))) a0
theorem t_impl_tree_variable_g0 {β : Type} (N : Nat) (a0 : Int) (k0 : Int → Int → Option β) : impl_tree_variable_g0 N a0 k0 = BV_impl_tree_variable_g0 N a0 k0 := by
  unfold impl_tree_variable_g0 BV_impl_tree_variable_g0
  rfl
theorem ve54_0 {β : Type} (N : Nat) (a0 : Int) (K : TV → List Blk → Option β) : evFnG lay (VE54 N) Tryd.f54 [.v (.one (.ptr 0 0))] [.pcells 0 82 [.int .u8 a0, .nilp, .nilp]] K = BV_impl_tree_variable_g0 N a0 (fun y0 y1 => K (.v (.one (.int .i64 y0))) [.pcells 0 82 [.int .u8 y1, .nilp, .nilp]]) := by kernel_rfl
theorem e54_0 {β : Type} (N : Nat) (a0 : Int) (K : TV → List Blk → Option β) : evFnG lay (E54 N) Tryd.f54 [.v (.one (.ptr 0 0))] [.pcells 0 82 [.int .u8 a0, .nilp, .nilp]] K = impl_tree_variable_g0 N a0 (fun y0 y1 => K (.v (.one (.int .i64 y0))) [.pcells 0 82 [.int .u8 y1, .nilp, .nilp]]) := (ve54_0 N a0 K).trans (t_impl_tree_variable_g0 N a0 (fun y0 y1 => K (.v (.one (.int .i64 y0))) [.pcells 0 82 [.int .u8 y1, .nilp, .nilp]])).symm
theorem o54 {β : Type} (N : Nat) : GOK (β := β) inv Tryd.prog 54 (S54 N) := by
  refine g_of lay_ok mixed (E := E54 N) (specs_loops specs_nil) muts_nil gs_nil Tryd.func54 (by kernel_rfl) 0 (by kernel_rfl) trivial fun args bl K r h => ?_
  unfold S54 VS54 at h
  split at h
  · exact (e54_0 N _ _).trans h
  · cases h
def VSF47 {β : Type} (N : Nat) (q_impl_readTree_f : Nat → ByteArray → Int → (Tr → ByteArray → Option β) → Option β) (G : Nat) : Rv.Spec β := fun args K => match args with
  | [.v (.one (.str a0)), .v (.one (.int .i64 a1))] => q_impl_readTree_f G a0 a1 (fun z2 z3 => K (.tup [.one (.tr false z2), .one (.str z3)]))
  | _ => none
def SF47 {β : Type} (N : Nat) (G : Nat) : Rv.Spec β := VSF47 N (impl_readTree_f N) G
def VS47 {β : Type} (N : Nat) (q_impl_readTree_f : Nat → ByteArray → Int → (Tr → ByteArray → Option β) → Option β) : Rv.Spec β := VSF47 N q_impl_readTree_f N
def S47 {β : Type} (N : Nat) : Rv.Spec β := SF47 N N
def VE47 {β : Type} (N : Nat) (q_impl_isLetter : (a0 : Int) → (k : Bool → Option β) → Option β) (q_impl_readTree_f : Nat → ByteArray → Int → (Tr → ByteArray → Option β) → Option β) (q_impl_tree_variable_g0 : (a0 : Int) → (k0 : Int → Int → Option β) → Option β) (G : Nat) : Env β := ⟨[(53, VS53 N q_impl_isLetter), (47, VSF47 N q_impl_readTree_f G)], [], [], [(54, VS54 N q_impl_tree_variable_g0)], ⟨[], [], []⟩⟩
def E47 {β : Type} (N : Nat) (G : Nat) : Env β := VE47 N (impl_isLetter N) (impl_readTree_f N) (impl_tree_variable_g0 N) G
def BV_impl_readTree_b {β : Type} (N : Nat) (q_impl_isLetter : (a0 : Int) → (k : Bool → Option β) → Option β) (q_impl_tree_variable_g0 : (a0 : Int) → (k0 : Int → Int → Option β) → Option β) (self : ByteArray → Int → (Tr → ByteArray → Option β) → Option β) (a0 : ByteArray) (a1 : Int) (k : Tr → ByteArray → Option β) : Option β :=
(cond ((a0.toList == ByteArray.empty.toList))
(k Tr.nil ByteArray.empty)
((gd ((decide (0 < (a0.size : Int))))
((gd ((decide (1 ≤ (a0.size : Int))))
((cond (((bt a0 0) == 48))
(k ((Tr.node ((bt a0 0)) 0 Tr.nil Tr.nil)) ((a0.extract (Int.toNat 1) a0.size)))
((cond (((bt a0 0) == 49))
(k ((Tr.node ((bt a0 0)) 0 Tr.nil Tr.nil)) ((a0.extract (Int.toNat 1) a0.size)))
(q_impl_isLetter ((bt a0 0)) fun r4 =>
(cond (!r4)
(k Tr.nil ByteArray.empty)
(q_impl_tree_variable_g0 ((bt a0 0)) (fun r5_0 r5_1 =>
(gd ((decide (0 ≤ r5_0)))
((cond (((bits .and .i64 (shrI .i64 a1 r5_0) 1) == 1))
(k Tr.nil ByteArray.empty)
(q_impl_tree_variable_g0 r5_1 (fun r6_0 r6_1 =>
(gd ((decide (0 ≤ r6_0)))
(self ((a0.extract (Int.toNat 1) a0.size)) ((bits .or .i64 a1 (shlI .i64 1 r6_0))) fun r7 r8 =>
(cond ((Tr.isNil r7))
(k Tr.nil ByteArray.empty)
(self r8 ((bits .or .i64 a1 (shlI .i64 1 r6_0))) fun r9 r10 =>
(cond ((Tr.isNil r9))
(k Tr.nil ByteArray.empty)
(k ((Tr.node r6_1 0 r7 r9)) r10))))))))))))))))))))))))
theorem t_impl_readTree_b {β : Type} (N : Nat) (self : ByteArray → Int → (Tr → ByteArray → Option β) → Option β) (a0 : ByteArray) (a1 : Int) (k : Tr → ByteArray → Option β) : impl_readTree_b N self a0 a1 k = BV_impl_readTree_b N (impl_isLetter N) (impl_tree_variable_g0 N) self a0 a1 k := by
  unfold impl_readTree_b BV_impl_readTree_b
  rfl
theorem ve47_0 {β : Type} (N : Nat) (q_impl_isLetter : (a0 : Int) → (k : Bool → Option β) → Option β) (q_impl_readTree_f : Nat → ByteArray → Int → (Tr → ByteArray → Option β) → Option β) (q_impl_tree_variable_g0 : (a0 : Int) → (k0 : Int → Int → Option β) → Option β) (G : Nat)  (a0 : ByteArray) (a1 : Int) (K : TV → Option β) : evFn lay (VE47 N q_impl_isLetter q_impl_readTree_f q_impl_tree_variable_g0 G) Tryd.f47 [.v (.one (.str a0)), .v (.one (.int .i64 a1))] K = BV_impl_readTree_b N q_impl_isLetter q_impl_tree_variable_g0 (q_impl_readTree_f G) a0 a1 (fun z2 z3 => K (.tup [.one (.tr false z2), .one (.str z3)])) := by kernel_rfl
theorem e47_0 {β : Type} (N : Nat) (G : Nat)  (a0 : ByteArray) (a1 : Int) (K : TV → Option β) : evFn lay (E47 N G) Tryd.f47 [.v (.one (.str a0)), .v (.one (.int .i64 a1))] K = impl_readTree_f N (G + 1) a0 a1 (fun z2 z3 => K (.tup [.one (.tr false z2), .one (.str z3)])) := (ve47_0 N (impl_isLetter N) (impl_readTree_f N) (impl_tree_variable_g0 N) G a0 a1 K).trans (t_impl_readTree_b N (impl_readTree_f N G) a0 a1 (fun z2 z3 => K (.tup [.one (.tr false z2), .one (.str z3)]))).symm
theorem z47 {β : Type} (N : Nat) : ∀ args K r, SF47 (β := β) N 0 args K = some r → (none : Option β) = some r := by
  intro args K r h
  unfold SF47 VSF47 at h
  split at h <;> exact h
theorem of47 {β : Type} (N : Nat) : ∀ G, SpecOK (β := β) inv Tryd.prog 47 (SF47 N G) := by
  intro G
  induction G with
  | zero => exact s_zero Tryd.func47 (by kernel_rfl) (z47 N)
  | succ G ih =>
    refine spec_of lay_ok mixed (E := E47 N G) (specs_loops (specs_cons (o53 N) (specs_cons ih specs_nil))) muts_nil (gs_cons (o54 N) gs_nil) Tryd.func47 (by kernel_rfl) 0 (by kernel_rfl) trivial fun args K r h => ?_
    unfold SF47 VSF47 at h
    split at h
    · exact (e47_0 N G _ _ _).trans h
    · cases h
theorem o47 {β : Type} (N : Nat) : SpecOK (β := β) inv Tryd.prog 47 (S47 N) := of47 N N
def VS39 {β : Type} (N : Nat) (q_impl_wholeTree : (a0 : ByteArray) → (k : Tr → Bool → Option β) → Option β) : Rv.Spec β := fun args K => match args with
  | [.v (.one (.str a0))] => q_impl_wholeTree a0 (fun z1 z2 => K (.tup [.one (.tr false z1), .one (.bool z2)]))
  | _ => none
def S39 {β : Type} (N : Nat) : Rv.Spec β := VS39 N (impl_wholeTree N)
def VE39 {β : Type} (N : Nat) (q_impl_readTree_f : Nat → ByteArray → Int → (Tr → ByteArray → Option β) → Option β) : Env β := ⟨[(47, VS47 N q_impl_readTree_f)], [], [], [], ⟨[], [], []⟩⟩
def E39 {β : Type} (N : Nat) : Env β := VE39 N (impl_readTree_f N)
def BV_impl_wholeTree {β : Type} (N : Nat) (q_impl_readTree_f : Nat → ByteArray → Int → (Tr → ByteArray → Option β) → Option β) (a0 : ByteArray) (k : Tr → Bool → Option β) : Option β :=
q_impl_readTree_f N a0 0 fun r3 r4 =>
(cond ((!(Tr.isNil r3)))
(k r3 ((r4.toList == ByteArray.empty.toList)))
(k r3 false))
theorem t_impl_wholeTree {β : Type} (N : Nat) (a0 : ByteArray) (k : Tr → Bool → Option β) : impl_wholeTree N a0 k = BV_impl_wholeTree N (impl_readTree_f N) a0 k := by
  unfold impl_wholeTree BV_impl_wholeTree
  rfl
theorem ve39_0 {β : Type} (N : Nat) (q_impl_readTree_f : Nat → ByteArray → Int → (Tr → ByteArray → Option β) → Option β)  (a0 : ByteArray) (K : TV → Option β) : evFn lay (VE39 N q_impl_readTree_f) Tryd.f39 [.v (.one (.str a0))] K = BV_impl_wholeTree N q_impl_readTree_f a0 (fun z1 z2 => K (.tup [.one (.tr false z1), .one (.bool z2)])) := by kernel_rfl
theorem e39_0 {β : Type} (N : Nat)  (a0 : ByteArray) (K : TV → Option β) : evFn lay (E39 N) Tryd.f39 [.v (.one (.str a0))] K = impl_wholeTree N a0 (fun z1 z2 => K (.tup [.one (.tr false z1), .one (.bool z2)])) := (ve39_0 N (impl_readTree_f N) a0 K).trans (t_impl_wholeTree N a0 (fun z1 z2 => K (.tup [.one (.tr false z1), .one (.bool z2)]))).symm
theorem o39 {β : Type} (N : Nat) : SpecOK (β := β) inv Tryd.prog 39 (S39 N) := by
  refine spec_of lay_ok mixed (E := E39 N) (specs_loops (specs_cons (o47 N) specs_nil)) muts_nil gs_nil Tryd.func39 (by kernel_rfl) 0 (by kernel_rfl) trivial fun args K r h => ?_
  unfold S39 VS39 at h
  split at h
  · exact (e39_0 N _ _).trans h
  · cases h
def VS25 {β : Type} (N : Nat) (q_impl_IsTree : (a0 : ByteArray) → (k : Bool → Option β) → Option β) : Rv.Spec β := fun args K => match args with
  | [.v (.one (.str a0))] => q_impl_IsTree a0 (fun z1 => K (.v (.one (.bool z1))))
  | _ => none
def S25 {β : Type} (N : Nat) : Rv.Spec β := VS25 N (impl_IsTree N)
def VE25 {β : Type} (N : Nat) (q_impl_wholeTree : (a0 : ByteArray) → (k : Tr → Bool → Option β) → Option β) : Env β := ⟨[(39, VS39 N q_impl_wholeTree)], [], [], [], ⟨[], [], []⟩⟩
def E25 {β : Type} (N : Nat) : Env β := VE25 N (impl_wholeTree N)
def BV_impl_IsTree {β : Type} (N : Nat) (q_impl_wholeTree : (a0 : ByteArray) → (k : Tr → Bool → Option β) → Option β) (a0 : ByteArray) (k : Bool → Option β) : Option β :=
q_impl_wholeTree a0 fun r2 r3 =>
k r3
theorem t_impl_IsTree {β : Type} (N : Nat) (a0 : ByteArray) (k : Bool → Option β) : impl_IsTree N a0 k = BV_impl_IsTree N (impl_wholeTree N) a0 k := by
  unfold impl_IsTree BV_impl_IsTree
  rfl
theorem ve25_0 {β : Type} (N : Nat) (q_impl_wholeTree : (a0 : ByteArray) → (k : Tr → Bool → Option β) → Option β)  (a0 : ByteArray) (K : TV → Option β) : evFn lay (VE25 N q_impl_wholeTree) Tryd.f25 [.v (.one (.str a0))] K = BV_impl_IsTree N q_impl_wholeTree a0 (fun z1 => K (.v (.one (.bool z1)))) := by kernel_rfl
theorem e25_0 {β : Type} (N : Nat)  (a0 : ByteArray) (K : TV → Option β) : evFn lay (E25 N) Tryd.f25 [.v (.one (.str a0))] K = impl_IsTree N a0 (fun z1 => K (.v (.one (.bool z1)))) := (ve25_0 N (impl_wholeTree N) a0 K).trans (t_impl_IsTree N a0 (fun z1 => K (.v (.one (.bool z1))))).symm
theorem o25 {β : Type} (N : Nat) : SpecOK (β := β) inv Tryd.prog 25 (S25 N) := by
  refine spec_of lay_ok mixed (E := E25 N) (specs_loops (specs_cons (o39 N) specs_nil)) muts_nil gs_nil Tryd.func25 (by kernel_rfl) 0 (by kernel_rfl) trivial fun args K r h => ?_
  unfold S25 VS25 at h
  split at h
  · exact (e25_0 N _ _).trans h
  · cases h
def VSF48 {β : Type} (N : Nat) (q_impl_readPart_f : Nat → ByteArray → (Tr → ByteArray → Option β) → Option β) (G : Nat) : Rv.Spec β := fun args K => match args with
  | [.v (.one (.str a0))] => q_impl_readPart_f G a0 (fun z1 z2 => K (.tup [.one (.tr false z1), .one (.str z2)]))
  | _ => none
def SF48 {β : Type} (N : Nat) (G : Nat) : Rv.Spec β := VSF48 N (impl_readPart_f N) G
def VS48 {β : Type} (N : Nat) (q_impl_readPart_f : Nat → ByteArray → (Tr → ByteArray → Option β) → Option β) : Rv.Spec β := VSF48 N q_impl_readPart_f N
def S48 {β : Type} (N : Nat) : Rv.Spec β := SF48 N N
def VE48 {β : Type} (N : Nat) (q_impl_isLetter : (a0 : Int) → (k : Bool → Option β) → Option β) (q_impl_readPart_f : Nat → ByteArray → (Tr → ByteArray → Option β) → Option β) (G : Nat) : Env β := ⟨[(53, VS53 N q_impl_isLetter), (48, VSF48 N q_impl_readPart_f G)], [], [], [], ⟨[], [], []⟩⟩
def E48 {β : Type} (N : Nat) (G : Nat) : Env β := VE48 N (impl_isLetter N) (impl_readPart_f N) G
def BV_impl_readPart_b {β : Type} (N : Nat) (q_impl_isLetter : (a0 : Int) → (k : Bool → Option β) → Option β) (self : ByteArray → (Tr → ByteArray → Option β) → Option β) (a0 : ByteArray) (k : Tr → ByteArray → Option β) : Option β :=
(cond ((a0.toList == ByteArray.empty.toList))
(k Tr.nil ByteArray.empty)
((gd ((decide (0 < (a0.size : Int))))
((gd ((decide (1 ≤ (a0.size : Int))))
(q_impl_isLetter ((bt a0 0)) fun r3 =>
(cond r3
(k ((Tr.node ((bt a0 0)) 0 Tr.nil Tr.nil)) ((a0.extract (Int.toNat 1) a0.size)))
((cond (((bt a0 0) == 48))
(k ((Tr.node ((bt a0 0)) 0 Tr.nil Tr.nil)) ((a0.extract (Int.toNat 1) a0.size)))
((cond (((bt a0 0) == 49))
(k ((Tr.node ((bt a0 0)) 0 Tr.nil Tr.nil)) ((a0.extract (Int.toNat 1) a0.size)))
((cond (((bt a0 0) == 33))
(self ((a0.extract (Int.toNat 1) a0.size)) fun r4 r5 =>
(cond ((Tr.isNil r4))
(k Tr.nil ByteArray.empty)
(k ((Tr.node ((bt a0 0)) 0 r4 Tr.nil)) r5)))
((cond (((bt a0 0) == 38))
(self ((a0.extract (Int.toNat 1) a0.size)) fun r6 r7 =>
(cond ((Tr.isNil r6))
(k Tr.nil ByteArray.empty)
(self r7 fun r8 r9 =>
(cond ((Tr.isNil r8))
(k Tr.nil ByteArray.empty)
(k ((Tr.node ((bt a0 0)) 0 r6 r8)) r9)))))
((cond (((bt a0 0) == 124))
(self ((a0.extract (Int.toNat 1) a0.size)) fun r10 r11 =>
(cond ((Tr.isNil r10))
(k Tr.nil ByteArray.empty)
(self r11 fun r12 r13 =>
(cond ((Tr.isNil r12))
(k Tr.nil ByteArray.empty)
(k ((Tr.node ((bt a0 0)) 0 r10 r12)) r13)))))
((cond (((bt a0 0) == 94))
(self ((a0.extract (Int.toNat 1) a0.size)) fun r14 r15 =>
(cond ((Tr.isNil r14))
(k Tr.nil ByteArray.empty)
(self r15 fun r16 r17 =>
(cond ((Tr.isNil r16))
(k Tr.nil ByteArray.empty)
(k ((Tr.node ((bt a0 0)) 0 r14 r16)) r17)))))
(k Tr.nil ByteArray.empty))))))))))))))))))))
theorem t_impl_readPart_b {β : Type} (N : Nat) (self : ByteArray → (Tr → ByteArray → Option β) → Option β) (a0 : ByteArray) (k : Tr → ByteArray → Option β) : impl_readPart_b N self a0 k = BV_impl_readPart_b N (impl_isLetter N) self a0 k := by
  unfold impl_readPart_b BV_impl_readPart_b
  rfl
theorem ve48_0 {β : Type} (N : Nat) (q_impl_isLetter : (a0 : Int) → (k : Bool → Option β) → Option β) (q_impl_readPart_f : Nat → ByteArray → (Tr → ByteArray → Option β) → Option β) (G : Nat)  (a0 : ByteArray) (K : TV → Option β) : evFn lay (VE48 N q_impl_isLetter q_impl_readPart_f G) Tryd.f48 [.v (.one (.str a0))] K = BV_impl_readPart_b N q_impl_isLetter (q_impl_readPart_f G) a0 (fun z1 z2 => K (.tup [.one (.tr false z1), .one (.str z2)])) := by kernel_rfl
theorem e48_0 {β : Type} (N : Nat) (G : Nat)  (a0 : ByteArray) (K : TV → Option β) : evFn lay (E48 N G) Tryd.f48 [.v (.one (.str a0))] K = impl_readPart_f N (G + 1) a0 (fun z1 z2 => K (.tup [.one (.tr false z1), .one (.str z2)])) := (ve48_0 N (impl_isLetter N) (impl_readPart_f N) G a0 K).trans (t_impl_readPart_b N (impl_readPart_f N G) a0 (fun z1 z2 => K (.tup [.one (.tr false z1), .one (.str z2)]))).symm
theorem z48 {β : Type} (N : Nat) : ∀ args K r, SF48 (β := β) N 0 args K = some r → (none : Option β) = some r := by
  intro args K r h
  unfold SF48 VSF48 at h
  split at h <;> exact h
theorem of48 {β : Type} (N : Nat) : ∀ G, SpecOK (β := β) inv Tryd.prog 48 (SF48 N G) := by
  intro G
  induction G with
  | zero => exact s_zero Tryd.func48 (by kernel_rfl) (z48 N)
  | succ G ih =>
    refine spec_of lay_ok mixed (E := E48 N G) (specs_loops (specs_cons (o53 N) (specs_cons ih specs_nil))) muts_nil gs_nil Tryd.func48 (by kernel_rfl) 0 (by kernel_rfl) trivial fun args K r h => ?_
    unfold SF48 VSF48 at h
    split at h
    · exact (e48_0 N G _ _).trans h
    · cases h
theorem o48 {β : Type} (N : Nat) : SpecOK (β := β) inv Tryd.prog 48 (S48 N) := of48 N N
def VS40 {β : Type} (N : Nat) (q_impl_readFormula : (a0 : ByteArray) → (k : Tr → Bool → Option β) → Option β) : Rv.Spec β := fun args K => match args with
  | [.v (.one (.str a0))] => q_impl_readFormula a0 (fun z1 z2 => K (.tup [.one (.tr false z1), .one (.bool z2)]))
  | _ => none
def S40 {β : Type} (N : Nat) : Rv.Spec β := VS40 N (impl_readFormula N)
def VE40 {β : Type} (N : Nat) (q_impl_readPart_f : Nat → ByteArray → (Tr → ByteArray → Option β) → Option β) : Env β := ⟨[(48, VS48 N q_impl_readPart_f)], [], [], [], ⟨[], [], []⟩⟩
def E40 {β : Type} (N : Nat) : Env β := VE40 N (impl_readPart_f N)
def BV_impl_readFormula {β : Type} (N : Nat) (q_impl_readPart_f : Nat → ByteArray → (Tr → ByteArray → Option β) → Option β) (a0 : ByteArray) (k : Tr → Bool → Option β) : Option β :=
(cond ((decide ((a0.size : Int) > 60)))
(k Tr.nil false)
(q_impl_readPart_f N a0 fun r3 r4 =>
(cond ((!(Tr.isNil r3)))
(k r3 ((r4.toList == ByteArray.empty.toList)))
(k r3 false))))
theorem t_impl_readFormula {β : Type} (N : Nat) (a0 : ByteArray) (k : Tr → Bool → Option β) : impl_readFormula N a0 k = BV_impl_readFormula N (impl_readPart_f N) a0 k := by
  unfold impl_readFormula BV_impl_readFormula
  rfl
theorem ve40_0 {β : Type} (N : Nat) (q_impl_readPart_f : Nat → ByteArray → (Tr → ByteArray → Option β) → Option β)  (a0 : ByteArray) (K : TV → Option β) : evFn lay (VE40 N q_impl_readPart_f) Tryd.f40 [.v (.one (.str a0))] K = BV_impl_readFormula N q_impl_readPart_f a0 (fun z1 z2 => K (.tup [.one (.tr false z1), .one (.bool z2)])) := by kernel_rfl
theorem e40_0 {β : Type} (N : Nat)  (a0 : ByteArray) (K : TV → Option β) : evFn lay (E40 N) Tryd.f40 [.v (.one (.str a0))] K = impl_readFormula N a0 (fun z1 z2 => K (.tup [.one (.tr false z1), .one (.bool z2)])) := (ve40_0 N (impl_readPart_f N) a0 K).trans (t_impl_readFormula N a0 (fun z1 z2 => K (.tup [.one (.tr false z1), .one (.bool z2)]))).symm
theorem o40 {β : Type} (N : Nat) : SpecOK (β := β) inv Tryd.prog 40 (S40 N) := by
  refine spec_of lay_ok mixed (E := E40 N) (specs_loops (specs_cons (o48 N) specs_nil)) muts_nil gs_nil Tryd.func40 (by kernel_rfl) 0 (by kernel_rfl) trivial fun args K r h => ?_
  unfold S40 VS40 at h
  split at h
  · exact (e40_0 N _ _).trans h
  · cases h
end Go.Proofs.YtignjkbhdaiegaaDoor
