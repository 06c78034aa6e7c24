/- The functions that the claims reach answer as their texts do. -/
import Derived.Test.YtddflpokemgnmaaE1
namespace Go.Proofs.Ytddflpokemgnmaa
open Go.Rv
set_option maxRecDepth 100000
set_option maxHeartbeats 2000000
set_option linter.unusedVariables false
def VSF51 {β : Type} (N : Nat) (q_spec_l5End_f : Nat → ByteArray → Int → (Int → Option β) → Option β) (G : Nat) : Rv.Spec β := fun args K => match args with
  | [.v (.one (.str a0)), .v (.one (.int .i64 a1))] => q_spec_l5End_f G a0 a1 (fun z2 => K (.v (.one (.int .i64 z2))))
  | _ => none
def SF51 {β : Type} (N : Nat) (G : Nat) : Rv.Spec β := VSF51 N (spec_l5End_f N) G
def VS51 {β : Type} (N : Nat) (q_spec_l5End_f : Nat → ByteArray → Int → (Int → Option β) → Option β) : Rv.Spec β := VSF51 N q_spec_l5End_f N
def S51 {β : Type} (N : Nat) : Rv.Spec β := SF51 N N
def VE51 {β : Type} (N : Nat) (q_spec_l5End_f : Nat → ByteArray → Int → (Int → Option β) → Option β) (G : Nat) : Env β := ⟨[(51, VSF51 N q_spec_l5End_f G)], [], [], [], ⟨[], [], [], []⟩⟩
def E51 {β : Type} (N : Nat) (G : Nat) : Env β := VE51 N (spec_l5End_f N) G
def BV_spec_l5End_b {β : Type} (N : Nat) (self : ByteArray → Int → (Int → Option β) → Option β) (a0 : ByteArray) (a1 : Int) (k : Int → Option β) : Option β :=
(cond ((decide (a1 ≥ (a0.size : Int))))
(k (-1))
((gd ((decide (0 ≤ a1)))
((gd ((decide (a1 < (a0.size : Int))))
((cond (((bt a0 a1) == 97))
((cond (((bt a0 a1) == 97))
(k ((w64 (a1 + 1))))
((cond (((bt a0 a1) == 33))
(self a0 ((w64 (a1 + 1))) fun r3 =>
k r3)
((cond (((bt a0 a1) == 38))
((cond (((bt a0 a1) == 38))
(self a0 ((w64 (a1 + 1))) fun r4 =>
(cond ((decide (r4 < 0)))
(k (-1))
(self a0 r4 fun r5 =>
k r5)))
(k (-1))))
((cond (((bt a0 a1) == 124))
((cond (((bt a0 a1) == 124))
(self a0 ((w64 (a1 + 1))) fun r6 =>
(cond ((decide (r6 < 0)))
(k (-1))
(self a0 r6 fun r7 =>
k r7)))
(k (-1))))
((cond (((bt a0 a1) == 94))
(self a0 ((w64 (a1 + 1))) fun r8 =>
(cond ((decide (r8 < 0)))
(k (-1))
(self a0 r8 fun r9 =>
k r9)))
(k (-1))))))))))))
((cond (((bt a0 a1) == 98))
((cond (((bt a0 a1) == 98))
(k ((w64 (a1 + 1))))
((cond (((bt a0 a1) == 33))
(self a0 ((w64 (a1 + 1))) fun r10 =>
k r10)
((cond (((bt a0 a1) == 38))
((cond (((bt a0 a1) == 38))
(self a0 ((w64 (a1 + 1))) fun r11 =>
(cond ((decide (r11 < 0)))
(k (-1))
(self a0 r11 fun r12 =>
k r12)))
(k (-1))))
((cond (((bt a0 a1) == 124))
((cond (((bt a0 a1) == 124))
(self a0 ((w64 (a1 + 1))) fun r13 =>
(cond ((decide (r13 < 0)))
(k (-1))
(self a0 r13 fun r14 =>
k r14)))
(k (-1))))
((cond (((bt a0 a1) == 94))
(self a0 ((w64 (a1 + 1))) fun r15 =>
(cond ((decide (r15 < 0)))
(k (-1))
(self a0 r15 fun r16 =>
k r16)))
(k (-1))))))))))))
((cond (((bt a0 a1) == 99))
((cond (((bt a0 a1) == 99))
(k ((w64 (a1 + 1))))
((cond (((bt a0 a1) == 33))
(self a0 ((w64 (a1 + 1))) fun r17 =>
k r17)
((cond (((bt a0 a1) == 38))
((cond (((bt a0 a1) == 38))
(self a0 ((w64 (a1 + 1))) fun r18 =>
(cond ((decide (r18 < 0)))
(k (-1))
(self a0 r18 fun r19 =>
k r19)))
(k (-1))))
((cond (((bt a0 a1) == 124))
((cond (((bt a0 a1) == 124))
(self a0 ((w64 (a1 + 1))) fun r20 =>
(cond ((decide (r20 < 0)))
(k (-1))
(self a0 r20 fun r21 =>
k r21)))
(k (-1))))
((cond (((bt a0 a1) == 94))
(self a0 ((w64 (a1 + 1))) fun r22 =>
(cond ((decide (r22 < 0)))
(k (-1))
(self a0 r22 fun r23 =>
k r23)))
(k (-1))))))))))))
((cond (((bt a0 a1) == 100))
((cond (((bt a0 a1) == 100))
(k ((w64 (a1 + 1))))
((cond (((bt a0 a1) == 33))
(self a0 ((w64 (a1 + 1))) fun r24 =>
k r24)
((cond (((bt a0 a1) == 38))
((cond (((bt a0 a1) == 38))
(self a0 ((w64 (a1 + 1))) fun r25 =>
(cond ((decide (r25 < 0)))
(k (-1))
(self a0 r25 fun r26 =>
k r26)))
(k (-1))))
((cond (((bt a0 a1) == 124))
((cond (((bt a0 a1) == 124))
(self a0 ((w64 (a1 + 1))) fun r27 =>
(cond ((decide (r27 < 0)))
(k (-1))
(self a0 r27 fun r28 =>
k r28)))
(k (-1))))
((cond (((bt a0 a1) == 94))
(self a0 ((w64 (a1 + 1))) fun r29 =>
(cond ((decide (r29 < 0)))
(k (-1))
(self a0 r29 fun r30 =>
k r30)))
(k (-1))))))))))))
((cond (((bt a0 a1) == 101))
((cond (((bt a0 a1) == 101))
(k ((w64 (a1 + 1))))
((cond (((bt a0 a1) == 33))
(self a0 ((w64 (a1 + 1))) fun r31 =>
k r31)
((cond (((bt a0 a1) == 38))
((cond (((bt a0 a1) == 38))
(self a0 ((w64 (a1 + 1))) fun r32 =>
(cond ((decide (r32 < 0)))
(k (-1))
(self a0 r32 fun r33 =>
k r33)))
(k (-1))))
((cond (((bt a0 a1) == 124))
((cond (((bt a0 a1) == 124))
(self a0 ((w64 (a1 + 1))) fun r34 =>
(cond ((decide (r34 < 0)))
(k (-1))
(self a0 r34 fun r35 =>
k r35)))
(k (-1))))
((cond (((bt a0 a1) == 94))
(self a0 ((w64 (a1 + 1))) fun r36 =>
(cond ((decide (r36 < 0)))
(k (-1))
(self a0 r36 fun r37 =>
k r37)))
(k (-1))))))))))))
((cond (((bt a0 a1) == 48))
((cond (((bt a0 a1) == 48))
(k ((w64 (a1 + 1))))
((cond (((bt a0 a1) == 33))
(self a0 ((w64 (a1 + 1))) fun r38 =>
k r38)
((cond (((bt a0 a1) == 38))
((cond (((bt a0 a1) == 38))
(self a0 ((w64 (a1 + 1))) fun r39 =>
(cond ((decide (r39 < 0)))
(k (-1))
(self a0 r39 fun r40 =>
k r40)))
(k (-1))))
((cond (((bt a0 a1) == 124))
((cond (((bt a0 a1) == 124))
(self a0 ((w64 (a1 + 1))) fun r41 =>
(cond ((decide (r41 < 0)))
(k (-1))
(self a0 r41 fun r42 =>
k r42)))
(k (-1))))
((cond (((bt a0 a1) == 94))
(self a0 ((w64 (a1 + 1))) fun r43 =>
(cond ((decide (r43 < 0)))
(k (-1))
(self a0 r43 fun r44 =>
k r44)))
(k (-1))))))))))))
((cond (((bt a0 a1) == 49))
(k ((w64 (a1 + 1))))
((cond (((bt a0 a1) == 33))
(self a0 ((w64 (a1 + 1))) fun r45 =>
k r45)
((cond (((bt a0 a1) == 38))
((cond (((bt a0 a1) == 38))
(self a0 ((w64 (a1 + 1))) fun r46 =>
(cond ((decide (r46 < 0)))
(k (-1))
(self a0 r46 fun r47 =>
k r47)))
(k (-1))))
((cond (((bt a0 a1) == 124))
((cond (((bt a0 a1) == 124))
(self a0 ((w64 (a1 + 1))) fun r48 =>
(cond ((decide (r48 < 0)))
(k (-1))
(self a0 r48 fun r49 =>
k r49)))
(k (-1))))
((cond (((bt a0 a1) == 94))
(self a0 ((w64 (a1 + 1))) fun r50 =>
(cond ((decide (r50 < 0)))
(k (-1))
(self a0 r50 fun r51 =>
k r51)))
(k (-1)))))))))))))))))))))))))))))
theorem t_spec_l5End_b {β : Type} (N : Nat) (self : ByteArray → Int → (Int → Option β) → Option β) (a0 : ByteArray) (a1 : Int) (k : Int → Option β) : spec_l5End_b N self a0 a1 k = BV_spec_l5End_b N self a0 a1 k := by
  unfold spec_l5End_b BV_spec_l5End_b
  rfl
theorem ve51_0 {β : Type} (N : Nat) (q_spec_l5End_f : Nat → ByteArray → Int → (Int → Option β) → Option β) (G : Nat)  (a0 : ByteArray) (a1 : Int) (K : TV → Option β) : evFn lay (VE51 N q_spec_l5End_f G) Try.f51 [.v (.one (.str a0)), .v (.one (.int .i64 a1))] K = BV_spec_l5End_b N (q_spec_l5End_f G) a0 a1 (fun z2 => K (.v (.one (.int .i64 z2)))) := by kernel_rfl
theorem e51_0 {β : Type} (N : Nat) (G : Nat)  (a0 : ByteArray) (a1 : Int) (K : TV → Option β) : evFn lay (E51 N G) Try.f51 [.v (.one (.str a0)), .v (.one (.int .i64 a1))] K = spec_l5End_f N (G + 1) a0 a1 (fun z2 => K (.v (.one (.int .i64 z2)))) := (ve51_0 N (spec_l5End_f N) G a0 a1 K).trans (t_spec_l5End_b N (spec_l5End_f N G) a0 a1 (fun z2 => K (.v (.one (.int .i64 z2))))).symm
theorem z51 {β : Type} (N : Nat) : ∀ args K r, SF51 (β := β) N 0 args K = some r → (none : Option β) = some r := by
  intro args K r h
  unfold SF51 VSF51 at h
  split at h <;> exact h
theorem of51 {β : Type} (N : Nat) : ∀ G, SpecOK (β := β) inv Try.prog 51 (SF51 N G) := by
  intro G
  induction G with
  | zero => exact s_zero Try.func51 (by kernel_rfl) (z51 N)
  | succ G ih =>
    refine spec_of lay_ok mixed (E := E51 N G) (specs_loops (specs_cons ih specs_nil)) muts_nil gs_nil Try.func51 (by kernel_rfl) 0 (by kernel_rfl) trivial fun args K r h => ?_
    unfold SF51 VSF51 at h
    split at h
    · exact (e51_0 N G _ _ _).trans h
    · cases h
theorem o51 {β : Type} (N : Nat) : SpecOK (β := β) inv Try.prog 51 (S51 N) := of51 N N
def VS23 {β : Type} (N : Nat) (q_spec_IsFormula : (a0 : ByteArray) → (k : Bool → Option β) → Option β) : Rv.Spec β := fun args K => match args with
  | [.v (.one (.str a0))] => q_spec_IsFormula a0 (fun z1 => K (.v (.one (.bool z1))))
  | _ => none
def S23 {β : Type} (N : Nat) : Rv.Spec β := VS23 N (spec_IsFormula N)
def VE23 {β : Type} (N : Nat) (q_spec_l5End_f : Nat → ByteArray → Int → (Int → Option β) → Option β) : Env β := ⟨[(51, VS51 N q_spec_l5End_f)], [], [], [], ⟨[], [], [], []⟩⟩
def E23 {β : Type} (N : Nat) : Env β := VE23 N (spec_l5End_f N)
def BV_spec_IsFormula {β : Type} (N : Nat) (q_spec_l5End_f : Nat → ByteArray → Int → (Int → Option β) → Option β) (a0 : ByteArray) (k : Bool → Option β) : Option β :=
(cond ((decide ((a0.size : Int) ≤ 60)))
((cond ((decide ((a0.size : Int) > 0)))
(q_spec_l5End_f N a0 0 fun r2 =>
k ((r2 == (a0.size : Int))))
(k false)))
(k false))
theorem t_spec_IsFormula {β : Type} (N : Nat) (a0 : ByteArray) (k : Bool → Option β) : spec_IsFormula N a0 k = BV_spec_IsFormula N (spec_l5End_f N) a0 k := by
  unfold spec_IsFormula BV_spec_IsFormula
  rfl
theorem ve23_0 {β : Type} (N : Nat) (q_spec_l5End_f : Nat → ByteArray → Int → (Int → Option β) → Option β)  (a0 : ByteArray) (K : TV → Option β) : evFn lay (VE23 N q_spec_l5End_f) Try.f23 [.v (.one (.str a0))] K = BV_spec_IsFormula N q_spec_l5End_f a0 (fun z1 => K (.v (.one (.bool z1)))) := by kernel_rfl
theorem e23_0 {β : Type} (N : Nat)  (a0 : ByteArray) (K : TV → Option β) : evFn lay (E23 N) Try.f23 [.v (.one (.str a0))] K = spec_IsFormula N a0 (fun z1 => K (.v (.one (.bool z1)))) := (ve23_0 N (spec_l5End_f N) a0 K).trans (t_spec_IsFormula N a0 (fun z1 => K (.v (.one (.bool z1))))).symm
theorem o23 {β : Type} (N : Nat) : SpecOK (β := β) inv Try.prog 23 (S23 N) := by
  refine spec_of lay_ok mixed (E := E23 N) (specs_loops (specs_cons (o51 N) specs_nil)) muts_nil gs_nil Try.func23 (by kernel_rfl) 0 (by kernel_rfl) trivial fun args K r h => ?_
  unfold S23 VS23 at h
  split at h
  · exact (e23_0 N _ _).trans h
  · cases h
def VS34 {β : Type} (N : Nat) (q_spec_l1In : (a0 : Int) → (a1 : Int) → (a2 : Int) → (k : Bool → Option β) → Option β) : Rv.Spec β := fun args K => match args with
  | [.v (.one (.int .i64 a0)), .v (.one (.int .i64 a1)), .v (.one (.int .i64 a2))] => q_spec_l1In a0 a1 a2 (fun z3 => K (.v (.one (.bool z3))))
  | _ => none
def S34 {β : Type} (N : Nat) : Rv.Spec β := VS34 N (spec_l1In N)
def VE34 {β : Type} (N : Nat) : Env β := ⟨[], [], [], [], ⟨[], [], [], []⟩⟩
def E34 {β : Type} (N : Nat) : Env β := VE34 N
def BV_spec_l1In {β : Type} (N : Nat) (a0 : Int) (a1 : Int) (a2 : Int) (k : Bool → Option β) : Option β :=
(cond ((decide (a0 ≥ a1)))
(k ((decide (a0 ≤ a2))))
(k false))
theorem t_spec_l1In {β : Type} (N : Nat) (a0 : Int) (a1 : Int) (a2 : Int) (k : Bool → Option β) : spec_l1In N a0 a1 a2 k = BV_spec_l1In N a0 a1 a2 k := by
  unfold spec_l1In BV_spec_l1In
  rfl
theorem ve34_0 {β : Type} (N : Nat)  (a0 : Int) (a1 : Int) (a2 : Int) (K : TV → Option β) : evFn lay (VE34 N) Try.f34 [.v (.one (.int .i64 a0)), .v (.one (.int .i64 a1)), .v (.one (.int .i64 a2))] K = BV_spec_l1In N a0 a1 a2 (fun z3 => K (.v (.one (.bool z3)))) := by kernel_rfl
theorem e34_0 {β : Type} (N : Nat)  (a0 : Int) (a1 : Int) (a2 : Int) (K : TV → Option β) : evFn lay (E34 N) Try.f34 [.v (.one (.int .i64 a0)), .v (.one (.int .i64 a1)), .v (.one (.int .i64 a2))] K = spec_l1In N a0 a1 a2 (fun z3 => K (.v (.one (.bool z3)))) := (ve34_0 N a0 a1 a2 K).trans (t_spec_l1In N a0 a1 a2 (fun z3 => K (.v (.one (.bool z3))))).symm
theorem o34 {β : Type} (N : Nat) : SpecOK (β := β) inv Try.prog 34 (S34 N) := by
  refine spec_of lay_ok mixed (E := E34 N) (specs_loops specs_nil) muts_nil gs_nil Try.func34 (by kernel_rfl) 0 (by kernel_rfl) trivial fun args K r h => ?_
  unfold S34 VS34 at h
  split at h
  · exact (e34_0 N _ _ _ _).trans h
  · cases h
def VSF35 {β : Type} (N : Nat) (q_spec_l5Value_f : Nat → ByteArray → Int → Int → (Bool → Option β) → Option β) (G : Nat) : Rv.Spec β := fun args K => match args with
  | [.v (.one (.str a0)), .v (.one (.int .i64 a1)), .v (.one (.int .i64 a2))] => q_spec_l5Value_f G a0 a1 a2 (fun z3 => K (.v (.one (.bool z3))))
  | _ => none
def SF35 {β : Type} (N : Nat) (G : Nat) : Rv.Spec β := VSF35 N (spec_l5Value_f N) G
def VS35 {β : Type} (N : Nat) (q_spec_l5Value_f : Nat → ByteArray → Int → Int → (Bool → Option β) → Option β) : Rv.Spec β := VSF35 N q_spec_l5Value_f N
def S35 {β : Type} (N : Nat) : Rv.Spec β := SF35 N N
def VE35 {β : Type} (N : Nat) (q_spec_l5End_f : Nat → ByteArray → Int → (Int → Option β) → Option β) (q_spec_l5Value_f : Nat → ByteArray → Int → Int → (Bool → Option β) → Option β) (G : Nat) : Env β := ⟨[(51, VS51 N q_spec_l5End_f), (35, VSF35 N q_spec_l5Value_f G)], [], [], [], ⟨[], [], [], []⟩⟩
def E35 {β : Type} (N : Nat) (G : Nat) : Env β := VE35 N (spec_l5End_f N) (spec_l5Value_f N) G
def BV_spec_l5Value_b {β : Type} (N : Nat) (q_spec_l5End_f : Nat → ByteArray → Int → (Int → Option β) → Option β) (self : ByteArray → Int → Int → (Bool → Option β) → Option β) (a0 : ByteArray) (a1 : Int) (a2 : Int) (k : Bool → Option β) : Option β :=
(gd ((decide (0 ≤ a1)))
((gd ((decide (a1 < (a0.size : Int))))
((cond (((bt a0 a1) == 48))
(k false)
((cond (((bt a0 a1) == 49))
(k true)
((cond (((bt a0 a1) == 33))
(self a0 ((w64 (a1 + 1))) a2 fun r4 =>
k (!r4))
((cond (((bt a0 a1) == 38))
(self a0 ((w64 (a1 + 1))) a2 fun r5 =>
(cond r5
(q_spec_l5End_f N a0 ((w64 (a1 + 1))) fun r6 =>
self a0 r6 a2 fun r7 =>
k r7)
(k false)))
((cond (((bt a0 a1) == 124))
(self a0 ((w64 (a1 + 1))) a2 fun r8 =>
(cond r8
(k true)
(q_spec_l5End_f N a0 ((w64 (a1 + 1))) fun r9 =>
self a0 r9 a2 fun r10 =>
k r10)))
((cond (((bt a0 a1) == 94))
(self a0 ((w64 (a1 + 1))) a2 fun r11 =>
q_spec_l5End_f N a0 ((w64 (a1 + 1))) fun r12 =>
self a0 r12 a2 fun r13 =>
k ((!(r11 == r13))))
((gd ((decide (0 ≤ a1)))
((gd ((decide (a1 < (a0.size : Int))))
((gd ((decide (0 ≤ (w8 ((bt a0 a1) - 97)))))
(k (((bits .and .i64 (shrI .i64 a2 (w8 ((bt a0 a1) - 97))) 1) == 1))))))))))))))))))))))))
theorem t_spec_l5Value_b {β : Type} (N : Nat) (self : ByteArray → Int → Int → (Bool → Option β) → Option β) (a0 : ByteArray) (a1 : Int) (a2 : Int) (k : Bool → Option β) : spec_l5Value_b N self a0 a1 a2 k = BV_spec_l5Value_b N (spec_l5End_f N) self a0 a1 a2 k := by
  unfold spec_l5Value_b BV_spec_l5Value_b
  rfl
theorem ve35_0 {β : Type} (N : Nat) (q_spec_l5End_f : Nat → ByteArray → Int → (Int → Option β) → Option β) (q_spec_l5Value_f : Nat → ByteArray → Int → Int → (Bool → Option β) → Option β) (G : Nat)  (a0 : ByteArray) (a1 : Int) (a2 : Int) (K : TV → Option β) : evFn lay (VE35 N q_spec_l5End_f q_spec_l5Value_f G) Try.f35 [.v (.one (.str a0)), .v (.one (.int .i64 a1)), .v (.one (.int .i64 a2))] K = BV_spec_l5Value_b N q_spec_l5End_f (q_spec_l5Value_f G) a0 a1 a2 (fun z3 => K (.v (.one (.bool z3)))) := by kernel_rfl
theorem e35_0 {β : Type} (N : Nat) (G : Nat)  (a0 : ByteArray) (a1 : Int) (a2 : Int) (K : TV → Option β) : evFn lay (E35 N G) Try.f35 [.v (.one (.str a0)), .v (.one (.int .i64 a1)), .v (.one (.int .i64 a2))] K = spec_l5Value_f N (G + 1) a0 a1 a2 (fun z3 => K (.v (.one (.bool z3)))) := (ve35_0 N (spec_l5End_f N) (spec_l5Value_f N) G a0 a1 a2 K).trans (t_spec_l5Value_b N (spec_l5Value_f N G) a0 a1 a2 (fun z3 => K (.v (.one (.bool z3))))).symm
theorem z35 {β : Type} (N : Nat) : ∀ args K r, SF35 (β := β) N 0 args K = some r → (none : Option β) = some r := by
  intro args K r h
  unfold SF35 VSF35 at h
  split at h <;> exact h
theorem of35 {β : Type} (N : Nat) : ∀ G, SpecOK (β := β) inv Try.prog 35 (SF35 N G) := by
  intro G
  induction G with
  | zero => exact s_zero Try.func35 (by kernel_rfl) (z35 N)
  | succ G ih =>
    refine spec_of lay_ok mixed (E := E35 N G) (specs_loops (specs_cons (o51 N) (specs_cons ih specs_nil))) muts_nil gs_nil Try.func35 (by kernel_rfl) 0 (by kernel_rfl) trivial fun args K r h => ?_
    unfold SF35 VSF35 at h
    split at h
    · exact (e35_0 N G _ _ _ _).trans h
    · cases h
theorem o35 {β : Type} (N : Nat) : SpecOK (β := β) inv Try.prog 35 (S35 N) := of35 N N
def VS7 {β : Type} (N : Nat) (q_spec_TableOfFormula : (a0 : ByteArray) → (a1 : Int) → (k : Int → Int → Bool → Option β) → Option β) : Rv.Spec β := fun args K => match args with
  | [.v (.one (.str a0)), .v (.one (.int .i64 a1))] => q_spec_TableOfFormula a0 a1 (fun z2 z3 z4 => K (.tup [.agg [.int .i64 z2, .int .i64 z3], .one (.bool z4)]))
  | _ => none
def S7 {β : Type} (N : Nat) : Rv.Spec β := VS7 N (spec_TableOfFormula N)
def h7_0_0  (v0 : ByteArray) (v1 : Int) (v2 : Int) (v3 : Int) (v4 : Int) : St := ⟨.v (.one (.str v0)) :: .v (.one (.int .i64 v1)) :: .v (.one .und) :: .v (.one .und) :: .v (.one (.ptr 0 0)) :: .v (.one .und) :: .v (.one (.int .i64 v2)) :: .v (.one .und) :: .v (.one .und) :: .v (.one .und) :: .v (.one .und) :: .v (.one .und) :: .v (.one .und) :: .v (.one .und) :: .v (.one .und) :: .v (.one .und) :: .v (.one .und) :: .v (.one .und) :: .v (.one .und) :: .v (.one .und) :: .v (.one .und) :: .v (.one .und) :: .v (.one .und) :: .v (.one .und) :: .v (.one .und) :: .v (.one .und) :: .v (.one .und) :: .v (.one .und) :: .v (.one .und) :: .v (.one .und) :: .v (.one .und) :: .v (.one .und) :: .v (.one .und) :: .v (.one .und) :: .v (.one .und) :: .v (.one .und) :: .v (.one .und) :: .v (.one .und) :: .v (.one .und) :: .v (.one .und) :: .v (.one .und) :: .v (.one .und) :: .v (.one .und) :: .v (.one .und) :: .v (.one .und) :: .v (.one .und) :: .v (.one .und) :: .v (.one .und) :: .v (.one .und) :: .v (.one .und) :: .v (.one .und) :: .v (.one .und) :: .v (.one .und) :: .v (.one .und) :: .v (.one .und) :: .v (.one .und) :: .v (.one .und) :: .v (.one .und) :: .v (.one .und) :: .v (.one .und) :: [], [.cells 27 [.int .i64 v3, .int .i64 v4]]⟩
def x7_0_0_k0  (y0 : Bool) (y1 : Int) (y2 : Int) : St := ⟨.v (.one .und) :: .v (.one .und) :: .v (.one .und) :: .v (.one .und) :: .v (.one (.ptr 0 0)) :: .v (.one (.bool y0)) :: .v (.one .und) :: .v (.one .und) :: .v (.one .und) :: .v (.one .und) :: .v (.one .und) :: .v (.one .und) :: .v (.one .und) :: .v (.one .und) :: .v (.one .und) :: .v (.one .und) :: .v (.one .und) :: .v (.one .und) :: .v (.one .und) :: .v (.one .und) :: .v (.one .und) :: .v (.one .und) :: .v (.one .und) :: .v (.one .und) :: .v (.one .und) :: .v (.one .und) :: .v (.one .und) :: .v (.one .und) :: .v (.one .und) :: .v (.one .und) :: .v (.one .und) :: .v (.one .und) :: .v (.one .und) :: .v (.one .und) :: .v (.one .und) :: .v (.one .und) :: .v (.one .und) :: .v (.one .und) :: .v (.one .und) :: .v (.one .und) :: .v (.one .und) :: .v (.one .und) :: .v (.one .und) :: .v (.one .und) :: .v (.one .und) :: .v (.one .und) :: .v (.one .und) :: .v (.one .und) :: .v (.one .und) :: .v (.one .und) :: .v (.one .und) :: .v (.one .und) :: .v (.one .und) :: .v (.one .und) :: .v (.one .und) :: .v (.one .und) :: .v (.one .und) :: .v (.one .und) :: .v (.one .und) :: .v (.one .und) :: [], [.cells 27 [.int .i64 y1, .int .i64 y2]]⟩
def x7_0_0_k1  (y0 : ByteArray) (y1 : Int) (y2 : Int) (y3 : Int) : St := ⟨.v (.one (.str y0)) :: .v (.one (.int .i64 y1)) :: .v (.one .und) :: .v (.one .und) :: .v (.one (.ptr 0 0)) :: .v (.one .und) :: .v (.one .und) :: .v (.one .und) :: .v (.one .und) :: .v (.one .und) :: .v (.one .und) :: .v (.one .und) :: .v (.one .und) :: .v (.one .und) :: .v (.one .und) :: .v (.one .und) :: .v (.one .und) :: .v (.one .und) :: .v (.one .und) :: .v (.one .und) :: .v (.one .und) :: .v (.one .und) :: .v (.one .und) :: .v (.one .und) :: .v (.one .und) :: .v (.one .und) :: .v (.one .und) :: .v (.one .und) :: .v (.one .und) :: .v (.one .und) :: .v (.one .und) :: .v (.one .und) :: .v (.one .und) :: .v (.one .und) :: .v (.one .und) :: .v (.one .und) :: .v (.one .und) :: .v (.one .und) :: .v (.one .und) :: .v (.one .und) :: .v (.one .und) :: .v (.one .und) :: .v (.one .und) :: .v (.one .und) :: .v (.one .und) :: .v (.one .und) :: .v (.one .und) :: .v (.one .und) :: .v (.one .und) :: .v (.one .und) :: .v (.one .und) :: .v (.one .und) :: .v (.one .und) :: .v (.one .und) :: .v (.one .und) :: .v (.one .und) :: .v (.one .und) :: .v (.one .und) :: .v (.one .und) :: .v (.one .und) :: [], [.cells 27 [.int .i64 y2, .int .i64 y3]]⟩
def h7_1_0  (v0 : ByteArray) (v1 : Int) (v2 : Int) (v3 : Int) (v4 : Int) (v5 : Int) : St := ⟨.v (.one (.str v0)) :: .v (.one (.int .i64 v1)) :: .v (.one .und) :: .v (.one .und) :: .v (.one (.ptr 0 0)) :: .v (.one .und) :: .v (.one .und) :: .v (.one (.int .i64 v2)) :: .v (.one (.int .i64 v3)) :: .v (.one .und) :: .v (.one .und) :: .v (.one .und) :: .v (.one .und) :: .v (.one .und) :: .v (.one .und) :: .v (.one .und) :: .v (.one .und) :: .v (.one .und) :: .v (.one .und) :: .v (.one .und) :: .v (.one .und) :: .v (.one .und) :: .v (.one .und) :: .v (.one .und) :: .v (.one .und) :: .v (.one .und) :: .v (.one .und) :: .v (.one .und) :: .v (.one .und) :: .v (.one .und) :: .v (.one .und) :: .v (.one .und) :: .v (.one .und) :: .v (.one .und) :: .v (.one .und) :: .v (.one .und) :: .v (.one .und) :: .v (.one .und) :: .v (.one .und) :: .v (.one .und) :: .v (.one .und) :: .v (.one .und) :: .v (.one .und) :: .v (.one .und) :: .v (.one .und) :: .v (.one .und) :: .v (.one .und) :: .v (.one .und) :: .v (.one .und) :: .v (.one .und) :: .v (.one .und) :: .v (.one .und) :: .v (.one .und) :: .v (.one .und) :: .v (.one .und) :: .v (.one .und) :: .v (.one .und) :: .v (.one .und) :: .v (.one .und) :: .v (.one .und) :: [], [.cells 27 [.int .i64 v4, .int .i64 v5]]⟩
def x7_1_0_k0  (y0 : Int) (y1 : Int) (y2 : Int) (y3 : Int) : St := ⟨.v (.one .und) :: .v (.one (.int .i64 y0)) :: .v (.one .und) :: .v (.one .und) :: .v (.one (.ptr 0 0)) :: .v (.one .und) :: .v (.one .und) :: .v (.one (.int .i64 y1)) :: .v (.one .und) :: .v (.one .und) :: .v (.one .und) :: .v (.one .und) :: .v (.one .und) :: .v (.one .und) :: .v (.one .und) :: .v (.one .und) :: .v (.one .und) :: .v (.one .und) :: .v (.one .und) :: .v (.one .und) :: .v (.one .und) :: .v (.one .und) :: .v (.one .und) :: .v (.one .und) :: .v (.one .und) :: .v (.one .und) :: .v (.one .und) :: .v (.one .und) :: .v (.one .und) :: .v (.one .und) :: .v (.one .und) :: .v (.one .und) :: .v (.one .und) :: .v (.one .und) :: .v (.one .und) :: .v (.one .und) :: .v (.one .und) :: .v (.one .und) :: .v (.one .und) :: .v (.one .und) :: .v (.one .und) :: .v (.one .und) :: .v (.one .und) :: .v (.one .und) :: .v (.one .und) :: .v (.one .und) :: .v (.one .und) :: .v (.one .und) :: .v (.one .und) :: .v (.one .und) :: .v (.one .und) :: .v (.one .und) :: .v (.one .und) :: .v (.one .und) :: .v (.one .und) :: .v (.one .und) :: .v (.one .und) :: .v (.one .und) :: .v (.one .und) :: .v (.one .und) :: [], [.cells 27 [.int .i64 y2, .int .i64 y3]]⟩
theorem fl7_0_0 (s : St) : refSt (h7_0_0 ByteArray.empty 0 0 0 0) s = h7_0_0 (strS (oneA (vT (nx tund s.tmps 0)))) (intS (oneA (vT (nx tund s.tmps 1)))) (intS (oneA (vT (nx tund s.tmps 6)))) (intS (nx .und (cellsB (nx .dead s.blks 0)) 0)) (intS (nx .und (cellsB (nx .dead s.blks 0)) 1)) := by kernel_rfl
def VLS7_0 {β : Type} (N : Nat) (q_spec_TableOfFormula_l0 : Nat → ByteArray → Int → Int → Int → Int → (Bool → Int → Int → Option β) → (ByteArray → Int → Int → Int → Option β) → Option β) : LSpec β := fun s K => cond (shpSt (h7_0_0 ByteArray.empty 0 0 0 0) s) ((fun (v0 : ByteArray) (v1 : Int) (v2 : Int) (v3 : Int) (v4 : Int) => q_spec_TableOfFormula_l0  N v0 v1 v2 v3 v4 (fun y0 y1 y2 => K .ret (x7_0_0_k0  y0 y1 y2)) (fun y0 y1 y2 y3 => K (.exit 0) (x7_0_0_k1  y0 y1 y2 y3))) (strS (oneA (vT (nx tund s.tmps 0)))) (intS (oneA (vT (nx tund s.tmps 1)))) (intS (oneA (vT (nx tund s.tmps 6)))) (intS (nx .und (cellsB (nx .dead s.blks 0)) 0)) (intS (nx .und (cellsB (nx .dead s.blks 0)) 1))) (none)
def LS7_0 {β : Type} (N : Nat) : LSpec β := VLS7_0 N (spec_TableOfFormula_l0 N)
theorem fl7_1_0 (s : St) : refSt (h7_1_0 ByteArray.empty 0 0 0 0 0) s = h7_1_0 (strS (oneA (vT (nx tund s.tmps 0)))) (intS (oneA (vT (nx tund s.tmps 1)))) (intS (oneA (vT (nx tund s.tmps 7)))) (intS (oneA (vT (nx tund s.tmps 8)))) (intS (nx .und (cellsB (nx .dead s.blks 0)) 0)) (intS (nx .und (cellsB (nx .dead s.blks 0)) 1)) := by kernel_rfl
def VLS7_2 {β : Type} (N : Nat) (q_spec_TableOfFormula_l2 : Nat → ByteArray → Int → Int → Int → Int → Int → (Int → Int → Int → Int → Option β) → Option β) : LSpec β := fun s K => cond (shpSt (h7_1_0 ByteArray.empty 0 0 0 0 0) s) ((fun (v0 : ByteArray) (v1 : Int) (v2 : Int) (v3 : Int) (v4 : Int) (v5 : Int) => q_spec_TableOfFormula_l2  N v0 v1 v2 v3 v4 v5 (fun y0 y1 y2 y3 => K (.exit 2) (x7_1_0_k0  y0 y1 y2 y3))) (strS (oneA (vT (nx tund s.tmps 0)))) (intS (oneA (vT (nx tund s.tmps 1)))) (intS (oneA (vT (nx tund s.tmps 7)))) (intS (oneA (vT (nx tund s.tmps 8)))) (intS (nx .und (cellsB (nx .dead s.blks 0)) 0)) (intS (nx .und (cellsB (nx .dead s.blks 0)) 1))) (none)
def LS7_2 {β : Type} (N : Nat) : LSpec β := VLS7_2 N (spec_TableOfFormula_l2 N)
def VE7 {β : Type} (N : Nat) (q_spec_IsFormula : (a0 : ByteArray) → (k : Bool → Option β) → Option β) (q_spec_l1In : (a0 : Int) → (a1 : Int) → (a2 : Int) → (k : Bool → Option β) → Option β) (q_spec_l5Value_f : Nat → ByteArray → Int → Int → (Bool → Option β) → Option β) (q_spec_TableOfFormula_l0 : Nat → ByteArray → Int → Int → Int → Int → (Bool → Int → Int → Option β) → (ByteArray → Int → Int → Int → Option β) → Option β) (q_spec_TableOfFormula_l2 : Nat → ByteArray → Int → Int → Int → Int → Int → (Int → Int → Int → Int → Option β) → Option β) : Env β := ⟨[(23, VS23 N q_spec_IsFormula), (34, VS34 N q_spec_l1In), (35, VS35 N q_spec_l5Value_f)], [], [(0, VLS7_0 N q_spec_TableOfFormula_l0), (2, VLS7_2 N q_spec_TableOfFormula_l2)], [], ⟨[], [], [], []⟩⟩
def E7 {β : Type} (N : Nat) : Env β := VE7 N (spec_IsFormula N) (spec_l1In N) (spec_l5Value_f N) (spec_TableOfFormula_l0 N) (spec_TableOfFormula_l2 N)
def BV_spec_TableOfFormula_l0b {β : Type} (N : Nat)  (v0 : ByteArray) (v1 : Int) (v2 : Int) (v3 : Int) (v4 : Int) (rec_ : ByteArray → Int → Int → Int → Int → Option β) (k0 : Bool → Int → Int → Option β) (k1 : ByteArray → Int → Int → Int → Option β) : Option β :=
(cond ((decide (v2 < (v0.size : Int))))
((gd ((decide (0 ≤ v2)))
((gd ((decide (v2 < (v0.size : Int))))
((cond ((decide ((bt v0 v2) ≥ 97)))
((gd ((decide (0 ≤ v2)))
((gd ((decide (v2 < (v0.size : Int))))
((cond ((decide ((bt v0 v2) ≤ 101)))
((gd ((decide (0 ≤ v2)))
((gd ((decide (v2 < (v0.size : Int))))
((cond ((decide ((w64 ((w8 ((bt v0 v2) - 97)))) ≥ v1)))
(k0 false 0 0)
(rec_ v0 v1 ((w64 (v2 + 1))) v3 v4)))))))
(rec_ v0 v1 ((w64 (v2 + 1))) v3 v4)))))))
(rec_ v0 v1 ((w64 (v2 + 1))) v3 v4)))))))
(k1 v0 v1 v3 v4))
theorem t_spec_TableOfFormula_l0b {β : Type} (N : Nat)  (v0 : ByteArray) (v1 : Int) (v2 : Int) (v3 : Int) (v4 : Int) (rec_ : ByteArray → Int → Int → Int → Int → Option β) (k0 : Bool → Int → Int → Option β) (k1 : ByteArray → Int → Int → Int → Option β) : spec_TableOfFormula_l0b N v0 v1 v2 v3 v4 rec_ k0 k1 = BV_spec_TableOfFormula_l0b N v0 v1 v2 v3 v4 rec_ k0 k1 := by
  unfold spec_TableOfFormula_l0b BV_spec_TableOfFormula_l0b
  rfl
theorem vst7_0_0 {β : Type} (N : Nat) (q_spec_IsFormula : (a0 : ByteArray) → (k : Bool → Option β) → Option β) (q_spec_l1In : (a0 : Int) → (a1 : Int) → (a2 : Int) → (k : Bool → Option β) → Option β) (q_spec_l5Value_f : Nat → ByteArray → Int → Int → (Bool → Option β) → Option β) (q_spec_TableOfFormula_l0 : Nat → ByteArray → Int → Int → Int → Int → (Bool → Int → Int → Option β) → (ByteArray → Int → Int → Int → Option β) → Option β) (q_spec_TableOfFormula_l2 : Nat → ByteArray → Int → Int → Int → Int → Int → (Int → Int → Int → Int → Option β) → Option β)  (v0 : ByteArray) (v1 : Int) (v2 : Int) (v3 : Int) (v4 : Int) (rec_ : St → Option β) (K : Exit → St → Option β) :
    ev lay (VE7 N q_spec_IsFormula q_spec_l1In q_spec_l5Value_f q_spec_TableOfFormula_l0 q_spec_TableOfFormula_l2) (retMask Try.f7) (lp Try.f7 0).body (lp Try.f7 0).ex ((lp Try.f7 0).lv (retMask Try.f7)) (h7_0_0  v0 v1 v2 v3 v4) (nextR (fun s' => rec_ (s'.tidy ((lp Try.f7 0).lv (retMask Try.f7)))) K) = BV_spec_TableOfFormula_l0b N  v0 v1 v2 v3 v4 (fun v0 v1 v2 v3 v4 => rec_ (h7_0_0  v0 v1 v2 v3 v4)) (fun y0 y1 y2 => K .ret (x7_0_0_k0  y0 y1 y2)) (fun y0 y1 y2 y3 => K (.exit 0) (x7_0_0_k1  y0 y1 y2 y3)) := by kernel_rfl
theorem st7_0_0 {β : Type} (N : Nat)  (v0 : ByteArray) (v1 : Int) (v2 : Int) (v3 : Int) (v4 : Int) (rec_ : St → Option β) (K : Exit → St → Option β) :
    ev lay (E7 N) (retMask Try.f7) (lp Try.f7 0).body (lp Try.f7 0).ex ((lp Try.f7 0).lv (retMask Try.f7)) (h7_0_0  v0 v1 v2 v3 v4) (nextR (fun s' => rec_ (s'.tidy ((lp Try.f7 0).lv (retMask Try.f7)))) K) = spec_TableOfFormula_l0b N  v0 v1 v2 v3 v4 (fun v0 v1 v2 v3 v4 => rec_ (h7_0_0  v0 v1 v2 v3 v4)) (fun y0 y1 y2 => K .ret (x7_0_0_k0  y0 y1 y2)) (fun y0 y1 y2 y3 => K (.exit 0) (x7_0_0_k1  y0 y1 y2 y3)) := (vst7_0_0 N (spec_IsFormula N) (spec_l1In N) (spec_l5Value_f N) (spec_TableOfFormula_l0 N) (spec_TableOfFormula_l2 N) v0 v1 v2 v3 v4 rec_ K).trans (t_spec_TableOfFormula_l0b N  v0 v1 v2 v3 v4 (fun v0 v1 v2 v3 v4 => rec_ (h7_0_0  v0 v1 v2 v3 v4)) (fun y0 y1 y2 => K .ret (x7_0_0_k0  y0 y1 y2)) (fun y0 y1 y2 y3 => K (.exit 0) (x7_0_0_k1  y0 y1 y2 y3))).symm
theorem ro7_0_0 {β : Type} (N : Nat)  (K : Exit → St → Option β) : ∀ (F : Nat) (v0 : ByteArray) (v1 : Int) (v2 : Int) (v3 : Int) (v4 : Int), (lp Try.f7 0).rounds lay (E7 N) (retMask Try.f7) F (h7_0_0  v0 v1 v2 v3 v4) K = spec_TableOfFormula_l0 N  F v0 v1 v2 v3 v4 (fun y0 y1 y2 => K .ret (x7_0_0_k0  y0 y1 y2)) (fun y0 y1 y2 y3 => K (.exit 0) (x7_0_0_k1  y0 y1 y2 y3)) := by
  intro F
  induction F with
  | zero => intros; rfl
  | succ F ih =>
    intros
    rw [rounds_next]
    refine (st7_0_0 N  _ _ _ _ _ (fun s => (lp Try.f7 0).rounds lay (E7 N) (retMask Try.f7) F s K) K).trans ?_
    simp only [ih]
    rfl
theorem lk7_0 {β : Type} (N : Nat) : lookL (E7 (β := β) N).loops (lp Try.f7 0).id = LS7_0 N := by kernel_rfl
theorem rk7_0 {β : Type} (N : Nat) : RoundsOK lay (E7 (β := β) N) (retMask Try.f7) (lp Try.f7 0) := by
  intro s K r h
  rw [lk7_0] at h
  unfold LS7_0 VLS7_0 at h
  cases hb : shpSt (h7_0_0 ByteArray.empty 0 0 0 0) s with
  | true =>
    rw [hb, cond_true] at h
    exact ⟨N, by rw [← shpSt_ref hb, fl7_0_0 s]; exact (ro7_0_0 N  K N (strS (oneA (vT (nx tund s.tmps 0)))) (intS (oneA (vT (nx tund s.tmps 1)))) (intS (oneA (vT (nx tund s.tmps 6)))) (intS (nx .und (cellsB (nx .dead s.blks 0)) 0)) (intS (nx .und (cellsB (nx .dead s.blks 0)) 1))).trans h⟩
  | false =>
  rw [hb, cond_false] at h
  clear hb
  cases h
def BV_spec_TableOfFormula_l2b {β : Type} (N : Nat) (q_spec_l5Value_f : Nat → ByteArray → Int → Int → (Bool → Option β) → Option β)  (v0 : ByteArray) (v1 : Int) (v2 : Int) (v3 : Int) (v4 : Int) (v5 : Int) (rec_ : ByteArray → Int → Int → Int → Int → Int → Option β) (k0 : Int → Int → Int → Int → Option β) : Option β :=
(gd ((decide (0 ≤ v1)))
((cond ((decide (v3 < (shlI .i64 1 v1))))
(q_spec_l5Value_f N v0 0 v3 fun r9 =>
(cond r9
((gd ((decide (0 ≤ v3)))
(rec_ v0 v1 ((bits .or .i64 v2 (shlI .i64 1 v3))) ((w64 (v3 + 1))) v4 v5)))
(rec_ v0 v1 v2 ((w64 (v3 + 1))) v4 v5)))
(k0 v1 v2 v4 v5))))
theorem t_spec_TableOfFormula_l2b {β : Type} (N : Nat)  (v0 : ByteArray) (v1 : Int) (v2 : Int) (v3 : Int) (v4 : Int) (v5 : Int) (rec_ : ByteArray → Int → Int → Int → Int → Int → Option β) (k0 : Int → Int → Int → Int → Option β) : spec_TableOfFormula_l2b N v0 v1 v2 v3 v4 v5 rec_ k0 = BV_spec_TableOfFormula_l2b N (spec_l5Value_f N) v0 v1 v2 v3 v4 v5 rec_ k0 := by
  unfold spec_TableOfFormula_l2b BV_spec_TableOfFormula_l2b
  rfl
theorem vst7_1_0 {β : Type} (N : Nat) (q_spec_IsFormula : (a0 : ByteArray) → (k : Bool → Option β) → Option β) (q_spec_l1In : (a0 : Int) → (a1 : Int) → (a2 : Int) → (k : Bool → Option β) → Option β) (q_spec_l5Value_f : Nat → ByteArray → Int → Int → (Bool → Option β) → Option β) (q_spec_TableOfFormula_l0 : Nat → ByteArray → Int → Int → Int → Int → (Bool → Int → Int → Option β) → (ByteArray → Int → Int → Int → Option β) → Option β) (q_spec_TableOfFormula_l2 : Nat → ByteArray → Int → Int → Int → Int → Int → (Int → Int → Int → Int → Option β) → Option β)  (v0 : ByteArray) (v1 : Int) (v2 : Int) (v3 : Int) (v4 : Int) (v5 : Int) (rec_ : St → Option β) (K : Exit → St → Option β) :
    ev lay (VE7 N q_spec_IsFormula q_spec_l1In q_spec_l5Value_f q_spec_TableOfFormula_l0 q_spec_TableOfFormula_l2) (retMask Try.f7) (lp Try.f7 1).body (lp Try.f7 1).ex ((lp Try.f7 1).lv (retMask Try.f7)) (h7_1_0  v0 v1 v2 v3 v4 v5) (nextR (fun s' => rec_ (s'.tidy ((lp Try.f7 1).lv (retMask Try.f7)))) K) = BV_spec_TableOfFormula_l2b N q_spec_l5Value_f  v0 v1 v2 v3 v4 v5 (fun v0 v1 v2 v3 v4 v5 => rec_ (h7_1_0  v0 v1 v2 v3 v4 v5)) (fun y0 y1 y2 y3 => K (.exit 2) (x7_1_0_k0  y0 y1 y2 y3)) := by kernel_rfl
theorem st7_1_0 {β : Type} (N : Nat)  (v0 : ByteArray) (v1 : Int) (v2 : Int) (v3 : Int) (v4 : Int) (v5 : Int) (rec_ : St → Option β) (K : Exit → St → Option β) :
    ev lay (E7 N) (retMask Try.f7) (lp Try.f7 1).body (lp Try.f7 1).ex ((lp Try.f7 1).lv (retMask Try.f7)) (h7_1_0  v0 v1 v2 v3 v4 v5) (nextR (fun s' => rec_ (s'.tidy ((lp Try.f7 1).lv (retMask Try.f7)))) K) = spec_TableOfFormula_l2b N  v0 v1 v2 v3 v4 v5 (fun v0 v1 v2 v3 v4 v5 => rec_ (h7_1_0  v0 v1 v2 v3 v4 v5)) (fun y0 y1 y2 y3 => K (.exit 2) (x7_1_0_k0  y0 y1 y2 y3)) := (vst7_1_0 N (spec_IsFormula N) (spec_l1In N) (spec_l5Value_f N) (spec_TableOfFormula_l0 N) (spec_TableOfFormula_l2 N) v0 v1 v2 v3 v4 v5 rec_ K).trans (t_spec_TableOfFormula_l2b N  v0 v1 v2 v3 v4 v5 (fun v0 v1 v2 v3 v4 v5 => rec_ (h7_1_0  v0 v1 v2 v3 v4 v5)) (fun y0 y1 y2 y3 => K (.exit 2) (x7_1_0_k0  y0 y1 y2 y3))).symm
theorem ro7_1_0 {β : Type} (N : Nat)  (K : Exit → St → Option β) : ∀ (F : Nat) (v0 : ByteArray) (v1 : Int) (v2 : Int) (v3 : Int) (v4 : Int) (v5 : Int), (lp Try.f7 1).rounds lay (E7 N) (retMask Try.f7) F (h7_1_0  v0 v1 v2 v3 v4 v5) K = spec_TableOfFormula_l2 N  F v0 v1 v2 v3 v4 v5 (fun y0 y1 y2 y3 => K (.exit 2) (x7_1_0_k0  y0 y1 y2 y3)) := by
  intro F
  induction F with
  | zero => intros; rfl
  | succ F ih =>
    intros
    rw [rounds_next]
    refine (st7_1_0 N  _ _ _ _ _ _ (fun s => (lp Try.f7 1).rounds lay (E7 N) (retMask Try.f7) F s K) K).trans ?_
    simp only [ih]
    rfl
theorem lk7_2 {β : Type} (N : Nat) : lookL (E7 (β := β) N).loops (lp Try.f7 1).id = LS7_2 N := by kernel_rfl
theorem rk7_2 {β : Type} (N : Nat) : RoundsOK lay (E7 (β := β) N) (retMask Try.f7) (lp Try.f7 1) := by
  intro s K r h
  rw [lk7_2] at h
  unfold LS7_2 VLS7_2 at h
  cases hb : shpSt (h7_1_0 ByteArray.empty 0 0 0 0 0) s with
  | true =>
    rw [hb, cond_true] at h
    exact ⟨N, by rw [← shpSt_ref hb, fl7_1_0 s]; exact (ro7_1_0 N  K N (strS (oneA (vT (nx tund s.tmps 0)))) (intS (oneA (vT (nx tund s.tmps 1)))) (intS (oneA (vT (nx tund s.tmps 7)))) (intS (oneA (vT (nx tund s.tmps 8)))) (intS (nx .und (cellsB (nx .dead s.blks 0)) 0)) (intS (nx .und (cellsB (nx .dead s.blks 0)) 1))).trans h⟩
  | false =>
  rw [hb, cond_false] at h
  clear hb
  cases h
def BV_spec_TableOfFormula {β : Type} (N : Nat) (q_spec_IsFormula : (a0 : ByteArray) → (k : Bool → Option β) → Option β) (q_spec_l1In : (a0 : Int) → (a1 : Int) → (a2 : Int) → (k : Bool → Option β) → Option β) (q_spec_TableOfFormula_l0 : Nat → ByteArray → Int → Int → Int → Int → (Bool → Int → Int → Option β) → (ByteArray → Int → Int → Int → Option β) → Option β) (q_spec_TableOfFormula_l2 : Nat → ByteArray → Int → Int → Int → Int → Int → (Int → Int → Int → Int → Option β) → Option β) (a0 : ByteArray) (a1 : Int) (k : Int → Int → Bool → Option β) : Option β :=
q_spec_IsFormula a0 fun r5 =>
(cond (!r5)
(k 0 0 false)
(q_spec_l1In a1 0 5 fun r6 =>
(cond (!r6)
(k 0 0 false)
(q_spec_TableOfFormula_l0  N a0 a1 0 0 0 (fun e7_0 e7_1 e7_2 =>
k e7_1 e7_2 e7_0) (fun e8_0 e8_1 e8_2 e8_3 =>
q_spec_TableOfFormula_l2  N e8_0 e8_1 0 0 e8_2 e8_3 (fun e10_0 e10_1 e10_2 e10_3 =>
k e10_0 e10_1 true))))))
theorem t_spec_TableOfFormula {β : Type} (N : Nat) (a0 : ByteArray) (a1 : Int) (k : Int → Int → Bool → Option β) : spec_TableOfFormula N a0 a1 k = BV_spec_TableOfFormula N (spec_IsFormula N) (spec_l1In N) (spec_TableOfFormula_l0 N) (spec_TableOfFormula_l2 N) a0 a1 k := by
  unfold spec_TableOfFormula BV_spec_TableOfFormula
  rfl
theorem ve7_0 {β : Type} (N : Nat) (q_spec_IsFormula : (a0 : ByteArray) → (k : Bool → Option β) → Option β) (q_spec_l1In : (a0 : Int) → (a1 : Int) → (a2 : Int) → (k : Bool → Option β) → Option β) (q_spec_l5Value_f : Nat → ByteArray → Int → Int → (Bool → Option β) → Option β) (q_spec_TableOfFormula_l0 : Nat → ByteArray → Int → Int → Int → Int → (Bool → Int → Int → Option β) → (ByteArray → Int → Int → Int → Option β) → Option β) (q_spec_TableOfFormula_l2 : Nat → ByteArray → Int → Int → Int → Int → Int → (Int → Int → Int → Int → Option β) → Option β)  (a0 : ByteArray) (a1 : Int) (K : TV → Option β) : evFn lay (VE7 N q_spec_IsFormula q_spec_l1In q_spec_l5Value_f q_spec_TableOfFormula_l0 q_spec_TableOfFormula_l2) Try.f7 [.v (.one (.str a0)), .v (.one (.int .i64 a1))] K = BV_spec_TableOfFormula N q_spec_IsFormula q_spec_l1In q_spec_TableOfFormula_l0 q_spec_TableOfFormula_l2 a0 a1 (fun z2 z3 z4 => K (.tup [.agg [.int .i64 z2, .int .i64 z3], .one (.bool z4)])) := by kernel_rfl
theorem e7_0 {β : Type} (N : Nat)  (a0 : ByteArray) (a1 : Int) (K : TV → Option β) : evFn lay (E7 N) Try.f7 [.v (.one (.str a0)), .v (.one (.int .i64 a1))] K = spec_TableOfFormula N a0 a1 (fun z2 z3 z4 => K (.tup [.agg [.int .i64 z2, .int .i64 z3], .one (.bool z4)])) := (ve7_0 N (spec_IsFormula N) (spec_l1In N) (spec_l5Value_f N) (spec_TableOfFormula_l0 N) (spec_TableOfFormula_l2 N) a0 a1 K).trans (t_spec_TableOfFormula N a0 a1 (fun z2 z3 z4 => K (.tup [.agg [.int .i64 z2, .int .i64 z3], .one (.bool z4)]))).symm
theorem o7 {β : Type} (N : Nat) : SpecOK (β := β) inv Try.prog 7 (S7 N) := by
  refine spec_of lay_ok mixed (E := E7 N) (specs_loops (specs_cons (o23 N) (specs_cons (o34 N) (specs_cons (o35 N) specs_nil)))) muts_nil gs_nil Try.func7 (by kernel_rfl) 2 (by kernel_rfl) ⟨⟨trivial, rk7_0 N⟩, rk7_2 N⟩ fun args K r h => ?_
  unfold S7 VS7 at h
  split at h
  · exact (e7_0 N _ _ _).trans h
  · cases h
def VS8 {β : Type} (N : Nat) (q_impl_IsFormula : (a0 : ByteArray) → (k : Bool → Option β) → Option β) : Rv.Spec β := fun args K => match args with
  | [.v (.one (.str a0))] => q_impl_IsFormula a0 (fun z1 => K (.v (.one (.bool z1))))
  | _ => none
def S8 {β : Type} (N : Nat) : Rv.Spec β := VS8 N (impl_IsFormula N)
def VE8 {β : Type} (N : Nat) (q_impl_readFormula : (a0 : ByteArray) → (k : Tr → Bool → Option β) → Option β) : Env β := ⟨[(31, VS31 N q_impl_readFormula)], [], [], [], ⟨[], [], [], []⟩⟩
def E8 {β : Type} (N : Nat) : Env β := VE8 N (impl_readFormula N)
def BV_impl_IsFormula {β : Type} (N : Nat) (q_impl_readFormula : (a0 : ByteArray) → (k : Tr → Bool → Option β) → Option β) (a0 : ByteArray) (k : Bool → Option β) : Option β :=
q_impl_readFormula a0 fun r2 r3 =>
k r3
theorem t_impl_IsFormula {β : Type} (N : Nat) (a0 : ByteArray) (k : Bool → Option β) : impl_IsFormula N a0 k = BV_impl_IsFormula N (impl_readFormula N) a0 k := by
  unfold impl_IsFormula BV_impl_IsFormula
  rfl
theorem ve8_0 {β : Type} (N : Nat) (q_impl_readFormula : (a0 : ByteArray) → (k : Tr → Bool → Option β) → Option β)  (a0 : ByteArray) (K : TV → Option β) : evFn lay (VE8 N q_impl_readFormula) Try.f8 [.v (.one (.str a0))] K = BV_impl_IsFormula N q_impl_readFormula a0 (fun z1 => K (.v (.one (.bool z1)))) := by kernel_rfl
theorem e8_0 {β : Type} (N : Nat)  (a0 : ByteArray) (K : TV → Option β) : evFn lay (E8 N) Try.f8 [.v (.one (.str a0))] K = impl_IsFormula N a0 (fun z1 => K (.v (.one (.bool z1)))) := (ve8_0 N (impl_readFormula N) a0 K).trans (t_impl_IsFormula N a0 (fun z1 => K (.v (.one (.bool z1))))).symm
theorem o8 {β : Type} (N : Nat) : SpecOK (β := β) inv Try.prog 8 (S8 N) := by
  refine spec_of lay_ok mixed (E := E8 N) (specs_loops (specs_cons (o31 N) specs_nil)) muts_nil gs_nil Try.func8 (by kernel_rfl) 0 (by kernel_rfl) trivial fun args K r h => ?_
  unfold S8 VS8 at h
  split at h
  · exact (e8_0 N _ _).trans h
  · cases h
def VS41 {β : Type} (N : Nat) (q_impl_other : (a0 : Int) → (k : Int → Option β) → Option β) : Rv.Spec β := fun args K => match args with
  | [.v (.one (.int .u8 a0))] => q_impl_other a0 (fun z1 => K (.v (.one (.int .u8 z1))))
  | _ => none
def S41 {β : Type} (N : Nat) : Rv.Spec β := VS41 N (impl_other N)
def VE41 {β : Type} (N : Nat) : Env β := ⟨[], [], [], [], ⟨[], [], [], []⟩⟩
def E41 {β : Type} (N : Nat) : Env β := VE41 N
def BV_impl_other {β : Type} (N : Nat) (a0 : Int) (k : Int → Option β) : Option β :=
(cond ((a0 == 38))
(k 124)
((cond ((a0 == 124))
(k 38)
((cond ((a0 == 48))
(k 49)
((cond ((a0 == 49))
(k 48)
(k a0))))))))
theorem t_impl_other {β : Type} (N : Nat) (a0 : Int) (k : Int → Option β) : impl_other N a0 k = BV_impl_other N a0 k := by
  unfold impl_other BV_impl_other
  rfl
theorem ve41_0 {β : Type} (N : Nat)  (a0 : Int) (K : TV → Option β) : evFn lay (VE41 N) Try.f41 [.v (.one (.int .u8 a0))] K = BV_impl_other N a0 (fun z1 => K (.v (.one (.int .u8 z1)))) := by kernel_rfl
theorem e41_0 {β : Type} (N : Nat)  (a0 : Int) (K : TV → Option β) : evFn lay (E41 N) Try.f41 [.v (.one (.int .u8 a0))] K = impl_other N a0 (fun z1 => K (.v (.one (.int .u8 z1)))) := (ve41_0 N a0 K).trans (t_impl_other N a0 (fun z1 => K (.v (.one (.int .u8 z1))))).symm
theorem o41 {β : Type} (N : Nat) : SpecOK (β := β) inv Try.prog 41 (S41 N) := by
  refine spec_of lay_ok mixed (E := E41 N) (specs_loops specs_nil) muts_nil gs_nil Try.func41 (by kernel_rfl) 0 (by kernel_rfl) trivial fun args K r h => ?_
  unfold S41 VS41 at h
  split at h
  · exact (e41_0 N _ _).trans h
  · cases h
def VSF36 {β : Type} (N : Nat) (q_impl_part_push_f : Nat → Tr → Bool → (Tr → Option β) → Option β) (G : Nat) : Rv.Spec β := fun args K => match args with
  | [.v (.one (.tr false a0)), .v (.one (.bool a1))] => q_impl_part_push_f G a0 a1 (fun z2 => K (.v (.one (.tr false z2))))
  | _ => none
def SF36 {β : Type} (N : Nat) (G : Nat) : Rv.Spec β := VSF36 N (impl_part_push_f N) G
def VS36 {β : Type} (N : Nat) (q_impl_part_push_f : Nat → Tr → Bool → (Tr → Option β) → Option β) : Rv.Spec β := VSF36 N q_impl_part_push_f N
def S36 {β : Type} (N : Nat) : Rv.Spec β := SF36 N N
def VE36 {β : Type} (N : Nat) (q_impl_isLetter : (a0 : Int) → (k : Bool → Option β) → Option β) (q_impl_part_isLeaf : (a0 : Tr) → (k : Bool → Option β) → Option β) (q_impl_other : (a0 : Int) → (k : Int → Option β) → Option β) (q_impl_part_push_f : Nat → Tr → Bool → (Tr → Option β) → Option β) (G : Nat) : Env β := ⟨[(59, VS59 N q_impl_isLetter), (58, VS58 N q_impl_part_isLeaf), (41, VS41 N q_impl_other), (36, VSF36 N q_impl_part_push_f G)], [], [], [], ⟨[], [], [], []⟩⟩
def E36 {β : Type} (N : Nat) (G : Nat) : Env β := VE36 N (impl_isLetter N) (impl_part_isLeaf N) (impl_other N) (impl_part_push_f N) G
def BV_impl_part_push_b {β : Type} (N : Nat) (q_impl_isLetter : (a0 : Int) → (k : Bool → Option β) → Option β) (q_impl_part_isLeaf : (a0 : Tr) → (k : Bool → Option β) → Option β) (q_impl_other : (a0 : Int) → (k : Int → Option β) → Option β) (self : Tr → Bool → (Tr → Option β) → Option β) (a0 : Tr) (a1 : Bool) (k : Tr → Option β) : Option β :=
(gd ((!(Tr.isNil a0)))
((gd ((!(Tr.isNil a0)))
((gd ((!(Tr.isNil a0)))
((cond (((Tr.a a0) == 33))
((gd ((!(Tr.isNil a0)))
((gd ((!(Tr.isNil a0)))
((gd ((!(Tr.isNil a0)))
(self ((Tr.l a0)) (!a1) fun r3 =>
k r3)))))))
((gd ((!(Tr.isNil a0)))
((gd ((!(Tr.isNil a0)))
((gd ((!(Tr.isNil a0)))
(q_impl_isLetter ((Tr.a a0)) fun r4 =>
(cond r4
((cond a1
(k ((Tr.node 33 0 a0 Tr.nil)))
(q_impl_part_isLeaf a0 fun r5 =>
(cond r5
((cond a1
((gd ((!(Tr.isNil a0)))
((gd ((!(Tr.isNil a0)))
((gd ((!(Tr.isNil a0)))
(q_impl_other ((Tr.a a0)) fun r6 =>
k ((Tr.node r6 0 Tr.nil Tr.nil)))))))))
(k a0)))
((gd ((!(Tr.isNil a0)))
((gd ((!(Tr.isNil a0)))
((gd ((!(Tr.isNil a0)))
((cond (((Tr.a a0) == 94))
((gd ((!(Tr.isNil a0)))
((gd ((!(Tr.isNil a0)))
((gd ((!(Tr.isNil a0)))
((gd ((!(Tr.isNil a0)))
((gd ((!(Tr.isNil a0)))
((gd ((!(Tr.isNil a0)))
(self ((Tr.l a0)) a1 fun r7 =>
self ((Tr.r a0)) false fun r8 =>
k ((Tr.node 94 0 r7 r8)))))))))))))))
((gd ((!(Tr.isNil a0)))
((gd ((!(Tr.isNil a0)))
((gd ((!(Tr.isNil a0)))
((cond a1
(q_impl_other ((Tr.a a0)) fun r9 =>
(gd ((!(Tr.isNil a0)))
((gd ((!(Tr.isNil a0)))
((gd ((!(Tr.isNil a0)))
((gd ((!(Tr.isNil a0)))
((gd ((!(Tr.isNil a0)))
((gd ((!(Tr.isNil a0)))
(self ((Tr.l a0)) a1 fun r10 =>
self ((Tr.r a0)) a1 fun r11 =>
k ((Tr.node r9 0 r10 r11)))))))))))))))
((gd ((!(Tr.isNil a0)))
((gd ((!(Tr.isNil a0)))
((gd ((!(Tr.isNil a0)))
((gd ((!(Tr.isNil a0)))
((gd ((!(Tr.isNil a0)))
((gd ((!(Tr.isNil a0)))
(self ((Tr.l a0)) a1 fun r12 =>
self ((Tr.r a0)) a1 fun r13 =>
k ((Tr.node ((Tr.a a0)) 0 r12 r13)))))))))))))))))))))))))))))))))))
(q_impl_part_isLeaf a0 fun r14 =>
(cond r14
((cond a1
((gd ((!(Tr.isNil a0)))
((gd ((!(Tr.isNil a0)))
((gd ((!(Tr.isNil a0)))
(q_impl_other ((Tr.a a0)) fun r15 =>
k ((Tr.node r15 0 Tr.nil Tr.nil)))))))))
(k a0)))
((gd ((!(Tr.isNil a0)))
((gd ((!(Tr.isNil a0)))
((gd ((!(Tr.isNil a0)))
((cond (((Tr.a a0) == 94))
((gd ((!(Tr.isNil a0)))
((gd ((!(Tr.isNil a0)))
((gd ((!(Tr.isNil a0)))
((gd ((!(Tr.isNil a0)))
((gd ((!(Tr.isNil a0)))
((gd ((!(Tr.isNil a0)))
(self ((Tr.l a0)) a1 fun r16 =>
self ((Tr.r a0)) false fun r17 =>
k ((Tr.node 94 0 r16 r17)))))))))))))))
((gd ((!(Tr.isNil a0)))
((gd ((!(Tr.isNil a0)))
((gd ((!(Tr.isNil a0)))
((cond a1
(q_impl_other ((Tr.a a0)) fun r18 =>
(gd ((!(Tr.isNil a0)))
((gd ((!(Tr.isNil a0)))
((gd ((!(Tr.isNil a0)))
((gd ((!(Tr.isNil a0)))
((gd ((!(Tr.isNil a0)))
((gd ((!(Tr.isNil a0)))
(self ((Tr.l a0)) a1 fun r19 =>
self ((Tr.r a0)) a1 fun r20 =>
k ((Tr.node r18 0 r19 r20)))))))))))))))
((gd ((!(Tr.isNil a0)))
((gd ((!(Tr.isNil a0)))
((gd ((!(Tr.isNil a0)))
((gd ((!(Tr.isNil a0)))
((gd ((!(Tr.isNil a0)))
((gd ((!(Tr.isNil a0)))
(self ((Tr.l a0)) a1 fun r21 =>
self ((Tr.r a0)) a1 fun r22 =>
k ((Tr.node ((Tr.a a0)) 0 r21 r22))))))))))))))))))))))))))))))))))))))))))))))))
theorem t_impl_part_push_b {β : Type} (N : Nat) (self : Tr → Bool → (Tr → Option β) → Option β) (a0 : Tr) (a1 : Bool) (k : Tr → Option β) : impl_part_push_b N self a0 a1 k = BV_impl_part_push_b N (impl_isLetter N) (impl_part_isLeaf N) (impl_other N) self a0 a1 k := by
  unfold impl_part_push_b BV_impl_part_push_b
  rfl
theorem ve36_0 {β : Type} (N : Nat) (q_impl_isLetter : (a0 : Int) → (k : Bool → Option β) → Option β) (q_impl_part_isLeaf : (a0 : Tr) → (k : Bool → Option β) → Option β) (q_impl_other : (a0 : Int) → (k : Int → Option β) → Option β) (q_impl_part_push_f : Nat → Tr → Bool → (Tr → Option β) → Option β) (G : Nat)  (a0 : Tr) (a1 : Bool) (K : TV → Option β) : evFn lay (VE36 N q_impl_isLetter q_impl_part_isLeaf q_impl_other q_impl_part_push_f G) Try.f36 [.v (.one (.tr false a0)), .v (.one (.bool a1))] K = BV_impl_part_push_b N q_impl_isLetter q_impl_part_isLeaf q_impl_other (q_impl_part_push_f G) a0 a1 (fun z2 => K (.v (.one (.tr false z2)))) := by kernel_rfl
theorem e36_0 {β : Type} (N : Nat) (G : Nat)  (a0 : Tr) (a1 : Bool) (K : TV → Option β) : evFn lay (E36 N G) Try.f36 [.v (.one (.tr false a0)), .v (.one (.bool a1))] K = impl_part_push_f N (G + 1) a0 a1 (fun z2 => K (.v (.one (.tr false z2)))) := (ve36_0 N (impl_isLetter N) (impl_part_isLeaf N) (impl_other N) (impl_part_push_f N) G a0 a1 K).trans (t_impl_part_push_b N (impl_part_push_f N G) a0 a1 (fun z2 => K (.v (.one (.tr false z2))))).symm
theorem z36 {β : Type} (N : Nat) : ∀ args K r, SF36 (β := β) N 0 args K = some r → (none : Option β) = some r := by
  intro args K r h
  unfold SF36 VSF36 at h
  split at h <;> exact h
theorem of36 {β : Type} (N : Nat) : ∀ G, SpecOK (β := β) inv Try.prog 36 (SF36 N G) := by
  intro G
  induction G with
  | zero => exact s_zero Try.func36 (by kernel_rfl) (z36 N)
  | succ G ih =>
    refine spec_of lay_ok mixed (E := E36 N G) (specs_loops (specs_cons (o59 N) (specs_cons (o58 N) (specs_cons (o41 N) (specs_cons ih specs_nil))))) muts_nil gs_nil Try.func36 (by kernel_rfl) 0 (by kernel_rfl) trivial fun args K r h => ?_
    unfold SF36 VSF36 at h
    split at h
    · exact (e36_0 N G _ _ _).trans h
    · cases h
theorem o36 {β : Type} (N : Nat) : SpecOK (β := β) inv Try.prog 36 (S36 N) := of36 N N
def VSF37 {β : Type} (N : Nat) (q_impl_part_text_f : Nat → Tr → (ByteArray → Option β) → Option β) (G : Nat) : Rv.Spec β := fun args K => match args with
  | [.v (.one (.tr false a0))] => q_impl_part_text_f G a0 (fun z1 => K (.v (.one (.str z1))))
  | _ => none
def SF37 {β : Type} (N : Nat) (G : Nat) : Rv.Spec β := VSF37 N (impl_part_text_f N) G
def VS37 {β : Type} (N : Nat) (q_impl_part_text_f : Nat → Tr → (ByteArray → Option β) → Option β) : Rv.Spec β := VSF37 N q_impl_part_text_f N
def S37 {β : Type} (N : Nat) : Rv.Spec β := SF37 N N
def VE37 {β : Type} (N : Nat) (q_impl_part_text_f : Nat → Tr → (ByteArray → Option β) → Option β) (G : Nat) : Env β := ⟨[(37, VSF37 N q_impl_part_text_f G)], [], [], [], ⟨[], [], [], []⟩⟩
def E37 {β : Type} (N : Nat) (G : Nat) : Env β := VE37 N (impl_part_text_f N) G
def BV_impl_part_text_b {β : Type} (N : Nat) (self : Tr → (ByteArray → Option β) → Option β) (a0 : Tr) (k : ByteArray → Option β) : Option β :=
(gd ((!(Tr.isNil a0)))
((gd ((!(Tr.isNil a0)))
((gd ((!(Tr.isNil a0)))
((gd ((!(Tr.isNil a0)))
((gd ((!(Tr.isNil a0)))
((gd ((!(Tr.isNil a0)))
((cond ((!(Tr.isNil ((Tr.l a0)))))
((gd ((!(Tr.isNil a0)))
((gd ((!(Tr.isNil a0)))
((gd ((!(Tr.isNil a0)))
(self ((Tr.l a0)) fun r2 =>
(gd ((decide (((strOf ((([] : List Int) ++ [(Tr.a a0)])))).size + r2.size ≤ 9223372036854775807)))
((gd ((!(Tr.isNil a0)))
((gd ((!(Tr.isNil a0)))
((gd ((!(Tr.isNil a0)))
((cond ((!(Tr.isNil ((Tr.r a0)))))
((gd ((!(Tr.isNil a0)))
((gd ((!(Tr.isNil a0)))
((gd ((!(Tr.isNil a0)))
(self ((Tr.r a0)) fun r3 =>
(gd ((decide ((((strOf ((([] : List Int) ++ [(Tr.a a0)]))) ++ r2)).size + r3.size ≤ 9223372036854775807)))
(k ((((strOf ((([] : List Int) ++ [(Tr.a a0)]))) ++ r2) ++ r3)))))))))))
(k (((strOf ((([] : List Int) ++ [(Tr.a a0)]))) ++ r2)))))))))))))))))))
((gd ((!(Tr.isNil a0)))
((gd ((!(Tr.isNil a0)))
((gd ((!(Tr.isNil a0)))
((cond ((!(Tr.isNil ((Tr.r a0)))))
((gd ((!(Tr.isNil a0)))
((gd ((!(Tr.isNil a0)))
((gd ((!(Tr.isNil a0)))
(self ((Tr.r a0)) fun r4 =>
(gd ((decide (((strOf ((([] : List Int) ++ [(Tr.a a0)])))).size + r4.size ≤ 9223372036854775807)))
(k (((strOf ((([] : List Int) ++ [(Tr.a a0)]))) ++ r4)))))))))))
(k ((strOf ((([] : List Int) ++ [(Tr.a a0)]))))))))))))))))))))))))))
theorem t_impl_part_text_b {β : Type} (N : Nat) (self : Tr → (ByteArray → Option β) → Option β) (a0 : Tr) (k : ByteArray → Option β) : impl_part_text_b N self a0 k = BV_impl_part_text_b N self a0 k := by
  unfold impl_part_text_b BV_impl_part_text_b
  rfl
theorem ve37_0 {β : Type} (N : Nat) (q_impl_part_text_f : Nat → Tr → (ByteArray → Option β) → Option β) (G : Nat)  (a0 : Tr) (K : TV → Option β) : evFn lay (VE37 N q_impl_part_text_f G) Try.f37 [.v (.one (.tr false a0))] K = BV_impl_part_text_b N (q_impl_part_text_f G) a0 (fun z1 => K (.v (.one (.str z1)))) := by kernel_rfl
theorem e37_0 {β : Type} (N : Nat) (G : Nat)  (a0 : Tr) (K : TV → Option β) : evFn lay (E37 N G) Try.f37 [.v (.one (.tr false a0))] K = impl_part_text_f N (G + 1) a0 (fun z1 => K (.v (.one (.str z1)))) := (ve37_0 N (impl_part_text_f N) G a0 K).trans (t_impl_part_text_b N (impl_part_text_f N G) a0 (fun z1 => K (.v (.one (.str z1))))).symm
theorem z37 {β : Type} (N : Nat) : ∀ args K r, SF37 (β := β) N 0 args K = some r → (none : Option β) = some r := by
  intro args K r h
  unfold SF37 VSF37 at h
  split at h <;> exact h
theorem of37 {β : Type} (N : Nat) : ∀ G, SpecOK (β := β) inv Try.prog 37 (SF37 N G) := by
  intro G
  induction G with
  | zero => exact s_zero Try.func37 (by kernel_rfl) (z37 N)
  | succ G ih =>
    refine spec_of lay_ok mixed (E := E37 N G) (specs_loops (specs_cons ih specs_nil)) muts_nil gs_nil Try.func37 (by kernel_rfl) 0 (by kernel_rfl) trivial fun args K r h => ?_
    unfold SF37 VSF37 at h
    split at h
    · exact (e37_0 N G _ _).trans h
    · cases h
theorem o37 {β : Type} (N : Nat) : SpecOK (β := β) inv Try.prog 37 (S37 N) := of37 N N
def VS9 {β : Type} (N : Nat) (q_impl_PushNegations : (a0 : ByteArray) → (k : ByteArray → Bool → Option β) → Option β) : Rv.Spec β := fun args K => match args with
  | [.v (.one (.str a0))] => q_impl_PushNegations a0 (fun z1 z2 => K (.tup [.one (.str z1), .one (.bool z2)]))
  | _ => none
def S9 {β : Type} (N : Nat) : Rv.Spec β := VS9 N (impl_PushNegations N)
def VE9 {β : Type} (N : Nat) (q_impl_readFormula : (a0 : ByteArray) → (k : Tr → Bool → Option β) → Option β) (q_impl_part_push_f : Nat → Tr → Bool → (Tr → Option β) → Option β) (q_impl_part_text_f : Nat → Tr → (ByteArray → Option β) → Option β) : Env β := ⟨[(31, VS31 N q_impl_readFormula), (36, VS36 N q_impl_part_push_f), (37, VS37 N q_impl_part_text_f)], [], [], [], ⟨[], [], [], []⟩⟩
def E9 {β : Type} (N : Nat) : Env β := VE9 N (impl_readFormula N) (impl_part_push_f N) (impl_part_text_f N)
def BV_impl_PushNegations {β : Type} (N : Nat) (q_impl_readFormula : (a0 : ByteArray) → (k : Tr → Bool → Option β) → Option β) (q_impl_part_push_f : Nat → Tr → Bool → (Tr → Option β) → Option β) (q_impl_part_text_f : Nat → Tr → (ByteArray → Option β) → Option β) (a0 : ByteArray) (k : ByteArray → Bool → Option β) : Option β :=
q_impl_readFormula a0 fun r3 r4 =>
(cond (!r4)
(k ByteArray.empty false)
(q_impl_part_push_f N r3 false fun r5 =>
q_impl_part_text_f N r5 fun r6 =>
(cond ((decide ((r6.size : Int) > 60)))
(k ByteArray.empty false)
(k r6 true))))
theorem t_impl_PushNegations {β : Type} (N : Nat) (a0 : ByteArray) (k : ByteArray → Bool → Option β) : impl_PushNegations N a0 k = BV_impl_PushNegations N (impl_readFormula N) (impl_part_push_f N) (impl_part_text_f N) a0 k := by
  unfold impl_PushNegations BV_impl_PushNegations
  rfl
theorem ve9_0 {β : Type} (N : Nat) (q_impl_readFormula : (a0 : ByteArray) → (k : Tr → Bool → Option β) → Option β) (q_impl_part_push_f : Nat → Tr → Bool → (Tr → Option β) → Option β) (q_impl_part_text_f : Nat → Tr → (ByteArray → Option β) → Option β)  (a0 : ByteArray) (K : TV → Option β) : evFn lay (VE9 N q_impl_readFormula q_impl_part_push_f q_impl_part_text_f) Try.f9 [.v (.one (.str a0))] K = BV_impl_PushNegations N q_impl_readFormula q_impl_part_push_f q_impl_part_text_f a0 (fun z1 z2 => K (.tup [.one (.str z1), .one (.bool z2)])) := by kernel_rfl
theorem e9_0 {β : Type} (N : Nat)  (a0 : ByteArray) (K : TV → Option β) : evFn lay (E9 N) Try.f9 [.v (.one (.str a0))] K = impl_PushNegations N a0 (fun z1 z2 => K (.tup [.one (.str z1), .one (.bool z2)])) := (ve9_0 N (impl_readFormula N) (impl_part_push_f N) (impl_part_text_f N) a0 K).trans (t_impl_PushNegations N a0 (fun z1 z2 => K (.tup [.one (.str z1), .one (.bool z2)]))).symm
theorem o9 {β : Type} (N : Nat) : SpecOK (β := β) inv Try.prog 9 (S9 N) := by
  refine spec_of lay_ok mixed (E := E9 N) (specs_loops (specs_cons (o31 N) (specs_cons (o36 N) (specs_cons (o37 N) specs_nil)))) muts_nil gs_nil Try.func9 (by kernel_rfl) 0 (by kernel_rfl) trivial fun args K r h => ?_
  unfold S9 VS9 at h
  split at h
  · exact (e9_0 N _ _).trans h
  · cases h
def VSF38 {β : Type} (N : Nat) (q_impl_part_leaves_f : Nat → Tr → (Int → Option β) → Option β) (G : Nat) : Rv.Spec β := fun args K => match args with
  | [.v (.one (.tr false a0))] => q_impl_part_leaves_f G a0 (fun z1 => K (.v (.one (.int .i64 z1))))
  | _ => none
def SF38 {β : Type} (N : Nat) (G : Nat) : Rv.Spec β := VSF38 N (impl_part_leaves_f N) G
def VS38 {β : Type} (N : Nat) (q_impl_part_leaves_f : Nat → Tr → (Int → Option β) → Option β) : Rv.Spec β := VSF38 N q_impl_part_leaves_f N
def S38 {β : Type} (N : Nat) : Rv.Spec β := SF38 N N
def VE38 {β : Type} (N : Nat) (q_impl_part_isLeaf : (a0 : Tr) → (k : Bool → Option β) → Option β) (q_impl_part_leaves_f : Nat → Tr → (Int → Option β) → Option β) (G : Nat) : Env β := ⟨[(58, VS58 N q_impl_part_isLeaf), (38, VSF38 N q_impl_part_leaves_f G)], [], [], [], ⟨[], [], [], []⟩⟩
def E38 {β : Type} (N : Nat) (G : Nat) : Env β := VE38 N (impl_part_isLeaf N) (impl_part_leaves_f N) G
def BV_impl_part_leaves_b {β : Type} (N : Nat) (q_impl_part_isLeaf : (a0 : Tr) → (k : Bool → Option β) → Option β) (self : Tr → (Int → Option β) → Option β) (a0 : Tr) (k : Int → Option β) : Option β :=
q_impl_part_isLeaf a0 fun r2 =>
(cond r2
(k 1)
((gd ((!(Tr.isNil a0)))
((gd ((!(Tr.isNil a0)))
((gd ((!(Tr.isNil a0)))
((cond ((Tr.isNil ((Tr.r a0))))
((gd ((!(Tr.isNil a0)))
((gd ((!(Tr.isNil a0)))
((gd ((!(Tr.isNil a0)))
(self ((Tr.l a0)) fun r3 =>
k r3)))))))
((gd ((!(Tr.isNil a0)))
((gd ((!(Tr.isNil a0)))
((gd ((!(Tr.isNil a0)))
((gd ((!(Tr.isNil a0)))
((gd ((!(Tr.isNil a0)))
((gd ((!(Tr.isNil a0)))
(self ((Tr.l a0)) fun r4 =>
self ((Tr.r a0)) fun r5 =>
k ((w64 (r4 + r5)))))))))))))))))))))))))
theorem t_impl_part_leaves_b {β : Type} (N : Nat) (self : Tr → (Int → Option β) → Option β) (a0 : Tr) (k : Int → Option β) : impl_part_leaves_b N self a0 k = BV_impl_part_leaves_b N (impl_part_isLeaf N) self a0 k := by
  unfold impl_part_leaves_b BV_impl_part_leaves_b
  rfl
theorem ve38_0 {β : Type} (N : Nat) (q_impl_part_isLeaf : (a0 : Tr) → (k : Bool → Option β) → Option β) (q_impl_part_leaves_f : Nat → Tr → (Int → Option β) → Option β) (G : Nat)  (a0 : Tr) (K : TV → Option β) : evFn lay (VE38 N q_impl_part_isLeaf q_impl_part_leaves_f G) Try.f38 [.v (.one (.tr false a0))] K = BV_impl_part_leaves_b N q_impl_part_isLeaf (q_impl_part_leaves_f G) a0 (fun z1 => K (.v (.one (.int .i64 z1)))) := by kernel_rfl
theorem e38_0 {β : Type} (N : Nat) (G : Nat)  (a0 : Tr) (K : TV → Option β) : evFn lay (E38 N G) Try.f38 [.v (.one (.tr false a0))] K = impl_part_leaves_f N (G + 1) a0 (fun z1 => K (.v (.one (.int .i64 z1)))) := (ve38_0 N (impl_part_isLeaf N) (impl_part_leaves_f N) G a0 K).trans (t_impl_part_leaves_b N (impl_part_leaves_f N G) a0 (fun z1 => K (.v (.one (.int .i64 z1))))).symm
theorem z38 {β : Type} (N : Nat) : ∀ args K r, SF38 (β := β) N 0 args K = some r → (none : Option β) = some r := by
  intro args K r h
  unfold SF38 VSF38 at h
  split at h <;> exact h
theorem of38 {β : Type} (N : Nat) : ∀ G, SpecOK (β := β) inv Try.prog 38 (SF38 N G) := by
  intro G
  induction G with
  | zero => exact s_zero Try.func38 (by kernel_rfl) (z38 N)
  | succ G ih =>
    refine spec_of lay_ok mixed (E := E38 N G) (specs_loops (specs_cons (o58 N) (specs_cons ih specs_nil))) muts_nil gs_nil Try.func38 (by kernel_rfl) 0 (by kernel_rfl) trivial fun args K r h => ?_
    unfold SF38 VSF38 at h
    split at h
    · exact (e38_0 N G _ _).trans h
    · cases h
theorem o38 {β : Type} (N : Nat) : SpecOK (β := β) inv Try.prog 38 (S38 N) := of38 N N
def VS10 {β : Type} (N : Nat) (q_impl_LeavesOf : (a0 : ByteArray) → (k : Int → Option β) → Option β) : Rv.Spec β := fun args K => match args with
  | [.v (.one (.str a0))] => q_impl_LeavesOf a0 (fun z1 => K (.v (.one (.int .i64 z1))))
  | _ => none
def S10 {β : Type} (N : Nat) : Rv.Spec β := VS10 N (impl_LeavesOf N)
def VE10 {β : Type} (N : Nat) (q_impl_readFormula : (a0 : ByteArray) → (k : Tr → Bool → Option β) → Option β) (q_impl_part_leaves_f : Nat → Tr → (Int → Option β) → Option β) : Env β := ⟨[(31, VS31 N q_impl_readFormula), (38, VS38 N q_impl_part_leaves_f)], [], [], [], ⟨[], [], [], []⟩⟩
def E10 {β : Type} (N : Nat) : Env β := VE10 N (impl_readFormula N) (impl_part_leaves_f N)
def BV_impl_LeavesOf {β : Type} (N : Nat) (q_impl_readFormula : (a0 : ByteArray) → (k : Tr → Bool → Option β) → Option β) (q_impl_part_leaves_f : Nat → Tr → (Int → Option β) → Option β) (a0 : ByteArray) (k : Int → Option β) : Option β :=
q_impl_readFormula a0 fun r2 r3 =>
(cond (!r3)
(k (-1))
(q_impl_part_leaves_f N r2 fun r4 =>
k r4))
theorem t_impl_LeavesOf {β : Type} (N : Nat) (a0 : ByteArray) (k : Int → Option β) : impl_LeavesOf N a0 k = BV_impl_LeavesOf N (impl_readFormula N) (impl_part_leaves_f N) a0 k := by
  unfold impl_LeavesOf BV_impl_LeavesOf
  rfl
theorem ve10_0 {β : Type} (N : Nat) (q_impl_readFormula : (a0 : ByteArray) → (k : Tr → Bool → Option β) → Option β) (q_impl_part_leaves_f : Nat → Tr → (Int → Option β) → Option β)  (a0 : ByteArray) (K : TV → Option β) : evFn lay (VE10 N q_impl_readFormula q_impl_part_leaves_f) Try.f10 [.v (.one (.str a0))] K = BV_impl_LeavesOf N q_impl_readFormula q_impl_part_leaves_f a0 (fun z1 => K (.v (.one (.int .i64 z1)))) := by kernel_rfl
theorem e10_0 {β : Type} (N : Nat)  (a0 : ByteArray) (K : TV → Option β) : evFn lay (E10 N) Try.f10 [.v (.one (.str a0))] K = impl_LeavesOf N a0 (fun z1 => K (.v (.one (.int .i64 z1)))) := (ve10_0 N (impl_readFormula N) (impl_part_leaves_f N) a0 K).trans (t_impl_LeavesOf N a0 (fun z1 => K (.v (.one (.int .i64 z1))))).symm
theorem o10 {β : Type} (N : Nat) : SpecOK (β := β) inv Try.prog 10 (S10 N) := by
  refine spec_of lay_ok mixed (E := E10 N) (specs_loops (specs_cons (o31 N) (specs_cons (o38 N) specs_nil))) muts_nil gs_nil Try.func10 (by kernel_rfl) 0 (by kernel_rfl) trivial fun args K r h => ?_
  unfold S10 VS10 at h
  split at h
  · exact (e10_0 N _ _).trans h
  · cases h
def VSF39 {β : Type} (N : Nat) (q_impl_part_depth_f : Nat → Tr → (Int → Option β) → Option β) (G : Nat) : Rv.Spec β := fun args K => match args with
  | [.v (.one (.tr false a0))] => q_impl_part_depth_f G a0 (fun z1 => K (.v (.one (.int .i64 z1))))
  | _ => none
def SF39 {β : Type} (N : Nat) (G : Nat) : Rv.Spec β := VSF39 N (impl_part_depth_f N) G
def VS39 {β : Type} (N : Nat) (q_impl_part_depth_f : Nat → Tr → (Int → Option β) → Option β) : Rv.Spec β := VSF39 N q_impl_part_depth_f N
def S39 {β : Type} (N : Nat) : Rv.Spec β := SF39 N N
def VE39 {β : Type} (N : Nat) (q_impl_part_isLeaf : (a0 : Tr) → (k : Bool → Option β) → Option β) (q_impl_part_depth_f : Nat → Tr → (Int → Option β) → Option β) (G : Nat) : Env β := ⟨[(58, VS58 N q_impl_part_isLeaf), (39, VSF39 N q_impl_part_depth_f G)], [], [], [], ⟨[], [], [], []⟩⟩
def E39 {β : Type} (N : Nat) (G : Nat) : Env β := VE39 N (impl_part_isLeaf N) (impl_part_depth_f N) G
def BV_impl_part_depth_b {β : Type} (N : Nat) (q_impl_part_isLeaf : (a0 : Tr) → (k : Bool → Option β) → Option β) (self : Tr → (Int → Option β) → Option β) (a0 : Tr) (k : Int → Option β) : Option β :=
q_impl_part_isLeaf a0 fun r2 =>
(cond r2
(k 0)
((gd ((!(Tr.isNil a0)))
((gd ((!(Tr.isNil a0)))
((gd ((!(Tr.isNil a0)))
((cond ((Tr.isNil ((Tr.r a0))))
((gd ((!(Tr.isNil a0)))
((gd ((!(Tr.isNil a0)))
((gd ((!(Tr.isNil a0)))
(self ((Tr.l a0)) fun r3 =>
k r3)))))))
((gd ((!(Tr.isNil a0)))
((gd ((!(Tr.isNil a0)))
((gd ((!(Tr.isNil a0)))
((gd ((!(Tr.isNil a0)))
((gd ((!(Tr.isNil a0)))
((gd ((!(Tr.isNil a0)))
(self ((Tr.l a0)) fun r4 =>
self ((Tr.r a0)) fun r5 =>
k ((w64 (1 + (mxI r4 r5))))))))))))))))))))))))))
theorem t_impl_part_depth_b {β : Type} (N : Nat) (self : Tr → (Int → Option β) → Option β) (a0 : Tr) (k : Int → Option β) : impl_part_depth_b N self a0 k = BV_impl_part_depth_b N (impl_part_isLeaf N) self a0 k := by
  unfold impl_part_depth_b BV_impl_part_depth_b
  rfl
theorem ve39_0 {β : Type} (N : Nat) (q_impl_part_isLeaf : (a0 : Tr) → (k : Bool → Option β) → Option β) (q_impl_part_depth_f : Nat → Tr → (Int → Option β) → Option β) (G : Nat)  (a0 : Tr) (K : TV → Option β) : evFn lay (VE39 N q_impl_part_isLeaf q_impl_part_depth_f G) Try.f39 [.v (.one (.tr false a0))] K = BV_impl_part_depth_b N q_impl_part_isLeaf (q_impl_part_depth_f G) a0 (fun z1 => K (.v (.one (.int .i64 z1)))) := by kernel_rfl
theorem e39_0 {β : Type} (N : Nat) (G : Nat)  (a0 : Tr) (K : TV → Option β) : evFn lay (E39 N G) Try.f39 [.v (.one (.tr false a0))] K = impl_part_depth_f N (G + 1) a0 (fun z1 => K (.v (.one (.int .i64 z1)))) := (ve39_0 N (impl_part_isLeaf N) (impl_part_depth_f N) G a0 K).trans (t_impl_part_depth_b N (impl_part_depth_f N G) a0 (fun z1 => K (.v (.one (.int .i64 z1))))).symm
theorem z39 {β : Type} (N : Nat) : ∀ args K r, SF39 (β := β) N 0 args K = some r → (none : Option β) = some r := by
  intro args K r h
  unfold SF39 VSF39 at h
  split at h <;> exact h
theorem of39 {β : Type} (N : Nat) : ∀ G, SpecOK (β := β) inv Try.prog 39 (SF39 N G) := by
  intro G
  induction G with
  | zero => exact s_zero Try.func39 (by kernel_rfl) (z39 N)
  | succ G ih =>
    refine spec_of lay_ok mixed (E := E39 N G) (specs_loops (specs_cons (o58 N) (specs_cons ih specs_nil))) muts_nil gs_nil Try.func39 (by kernel_rfl) 0 (by kernel_rfl) trivial fun args K r h => ?_
    unfold SF39 VSF39 at h
    split at h
    · exact (e39_0 N G _ _).trans h
    · cases h
theorem o39 {β : Type} (N : Nat) : SpecOK (β := β) inv Try.prog 39 (S39 N) := of39 N N
def VS11 {β : Type} (N : Nat) (q_impl_DepthOf : (a0 : ByteArray) → (k : Int → Option β) → Option β) : Rv.Spec β := fun args K => match args with
  | [.v (.one (.str a0))] => q_impl_DepthOf a0 (fun z1 => K (.v (.one (.int .i64 z1))))
  | _ => none
def S11 {β : Type} (N : Nat) : Rv.Spec β := VS11 N (impl_DepthOf N)
def VE11 {β : Type} (N : Nat) (q_impl_readFormula : (a0 : ByteArray) → (k : Tr → Bool → Option β) → Option β) (q_impl_part_depth_f : Nat → Tr → (Int → Option β) → Option β) : Env β := ⟨[(31, VS31 N q_impl_readFormula), (39, VS39 N q_impl_part_depth_f)], [], [], [], ⟨[], [], [], []⟩⟩
def E11 {β : Type} (N : Nat) : Env β := VE11 N (impl_readFormula N) (impl_part_depth_f N)
def BV_impl_DepthOf {β : Type} (N : Nat) (q_impl_readFormula : (a0 : ByteArray) → (k : Tr → Bool → Option β) → Option β) (q_impl_part_depth_f : Nat → Tr → (Int → Option β) → Option β) (a0 : ByteArray) (k : Int → Option β) : Option β :=
q_impl_readFormula a0 fun r2 r3 =>
(cond (!r3)
(k (-1))
(q_impl_part_depth_f N r2 fun r4 =>
k r4))
theorem t_impl_DepthOf {β : Type} (N : Nat) (a0 : ByteArray) (k : Int → Option β) : impl_DepthOf N a0 k = BV_impl_DepthOf N (impl_readFormula N) (impl_part_depth_f N) a0 k := by
  unfold impl_DepthOf BV_impl_DepthOf
  rfl
theorem ve11_0 {β : Type} (N : Nat) (q_impl_readFormula : (a0 : ByteArray) → (k : Tr → Bool → Option β) → Option β) (q_impl_part_depth_f : Nat → Tr → (Int → Option β) → Option β)  (a0 : ByteArray) (K : TV → Option β) : evFn lay (VE11 N q_impl_readFormula q_impl_part_depth_f) Try.f11 [.v (.one (.str a0))] K = BV_impl_DepthOf N q_impl_readFormula q_impl_part_depth_f a0 (fun z1 => K (.v (.one (.int .i64 z1)))) := by kernel_rfl
theorem e11_0 {β : Type} (N : Nat)  (a0 : ByteArray) (K : TV → Option β) : evFn lay (E11 N) Try.f11 [.v (.one (.str a0))] K = impl_DepthOf N a0 (fun z1 => K (.v (.one (.int .i64 z1)))) := (ve11_0 N (impl_readFormula N) (impl_part_depth_f N) a0 K).trans (t_impl_DepthOf N a0 (fun z1 => K (.v (.one (.int .i64 z1))))).symm
theorem o11 {β : Type} (N : Nat) : SpecOK (β := β) inv Try.prog 11 (S11 N) := by
  refine spec_of lay_ok mixed (E := E11 N) (specs_loops (specs_cons (o31 N) (specs_cons (o39 N) specs_nil))) muts_nil gs_nil Try.func11 (by kernel_rfl) 0 (by kernel_rfl) trivial fun args K r h => ?_
  unfold S11 VS11 at h
  split at h
  · exact (e11_0 N _ _).trans h
  · cases h
end Go.Proofs.Ytddflpokemgnmaa
