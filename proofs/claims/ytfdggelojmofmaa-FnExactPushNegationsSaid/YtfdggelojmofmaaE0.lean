/- The functions that the claims reach answer as their texts do. -/
import Derived.Test.YtfdggelojmofmaaT0
import Derived.Test.YtfdggelojmofmaaProg
import Derived.KernelRfl
namespace Go.Proofs.Ytfdggelojmofmaa
open Go.Rv
set_option maxRecDepth 100000
set_option maxHeartbeats 2000000
set_option linter.unusedVariables false
def lay : Lay := [(2, .int .i64),
  (3, .int .i64),
  (4, .bool),
  (5, .int .u8),
  (9, .string),
  (12, .int .u64),
  (21, .int .i32),
  (25, .struct [⟨0, 1, false⟩, ⟨1, 1, false⟩] [3, 3] 16 true),
  (26, .struct [⟨0, 1, false⟩, ⟨1, 1, false⟩] [3, 3] 16 true),
  (27, .struct [⟨0, 1, false⟩, ⟨1, 1, false⟩] [3, 3] 16 true),
  (28, .slice 3),
  (29, .struct [⟨0, 1, false⟩, ⟨1, 2, true⟩, ⟨3, 1, false⟩, ⟨4, 1, false⟩, ⟨5, 1, false⟩, ⟨6, 1, false⟩] [3, 3, 3, 3, 3, 9, 28] 80 false),
  (30, .struct [⟨0, 1, false⟩, ⟨1, 2, true⟩, ⟨3, 1, false⟩, ⟨4, 1, false⟩, ⟨5, 1, false⟩, ⟨6, 1, false⟩] [3, 3, 3, 3, 3, 9, 28] 80 false),
  (37, .slice 9),
  (42, .slice 5),
  (54, .pointer 90),
  (71, .pointer 110),
  (89, .struct [⟨0, 1, false⟩, ⟨1, 1, false⟩, ⟨2, 1, false⟩] [5, 54, 54] 24 false),
  (90, .struct [⟨0, 1, false⟩, ⟨1, 1, false⟩, ⟨2, 1, false⟩] [5, 54, 54] 24 false),
  (99, .int .u64),
  (103, .slice 28),
  (107, .slice 160),
  (109, .struct [⟨0, 1, false⟩, ⟨1, 1, false⟩, ⟨2, 1, false⟩] [42, 3, 3] 40 false),
  (110, .struct [⟨0, 1, false⟩, ⟨1, 1, false⟩, ⟨2, 1, false⟩] [42, 3, 3] 40 false),
  (125, .slice 4),
  (126, .pointer 129),
  (127, .map 27 3),
  (128, .struct [⟨0, 1, false⟩, ⟨1, 1, false⟩, ⟨2, 1, false⟩] [28, 107, 127] 56 false),
  (129, .struct [⟨0, 1, false⟩, ⟨1, 1, false⟩, ⟨2, 1, false⟩] [28, 107, 127] 56 false),
  (138, .int .u32),
  (141, .int .u64),
  (146, .pointer 168),
  (149, .struct [⟨0, 1, false⟩, ⟨1, 1, false⟩] [3, 3] 16 true),
  (150, .struct [⟨0, 1, false⟩, ⟨1, 1, false⟩] [3, 3] 16 true),
  (159, .struct [⟨0, 1, false⟩, ⟨1, 1, false⟩, ⟨2, 1, false⟩] [3, 3, 3] 24 true),
  (160, .struct [⟨0, 1, false⟩, ⟨1, 1, false⟩, ⟨2, 1, false⟩] [3, 3, 3] 24 true),
  (162, .pointer 134),
  (166, .map 150 3),
  (167, .struct [⟨0, 2, true⟩, ⟨2, 1, false⟩, ⟨3, 1, false⟩] [3, 3, 166, 166] 32 false),
  (168, .struct [⟨0, 2, true⟩, ⟨2, 1, false⟩, ⟨3, 1, false⟩] [3, 3, 166, 166] 32 false),
  (172, .array 2 4),
  (181, .pointer 5)]

theorem lay_ok : LayOK Try.prog lay := layOK_of (by decide +kernel)
theorem mixed : Try.prog.follows .mixedOrders = true := by kernel_rfl
def inv : World → Prop := fun _ => True
def VSF86 {β : Type} (N : Nat) (q_spec_l5End_f : Nat → ByteArray → Int → (Int → Option β) → Option β) (G : Nat) : Rv.Spec β := fun args K => match args with
  | [.v (.one (.str a0)), .v (.one (.int .i64 a1))] => q_spec_l5End_f G a0 a1 (fun z2 => K (.v (.one (.int .i64 z2))))
  | _ => none
def SF86 {β : Type} (N : Nat) (G : Nat) : Rv.Spec β := VSF86 N (spec_l5End_f N) G
def VS86 {β : Type} (N : Nat) (q_spec_l5End_f : Nat → ByteArray → Int → (Int → Option β) → Option β) : Rv.Spec β := VSF86 N q_spec_l5End_f N
def S86 {β : Type} (N : Nat) : Rv.Spec β := SF86 N N
def VE86 {β : Type} (N : Nat) (q_spec_l5End_f : Nat → ByteArray → Int → (Int → Option β) → Option β) (G : Nat) : Env β := ⟨[(86, VSF86 N q_spec_l5End_f G)], [], [], [], ⟨[], [], []⟩⟩
def E86 {β : Type} (N : Nat) (G : Nat) : Env β := VE86 N (spec_l5End_f N) G
def BV_spec_l5End_b {β : Type} (N : Nat) (self : ByteArray → Int → (Int → Option β) → Option β) (a0 : ByteArray) (a1 : Int) (k : Int → Option β) : Option β :=
(cond ((decide (a1 ≥ (a0.size : Int))))
(k (-1))
((gd ((decide (0 ≤ a1)))
((gd ((decide (a1 < (a0.size : Int))))
((cond (((bt a0 a1) == 97))
((cond (((bt a0 a1) == 97))
(k ((w64 (a1 + 1))))
((cond (((bt a0 a1) == 33))
(self a0 ((w64 (a1 + 1))) fun r3 =>
k r3)
((cond (((bt a0 a1) == 38))
((cond (((bt a0 a1) == 38))
(self a0 ((w64 (a1 + 1))) fun r4 =>
(cond ((decide (r4 < 0)))
(k (-1))
(self a0 r4 fun r5 =>
k r5)))
(k (-1))))
((cond (((bt a0 a1) == 124))
((cond (((bt a0 a1) == 124))
(self a0 ((w64 (a1 + 1))) fun r6 =>
(cond ((decide (r6 < 0)))
(k (-1))
(self a0 r6 fun r7 =>
k r7)))
(k (-1))))
((cond (((bt a0 a1) == 94))
(self a0 ((w64 (a1 + 1))) fun r8 =>
(cond ((decide (r8 < 0)))
(k (-1))
(self a0 r8 fun r9 =>
k r9)))
(k (-1))))))))))))
((cond (((bt a0 a1) == 98))
((cond (((bt a0 a1) == 98))
(k ((w64 (a1 + 1))))
((cond (((bt a0 a1) == 33))
(self a0 ((w64 (a1 + 1))) fun r10 =>
k r10)
((cond (((bt a0 a1) == 38))
((cond (((bt a0 a1) == 38))
(self a0 ((w64 (a1 + 1))) fun r11 =>
(cond ((decide (r11 < 0)))
(k (-1))
(self a0 r11 fun r12 =>
k r12)))
(k (-1))))
((cond (((bt a0 a1) == 124))
((cond (((bt a0 a1) == 124))
(self a0 ((w64 (a1 + 1))) fun r13 =>
(cond ((decide (r13 < 0)))
(k (-1))
(self a0 r13 fun r14 =>
k r14)))
(k (-1))))
((cond (((bt a0 a1) == 94))
(self a0 ((w64 (a1 + 1))) fun r15 =>
(cond ((decide (r15 < 0)))
(k (-1))
(self a0 r15 fun r16 =>
k r16)))
(k (-1))))))))))))
((cond (((bt a0 a1) == 99))
((cond (((bt a0 a1) == 99))
(k ((w64 (a1 + 1))))
((cond (((bt a0 a1) == 33))
(self a0 ((w64 (a1 + 1))) fun r17 =>
k r17)
((cond (((bt a0 a1) == 38))
((cond (((bt a0 a1) == 38))
(self a0 ((w64 (a1 + 1))) fun r18 =>
(cond ((decide (r18 < 0)))
(k (-1))
(self a0 r18 fun r19 =>
k r19)))
(k (-1))))
((cond (((bt a0 a1) == 124))
((cond (((bt a0 a1) == 124))
(self a0 ((w64 (a1 + 1))) fun r20 =>
(cond ((decide (r20 < 0)))
(k (-1))
(self a0 r20 fun r21 =>
k r21)))
(k (-1))))
((cond (((bt a0 a1) == 94))
(self a0 ((w64 (a1 + 1))) fun r22 =>
(cond ((decide (r22 < 0)))
(k (-1))
(self a0 r22 fun r23 =>
k r23)))
(k (-1))))))))))))
((cond (((bt a0 a1) == 100))
((cond (((bt a0 a1) == 100))
(k ((w64 (a1 + 1))))
((cond (((bt a0 a1) == 33))
(self a0 ((w64 (a1 + 1))) fun r24 =>
k r24)
((cond (((bt a0 a1) == 38))
((cond (((bt a0 a1) == 38))
(self a0 ((w64 (a1 + 1))) fun r25 =>
(cond ((decide (r25 < 0)))
(k (-1))
(self a0 r25 fun r26 =>
k r26)))
(k (-1))))
((cond (((bt a0 a1) == 124))
((cond (((bt a0 a1) == 124))
(self a0 ((w64 (a1 + 1))) fun r27 =>
(cond ((decide (r27 < 0)))
(k (-1))
(self a0 r27 fun r28 =>
k r28)))
(k (-1))))
((cond (((bt a0 a1) == 94))
(self a0 ((w64 (a1 + 1))) fun r29 =>
(cond ((decide (r29 < 0)))
(k (-1))
(self a0 r29 fun r30 =>
k r30)))
(k (-1))))))))))))
((cond (((bt a0 a1) == 101))
((cond (((bt a0 a1) == 101))
(k ((w64 (a1 + 1))))
((cond (((bt a0 a1) == 33))
(self a0 ((w64 (a1 + 1))) fun r31 =>
k r31)
((cond (((bt a0 a1) == 38))
((cond (((bt a0 a1) == 38))
(self a0 ((w64 (a1 + 1))) fun r32 =>
(cond ((decide (r32 < 0)))
(k (-1))
(self a0 r32 fun r33 =>
k r33)))
(k (-1))))
((cond (((bt a0 a1) == 124))
((cond (((bt a0 a1) == 124))
(self a0 ((w64 (a1 + 1))) fun r34 =>
(cond ((decide (r34 < 0)))
(k (-1))
(self a0 r34 fun r35 =>
k r35)))
(k (-1))))
((cond (((bt a0 a1) == 94))
(self a0 ((w64 (a1 + 1))) fun r36 =>
(cond ((decide (r36 < 0)))
(k (-1))
(self a0 r36 fun r37 =>
k r37)))
(k (-1))))))))))))
((cond (((bt a0 a1) == 48))
((cond (((bt a0 a1) == 48))
(k ((w64 (a1 + 1))))
((cond (((bt a0 a1) == 33))
(self a0 ((w64 (a1 + 1))) fun r38 =>
k r38)
((cond (((bt a0 a1) == 38))
((cond (((bt a0 a1) == 38))
(self a0 ((w64 (a1 + 1))) fun r39 =>
(cond ((decide (r39 < 0)))
(k (-1))
(self a0 r39 fun r40 =>
k r40)))
(k (-1))))
((cond (((bt a0 a1) == 124))
((cond (((bt a0 a1) == 124))
(self a0 ((w64 (a1 + 1))) fun r41 =>
(cond ((decide (r41 < 0)))
(k (-1))
(self a0 r41 fun r42 =>
k r42)))
(k (-1))))
((cond (((bt a0 a1) == 94))
(self a0 ((w64 (a1 + 1))) fun r43 =>
(cond ((decide (r43 < 0)))
(k (-1))
(self a0 r43 fun r44 =>
k r44)))
(k (-1))))))))))))
((cond (((bt a0 a1) == 49))
(k ((w64 (a1 + 1))))
((cond (((bt a0 a1) == 33))
(self a0 ((w64 (a1 + 1))) fun r45 =>
k r45)
((cond (((bt a0 a1) == 38))
((cond (((bt a0 a1) == 38))
(self a0 ((w64 (a1 + 1))) fun r46 =>
(cond ((decide (r46 < 0)))
(k (-1))
(self a0 r46 fun r47 =>
k r47)))
(k (-1))))
((cond (((bt a0 a1) == 124))
((cond (((bt a0 a1) == 124))
(self a0 ((w64 (a1 + 1))) fun r48 =>
(cond ((decide (r48 < 0)))
(k (-1))
(self a0 r48 fun r49 =>
k r49)))
(k (-1))))
((cond (((bt a0 a1) == 94))
(self a0 ((w64 (a1 + 1))) fun r50 =>
(cond ((decide (r50 < 0)))
(k (-1))
(self a0 r50 fun r51 =>
k r51)))
(k (-1)))))))))))))))))))))))))))))
theorem t_spec_l5End_b {β : Type} (N : Nat) (self : ByteArray → Int → (Int → Option β) → Option β) (a0 : ByteArray) (a1 : Int) (k : Int → Option β) : spec_l5End_b N self a0 a1 k = BV_spec_l5End_b N self a0 a1 k := by
  unfold spec_l5End_b BV_spec_l5End_b
  rfl
theorem ve86_0 {β : Type} (N : Nat) (q_spec_l5End_f : Nat → ByteArray → Int → (Int → Option β) → Option β) (G : Nat)  (a0 : ByteArray) (a1 : Int) (K : TV → Option β) : evFn lay (VE86 N q_spec_l5End_f G) Try.f86 [.v (.one (.str a0)), .v (.one (.int .i64 a1))] K = BV_spec_l5End_b N (q_spec_l5End_f G) a0 a1 (fun z2 => K (.v (.one (.int .i64 z2)))) := by kernel_rfl
theorem e86_0 {β : Type} (N : Nat) (G : Nat)  (a0 : ByteArray) (a1 : Int) (K : TV → Option β) : evFn lay (E86 N G) Try.f86 [.v (.one (.str a0)), .v (.one (.int .i64 a1))] K = spec_l5End_f N (G + 1) a0 a1 (fun z2 => K (.v (.one (.int .i64 z2)))) := (ve86_0 N (spec_l5End_f N) G a0 a1 K).trans (t_spec_l5End_b N (spec_l5End_f N G) a0 a1 (fun z2 => K (.v (.one (.int .i64 z2))))).symm
theorem z86 {β : Type} (N : Nat) : ∀ args K r, SF86 (β := β) N 0 args K = some r → (none : Option β) = some r := by
  intro args K r h
  unfold SF86 VSF86 at h
  split at h <;> exact h
theorem of86 {β : Type} (N : Nat) : ∀ G, SpecOK (β := β) inv Try.prog 86 (SF86 N G) := by
  intro G
  induction G with
  | zero => exact s_zero Try.func86 (by kernel_rfl) (z86 N)
  | succ G ih =>
    refine spec_of lay_ok mixed (E := E86 N G) (specs_loops (specs_cons ih specs_nil)) muts_nil gs_nil Try.func86 (by kernel_rfl) 0 (by kernel_rfl) trivial fun args K r h => ?_
    unfold SF86 VSF86 at h
    split at h
    · exact (e86_0 N G _ _ _).trans h
    · cases h
theorem o86 {β : Type} (N : Nat) : SpecOK (β := β) inv Try.prog 86 (S86 N) := of86 N N
def VS40 {β : Type} (N : Nat) (q_spec_IsFormula : (a0 : ByteArray) → (k : Bool → Option β) → Option β) : Rv.Spec β := fun args K => match args with
  | [.v (.one (.str a0))] => q_spec_IsFormula a0 (fun z1 => K (.v (.one (.bool z1))))
  | _ => none
def S40 {β : Type} (N : Nat) : Rv.Spec β := VS40 N (spec_IsFormula N)
def VE40 {β : Type} (N : Nat) (q_spec_l5End_f : Nat → ByteArray → Int → (Int → Option β) → Option β) : Env β := ⟨[(86, VS86 N q_spec_l5End_f)], [], [], [], ⟨[], [], []⟩⟩
def E40 {β : Type} (N : Nat) : Env β := VE40 N (spec_l5End_f N)
def BV_spec_IsFormula {β : Type} (N : Nat) (q_spec_l5End_f : Nat → ByteArray → Int → (Int → Option β) → Option β) (a0 : ByteArray) (k : Bool → Option β) : Option β :=
(cond ((decide ((a0.size : Int) ≤ 60)))
((cond ((decide ((a0.size : Int) > 0)))
(q_spec_l5End_f N a0 0 fun r2 =>
k ((r2 == (a0.size : Int))))
(k false)))
(k false))
theorem t_spec_IsFormula {β : Type} (N : Nat) (a0 : ByteArray) (k : Bool → Option β) : spec_IsFormula N a0 k = BV_spec_IsFormula N (spec_l5End_f N) a0 k := by
  unfold spec_IsFormula BV_spec_IsFormula
  rfl
theorem ve40_0 {β : Type} (N : Nat) (q_spec_l5End_f : Nat → ByteArray → Int → (Int → Option β) → Option β)  (a0 : ByteArray) (K : TV → Option β) : evFn lay (VE40 N q_spec_l5End_f) Try.f40 [.v (.one (.str a0))] K = BV_spec_IsFormula N q_spec_l5End_f a0 (fun z1 => K (.v (.one (.bool z1)))) := by kernel_rfl
theorem e40_0 {β : Type} (N : Nat)  (a0 : ByteArray) (K : TV → Option β) : evFn lay (E40 N) Try.f40 [.v (.one (.str a0))] K = spec_IsFormula N a0 (fun z1 => K (.v (.one (.bool z1)))) := (ve40_0 N (spec_l5End_f N) a0 K).trans (t_spec_IsFormula N a0 (fun z1 => K (.v (.one (.bool z1))))).symm
theorem o40 {β : Type} (N : Nat) : SpecOK (β := β) inv Try.prog 40 (S40 N) := by
  refine spec_of lay_ok mixed (E := E40 N) (specs_loops (specs_cons (o86 N) specs_nil)) muts_nil gs_nil Try.func40 (by kernel_rfl) 0 (by kernel_rfl) trivial fun args K r h => ?_
  unfold S40 VS40 at h
  split at h
  · exact (e40_0 N _ _).trans h
  · cases h
def VSF45 {β : Type} (N : Nat) (q_spec_l5Push_f : Nat → ByteArray → Int → Bool → (ByteArray → Option β) → Option β) (G : Nat) : Rv.Spec β := fun args K => match args with
  | [.v (.one (.str a0)), .v (.one (.int .i64 a1)), .v (.one (.bool a2))] => q_spec_l5Push_f G a0 a1 a2 (fun z3 => K (.v (.one (.str z3))))
  | _ => none
def SF45 {β : Type} (N : Nat) (G : Nat) : Rv.Spec β := VSF45 N (spec_l5Push_f N) G
def VS45 {β : Type} (N : Nat) (q_spec_l5Push_f : Nat → ByteArray → Int → Bool → (ByteArray → Option β) → Option β) : Rv.Spec β := VSF45 N q_spec_l5Push_f N
def S45 {β : Type} (N : Nat) : Rv.Spec β := SF45 N N
def VE45 {β : Type} (N : Nat) (q_spec_l5End_f : Nat → ByteArray → Int → (Int → Option β) → Option β) (q_spec_l5Push_f : Nat → ByteArray → Int → Bool → (ByteArray → Option β) → Option β) (G : Nat) : Env β := ⟨[(86, VS86 N q_spec_l5End_f), (45, VSF45 N q_spec_l5Push_f G)], [], [], [], ⟨[], [], []⟩⟩
def E45 {β : Type} (N : Nat) (G : Nat) : Env β := VE45 N (spec_l5End_f N) (spec_l5Push_f N) G
def BV_spec_l5Push_b {β : Type} (N : Nat) (q_spec_l5End_f : Nat → ByteArray → Int → (Int → Option β) → Option β) (self : ByteArray → Int → Bool → (ByteArray → Option β) → Option β) (a0 : ByteArray) (a1 : Int) (a2 : Bool) (k : ByteArray → Option β) : Option β :=
(gd ((decide (0 ≤ a1)))
((gd ((decide (a1 < (a0.size : Int))))
((cond (((bt a0 a1) == 33))
(self a0 ((w64 (a1 + 1))) (!a2) fun r4 =>
k r4)
((cond (((bt a0 a1) == 38))
((cond a2
(self a0 ((w64 (a1 + 1))) true fun r5 =>
(gd ((decide (((strOf [124])).size + r5.size ≤ 9223372036854775807)))
(q_spec_l5End_f N a0 ((w64 (a1 + 1))) fun r6 =>
self a0 r6 true fun r7 =>
(gd ((decide ((((strOf [124]) ++ r5)).size + r7.size ≤ 9223372036854775807)))
(k ((((strOf [124]) ++ r5) ++ r7)))))))
(self a0 ((w64 (a1 + 1))) false fun r8 =>
(gd ((decide (((strOf [38])).size + r8.size ≤ 9223372036854775807)))
(q_spec_l5End_f N a0 ((w64 (a1 + 1))) fun r9 =>
self a0 r9 false fun r10 =>
(gd ((decide ((((strOf [38]) ++ r8)).size + r10.size ≤ 9223372036854775807)))
(k ((((strOf [38]) ++ r8) ++ r10)))))))))
((cond (((bt a0 a1) == 124))
((cond a2
(self a0 ((w64 (a1 + 1))) true fun r11 =>
(gd ((decide (((strOf [38])).size + r11.size ≤ 9223372036854775807)))
(q_spec_l5End_f N a0 ((w64 (a1 + 1))) fun r12 =>
self a0 r12 true fun r13 =>
(gd ((decide ((((strOf [38]) ++ r11)).size + r13.size ≤ 9223372036854775807)))
(k ((((strOf [38]) ++ r11) ++ r13)))))))
(self a0 ((w64 (a1 + 1))) false fun r14 =>
(gd ((decide (((strOf [124])).size + r14.size ≤ 9223372036854775807)))
(q_spec_l5End_f N a0 ((w64 (a1 + 1))) fun r15 =>
self a0 r15 false fun r16 =>
(gd ((decide ((((strOf [124]) ++ r14)).size + r16.size ≤ 9223372036854775807)))
(k ((((strOf [124]) ++ r14) ++ r16)))))))))
((cond (((bt a0 a1) == 94))
(self a0 ((w64 (a1 + 1))) a2 fun r17 =>
(gd ((decide (((strOf [94])).size + r17.size ≤ 9223372036854775807)))
(q_spec_l5End_f N a0 ((w64 (a1 + 1))) fun r18 =>
self a0 r18 false fun r19 =>
(gd ((decide ((((strOf [94]) ++ r17)).size + r19.size ≤ 9223372036854775807)))
(k ((((strOf [94]) ++ r17) ++ r19)))))))
((cond (((bt a0 a1) == 48))
((cond a2
(k ((strOf [49])))
(k ((strOf [48])))))
((cond (((bt a0 a1) == 49))
((cond a2
(k ((strOf [48])))
(k ((strOf [49])))))
((cond a2
((gd ((decide (0 ≤ (w64 (a1 + 1)))))
((gd ((decide ((w64 (a1 + 1)) ≤ (a0.size : Int))))
((gd ((decide (0 ≤ a1)))
((gd ((decide (a1 ≤ (w64 (a1 + 1)))))
((gd ((decide (((strOf [33])).size + ((a0.extract (Int.toNat a1) (Int.toNat (w64 (a1 + 1))))).size ≤ 9223372036854775807)))
(k (((strOf [33]) ++ (a0.extract (Int.toNat a1) (Int.toNat (w64 (a1 + 1)))))))))))))))))
((gd ((decide (0 ≤ (w64 (a1 + 1)))))
((gd ((decide ((w64 (a1 + 1)) ≤ (a0.size : Int))))
((gd ((decide (0 ≤ a1)))
((gd ((decide (a1 ≤ (w64 (a1 + 1)))))
(k ((a0.extract (Int.toNat a1) (Int.toNat (w64 (a1 + 1)))))))))))))))))))))))))))))))
theorem t_spec_l5Push_b {β : Type} (N : Nat) (self : ByteArray → Int → Bool → (ByteArray → Option β) → Option β) (a0 : ByteArray) (a1 : Int) (a2 : Bool) (k : ByteArray → Option β) : spec_l5Push_b N self a0 a1 a2 k = BV_spec_l5Push_b N (spec_l5End_f N) self a0 a1 a2 k := by
  unfold spec_l5Push_b BV_spec_l5Push_b
  rfl
theorem ve45_0 {β : Type} (N : Nat) (q_spec_l5End_f : Nat → ByteArray → Int → (Int → Option β) → Option β) (q_spec_l5Push_f : Nat → ByteArray → Int → Bool → (ByteArray → Option β) → Option β) (G : Nat)  (a0 : ByteArray) (a1 : Int) (a2 : Bool) (K : TV → Option β) : evFn lay (VE45 N q_spec_l5End_f q_spec_l5Push_f G) Try.f45 [.v (.one (.str a0)), .v (.one (.int .i64 a1)), .v (.one (.bool a2))] K = BV_spec_l5Push_b N q_spec_l5End_f (q_spec_l5Push_f G) a0 a1 a2 (fun z3 => K (.v (.one (.str z3)))) := by kernel_rfl
theorem e45_0 {β : Type} (N : Nat) (G : Nat)  (a0 : ByteArray) (a1 : Int) (a2 : Bool) (K : TV → Option β) : evFn lay (E45 N G) Try.f45 [.v (.one (.str a0)), .v (.one (.int .i64 a1)), .v (.one (.bool a2))] K = spec_l5Push_f N (G + 1) a0 a1 a2 (fun z3 => K (.v (.one (.str z3)))) := (ve45_0 N (spec_l5End_f N) (spec_l5Push_f N) G a0 a1 a2 K).trans (t_spec_l5Push_b N (spec_l5Push_f N G) a0 a1 a2 (fun z3 => K (.v (.one (.str z3))))).symm
theorem z45 {β : Type} (N : Nat) : ∀ args K r, SF45 (β := β) N 0 args K = some r → (none : Option β) = some r := by
  intro args K r h
  unfold SF45 VSF45 at h
  split at h <;> exact h
theorem of45 {β : Type} (N : Nat) : ∀ G, SpecOK (β := β) inv Try.prog 45 (SF45 N G) := by
  intro G
  induction G with
  | zero => exact s_zero Try.func45 (by kernel_rfl) (z45 N)
  | succ G ih =>
    refine spec_of lay_ok mixed (E := E45 N G) (specs_loops (specs_cons (o86 N) (specs_cons ih specs_nil))) muts_nil gs_nil Try.func45 (by kernel_rfl) 0 (by kernel_rfl) trivial fun args K r h => ?_
    unfold SF45 VSF45 at h
    split at h
    · exact (e45_0 N G _ _ _ _).trans h
    · cases h
theorem o45 {β : Type} (N : Nat) : SpecOK (β := β) inv Try.prog 45 (S45 N) := of45 N N
def VS8 {β : Type} (N : Nat) (q_spec_PushNegations : (a0 : ByteArray) → (k : ByteArray → Bool → Option β) → Option β) : Rv.Spec β := fun args K => match args with
  | [.v (.one (.str a0))] => q_spec_PushNegations a0 (fun z1 z2 => K (.tup [.one (.str z1), .one (.bool z2)]))
  | _ => none
def S8 {β : Type} (N : Nat) : Rv.Spec β := VS8 N (spec_PushNegations N)
def VE8 {β : Type} (N : Nat) (q_spec_IsFormula : (a0 : ByteArray) → (k : Bool → Option β) → Option β) (q_spec_l5Push_f : Nat → ByteArray → Int → Bool → (ByteArray → Option β) → Option β) : Env β := ⟨[(40, VS40 N q_spec_IsFormula), (45, VS45 N q_spec_l5Push_f)], [], [], [], ⟨[], [], []⟩⟩
def E8 {β : Type} (N : Nat) : Env β := VE8 N (spec_IsFormula N) (spec_l5Push_f N)
def BV_spec_PushNegations {β : Type} (N : Nat) (q_spec_IsFormula : (a0 : ByteArray) → (k : Bool → Option β) → Option β) (q_spec_l5Push_f : Nat → ByteArray → Int → Bool → (ByteArray → Option β) → Option β) (a0 : ByteArray) (k : ByteArray → Bool → Option β) : Option β :=
q_spec_IsFormula a0 fun r3 =>
(cond (!r3)
(k ByteArray.empty false)
(q_spec_l5Push_f N a0 0 false fun r4 =>
q_spec_IsFormula r4 fun r5 =>
(cond (!r5)
(k ByteArray.empty false)
(k r4 true))))
theorem t_spec_PushNegations {β : Type} (N : Nat) (a0 : ByteArray) (k : ByteArray → Bool → Option β) : spec_PushNegations N a0 k = BV_spec_PushNegations N (spec_IsFormula N) (spec_l5Push_f N) a0 k := by
  unfold spec_PushNegations BV_spec_PushNegations
  rfl
theorem ve8_0 {β : Type} (N : Nat) (q_spec_IsFormula : (a0 : ByteArray) → (k : Bool → Option β) → Option β) (q_spec_l5Push_f : Nat → ByteArray → Int → Bool → (ByteArray → Option β) → Option β)  (a0 : ByteArray) (K : TV → Option β) : evFn lay (VE8 N q_spec_IsFormula q_spec_l5Push_f) Try.f8 [.v (.one (.str a0))] K = BV_spec_PushNegations N q_spec_IsFormula q_spec_l5Push_f a0 (fun z1 z2 => K (.tup [.one (.str z1), .one (.bool z2)])) := by kernel_rfl
theorem e8_0 {β : Type} (N : Nat)  (a0 : ByteArray) (K : TV → Option β) : evFn lay (E8 N) Try.f8 [.v (.one (.str a0))] K = spec_PushNegations N a0 (fun z1 z2 => K (.tup [.one (.str z1), .one (.bool z2)])) := (ve8_0 N (spec_IsFormula N) (spec_l5Push_f N) a0 K).trans (t_spec_PushNegations N a0 (fun z1 z2 => K (.tup [.one (.str z1), .one (.bool z2)]))).symm
theorem o8 {β : Type} (N : Nat) : SpecOK (β := β) inv Try.prog 8 (S8 N) := by
  refine spec_of lay_ok mixed (E := E8 N) (specs_loops (specs_cons (o40 N) (specs_cons (o45 N) specs_nil))) muts_nil gs_nil Try.func8 (by kernel_rfl) 0 (by kernel_rfl) trivial fun args K r h => ?_
  unfold S8 VS8 at h
  split at h
  · exact (e8_0 N _ _).trans h
  · cases h
def VS89 {β : Type} (N : Nat) (q_impl_isLetter : (a0 : Int) → (k : Bool → Option β) → Option β) : Rv.Spec β := fun args K => match args with
  | [.v (.one (.int .u8 a0))] => q_impl_isLetter a0 (fun z1 => K (.v (.one (.bool z1))))
  | _ => none
def S89 {β : Type} (N : Nat) : Rv.Spec β := VS89 N (impl_isLetter N)
def VE89 {β : Type} (N : Nat) : Env β := ⟨[], [], [], [], ⟨[], [], []⟩⟩
def E89 {β : Type} (N : Nat) : Env β := VE89 N
def BV_impl_isLetter {β : Type} (N : Nat) (a0 : Int) (k : Bool → Option β) : Option β :=
(cond ((decide (a0 ≥ 97)))
(k ((decide (a0 < 102))))
(k false))
theorem t_impl_isLetter {β : Type} (N : Nat) (a0 : Int) (k : Bool → Option β) : impl_isLetter N a0 k = BV_impl_isLetter N a0 k := by
  unfold impl_isLetter BV_impl_isLetter
  rfl
theorem ve89_0 {β : Type} (N : Nat)  (a0 : Int) (K : TV → Option β) : evFn lay (VE89 N) Try.f89 [.v (.one (.int .u8 a0))] K = BV_impl_isLetter N a0 (fun z1 => K (.v (.one (.bool z1)))) := by kernel_rfl
theorem e89_0 {β : Type} (N : Nat)  (a0 : Int) (K : TV → Option β) : evFn lay (E89 N) Try.f89 [.v (.one (.int .u8 a0))] K = impl_isLetter N a0 (fun z1 => K (.v (.one (.bool z1)))) := (ve89_0 N a0 K).trans (t_impl_isLetter N a0 (fun z1 => K (.v (.one (.bool z1))))).symm
theorem o89 {β : Type} (N : Nat) : SpecOK (β := β) inv Try.prog 89 (S89 N) := by
  refine spec_of lay_ok mixed (E := E89 N) (specs_loops specs_nil) muts_nil gs_nil Try.func89 (by kernel_rfl) 0 (by kernel_rfl) trivial fun args K r h => ?_
  unfold S89 VS89 at h
  split at h
  · exact (e89_0 N _ _).trans h
  · cases h
def VSF88 {β : Type} (N : Nat) (q_impl_readPart_f : Nat → ByteArray → (Tr → ByteArray → Option β) → Option β) (G : Nat) : Rv.Spec β := fun args K => match args with
  | [.v (.one (.str a0))] => q_impl_readPart_f G a0 (fun z1 z2 => K (.tup [.one (.tr false z1), .one (.str z2)]))
  | _ => none
def SF88 {β : Type} (N : Nat) (G : Nat) : Rv.Spec β := VSF88 N (impl_readPart_f N) G
def VS88 {β : Type} (N : Nat) (q_impl_readPart_f : Nat → ByteArray → (Tr → ByteArray → Option β) → Option β) : Rv.Spec β := VSF88 N q_impl_readPart_f N
def S88 {β : Type} (N : Nat) : Rv.Spec β := SF88 N N
def VE88 {β : Type} (N : Nat) (q_impl_isLetter : (a0 : Int) → (k : Bool → Option β) → Option β) (q_impl_readPart_f : Nat → ByteArray → (Tr → ByteArray → Option β) → Option β) (G : Nat) : Env β := ⟨[(89, VS89 N q_impl_isLetter), (88, VSF88 N q_impl_readPart_f G)], [], [], [], ⟨[], [], []⟩⟩
def E88 {β : Type} (N : Nat) (G : Nat) : Env β := VE88 N (impl_isLetter N) (impl_readPart_f N) G
def BV_impl_readPart_b {β : Type} (N : Nat) (q_impl_isLetter : (a0 : Int) → (k : Bool → Option β) → Option β) (self : ByteArray → (Tr → ByteArray → Option β) → Option β) (a0 : ByteArray) (k : Tr → ByteArray → Option β) : Option β :=
(cond ((a0.toList == ByteArray.empty.toList))
(k Tr.nil ByteArray.empty)
((gd ((decide (0 < (a0.size : Int))))
((gd ((decide (1 ≤ (a0.size : Int))))
(q_impl_isLetter ((bt a0 0)) fun r3 =>
(cond r3
(k ((Tr.node ((bt a0 0)) 0 Tr.nil Tr.nil)) ((a0.extract (Int.toNat 1) a0.size)))
((cond (((bt a0 0) == 48))
(k ((Tr.node ((bt a0 0)) 0 Tr.nil Tr.nil)) ((a0.extract (Int.toNat 1) a0.size)))
((cond (((bt a0 0) == 49))
(k ((Tr.node ((bt a0 0)) 0 Tr.nil Tr.nil)) ((a0.extract (Int.toNat 1) a0.size)))
((cond (((bt a0 0) == 33))
(self ((a0.extract (Int.toNat 1) a0.size)) fun r4 r5 =>
(cond ((Tr.isNil r4))
(k Tr.nil ByteArray.empty)
(k ((Tr.node ((bt a0 0)) 0 r4 Tr.nil)) r5)))
((cond (((bt a0 0) == 38))
(self ((a0.extract (Int.toNat 1) a0.size)) fun r6 r7 =>
(cond ((Tr.isNil r6))
(k Tr.nil ByteArray.empty)
(self r7 fun r8 r9 =>
(cond ((Tr.isNil r8))
(k Tr.nil ByteArray.empty)
(k ((Tr.node ((bt a0 0)) 0 r6 r8)) r9)))))
((cond (((bt a0 0) == 124))
(self ((a0.extract (Int.toNat 1) a0.size)) fun r10 r11 =>
(cond ((Tr.isNil r10))
(k Tr.nil ByteArray.empty)
(self r11 fun r12 r13 =>
(cond ((Tr.isNil r12))
(k Tr.nil ByteArray.empty)
(k ((Tr.node ((bt a0 0)) 0 r10 r12)) r13)))))
((cond (((bt a0 0) == 94))
(self ((a0.extract (Int.toNat 1) a0.size)) fun r14 r15 =>
(cond ((Tr.isNil r14))
(k Tr.nil ByteArray.empty)
(self r15 fun r16 r17 =>
(cond ((Tr.isNil r16))
(k Tr.nil ByteArray.empty)
(k ((Tr.node ((bt a0 0)) 0 r14 r16)) r17)))))
(k Tr.nil ByteArray.empty))))))))))))))))))))
theorem t_impl_readPart_b {β : Type} (N : Nat) (self : ByteArray → (Tr → ByteArray → Option β) → Option β) (a0 : ByteArray) (k : Tr → ByteArray → Option β) : impl_readPart_b N self a0 k = BV_impl_readPart_b N (impl_isLetter N) self a0 k := by
  unfold impl_readPart_b BV_impl_readPart_b
  rfl
theorem ve88_0 {β : Type} (N : Nat) (q_impl_isLetter : (a0 : Int) → (k : Bool → Option β) → Option β) (q_impl_readPart_f : Nat → ByteArray → (Tr → ByteArray → Option β) → Option β) (G : Nat)  (a0 : ByteArray) (K : TV → Option β) : evFn lay (VE88 N q_impl_isLetter q_impl_readPart_f G) Try.f88 [.v (.one (.str a0))] K = BV_impl_readPart_b N q_impl_isLetter (q_impl_readPart_f G) a0 (fun z1 z2 => K (.tup [.one (.tr false z1), .one (.str z2)])) := by kernel_rfl
theorem e88_0 {β : Type} (N : Nat) (G : Nat)  (a0 : ByteArray) (K : TV → Option β) : evFn lay (E88 N G) Try.f88 [.v (.one (.str a0))] K = impl_readPart_f N (G + 1) a0 (fun z1 z2 => K (.tup [.one (.tr false z1), .one (.str z2)])) := (ve88_0 N (impl_isLetter N) (impl_readPart_f N) G a0 K).trans (t_impl_readPart_b N (impl_readPart_f N G) a0 (fun z1 z2 => K (.tup [.one (.tr false z1), .one (.str z2)]))).symm
theorem z88 {β : Type} (N : Nat) : ∀ args K r, SF88 (β := β) N 0 args K = some r → (none : Option β) = some r := by
  intro args K r h
  unfold SF88 VSF88 at h
  split at h <;> exact h
theorem of88 {β : Type} (N : Nat) : ∀ G, SpecOK (β := β) inv Try.prog 88 (SF88 N G) := by
  intro G
  induction G with
  | zero => exact s_zero Try.func88 (by kernel_rfl) (z88 N)
  | succ G ih =>
    refine spec_of lay_ok mixed (E := E88 N G) (specs_loops (specs_cons (o89 N) (specs_cons ih specs_nil))) muts_nil gs_nil Try.func88 (by kernel_rfl) 0 (by kernel_rfl) trivial fun args K r h => ?_
    unfold SF88 VSF88 at h
    split at h
    · exact (e88_0 N G _ _).trans h
    · cases h
theorem o88 {β : Type} (N : Nat) : SpecOK (β := β) inv Try.prog 88 (S88 N) := of88 N N
def VS46 {β : Type} (N : Nat) (q_impl_readFormula : (a0 : ByteArray) → (k : Tr → Bool → Option β) → Option β) : Rv.Spec β := fun args K => match args with
  | [.v (.one (.str a0))] => q_impl_readFormula a0 (fun z1 z2 => K (.tup [.one (.tr false z1), .one (.bool z2)]))
  | _ => none
def S46 {β : Type} (N : Nat) : Rv.Spec β := VS46 N (impl_readFormula N)
def VE46 {β : Type} (N : Nat) (q_impl_readPart_f : Nat → ByteArray → (Tr → ByteArray → Option β) → Option β) : Env β := ⟨[(88, VS88 N q_impl_readPart_f)], [], [], [], ⟨[], [], []⟩⟩
def E46 {β : Type} (N : Nat) : Env β := VE46 N (impl_readPart_f N)
def BV_impl_readFormula {β : Type} (N : Nat) (q_impl_readPart_f : Nat → ByteArray → (Tr → ByteArray → Option β) → Option β) (a0 : ByteArray) (k : Tr → Bool → Option β) : Option β :=
(cond ((decide ((a0.size : Int) > 60)))
(k Tr.nil false)
(q_impl_readPart_f N a0 fun r3 r4 =>
(cond ((!(Tr.isNil r3)))
(k r3 ((r4.toList == ByteArray.empty.toList)))
(k r3 false))))
theorem t_impl_readFormula {β : Type} (N : Nat) (a0 : ByteArray) (k : Tr → Bool → Option β) : impl_readFormula N a0 k = BV_impl_readFormula N (impl_readPart_f N) a0 k := by
  unfold impl_readFormula BV_impl_readFormula
  rfl
theorem ve46_0 {β : Type} (N : Nat) (q_impl_readPart_f : Nat → ByteArray → (Tr → ByteArray → Option β) → Option β)  (a0 : ByteArray) (K : TV → Option β) : evFn lay (VE46 N q_impl_readPart_f) Try.f46 [.v (.one (.str a0))] K = BV_impl_readFormula N q_impl_readPart_f a0 (fun z1 z2 => K (.tup [.one (.tr false z1), .one (.bool z2)])) := by kernel_rfl
theorem e46_0 {β : Type} (N : Nat)  (a0 : ByteArray) (K : TV → Option β) : evFn lay (E46 N) Try.f46 [.v (.one (.str a0))] K = impl_readFormula N a0 (fun z1 z2 => K (.tup [.one (.tr false z1), .one (.bool z2)])) := (ve46_0 N (impl_readPart_f N) a0 K).trans (t_impl_readFormula N a0 (fun z1 z2 => K (.tup [.one (.tr false z1), .one (.bool z2)]))).symm
theorem o46 {β : Type} (N : Nat) : SpecOK (β := β) inv Try.prog 46 (S46 N) := by
  refine spec_of lay_ok mixed (E := E46 N) (specs_loops (specs_cons (o88 N) specs_nil)) muts_nil gs_nil Try.func46 (by kernel_rfl) 0 (by kernel_rfl) trivial fun args K r h => ?_
  unfold S46 VS46 at h
  split at h
  · exact (e46_0 N _ _).trans h
  · cases h
def VS90 {β : Type} (N : Nat) (q_impl_part_isLeaf : (a0 : Tr) → (k : Bool → Option β) → Option β) : Rv.Spec β := fun args K => match args with
  | [.v (.one (.tr false a0))] => q_impl_part_isLeaf a0 (fun z1 => K (.v (.one (.bool z1))))
  | _ => none
def S90 {β : Type} (N : Nat) : Rv.Spec β := VS90 N (impl_part_isLeaf N)
def VE90 {β : Type} (N : Nat) : Env β := ⟨[], [], [], [], ⟨[], [], []⟩⟩
def E90 {β : Type} (N : Nat) : Env β := VE90 N
def BV_impl_part_isLeaf {β : Type} (N : Nat) (a0 : Tr) (k : Bool → Option β) : Option β :=
(gd ((!(Tr.isNil a0)))
((gd ((!(Tr.isNil a0)))
((gd ((!(Tr.isNil a0)))
(k ((Tr.isNil ((Tr.l a0))))))))))
theorem t_impl_part_isLeaf {β : Type} (N : Nat) (a0 : Tr) (k : Bool → Option β) : impl_part_isLeaf N a0 k = BV_impl_part_isLeaf N a0 k := by
  unfold impl_part_isLeaf BV_impl_part_isLeaf
  rfl
theorem ve90_0 {β : Type} (N : Nat)  (a0 : Tr) (K : TV → Option β) : evFn lay (VE90 N) Try.f90 [.v (.one (.tr false a0))] K = BV_impl_part_isLeaf N a0 (fun z1 => K (.v (.one (.bool z1)))) := by kernel_rfl
theorem e90_0 {β : Type} (N : Nat)  (a0 : Tr) (K : TV → Option β) : evFn lay (E90 N) Try.f90 [.v (.one (.tr false a0))] K = impl_part_isLeaf N a0 (fun z1 => K (.v (.one (.bool z1)))) := (ve90_0 N a0 K).trans (t_impl_part_isLeaf N a0 (fun z1 => K (.v (.one (.bool z1))))).symm
theorem o90 {β : Type} (N : Nat) : SpecOK (β := β) inv Try.prog 90 (S90 N) := by
  refine spec_of lay_ok mixed (E := E90 N) (specs_loops specs_nil) muts_nil gs_nil Try.func90 (by kernel_rfl) 0 (by kernel_rfl) trivial fun args K r h => ?_
  unfold S90 VS90 at h
  split at h
  · exact (e90_0 N _ _).trans h
  · cases h
def VS78 {β : Type} (N : Nat) (q_impl_other : (a0 : Int) → (k : Int → Option β) → Option β) : Rv.Spec β := fun args K => match args with
  | [.v (.one (.int .u8 a0))] => q_impl_other a0 (fun z1 => K (.v (.one (.int .u8 z1))))
  | _ => none
def S78 {β : Type} (N : Nat) : Rv.Spec β := VS78 N (impl_other N)
def VE78 {β : Type} (N : Nat) : Env β := ⟨[], [], [], [], ⟨[], [], []⟩⟩
def E78 {β : Type} (N : Nat) : Env β := VE78 N
def BV_impl_other {β : Type} (N : Nat) (a0 : Int) (k : Int → Option β) : Option β :=
(cond ((a0 == 38))
(k 124)
((cond ((a0 == 124))
(k 38)
((cond ((a0 == 48))
(k 49)
((cond ((a0 == 49))
(k 48)
(k a0))))))))
theorem t_impl_other {β : Type} (N : Nat) (a0 : Int) (k : Int → Option β) : impl_other N a0 k = BV_impl_other N a0 k := by
  unfold impl_other BV_impl_other
  rfl
theorem ve78_0 {β : Type} (N : Nat)  (a0 : Int) (K : TV → Option β) : evFn lay (VE78 N) Try.f78 [.v (.one (.int .u8 a0))] K = BV_impl_other N a0 (fun z1 => K (.v (.one (.int .u8 z1)))) := by kernel_rfl
theorem e78_0 {β : Type} (N : Nat)  (a0 : Int) (K : TV → Option β) : evFn lay (E78 N) Try.f78 [.v (.one (.int .u8 a0))] K = impl_other N a0 (fun z1 => K (.v (.one (.int .u8 z1)))) := (ve78_0 N a0 K).trans (t_impl_other N a0 (fun z1 => K (.v (.one (.int .u8 z1))))).symm
theorem o78 {β : Type} (N : Nat) : SpecOK (β := β) inv Try.prog 78 (S78 N) := by
  refine spec_of lay_ok mixed (E := E78 N) (specs_loops specs_nil) muts_nil gs_nil Try.func78 (by kernel_rfl) 0 (by kernel_rfl) trivial fun args K r h => ?_
  unfold S78 VS78 at h
  split at h
  · exact (e78_0 N _ _).trans h
  · cases h
def VSF47 {β : Type} (N : Nat) (q_impl_part_push_f : Nat → Tr → Bool → (Tr → Option β) → Option β) (G : Nat) : Rv.Spec β := fun args K => match args with
  | [.v (.one (.tr false a0)), .v (.one (.bool a1))] => q_impl_part_push_f G a0 a1 (fun z2 => K (.v (.one (.tr false z2))))
  | _ => none
def SF47 {β : Type} (N : Nat) (G : Nat) : Rv.Spec β := VSF47 N (impl_part_push_f N) G
def VS47 {β : Type} (N : Nat) (q_impl_part_push_f : Nat → Tr → Bool → (Tr → Option β) → Option β) : Rv.Spec β := VSF47 N q_impl_part_push_f N
def S47 {β : Type} (N : Nat) : Rv.Spec β := SF47 N N
def VE47 {β : Type} (N : Nat) (q_impl_isLetter : (a0 : Int) → (k : Bool → Option β) → Option β) (q_impl_part_isLeaf : (a0 : Tr) → (k : Bool → Option β) → Option β) (q_impl_other : (a0 : Int) → (k : Int → Option β) → Option β) (q_impl_part_push_f : Nat → Tr → Bool → (Tr → Option β) → Option β) (G : Nat) : Env β := ⟨[(89, VS89 N q_impl_isLetter), (90, VS90 N q_impl_part_isLeaf), (78, VS78 N q_impl_other), (47, VSF47 N q_impl_part_push_f G)], [], [], [], ⟨[], [], []⟩⟩
def E47 {β : Type} (N : Nat) (G : Nat) : Env β := VE47 N (impl_isLetter N) (impl_part_isLeaf N) (impl_other N) (impl_part_push_f N) G
def BV_impl_part_push_b {β : Type} (N : Nat) (q_impl_isLetter : (a0 : Int) → (k : Bool → Option β) → Option β) (q_impl_part_isLeaf : (a0 : Tr) → (k : Bool → Option β) → Option β) (q_impl_other : (a0 : Int) → (k : Int → Option β) → Option β) (self : Tr → Bool → (Tr → Option β) → Option β) (a0 : Tr) (a1 : Bool) (k : Tr → Option β) : Option β :=
(gd ((!(Tr.isNil a0)))
((gd ((!(Tr.isNil a0)))
((gd ((!(Tr.isNil a0)))
((cond (((Tr.a a0) == 33))
((gd ((!(Tr.isNil a0)))
((gd ((!(Tr.isNil a0)))
((gd ((!(Tr.isNil a0)))
(self ((Tr.l a0)) (!a1) fun r3 =>
k r3)))))))
((gd ((!(Tr.isNil a0)))
((gd ((!(Tr.isNil a0)))
((gd ((!(Tr.isNil a0)))
(q_impl_isLetter ((Tr.a a0)) fun r4 =>
(cond r4
((cond a1
(k ((Tr.node 33 0 a0 Tr.nil)))
(q_impl_part_isLeaf a0 fun r5 =>
(cond r5
((cond a1
((gd ((!(Tr.isNil a0)))
((gd ((!(Tr.isNil a0)))
((gd ((!(Tr.isNil a0)))
(q_impl_other ((Tr.a a0)) fun r6 =>
k ((Tr.node r6 0 Tr.nil Tr.nil)))))))))
(k a0)))
((gd ((!(Tr.isNil a0)))
((gd ((!(Tr.isNil a0)))
((gd ((!(Tr.isNil a0)))
((cond (((Tr.a a0) == 94))
((gd ((!(Tr.isNil a0)))
((gd ((!(Tr.isNil a0)))
((gd ((!(Tr.isNil a0)))
((gd ((!(Tr.isNil a0)))
((gd ((!(Tr.isNil a0)))
((gd ((!(Tr.isNil a0)))
(self ((Tr.l a0)) a1 fun r7 =>
self ((Tr.r a0)) false fun r8 =>
k ((Tr.node 94 0 r7 r8)))))))))))))))
((gd ((!(Tr.isNil a0)))
((gd ((!(Tr.isNil a0)))
((gd ((!(Tr.isNil a0)))
((cond a1
(q_impl_other ((Tr.a a0)) fun r9 =>
(gd ((!(Tr.isNil a0)))
((gd ((!(Tr.isNil a0)))
((gd ((!(Tr.isNil a0)))
((gd ((!(Tr.isNil a0)))
((gd ((!(Tr.isNil a0)))
((gd ((!(Tr.isNil a0)))
(self ((Tr.l a0)) a1 fun r10 =>
self ((Tr.r a0)) a1 fun r11 =>
k ((Tr.node r9 0 r10 r11)))))))))))))))
((gd ((!(Tr.isNil a0)))
((gd ((!(Tr.isNil a0)))
((gd ((!(Tr.isNil a0)))
((gd ((!(Tr.isNil a0)))
((gd ((!(Tr.isNil a0)))
((gd ((!(Tr.isNil a0)))
(self ((Tr.l a0)) a1 fun r12 =>
self ((Tr.r a0)) a1 fun r13 =>
k ((Tr.node ((Tr.a a0)) 0 r12 r13)))))))))))))))))))))))))))))))))))
(q_impl_part_isLeaf a0 fun r14 =>
(cond r14
((cond a1
((gd ((!(Tr.isNil a0)))
((gd ((!(Tr.isNil a0)))
((gd ((!(Tr.isNil a0)))
(q_impl_other ((Tr.a a0)) fun r15 =>
k ((Tr.node r15 0 Tr.nil Tr.nil)))))))))
(k a0)))
((gd ((!(Tr.isNil a0)))
((gd ((!(Tr.isNil a0)))
((gd ((!(Tr.isNil a0)))
((cond (((Tr.a a0) == 94))
((gd ((!(Tr.isNil a0)))
((gd ((!(Tr.isNil a0)))
((gd ((!(Tr.isNil a0)))
((gd ((!(Tr.isNil a0)))
((gd ((!(Tr.isNil a0)))
((gd ((!(Tr.isNil a0)))
(self ((Tr.l a0)) a1 fun r16 =>
self ((Tr.r a0)) false fun r17 =>
k ((Tr.node 94 0 r16 r17)))))))))))))))
((gd ((!(Tr.isNil a0)))
((gd ((!(Tr.isNil a0)))
((gd ((!(Tr.isNil a0)))
((cond a1
(q_impl_other ((Tr.a a0)) fun r18 =>
(gd ((!(Tr.isNil a0)))
((gd ((!(Tr.isNil a0)))
((gd ((!(Tr.isNil a0)))
((gd ((!(Tr.isNil a0)))
((gd ((!(Tr.isNil a0)))
((gd ((!(Tr.isNil a0)))
(self ((Tr.l a0)) a1 fun r19 =>
self ((Tr.r a0)) a1 fun r20 =>
k ((Tr.node r18 0 r19 r20)))))))))))))))
((gd ((!(Tr.isNil a0)))
((gd ((!(Tr.isNil a0)))
((gd ((!(Tr.isNil a0)))
((gd ((!(Tr.isNil a0)))
((gd ((!(Tr.isNil a0)))
((gd ((!(Tr.isNil a0)))
(self ((Tr.l a0)) a1 fun r21 =>
self ((Tr.r a0)) a1 fun r22 =>
k ((Tr.node ((Tr.a a0)) 0 r21 r22))))))))))))))))))))))))))))))))))))))))))))))))
theorem t_impl_part_push_b {β : Type} (N : Nat) (self : Tr → Bool → (Tr → Option β) → Option β) (a0 : Tr) (a1 : Bool) (k : Tr → Option β) : impl_part_push_b N self a0 a1 k = BV_impl_part_push_b N (impl_isLetter N) (impl_part_isLeaf N) (impl_other N) self a0 a1 k := by
  unfold impl_part_push_b BV_impl_part_push_b
  rfl
theorem ve47_0 {β : Type} (N : Nat) (q_impl_isLetter : (a0 : Int) → (k : Bool → Option β) → Option β) (q_impl_part_isLeaf : (a0 : Tr) → (k : Bool → Option β) → Option β) (q_impl_other : (a0 : Int) → (k : Int → Option β) → Option β) (q_impl_part_push_f : Nat → Tr → Bool → (Tr → Option β) → Option β) (G : Nat)  (a0 : Tr) (a1 : Bool) (K : TV → Option β) : evFn lay (VE47 N q_impl_isLetter q_impl_part_isLeaf q_impl_other q_impl_part_push_f G) Try.f47 [.v (.one (.tr false a0)), .v (.one (.bool a1))] K = BV_impl_part_push_b N q_impl_isLetter q_impl_part_isLeaf q_impl_other (q_impl_part_push_f G) a0 a1 (fun z2 => K (.v (.one (.tr false z2)))) := by kernel_rfl
theorem e47_0 {β : Type} (N : Nat) (G : Nat)  (a0 : Tr) (a1 : Bool) (K : TV → Option β) : evFn lay (E47 N G) Try.f47 [.v (.one (.tr false a0)), .v (.one (.bool a1))] K = impl_part_push_f N (G + 1) a0 a1 (fun z2 => K (.v (.one (.tr false z2)))) := (ve47_0 N (impl_isLetter N) (impl_part_isLeaf N) (impl_other N) (impl_part_push_f N) G a0 a1 K).trans (t_impl_part_push_b N (impl_part_push_f N G) a0 a1 (fun z2 => K (.v (.one (.tr false z2))))).symm
theorem z47 {β : Type} (N : Nat) : ∀ args K r, SF47 (β := β) N 0 args K = some r → (none : Option β) = some r := by
  intro args K r h
  unfold SF47 VSF47 at h
  split at h <;> exact h
theorem of47 {β : Type} (N : Nat) : ∀ G, SpecOK (β := β) inv Try.prog 47 (SF47 N G) := by
  intro G
  induction G with
  | zero => exact s_zero Try.func47 (by kernel_rfl) (z47 N)
  | succ G ih =>
    refine spec_of lay_ok mixed (E := E47 N G) (specs_loops (specs_cons (o89 N) (specs_cons (o90 N) (specs_cons (o78 N) (specs_cons ih specs_nil))))) muts_nil gs_nil Try.func47 (by kernel_rfl) 0 (by kernel_rfl) trivial fun args K r h => ?_
    unfold SF47 VSF47 at h
    split at h
    · exact (e47_0 N G _ _ _).trans h
    · cases h
theorem o47 {β : Type} (N : Nat) : SpecOK (β := β) inv Try.prog 47 (S47 N) := of47 N N
def VSF48 {β : Type} (N : Nat) (q_impl_part_text_f : Nat → Tr → (ByteArray → Option β) → Option β) (G : Nat) : Rv.Spec β := fun args K => match args with
  | [.v (.one (.tr false a0))] => q_impl_part_text_f G a0 (fun z1 => K (.v (.one (.str z1))))
  | _ => none
def SF48 {β : Type} (N : Nat) (G : Nat) : Rv.Spec β := VSF48 N (impl_part_text_f N) G
def VS48 {β : Type} (N : Nat) (q_impl_part_text_f : Nat → Tr → (ByteArray → Option β) → Option β) : Rv.Spec β := VSF48 N q_impl_part_text_f N
def S48 {β : Type} (N : Nat) : Rv.Spec β := SF48 N N
def VE48 {β : Type} (N : Nat) (q_impl_part_text_f : Nat → Tr → (ByteArray → Option β) → Option β) (G : Nat) : Env β := ⟨[(48, VSF48 N q_impl_part_text_f G)], [], [], [], ⟨[], [], []⟩⟩
def E48 {β : Type} (N : Nat) (G : Nat) : Env β := VE48 N (impl_part_text_f N) G
def BV_impl_part_text_b {β : Type} (N : Nat) (self : Tr → (ByteArray → Option β) → Option β) (a0 : Tr) (k : ByteArray → Option β) : Option β :=
(gd ((!(Tr.isNil a0)))
((gd ((!(Tr.isNil a0)))
((gd ((!(Tr.isNil a0)))
((gd ((!(Tr.isNil a0)))
((gd ((!(Tr.isNil a0)))
((gd ((!(Tr.isNil a0)))
((cond ((!(Tr.isNil ((Tr.l a0)))))
((gd ((!(Tr.isNil a0)))
((gd ((!(Tr.isNil a0)))
((gd ((!(Tr.isNil a0)))
(self ((Tr.l a0)) fun r2 =>
(gd ((decide (((strOf ((([] : List Int) ++ [(Tr.a a0)])))).size + r2.size ≤ 9223372036854775807)))
((gd ((!(Tr.isNil a0)))
((gd ((!(Tr.isNil a0)))
((gd ((!(Tr.isNil a0)))
((cond ((!(Tr.isNil ((Tr.r a0)))))
((gd ((!(Tr.isNil a0)))
((gd ((!(Tr.isNil a0)))
((gd ((!(Tr.isNil a0)))
(self ((Tr.r a0)) fun r3 =>
(gd ((decide ((((strOf ((([] : List Int) ++ [(Tr.a a0)]))) ++ r2)).size + r3.size ≤ 9223372036854775807)))
(k ((((strOf ((([] : List Int) ++ [(Tr.a a0)]))) ++ r2) ++ r3)))))))))))
(k (((strOf ((([] : List Int) ++ [(Tr.a a0)]))) ++ r2)))))))))))))))))))
((gd ((!(Tr.isNil a0)))
((gd ((!(Tr.isNil a0)))
((gd ((!(Tr.isNil a0)))
((cond ((!(Tr.isNil ((Tr.r a0)))))
((gd ((!(Tr.isNil a0)))
((gd ((!(Tr.isNil a0)))
((gd ((!(Tr.isNil a0)))
(self ((Tr.r a0)) fun r4 =>
(gd ((decide (((strOf ((([] : List Int) ++ [(Tr.a a0)])))).size + r4.size ≤ 9223372036854775807)))
(k (((strOf ((([] : List Int) ++ [(Tr.a a0)]))) ++ r4)))))))))))
(k ((strOf ((([] : List Int) ++ [(Tr.a a0)]))))))))))))))))))))))))))
theorem t_impl_part_text_b {β : Type} (N : Nat) (self : Tr → (ByteArray → Option β) → Option β) (a0 : Tr) (k : ByteArray → Option β) : impl_part_text_b N self a0 k = BV_impl_part_text_b N self a0 k := by
  unfold impl_part_text_b BV_impl_part_text_b
  rfl
theorem ve48_0 {β : Type} (N : Nat) (q_impl_part_text_f : Nat → Tr → (ByteArray → Option β) → Option β) (G : Nat)  (a0 : Tr) (K : TV → Option β) : evFn lay (VE48 N q_impl_part_text_f G) Try.f48 [.v (.one (.tr false a0))] K = BV_impl_part_text_b N (q_impl_part_text_f G) a0 (fun z1 => K (.v (.one (.str z1)))) := by kernel_rfl
theorem e48_0 {β : Type} (N : Nat) (G : Nat)  (a0 : Tr) (K : TV → Option β) : evFn lay (E48 N G) Try.f48 [.v (.one (.tr false a0))] K = impl_part_text_f N (G + 1) a0 (fun z1 => K (.v (.one (.str z1)))) := (ve48_0 N (impl_part_text_f N) G a0 K).trans (t_impl_part_text_b N (impl_part_text_f N G) a0 (fun z1 => K (.v (.one (.str z1))))).symm
theorem z48 {β : Type} (N : Nat) : ∀ args K r, SF48 (β := β) N 0 args K = some r → (none : Option β) = some r := by
  intro args K r h
  unfold SF48 VSF48 at h
  split at h <;> exact h
theorem of48 {β : Type} (N : Nat) : ∀ G, SpecOK (β := β) inv Try.prog 48 (SF48 N G) := by
  intro G
  induction G with
  | zero => exact s_zero Try.func48 (by kernel_rfl) (z48 N)
  | succ G ih =>
    refine spec_of lay_ok mixed (E := E48 N G) (specs_loops (specs_cons ih specs_nil)) muts_nil gs_nil Try.func48 (by kernel_rfl) 0 (by kernel_rfl) trivial fun args K r h => ?_
    unfold SF48 VSF48 at h
    split at h
    · exact (e48_0 N G _ _).trans h
    · cases h
theorem o48 {β : Type} (N : Nat) : SpecOK (β := β) inv Try.prog 48 (S48 N) := of48 N N
def VS9 {β : Type} (N : Nat) (q_impl_PushNegations : (a0 : ByteArray) → (k : ByteArray → Bool → Option β) → Option β) : Rv.Spec β := fun args K => match args with
  | [.v (.one (.str a0))] => q_impl_PushNegations a0 (fun z1 z2 => K (.tup [.one (.str z1), .one (.bool z2)]))
  | _ => none
def S9 {β : Type} (N : Nat) : Rv.Spec β := VS9 N (impl_PushNegations N)
def VE9 {β : Type} (N : Nat) (q_impl_readFormula : (a0 : ByteArray) → (k : Tr → Bool → Option β) → Option β) (q_impl_part_push_f : Nat → Tr → Bool → (Tr → Option β) → Option β) (q_impl_part_text_f : Nat → Tr → (ByteArray → Option β) → Option β) : Env β := ⟨[(46, VS46 N q_impl_readFormula), (47, VS47 N q_impl_part_push_f), (48, VS48 N q_impl_part_text_f)], [], [], [], ⟨[], [], []⟩⟩
def E9 {β : Type} (N : Nat) : Env β := VE9 N (impl_readFormula N) (impl_part_push_f N) (impl_part_text_f N)
def BV_impl_PushNegations {β : Type} (N : Nat) (q_impl_readFormula : (a0 : ByteArray) → (k : Tr → Bool → Option β) → Option β) (q_impl_part_push_f : Nat → Tr → Bool → (Tr → Option β) → Option β) (q_impl_part_text_f : Nat → Tr → (ByteArray → Option β) → Option β) (a0 : ByteArray) (k : ByteArray → Bool → Option β) : Option β :=
q_impl_readFormula a0 fun r3 r4 =>
(cond (!r4)
(k ByteArray.empty false)
(q_impl_part_push_f N r3 false fun r5 =>
q_impl_part_text_f N r5 fun r6 =>
(cond ((decide ((r6.size : Int) > 60)))
(k ByteArray.empty false)
(k r6 true))))
theorem t_impl_PushNegations {β : Type} (N : Nat) (a0 : ByteArray) (k : ByteArray → Bool → Option β) : impl_PushNegations N a0 k = BV_impl_PushNegations N (impl_readFormula N) (impl_part_push_f N) (impl_part_text_f N) a0 k := by
  unfold impl_PushNegations BV_impl_PushNegations
  rfl
theorem ve9_0 {β : Type} (N : Nat) (q_impl_readFormula : (a0 : ByteArray) → (k : Tr → Bool → Option β) → Option β) (q_impl_part_push_f : Nat → Tr → Bool → (Tr → Option β) → Option β) (q_impl_part_text_f : Nat → Tr → (ByteArray → Option β) → Option β)  (a0 : ByteArray) (K : TV → Option β) : evFn lay (VE9 N q_impl_readFormula q_impl_part_push_f q_impl_part_text_f) Try.f9 [.v (.one (.str a0))] K = BV_impl_PushNegations N q_impl_readFormula q_impl_part_push_f q_impl_part_text_f a0 (fun z1 z2 => K (.tup [.one (.str z1), .one (.bool z2)])) := by kernel_rfl
theorem e9_0 {β : Type} (N : Nat)  (a0 : ByteArray) (K : TV → Option β) : evFn lay (E9 N) Try.f9 [.v (.one (.str a0))] K = impl_PushNegations N a0 (fun z1 z2 => K (.tup [.one (.str z1), .one (.bool z2)])) := (ve9_0 N (impl_readFormula N) (impl_part_push_f N) (impl_part_text_f N) a0 K).trans (t_impl_PushNegations N a0 (fun z1 z2 => K (.tup [.one (.str z1), .one (.bool z2)]))).symm
theorem o9 {β : Type} (N : Nat) : SpecOK (β := β) inv Try.prog 9 (S9 N) := by
  refine spec_of lay_ok mixed (E := E9 N) (specs_loops (specs_cons (o46 N) (specs_cons (o47 N) (specs_cons (o48 N) specs_nil)))) muts_nil gs_nil Try.func9 (by kernel_rfl) 0 (by kernel_rfl) trivial fun args K r h => ?_
  unfold S9 VS9 at h
  split at h
  · exact (e9_0 N _ _).trans h
  · cases h
def VS3 {β : Type} (N : Nat) (q_laws_FnExactPushNegations : (a0 : ByteArray) → (k : Bool → Option β) → Option β) : Rv.Spec β := fun args K => match args with
  | [.v (.one (.str a0))] => q_laws_FnExactPushNegations a0 (fun z1 => K (.v (.one (.bool z1))))
  | _ => none
def S3 {β : Type} (N : Nat) : Rv.Spec β := VS3 N (laws_FnExactPushNegations N)
def VE3 {β : Type} (N : Nat) (q_spec_PushNegations : (a0 : ByteArray) → (k : ByteArray → Bool → Option β) → Option β) (q_impl_PushNegations : (a0 : ByteArray) → (k : ByteArray → Bool → Option β) → Option β) : Env β := ⟨[(8, VS8 N q_spec_PushNegations), (9, VS9 N q_impl_PushNegations)], [], [], [], ⟨[], [], []⟩⟩
def E3 {β : Type} (N : Nat) : Env β := VE3 N (spec_PushNegations N) (impl_PushNegations N)
def BV_laws_FnExactPushNegations {β : Type} (N : Nat) (q_spec_PushNegations : (a0 : ByteArray) → (k : ByteArray → Bool → Option β) → Option β) (q_impl_PushNegations : (a0 : ByteArray) → (k : ByteArray → Bool → Option β) → Option β) (a0 : ByteArray) (k : Bool → Option β) : Option β :=
(cond ((decide ((a0.size : Int) > 1048576)))
(k true)
(q_spec_PushNegations a0 fun r2 r3 =>
q_impl_PushNegations a0 fun r4 r5 =>
(cond ((!(r4.toList == r2.toList)))
(k false)
((cond ((!(r5 == r3)))
(k false)
(k true))))))
theorem t_laws_FnExactPushNegations {β : Type} (N : Nat) (a0 : ByteArray) (k : Bool → Option β) : laws_FnExactPushNegations N a0 k = BV_laws_FnExactPushNegations N (spec_PushNegations N) (impl_PushNegations N) a0 k := by
  unfold laws_FnExactPushNegations BV_laws_FnExactPushNegations
  rfl
theorem ve3_0 {β : Type} (N : Nat) (q_spec_PushNegations : (a0 : ByteArray) → (k : ByteArray → Bool → Option β) → Option β) (q_impl_PushNegations : (a0 : ByteArray) → (k : ByteArray → Bool → Option β) → Option β)  (a0 : ByteArray) (K : TV → Option β) : evFn lay (VE3 N q_spec_PushNegations q_impl_PushNegations) Try.f3 [.v (.one (.str a0))] K = BV_laws_FnExactPushNegations N q_spec_PushNegations q_impl_PushNegations a0 (fun z1 => K (.v (.one (.bool z1)))) := by kernel_rfl
theorem e3_0 {β : Type} (N : Nat)  (a0 : ByteArray) (K : TV → Option β) : evFn lay (E3 N) Try.f3 [.v (.one (.str a0))] K = laws_FnExactPushNegations N a0 (fun z1 => K (.v (.one (.bool z1)))) := (ve3_0 N (spec_PushNegations N) (impl_PushNegations N) a0 K).trans (t_laws_FnExactPushNegations N a0 (fun z1 => K (.v (.one (.bool z1))))).symm
theorem o3 {β : Type} (N : Nat) : SpecOK (β := β) inv Try.prog 3 (S3 N) := by
  refine spec_of lay_ok mixed (E := E3 N) (specs_loops (specs_cons (o8 N) (specs_cons (o9 N) specs_nil))) muts_nil gs_nil Try.func3 (by kernel_rfl) 0 (by kernel_rfl) trivial fun args K r h => ?_
  unfold S3 VS3 at h
  split at h
  · exact (e3_0 N _ _).trans h
  · cases h
end Go.Proofs.Ytfdggelojmofmaa
