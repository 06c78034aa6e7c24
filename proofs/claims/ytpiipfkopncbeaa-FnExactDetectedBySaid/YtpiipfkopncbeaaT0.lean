/- The texts of the functions that the claims reach: plain Lean, no program. -/
import Derived.Test.YtpiipfkopncbeaaRvUse
namespace Go.Proofs.Ytpiipfkopncbeaa
open Go.Rv
set_option linter.unusedVariables false
/-! loop.example/g03403/laws.toTable -/
def laws_toTable {β : Type} (N : Nat) (a0 : Int) (a1 : Int) (k : Int → Int → Option β) : Option β :=
k a0 a1
/-! loop.example/g03403/spec.l1In -/
def spec_l1In {β : Type} (N : Nat) (a0 : Int) (a1 : Int) (a2 : Int) (k : Bool → Option β) : Option β :=
(cond ((decide (a0 ≥ a1)))
(k ((decide (a0 ≤ a2))))
(k false))
/-! loop.example/g03403/spec.IsTable -/
def spec_IsTable {β : Type} (N : Nat) (a0 : Int) (a1 : Int) (k : Bool → Option β) : Option β :=
spec_l1In N a0 0 5 fun r2 =>
(cond r2
((gd ((decide (0 ≤ a0)))
((gd ((decide (0 ≤ (shlI .u64 1 a0))))
(spec_l1In N a1 0 ((w64 ((shlI .i64 1 (shlI .u64 1 a0)) - 1))) fun r3 =>
k r3)))))
(k false))
/-! loop.example/g03403/spec.l29Stuck -/
def spec_l29Stuck_l0b {β : Type} (N : Nat)  (v0 : Int) (v1 : Int) (v2 : Int) (v3 : Int) (v4 : Int) (v5 : Int) (v6 : Int) (v7 : Int) (rec_ : Int → Int → Int → Int → Int → Int → Int → Int → Option β) (k0 : Int → Int → Int → Int → Int → Option β) : Option β :=
(gd ((decide (0 ≤ v4)))
((cond ((decide (v3 < (shlI .i64 1 v4))))
((gd ((decide (0 ≤ v0)))
((gd ((decide (0 ≤ v0)))
((gd ((decide (0 ≤ (w64 ((w64 (v3 - (bits .and .i64 v3 (shlI .i64 1 v0)))) + (shlI .i64 v1 v0))))))
((gd ((decide (0 ≤ v3)))
(rec_ v0 v1 ((bits .or .i64 v2 (shlI .i64 (bits .and .i64 (shrI .i64 v5 (w64 ((w64 (v3 - (bits .and .i64 v3 (shlI .i64 1 v0)))) + (shlI .i64 v1 v0)))) 1) v3))) ((w64 (v3 + 1))) v4 v5 v6 v7)))))))))
(k0 v2 v4 v5 v6 v7))))
def spec_l29Stuck_l0 {β : Type} (N : Nat)  : Nat → Int → Int → Int → Int → Int → Int → Int → Int → (Int → Int → Int → Int → Int → Option β) → Option β
  | 0, _, _, _, _, _, _, _, _, _ => none
  | F + 1, v0, v1, v2, v3, v4, v5, v6, v7, k0 => spec_l29Stuck_l0b N  v0 v1 v2 v3 v4 v5 v6 v7 (fun v0 v1 v2 v3 v4 v5 v6 v7 => spec_l29Stuck_l0 N  F v0 v1 v2 v3 v4 v5 v6 v7 k0) k0
def spec_l29Stuck {β : Type} (N : Nat) (a0 : Int) (a1 : Int) (a2 : Int) (a3 : Int) (k : Int → Int → Option β) : Option β :=
spec_l29Stuck_l0 N  N a2 a3 0 0 a0 a1 0 0 (fun e4_0 e4_1 e4_2 e4_3 e4_4 =>
k e4_1 e4_0)
/-! loop.example/g03403/spec.StuckTable -/
def spec_StuckTable {β : Type} (N : Nat) (a0 : Int) (a1 : Int) (a2 : Int) (a3 : Int) (k : Int → Int → Bool → Option β) : Option β :=
spec_IsTable N a0 a1 fun r4 =>
(cond (!r4)
(k 0 0 false)
(spec_l1In N a2 0 ((w64 (a0 - 1))) fun r5 =>
(cond (!r5)
(k 0 0 false)
(spec_l1In N a3 0 1 fun r6 =>
(cond (!r6)
(k 0 0 false)
(spec_l29Stuck N a0 a1 a2 a3 fun r7 r8 =>
k r7 r8 true))))))
/-! loop.example/g03403/impl.isBits -/
def impl_isBits {β : Type} (N : Nat) (a0 : Int) (k : Bool → Option β) : Option β :=
(cond ((decide (a0 ≥ 0)))
(k ((decide (a0 ≤ 5))))
(k false))
/-! (loop.example/g03403/impl.Table).size -/
def impl_Table_size {β : Type} (N : Nat) (a0 : Int) (a1 : Int) (k : Int → Option β) : Option β :=
(gd ((decide (0 ≤ a0)))
(k ((shlI .i64 1 a0))))
/-! loop.example/g03403/impl.IsTable -/
def impl_IsTable {β : Type} (N : Nat) (a0 : Int) (a1 : Int) (k : Bool → Option β) : Option β :=
impl_isBits N a0 fun r2 =>
(cond r2
((cond ((decide (a1 ≥ 0)))
(impl_Table_size N a0 a1 fun r3 =>
(gd ((decide (0 ≤ r3)))
(k (((shrI .i64 a1 r3) == 0)))))
(k false)))
(k false))
/-! loop.example/g03403/impl.hasVariable -/
def impl_hasVariable {β : Type} (N : Nat) (a0 : Int) (a1 : Int) (a2 : Int) (k : Bool → Option β) : Option β :=
impl_IsTable N a0 a1 fun r3 =>
(cond r3
((cond ((decide (a2 ≥ 0)))
(k ((decide (a2 < a0))))
(k false)))
(k false))
/-! loop.example/g03403/impl.isBit -/
def impl_isBit {β : Type} (N : Nat) (a0 : Int) (k : Bool → Option β) : Option β :=
(cond ((a0 == 0))
(k true)
(k ((a0 == 1))))
/-! (loop.example/g03403/impl.Table).at -/
def impl_Table_at {β : Type} (N : Nat) (a0 : Int) (a1 : Int) (a2 : Int) (k : Int → Option β) : Option β :=
(gd ((decide (0 ≤ a2)))
(k ((bits .and .i64 (shrI .i64 a1 a2) 1))))
/-! (loop.example/g03403/impl.Table).stuck$1 -/
def impl_Table_stuck_1 {β : Type} (N : Nat) (a0 : Int) (c0 : Int) (c1 : Int) (c2 : Int) (c3 : Int) (k : Bool → Option β) : Option β :=
(gd ((decide (0 ≤ c2)))
((gd ((decide (0 ≤ c2)))
(impl_Table_at N c0 c1 ((bits .or .i64 (bits .andNot .i64 a0 (shlI .i64 1 c2)) (shlI .i64 c3 c2))) fun r1 =>
k ((r1 == 1))))))
/-! loop.example/g03403/impl.makeTable -/
def impl_makeTable_l0b {β : Type} (N : Nat) (a1 : (Int → (Bool → Option β) → Option β)) (v0 : Int) (v1 : Int) (v2 : Int) (v3 : Int) (v4 : Int) (v5 : Int) (rec_ : Int → Int → Int → Int → Int → Int → Option β) (k0 : Int → Int → Int → Int → Option β) : Option β :=
(cond ((decide (v1 < v0)))
(a1 v1 fun r2 =>
(cond r2
((gd ((decide (0 ≤ v1)))
(rec_ v0 ((w64 (v1 + 1))) v2 v3 v4 ((bits .or .i64 v5 (shlI .i64 1 v1))))))
(rec_ v0 ((w64 (v1 + 1))) v2 v3 v4 v5)))
(k0 v2 v3 v4 v5))
def impl_makeTable_l0 {β : Type} (N : Nat) (a1 : (Int → (Bool → Option β) → Option β)) : Nat → Int → Int → Int → Int → Int → Int → (Int → Int → Int → Int → Option β) → Option β
  | 0, _, _, _, _, _, _, _ => none
  | F + 1, v0, v1, v2, v3, v4, v5, k0 => impl_makeTable_l0b N a1 v0 v1 v2 v3 v4 v5 (fun v0 v1 v2 v3 v4 v5 => impl_makeTable_l0 N a1 F v0 v1 v2 v3 v4 v5 k0) k0
def impl_makeTable {β : Type} (N : Nat) (a0 : Int) (a1 : (Int → (Bool → Option β) → Option β)) (k : Int → Int → Option β) : Option β :=
(gd ((decide (0 ≤ a0)))
(impl_makeTable_l0 N a1 N ((shlI .i64 1 a0)) 0 0 0 a0 0 (fun e3_0 e3_1 e3_2 e3_3 =>
k e3_2 e3_3)))
/-! (loop.example/g03403/impl.Table).stuck -/
def impl_Table_stuck {β : Type} (N : Nat) (a0 : Int) (a1 : Int) (a2 : Int) (a3 : Int) (k : Int → Int → Option β) : Option β :=
impl_makeTable N a0 (fun x0 k => impl_Table_stuck_1 N x0 a0 a1 a2 a3 k) fun r4 r5 =>
k r4 r5
/-! loop.example/g03403/impl.StuckTable -/
def impl_StuckTable {β : Type} (N : Nat) (a0 : Int) (a1 : Int) (a2 : Int) (a3 : Int) (k : Int → Int → Bool → Option β) : Option β :=
impl_hasVariable N a0 a1 a2 fun r4 =>
(cond (!r4)
(k 0 0 false)
(impl_isBit N a3 fun r5 =>
(cond (!r5)
(k 0 0 false)
(impl_Table_stuck N a0 a1 a2 a3 fun r6 r7 =>
k r6 r7 true))))
/-! loop.example/g03403/laws.eqTable -/
def laws_eqTable {β : Type} (N : Nat) (a0 : Int) (a1 : Int) (a2 : Int) (a3 : Int) (k : Bool → Option β) : Option β :=
(cond ((a0 != a2))
(k false)
((cond ((a1 != a3))
(k false)
(k true))))
/-! loop.example/g03403/laws.FnExactStuckTable -/
def laws_FnExactStuckTable {β : Type} (N : Nat) (a0 : Int) (a1 : Int) (a2 : Int) (a3 : Int) (k : Bool → Option β) : Option β :=
laws_toTable N a0 a1 fun r4 r5 =>
spec_StuckTable N r4 r5 a2 a3 fun r6 r7 r8 =>
laws_toTable N a0 a1 fun r9 r10 =>
impl_StuckTable N r9 r10 a2 a3 fun r11 r12 r13 =>
laws_eqTable N r11 r12 r6 r7 fun r14 =>
(cond (!r14)
(k false)
((cond ((!(r13 == r8)))
(k false)
(k true))))
/-! loop.example/g03403/spec.l3Insert -/
def spec_l3Insert {β : Type} (N : Nat) (a0 : Int) (a1 : Int) (a2 : Int) (k : Int → Option β) : Option β :=
(gd ((decide (0 ≤ a1)))
((gd ((decide (0 ≤ a1)))
((gd ((decide (0 ≤ (w64 (a1 + 1)))))
((gd ((decide (0 ≤ a1)))
(k ((bits .or .i64 (bits .or .i64 (shlI .i64 (shrI .i64 a0 a1) (w64 (a1 + 1))) (shlI .i64 a2 a1)) (bits .and .i64 a0 (w64 ((shlI .i64 1 a1) - 1)))))))))))))
/-! loop.example/g03403/spec.l3Restrict -/
def spec_l3Restrict_l0b {β : Type} (N : Nat)  (v0 : Int) (v1 : Int) (v2 : Int) (v3 : Int) (v4 : Int) (v5 : Int) (v6 : Int) (v7 : Int) (rec_ : Int → Int → Int → Int → Int → Int → Int → Int → Option β) (k0 : Int → Int → Int → Int → Int → Option β) : Option β :=
(gd ((decide (0 ≤ (w64 (v4 - 1)))))
((cond ((decide (v3 < (shlI .i64 1 (w64 (v4 - 1))))))
(spec_l3Insert N v3 v0 v1 fun r4 =>
(gd ((decide (0 ≤ r4)))
((gd ((decide (0 ≤ v3)))
(rec_ v0 v1 ((bits .or .i64 v2 (shlI .i64 (bits .and .i64 (shrI .i64 v5 r4) 1) v3))) ((w64 (v3 + 1))) v4 v5 v6 v7)))))
(k0 v2 v4 v5 v6 v7))))
def spec_l3Restrict_l0 {β : Type} (N : Nat)  : Nat → Int → Int → Int → Int → Int → Int → Int → Int → (Int → Int → Int → Int → Int → Option β) → Option β
  | 0, _, _, _, _, _, _, _, _, _ => none
  | F + 1, v0, v1, v2, v3, v4, v5, v6, v7, k0 => spec_l3Restrict_l0b N  v0 v1 v2 v3 v4 v5 v6 v7 (fun v0 v1 v2 v3 v4 v5 v6 v7 => spec_l3Restrict_l0 N  F v0 v1 v2 v3 v4 v5 v6 v7 k0) k0
def spec_l3Restrict {β : Type} (N : Nat) (a0 : Int) (a1 : Int) (a2 : Int) (a3 : Int) (k : Int → Int → Option β) : Option β :=
spec_l3Restrict_l0 N  N a2 a3 0 0 a0 a1 0 0 (fun e5_0 e5_1 e5_2 e5_3 e5_4 =>
k ((w64 (e5_1 - 1))) e5_0)
/-! loop.example/g03403/spec.l3Depends -/
def spec_l3Depends {β : Type} (N : Nat) (a0 : Int) (a1 : Int) (a2 : Int) (k : Bool → Option β) : Option β :=
spec_l3Restrict N a0 a1 a2 0 fun r3 r4 =>
spec_l3Restrict N a0 a1 a2 1 fun r5 r6 =>
k ((r4 != r6))
/-! loop.example/g03403/spec.VariablesOf -/
def spec_VariablesOf_l0b {β : Type} (N : Nat)  (v0 : Int) (v1 : Int) (v2 : Int) (v3 : List Int) (rec_ : Int → Int → Int → List Int → Option β) (k0 : List Int → Option β) : Option β :=
spec_IsTable N v1 v2 fun r2 =>
(cond r2
((cond ((decide (v0 < v1)))
(spec_l3Depends N v1 v2 v0 fun r3 =>
(cond r3
((gd ((decide ((v3.length + ((([] : List Int) ++ [v0])).length) * 8 ≤ 140737488355328)))
(rec_ ((w64 (v0 + 1))) v1 v2 ((v3 ++ (([] : List Int) ++ [v0]))))))
(rec_ ((w64 (v0 + 1))) v1 v2 v3)))
(k0 v3)))
(k0 v3))
def spec_VariablesOf_l0 {β : Type} (N : Nat)  : Nat → Int → Int → Int → List Int → (List Int → Option β) → Option β
  | 0, _, _, _, _, _ => none
  | F + 1, v0, v1, v2, v3, k0 => spec_VariablesOf_l0b N  v0 v1 v2 v3 (fun v0 v1 v2 v3 => spec_VariablesOf_l0 N  F v0 v1 v2 v3 k0) k0
def spec_VariablesOf {β : Type} (N : Nat) (a0 : Int) (a1 : Int) (k : List Int → Option β) : Option β :=
spec_VariablesOf_l0 N  N 0 a0 a1 (([] : List Int)) (fun e4_0 =>
k e4_0)
/-! loop.example/g03403/spec.CountDetectable -/
def spec_CountDetectable {β : Type} (N : Nat) (a0 : Int) (a1 : Int) (k : Int → Option β) : Option β :=
spec_IsTable N a0 a1 fun r2 =>
(cond (!r2)
(k (-1))
(spec_VariablesOf N a0 a1 fun r3 =>
k ((w64 (2 * (r3.length : Int))))))
/-! (loop.example/g03403/impl.Table).detecting -/
def impl_Table_detecting {β : Type} (N : Nat) (a0 : Int) (a1 : Int) (a2 : Int) (a3 : Int) (k : Int → Option β) : Option β :=
impl_Table_stuck N a0 a1 a2 a3 fun r4 r5 =>
k ((bits .xor .i64 a1 r5))
/-! loop.example/g03403/impl.CountDetectable -/
def impl_CountDetectable_l2b {β : Type} (N : Nat)  (v0 : Int) (v1 : Int) (v2 : Int) (v3 : Int) (v4 : Int) (v5 : Int) (v6 : Int) (rec_ : Int → Int → Int → Int → Int → Int → Int → Option β) (k0 : Int → Int → Int → Int → Int → Option β) : Option β :=
(cond ((decide (v4 < 2)))
(impl_Table_detecting N v5 v6 v1 v4 fun r3 =>
(cond ((r3 != 0))
(rec_ ((w64 (v0 + 1))) v1 v2 v3 ((w64 (v4 + 1))) v5 v6)
(rec_ v0 v1 v2 v3 ((w64 (v4 + 1))) v5 v6)))
(k0 v0 v2 v3 v5 v6))
def impl_CountDetectable_l2 {β : Type} (N : Nat)  : Nat → Int → Int → Int → Int → Int → Int → Int → (Int → Int → Int → Int → Int → Option β) → Option β
  | 0, _, _, _, _, _, _, _, _ => none
  | F + 1, v0, v1, v2, v3, v4, v5, v6, k0 => impl_CountDetectable_l2b N  v0 v1 v2 v3 v4 v5 v6 (fun v0 v1 v2 v3 v4 v5 v6 => impl_CountDetectable_l2 N  F v0 v1 v2 v3 v4 v5 v6 k0) k0
def impl_CountDetectable_l0b {β : Type} (N : Nat)  (v0 : Int) (v1 : Int) (v2 : Int) (v3 : Int) (v4 : Int) (rec_ : Int → Int → Int → Int → Int → Option β) (k0 : Int → Option β) : Option β :=
(cond ((decide (v2 < v1)))
(impl_CountDetectable_l2 N  N v0 v2 v1 v2 0 v3 v4 (fun e4_0 e4_1 e4_2 e4_3 e4_4 =>
rec_ e4_0 e4_1 ((w64 (e4_2 + 1))) e4_3 e4_4))
(k0 v0))
def impl_CountDetectable_l0 {β : Type} (N : Nat)  : Nat → Int → Int → Int → Int → Int → (Int → Option β) → Option β
  | 0, _, _, _, _, _, _ => none
  | F + 1, v0, v1, v2, v3, v4, k0 => impl_CountDetectable_l0b N  v0 v1 v2 v3 v4 (fun v0 v1 v2 v3 v4 => impl_CountDetectable_l0 N  F v0 v1 v2 v3 v4 k0) k0
def impl_CountDetectable {β : Type} (N : Nat) (a0 : Int) (a1 : Int) (k : Int → Option β) : Option β :=
impl_IsTable N a0 a1 fun r2 =>
(cond (!r2)
(k (-1))
(impl_CountDetectable_l0 N  N 0 a0 0 a0 a1 (fun e5_0 =>
k e5_0)))
/-! loop.example/g03403/laws.FnExactCountDetectable -/
def laws_FnExactCountDetectable {β : Type} (N : Nat) (a0 : Int) (a1 : Int) (k : Bool → Option β) : Option β :=
laws_toTable N a0 a1 fun r2 r3 =>
spec_CountDetectable N r2 r3 fun r4 =>
laws_toTable N a0 a1 fun r5 r6 =>
impl_CountDetectable N r5 r6 fun r7 =>
(cond ((r7 != r4))
(k false)
(k true))
/-! loop.example/g03403/spec.l9In -/
def spec_l9In {β : Type} (N : Nat) (a0 : Int) (a1 : Int) (a2 : Int) (k : Bool → Option β) : Option β :=
spec_IsTable N a0 a1 fun r3 =>
(cond r3
((gd ((decide (0 ≤ a0)))
(spec_l1In N a2 0 ((w64 ((shlI .i64 1 a0) - 1))) fun r4 =>
k r4)))
(k false))
/-! loop.example/g03403/spec.DetectedBy -/
def spec_DetectedBy_l2b {β : Type} (N : Nat)  (v0 : Int) (v1 : Int) (v2 : Int) (v3 : Int) (v4 : Int) (v5 : List Int) (rec_ : Int → Int → Int → Int → Int → List Int → Option β) (k0 : Int → Int → Int → Int → List Int → Option β) : Option β :=
(cond ((decide (v2 < 2)))
(spec_l29Stuck N v3 v4 v1 v2 fun r4 r5 =>
(gd ((decide (0 ≤ v0)))
((gd ((decide (0 ≤ v0)))
((cond (((bits .and .i64 (bits .xor .i64 (shrI .i64 v4 v0) (shrI .i64 r5 v0)) 1) == 1))
((gd ((decide ((v5.length + ((([] : List Int) ++ [(w64 ((w64 (2 * v1)) + v2))])).length) * 8 ≤ 140737488355328)))
(rec_ v0 v1 ((w64 (v2 + 1))) v3 v4 ((v5 ++ (([] : List Int) ++ [(w64 ((w64 (2 * v1)) + v2))]))))))
(rec_ v0 v1 ((w64 (v2 + 1))) v3 v4 v5)))))))
(k0 v0 v1 v3 v4 v5))
def spec_DetectedBy_l2 {β : Type} (N : Nat)  : Nat → Int → Int → Int → Int → Int → List Int → (Int → Int → Int → Int → List Int → Option β) → Option β
  | 0, _, _, _, _, _, _, _ => none
  | F + 1, v0, v1, v2, v3, v4, v5, k0 => spec_DetectedBy_l2b N  v0 v1 v2 v3 v4 v5 (fun v0 v1 v2 v3 v4 v5 => spec_DetectedBy_l2 N  F v0 v1 v2 v3 v4 v5 k0) k0
def spec_DetectedBy_l0b {β : Type} (N : Nat)  (v0 : Int) (v1 : Int) (v2 : Int) (v3 : Int) (v4 : List Int) (rec_ : Int → Int → Int → Int → List Int → Option β) (k0 : List Int → Option β) : Option β :=
spec_l9In N v2 v3 v0 fun r3 =>
(cond r3
((cond ((decide (v1 < v2)))
(spec_DetectedBy_l2 N  N v0 v1 0 v2 v3 v4 (fun e6_0 e6_1 e6_2 e6_3 e6_4 =>
rec_ e6_0 ((w64 (e6_1 + 1))) e6_2 e6_3 e6_4))
(k0 v4)))
(k0 v4))
def spec_DetectedBy_l0 {β : Type} (N : Nat)  : Nat → Int → Int → Int → Int → List Int → (List Int → Option β) → Option β
  | 0, _, _, _, _, _, _ => none
  | F + 1, v0, v1, v2, v3, v4, k0 => spec_DetectedBy_l0b N  v0 v1 v2 v3 v4 (fun v0 v1 v2 v3 v4 => spec_DetectedBy_l0 N  F v0 v1 v2 v3 v4 k0) k0
def spec_DetectedBy {β : Type} (N : Nat) (a0 : Int) (a1 : Int) (a2 : Int) (k : List Int → Option β) : Option β :=
spec_DetectedBy_l0 N  N a2 0 a0 a1 (([] : List Int)) (fun e7_0 =>
k e7_0)
/-! loop.example/g03403/impl.isInput -/
def impl_isInput {β : Type} (N : Nat) (a0 : Int) (a1 : Int) (k : Bool → Option β) : Option β :=
(cond ((decide (a1 ≥ 0)))
((gd ((decide (0 ≤ a0)))
(k ((decide (a1 < (shlI .i64 1 a0)))))))
(k false))
/-! loop.example/g03403/impl.hasInput -/
def impl_hasInput {β : Type} (N : Nat) (a0 : Int) (a1 : Int) (a2 : Int) (k : Bool → Option β) : Option β :=
impl_IsTable N a0 a1 fun r3 =>
(cond r3
(impl_isInput N a0 a2 fun r4 =>
k r4)
(k false))
/-! loop.example/g03403/impl.DetectedBy -/
def impl_DetectedBy_l2b {β : Type} (N : Nat)  (v0 : Int) (v1 : Int) (v2 : Int) (v3 : Int) (v4 : Int) (v5 : Int) (v6 : Int) (v7 : List Int) (rec_ : Int → Int → Int → Int → Int → Int → Int → List Int → Option β) (k0 : Int → Int → Int → Int → Int → List Int → Option β) : Option β :=
(cond ((decide (v4 < 2)))
(impl_Table_detecting N v5 v6 v1 v4 fun r4 =>
(gd ((decide (0 ≤ v0)))
((cond (((bits .and .i64 (shrI .i64 r4 v0) 1) == 1))
((gd ((decide ((v7.length + ((([] : List Int) ++ [(w64 ((w64 (2 * v1)) + v4))])).length) * 8 ≤ 140737488355328)))
(rec_ v0 v1 v2 v3 ((w64 (v4 + 1))) v5 v6 ((v7 ++ (([] : List Int) ++ [(w64 ((w64 (2 * v1)) + v4))]))))))
(rec_ v0 v1 v2 v3 ((w64 (v4 + 1))) v5 v6 v7)))))
(k0 v0 v2 v3 v5 v6 v7))
def impl_DetectedBy_l2 {β : Type} (N : Nat)  : Nat → Int → Int → Int → Int → Int → Int → Int → List Int → (Int → Int → Int → Int → Int → List Int → Option β) → Option β
  | 0, _, _, _, _, _, _, _, _, _ => none
  | F + 1, v0, v1, v2, v3, v4, v5, v6, v7, k0 => impl_DetectedBy_l2b N  v0 v1 v2 v3 v4 v5 v6 v7 (fun v0 v1 v2 v3 v4 v5 v6 v7 => impl_DetectedBy_l2 N  F v0 v1 v2 v3 v4 v5 v6 v7 k0) k0
def impl_DetectedBy_l0b {β : Type} (N : Nat)  (v0 : Int) (v1 : Int) (v2 : Int) (v3 : Int) (v4 : Int) (v5 : List Int) (rec_ : Int → Int → Int → Int → Int → List Int → Option β) (k0 : List Int → Option β) : Option β :=
(cond ((decide (v2 < v1)))
(impl_DetectedBy_l2 N  N v0 v2 v1 v2 0 v3 v4 v5 (fun e5_0 e5_1 e5_2 e5_3 e5_4 e5_5 =>
rec_ e5_0 e5_1 ((w64 (e5_2 + 1))) e5_3 e5_4 e5_5))
(k0 v5))
def impl_DetectedBy_l0 {β : Type} (N : Nat)  : Nat → Int → Int → Int → Int → Int → List Int → (List Int → Option β) → Option β
  | 0, _, _, _, _, _, _, _ => none
  | F + 1, v0, v1, v2, v3, v4, v5, k0 => impl_DetectedBy_l0b N  v0 v1 v2 v3 v4 v5 (fun v0 v1 v2 v3 v4 v5 => impl_DetectedBy_l0 N  F v0 v1 v2 v3 v4 v5 k0) k0
def impl_DetectedBy {β : Type} (N : Nat) (a0 : Int) (a1 : Int) (a2 : Int) (k : List Int → Option β) : Option β :=
impl_hasInput N a0 a1 a2 fun r3 =>
(cond (!r3)
(k (([] : List Int)))
(impl_DetectedBy_l0 N  N a2 a0 0 a0 a1 (([] : List Int)) (fun e6_0 =>
k e6_0)))
/-! loop.example/g03403/laws.eqIntS -/
def laws_eqIntS_l0b {β : Type} (N : Nat)  (v0 : List Int) (v1 : List Int) (v2 : Int) (rec_ : List Int → List Int → Int → Option β) (k0 : Bool → Option β) (k1 : Option β) : Option β :=
(cond ((decide (v2 < (v0.length : Int))))
((gd ((decide (0 ≤ v2)))
((gd ((decide (v2 < (v0.length : Int))))
((gd ((decide (0 ≤ v2)))
((gd ((decide (v2 < (v1.length : Int))))
((cond (((rd 0 v0 v2) != (rd 0 v1 v2)))
(k0 false)
(rec_ v0 v1 ((w64 (v2 + 1))))))))))))))
(k1 ))
def laws_eqIntS_l0 {β : Type} (N : Nat)  : Nat → List Int → List Int → Int → (Bool → Option β) → (Option β) → Option β
  | 0, _, _, _, _, _ => none
  | F + 1, v0, v1, v2, k0, k1 => laws_eqIntS_l0b N  v0 v1 v2 (fun v0 v1 v2 => laws_eqIntS_l0 N  F v0 v1 v2 k0 k1) k0 k1
def laws_eqIntS {β : Type} (N : Nat) (a0 : List Int) (a1 : List Int) (k : Bool → Option β) : Option β :=
(cond (((a0.length : Int) != (a1.length : Int)))
(k false)
(laws_eqIntS_l0 N  N a0 a1 0 (fun e2_0 =>
k e2_0) (k true)))
/-! loop.example/g03403/laws.heldIntS -/
def laws_heldIntS_l0b {β : Type} (N : Nat)  (v0 : List Int) (v1 : Int) (v2 : Int) (rec_ : List Int → Int → Int → Option β) (k0 : Int → Option β) (k1 : Int → Option β) : Option β :=
(cond ((decide (v2 < (v0.length : Int))))
((gd ((decide (0 ≤ v2)))
((gd ((decide (v2 < (v0.length : Int))))
((cond (((rd 0 v0 v2) != v1))
(k0 (-1))
(rec_ v0 ((w64 (v1 + 1))) ((w64 (v2 + 1))))))))))
(k1 v1))
def laws_heldIntS_l0 {β : Type} (N : Nat)  : Nat → List Int → Int → Int → (Int → Option β) → (Int → Option β) → Option β
  | 0, _, _, _, _, _ => none
  | F + 1, v0, v1, v2, k0, k1 => laws_heldIntS_l0b N  v0 v1 v2 (fun v0 v1 v2 => laws_heldIntS_l0 N  F v0 v1 v2 k0 k1) k0 k1
def laws_heldIntS {β : Type} (N : Nat) (a0 : List Int) (a1 : Int) (k : Int → Option β) : Option β :=
laws_heldIntS_l0 N  N a0 a1 0 (fun e2_0 =>
k e2_0) (fun e3_0 =>
k e3_0)
/-! loop.example/g03403/laws.markIntS -/
def laws_markIntS_l0b {β : Type} (N : Nat)  (v0 : Int) (v1 : Int) (v2 : List Int) (rec_ : Int → Int → List Int → Option β) (k0 : Int → List Int → Option β) : Option β :=
(cond ((decide (v1 < (v2.length : Int))))
((gd ((decide (0 ≤ v1)))
((gd ((decide (v1 < (v2.length : Int))))
(rec_ ((w64 (v0 + 1))) ((w64 (v1 + 1))) ((wr v2 v1 v0)))))))
(k0 v0 v2))
def laws_markIntS_l0 {β : Type} (N : Nat)  : Nat → Int → Int → List Int → (Int → List Int → Option β) → Option β
  | 0, _, _, _, _ => none
  | F + 1, v0, v1, v2, k0 => laws_markIntS_l0b N  v0 v1 v2 (fun v0 v1 v2 => laws_markIntS_l0 N  F v0 v1 v2 k0) k0
def laws_markIntS {β : Type} (N : Nat) (a0 : List Int) (a1 : Int) (k : Int → List Int → Option β) : Option β :=
laws_markIntS_l0 N  N a1 0 a0 (fun e2_0 e2_1 =>
k e2_0 e2_1)
/-! loop.example/g03403/laws.FnExactDetectedBy -/
def laws_FnExactDetectedBy {β : Type} (N : Nat) (a0 : Int) (a1 : Int) (a2 : Int) (k : Bool → Option β) : Option β :=
laws_toTable N a0 a1 fun r3 r4 =>
spec_DetectedBy N r3 r4 a2 fun r5 =>
laws_toTable N a0 a1 fun r6 r7 =>
impl_DetectedBy N r6 r7 a2 fun r8 =>
laws_eqIntS N r8 r5 fun r9 =>
(cond (!r9)
(k false)
(laws_markIntS N r8 1 fun r10 m11 =>
laws_heldIntS N m11 1 fun r12 =>
(cond ((decide (r12 < 0)))
(k false)
((cond ((r12 != r10))
(k false)
(laws_toTable N a0 a1 fun r13 r14 =>
impl_DetectedBy N r13 r14 a2 fun r15 =>
laws_eqIntS N r15 r5 fun r16 =>
(cond (!r16)
(k false)
(laws_heldIntS N m11 1 fun r17 =>
(cond ((decide (r17 < 0)))
(k false)
((cond ((r17 != r10))
(k false)
(k true))))))))))))
/-! loop.example/g03403/laws.szIntS -/
def laws_szIntS {β : Type} (N : Nat) (a0 : List Int) (a1 : Int) (k : Int → Option β) : Option β :=
(cond ((decide ((w64 (a1 - (a0.length : Int))) < 0)))
(k (-1))
(k ((w64 (a1 - (a0.length : Int))))))
/-! loop.example/g03403/laws.szKept -/
def laws_szKept {β : Type} (N : Nat) (a0 : Int) (a1 : Int) (a2 : Int) (a3 : List Int) (a4 : Int) (k : Int → Option β) : Option β :=
laws_szIntS N a3 a4 fun r5 =>
(cond ((decide (r5 < 0)))
(k (-1))
(k r5))
/-! loop.example/g03403/laws.toIntS -/
def laws_toIntS_l0b {β : Type} (N : Nat)  (v0 : List Int) (v1 : Int) (v2 : List Int) (rec_ : List Int → Int → List Int → Option β) (k0 : List Int → Option β) : Option β :=
(cond ((decide (v1 < (v0.length : Int))))
((gd ((decide (0 ≤ v1)))
((gd ((decide (v1 < (v0.length : Int))))
((gd ((decide (0 ≤ v1)))
((gd ((decide (v1 < (v2.length : Int))))
(rec_ v0 ((w64 (v1 + 1))) ((wr v2 v1 (rd 0 v0 v1))))))))))))
(k0 v2))
def laws_toIntS_l0 {β : Type} (N : Nat)  : Nat → List Int → Int → List Int → (List Int → Option β) → Option β
  | 0, _, _, _, _ => none
  | F + 1, v0, v1, v2, k0 => laws_toIntS_l0b N  v0 v1 v2 (fun v0 v1 v2 => laws_toIntS_l0 N  F v0 v1 v2 k0) k0
def laws_toIntS {β : Type} (N : Nat) (a0 : List Int) (k : List Int → Option β) : Option β :=
(gd ((decide (0 ≤ (a0.length : Int))))
((gd ((decide ((a0.length : Int) ≤ (a0.length : Int))))
((gd ((decide (8 * (a0.length : Int) ≤ 281474976710656)))
(laws_toIntS_l0 N  N a0 0 ((List.replicate (Int.toNat (a0.length : Int)) (0 : Int))) (fun e1_0 =>
k e1_0)))))))
/-! loop.example/g03403/laws.toKept -/
def laws_toKept {β : Type} (N : Nat) (a0 : Int) (a1 : Int) (a2 : Int) (a3 : List Int) (k : Int → Int → Int → List Int → Option β) : Option β :=
laws_toTable N a0 a1 fun r4 r5 =>
laws_toIntS N a3 fun r6 =>
k r4 r5 a2 r6
/-! loop.example/g03403/spec.l30Same -/
def spec_l30Same_l0b {β : Type} (N : Nat)  (v0 : List Int) (v1 : List Int) (v2 : Int) (rec_ : List Int → List Int → Int → Option β) (k0 : Bool → Option β) (k1 : Option β) : Option β :=
(cond ((decide (v2 < (v0.length : Int))))
((gd ((decide (0 ≤ v2)))
((gd ((decide (v2 < (v0.length : Int))))
((gd ((decide (0 ≤ v2)))
((gd ((decide (v2 < (v1.length : Int))))
((cond (((rd 0 v0 v2) != (rd 0 v1 v2)))
(k0 false)
(rec_ v0 v1 ((w64 (v2 + 1))))))))))))))
(k1 ))
def spec_l30Same_l0 {β : Type} (N : Nat)  : Nat → List Int → List Int → Int → (Bool → Option β) → (Option β) → Option β
  | 0, _, _, _, _, _ => none
  | F + 1, v0, v1, v2, k0, k1 => spec_l30Same_l0b N  v0 v1 v2 (fun v0 v1 v2 => spec_l30Same_l0 N  F v0 v1 v2 k0 k1) k0 k1
def spec_l30Same {β : Type} (N : Nat) (a0 : List Int) (a1 : List Int) (k : Bool → Option β) : Option β :=
(cond (((a0.length : Int) != (a1.length : Int)))
(k false)
(spec_l30Same_l0 N  N a0 a1 0 (fun e2_0 =>
k e2_0) (k true)))
/-! loop.example/g03403/spec.EqualKept -/
def spec_EqualKept {β : Type} (N : Nat) (a0 : Int) (a1 : Int) (a2 : Int) (a3 : List Int) (a4 : Int) (a5 : Int) (a6 : Int) (a7 : List Int) (k : Bool → Option β) : Option β :=
(cond (((a0 == a4) && (a1 == a5)))
((cond ((a2 == a6))
(spec_l30Same N a3 a7 fun r8 =>
k r8)
(k false)))
(k false))
/-! slices.Equal[[]int,int] -/
def slices_Equal_Sint_int_l0b {β : Type} (N : Nat)  (v0 : List Int) (v1 : List Int) (v2 : Int) (v3 : Int) (rec_ : List Int → List Int → Int → Int → Option β) (k0 : Bool → Option β) (k1 : Option β) : Option β :=
(cond ((decide (v3 < v2)))
((gd ((decide (0 ≤ v3)))
((gd ((decide (v3 < (v0.length : Int))))
((gd ((decide (0 ≤ v3)))
((gd ((decide (v3 < (v1.length : Int))))
((cond (((rd 0 v0 v3) != (rd 0 v1 v3)))
(k0 false)
(rec_ v0 v1 v2 ((w64 (v3 + 1))))))))))))))
(k1 ))
def slices_Equal_Sint_int_l0 {β : Type} (N : Nat)  : Nat → List Int → List Int → Int → Int → (Bool → Option β) → (Option β) → Option β
  | 0, _, _, _, _, _, _ => none
  | F + 1, v0, v1, v2, v3, k0, k1 => slices_Equal_Sint_int_l0b N  v0 v1 v2 v3 (fun v0 v1 v2 v3 => slices_Equal_Sint_int_l0 N  F v0 v1 v2 v3 k0 k1) k0 k1
def slices_Equal_Sint_int {β : Type} (N : Nat) (a0 : List Int) (a1 : List Int) (k : Bool → Option β) : Option β :=
(cond (((a0.length : Int) != (a1.length : Int)))
(k false)
(slices_Equal_Sint_int_l0 N  N a0 a1 ((a0.length : Int)) 0 (fun e2_0 =>
k e2_0) (k true)))
/-! loop.example/g03403/impl.EqualKept -/
def impl_EqualKept {β : Type} (N : Nat) (a0 : Int) (a1 : Int) (a2 : Int) (a3 : List Int) (a4 : Int) (a5 : Int) (a6 : Int) (a7 : List Int) (k : Bool → Option β) : Option β :=
(cond (((a0 == a4) && (a1 == a5)))
((cond ((a2 == a6))
(slices_Equal_Sint_int N a3 a7 fun r8 =>
k r8)
(k false)))
(k false))
/-! loop.example/g03403/laws.eqKept -/
def laws_eqKept {β : Type} (N : Nat) (a0 : Int) (a1 : Int) (a2 : Int) (a3 : List Int) (a4 : Int) (a5 : Int) (a6 : Int) (a7 : List Int) (k : Bool → Option β) : Option β :=
laws_eqTable N a0 a1 a4 a5 fun r8 =>
(cond (!r8)
(k false)
((cond ((a2 != a6))
(k false)
(laws_eqIntS N a3 a7 fun r9 =>
(cond (!r9)
(k false)
(k true))))))
/-! loop.example/g03403/laws.FnExactEqualKept -/
def laws_FnExactEqualKept {β : Type} (N : Nat) (a0 : Int) (a1 : Int) (a2 : Int) (a3 : List Int) (a4 : Int) (a5 : Int) (a6 : Int) (a7 : List Int) (k : Bool → Option β) : Option β :=
laws_szKept N a0 a1 a2 a3 1048576 fun r8 =>
(cond ((decide (r8 < 0)))
(k true)
(laws_szKept N a4 a5 a6 a7 r8 fun r9 =>
(cond ((decide (r9 < 0)))
(k true)
(laws_toKept N a0 a1 a2 a3 fun r10 r11 r12 r13 =>
laws_toKept N a4 a5 a6 a7 fun r14 r15 r16 r17 =>
spec_EqualKept N r10 r11 r12 r13 r14 r15 r16 r17 fun r18 =>
laws_toKept N a0 a1 a2 a3 fun r19 r20 r21 r22 =>
laws_toKept N a4 a5 a6 a7 fun r23 r24 r25 r26 =>
impl_EqualKept N r19 r20 r21 r22 r23 r24 r25 r26 fun r27 =>
(cond ((!(r27 == r18)))
(k false)
(laws_toKept N a0 a1 a2 a3 fun r28 r29 r30 r31 =>
laws_eqKept N r19 r20 r21 r22 r28 r29 r30 r31 fun r32 =>
(cond (!r32)
(k false)
(laws_toKept N a4 a5 a6 a7 fun r33 r34 r35 r36 =>
laws_eqKept N r23 r24 r25 r26 r33 r34 r35 r36 fun r37 =>
(cond (!r37)
(k false)
(k true))))))))))
/-! loop.example/g03403/spec.DetectingInputs -/
def spec_DetectingInputs_l0b {β : Type} (N : Nat)  (v0 : Bool) (v1 : Int) (v2 : Int) (v3 : Int) (v4 : List Int) (v5 : Int) (v6 : Int) (rec_ : Bool → Int → Int → Int → List Int → Int → Int → Option β) (k0 : Bool → List Int → Option β) : Option β :=
(cond v0
((gd ((decide (0 ≤ v2)))
((cond ((decide (v1 < (shlI .i64 1 v2))))
((gd ((decide (0 ≤ v1)))
((gd ((decide (0 ≤ v1)))
((cond (((bits .and .i64 (bits .xor .i64 (shrI .i64 v3 v1) (shrI .i64 v6 v1)) 1) == 1))
((gd ((decide ((v4.length + ((([] : List Int) ++ [v1])).length) * 8 ≤ 140737488355328)))
(rec_ v0 ((w64 (v1 + 1))) v2 v3 ((v4 ++ (([] : List Int) ++ [v1]))) v5 v6)))
(rec_ v0 ((w64 (v1 + 1))) v2 v3 v4 v5 v6)))))))
(k0 v0 v4)))))
(k0 v0 v4))
def spec_DetectingInputs_l0 {β : Type} (N : Nat)  : Nat → Bool → Int → Int → Int → List Int → Int → Int → (Bool → List Int → Option β) → Option β
  | 0, _, _, _, _, _, _, _, _ => none
  | F + 1, v0, v1, v2, v3, v4, v5, v6, k0 => spec_DetectingInputs_l0b N  v0 v1 v2 v3 v4 v5 v6 (fun v0 v1 v2 v3 v4 v5 v6 => spec_DetectingInputs_l0 N  F v0 v1 v2 v3 v4 v5 v6 k0) k0
def spec_DetectingInputs {β : Type} (N : Nat) (a0 : Int) (a1 : Int) (a2 : Int) (a3 : Int) (k : List Int → Bool → Option β) : Option β :=
spec_StuckTable N a0 a1 a2 a3 fun r4 r5 r6 =>
spec_DetectingInputs_l0 N  N r6 0 a0 a1 (([] : List Int)) r4 r5 (fun e7_0 e7_1 =>
k e7_1 e7_0)
/-! loop.example/g03403/impl.elements -/
def impl_elements_l0b {β : Type} (N : Nat)  (v0 : Int) (v1 : Int) (v2 : List Int) (rec_ : Int → Int → List Int → Option β) (k0 : List Int → Option β) : Option β :=
(cond ((decide (v1 < 32)))
((gd ((decide (0 ≤ v1)))
((cond (((bits .and .i64 (shrI .i64 v0 v1) 1) == 1))
((gd ((decide ((v2.length + ((([] : List Int) ++ [v1])).length) * 8 ≤ 140737488355328)))
(rec_ v0 ((w64 (v1 + 1))) ((v2 ++ (([] : List Int) ++ [v1]))))))
(rec_ v0 ((w64 (v1 + 1))) v2)))))
(k0 v2))
def impl_elements_l0 {β : Type} (N : Nat)  : Nat → Int → Int → List Int → (List Int → Option β) → Option β
  | 0, _, _, _, _ => none
  | F + 1, v0, v1, v2, k0 => impl_elements_l0b N  v0 v1 v2 (fun v0 v1 v2 => impl_elements_l0 N  F v0 v1 v2 k0) k0
def impl_elements {β : Type} (N : Nat) (a0 : Int) (k : List Int → Option β) : Option β :=
impl_elements_l0 N  N a0 0 (([] : List Int)) (fun e1_0 =>
k e1_0)
/-! loop.example/g03403/impl.DetectingInputs -/
def impl_DetectingInputs {β : Type} (N : Nat) (a0 : Int) (a1 : Int) (a2 : Int) (a3 : Int) (k : List Int → Bool → Option β) : Option β :=
impl_hasVariable N a0 a1 a2 fun r4 =>
(cond (!r4)
(k (([] : List Int)) false)
(impl_isBit N a3 fun r5 =>
(cond (!r5)
(k (([] : List Int)) false)
(impl_Table_detecting N a0 a1 a2 a3 fun r6 =>
impl_elements N r6 fun r7 =>
k r7 true))))
/-! loop.example/g03403/laws.FnExactDetectingInputs -/
def laws_FnExactDetectingInputs {β : Type} (N : Nat) (a0 : Int) (a1 : Int) (a2 : Int) (a3 : Int) (k : Bool → Option β) : Option β :=
laws_toTable N a0 a1 fun r4 r5 =>
spec_DetectingInputs N r4 r5 a2 a3 fun r6 r7 =>
laws_toTable N a0 a1 fun r8 r9 =>
impl_DetectingInputs N r8 r9 a2 a3 fun r10 r11 =>
laws_eqIntS N r10 r6 fun r12 =>
(cond (!r12)
(k false)
((cond ((!(r11 == r7)))
(k false)
(laws_markIntS N r10 1 fun r13 m14 =>
laws_heldIntS N m14 1 fun r15 =>
(cond ((decide (r15 < 0)))
(k false)
((cond ((r15 != r13))
(k false)
(laws_toTable N a0 a1 fun r16 r17 =>
impl_DetectingInputs N r16 r17 a2 a3 fun r18 r19 =>
laws_eqIntS N r18 r6 fun r20 =>
(cond (!r20)
(k false)
((cond ((!(r19 == r7)))
(k false)
(laws_heldIntS N m14 1 fun r21 =>
(cond ((decide (r21 < 0)))
(k false)
((cond ((r21 != r13))
(k false)
(k true))))))))))))))))
/-! loop.example/g03403/spec.l29Shows -/
def spec_l29Shows_l2b {β : Type} (N : Nat)  (v0 : Int) (v1 : Int) (v2 : Int) (v3 : Int) (v4 : Int) (rec_ : Int → Int → Int → Int → Int → Option β) (k0 : Bool → Option β) (k1 : Int → Int → Int → Int → Option β) : Option β :=
(cond ((decide (v2 < 2)))
(spec_l29Stuck N v3 v4 v1 v2 fun r3 r4 =>
(cond (((bits .xor .i64 v4 r4) != 0))
((cond (((bits .and .i64 (bits .xor .i64 v4 r4) v0) == 0))
(k0 false)
(rec_ v0 v1 ((w64 (v2 + 1))) v3 v4)))
(rec_ v0 v1 ((w64 (v2 + 1))) v3 v4)))
(k1 v0 v1 v3 v4))
def spec_l29Shows_l2 {β : Type} (N : Nat)  : Nat → Int → Int → Int → Int → Int → (Bool → Option β) → (Int → Int → Int → Int → Option β) → Option β
  | 0, _, _, _, _, _, _, _ => none
  | F + 1, v0, v1, v2, v3, v4, k0, k1 => spec_l29Shows_l2b N  v0 v1 v2 v3 v4 (fun v0 v1 v2 v3 v4 => spec_l29Shows_l2 N  F v0 v1 v2 v3 v4 k0 k1) k0 k1
def spec_l29Shows_l0b {β : Type} (N : Nat)  (v0 : Int) (v1 : Int) (v2 : Int) (v3 : Int) (rec_ : Int → Int → Int → Int → Option β) (k0 : Bool → Option β) (k1 : Option β) : Option β :=
(cond ((decide (v1 < v2)))
(spec_l29Shows_l2 N  N v0 v1 0 v2 v3 (fun e5_0 =>
k0 e5_0) (fun e6_0 e6_1 e6_2 e6_3 =>
rec_ e6_0 ((w64 (e6_1 + 1))) e6_2 e6_3))
(k1 ))
def spec_l29Shows_l0 {β : Type} (N : Nat)  : Nat → Int → Int → Int → Int → (Bool → Option β) → (Option β) → Option β
  | 0, _, _, _, _, _, _ => none
  | F + 1, v0, v1, v2, v3, k0, k1 => spec_l29Shows_l0b N  v0 v1 v2 v3 (fun v0 v1 v2 v3 => spec_l29Shows_l0 N  F v0 v1 v2 v3 k0 k1) k0 k1
def spec_l29Shows {β : Type} (N : Nat) (a0 : Int) (a1 : Int) (a2 : Int) (k : Bool → Option β) : Option β :=
spec_l29Shows_l0 N  N a2 0 a0 a1 (fun e7_0 =>
k e7_0) (k true)
/-! loop.example/g03403/spec.IsTestSet -/
def spec_IsTestSet_l0b {β : Type} (N : Nat)  (v0 : List Int) (v1 : Int) (v2 : Int) (v3 : Int) (v4 : Int) (rec_ : List Int → Int → Int → Int → Int → Option β) (k0 : Bool → Option β) (k1 : Int → Int → Int → Option β) : Option β :=
(cond ((decide (v2 < (v0.length : Int))))
((gd ((decide (0 ≤ v2)))
((gd ((decide (v2 < (v0.length : Int))))
(spec_l9In N v3 v4 ((rd 0 v0 v2)) fun r3 =>
(cond (!r3)
(k0 false)
((gd ((decide (0 ≤ v2)))
((gd ((decide (v2 < (v0.length : Int))))
((gd ((decide (0 ≤ (rd 0 v0 v2))))
(rec_ v0 ((bits .or .i64 v1 (shlI .i64 1 (rd 0 v0 v2)))) ((w64 (v2 + 1))) v3 v4)))))))))))))
(k1 v1 v3 v4))
def spec_IsTestSet_l0 {β : Type} (N : Nat)  : Nat → List Int → Int → Int → Int → Int → (Bool → Option β) → (Int → Int → Int → Option β) → Option β
  | 0, _, _, _, _, _, _, _ => none
  | F + 1, v0, v1, v2, v3, v4, k0, k1 => spec_IsTestSet_l0b N  v0 v1 v2 v3 v4 (fun v0 v1 v2 v3 v4 => spec_IsTestSet_l0 N  F v0 v1 v2 v3 v4 k0 k1) k0 k1
def spec_IsTestSet {β : Type} (N : Nat) (a0 : Int) (a1 : Int) (a2 : List Int) (k : Bool → Option β) : Option β :=
spec_IsTestSet_l0 N  N a2 0 0 a0 a1 (fun e4_0 =>
k e4_0) (fun e5_0 e5_1 e5_2 =>
spec_IsTable N e5_1 e5_2 fun r6 =>
(cond r6
(spec_l29Shows N e5_1 e5_2 e5_0 fun r7 =>
k r7)
(k false)))
/-! loop.example/g03403/impl.IsTestSet$1 -/
def impl_IsTestSet_1 {β : Type} (N : Nat) (a0 : Int) (c0 : Int) (c1 : Int) (k : Bool → Option β) : Option β :=
impl_isInput N c0 a0 fun r1 =>
k (!r1)
/-! slices.IndexFunc[[]int,int] -/
def slices_IndexFunc_Sint_int_l0b {β : Type} (N : Nat) (a1 : (Int → (Bool → Option β) → Option β)) (v0 : List Int) (v1 : Int) (v2 : Int) (rec_ : List Int → Int → Int → Option β) (k0 : Int → Option β) (k1 : Option β) : Option β :=
(cond ((decide (v2 < v1)))
((gd ((decide (0 ≤ v2)))
((gd ((decide (v2 < (v0.length : Int))))
(a1 ((rd 0 v0 v2)) fun r2 =>
(cond r2
(k0 v2)
(rec_ v0 v1 ((w64 (v2 + 1))))))))))
(k1 ))
def slices_IndexFunc_Sint_int_l0 {β : Type} (N : Nat) (a1 : (Int → (Bool → Option β) → Option β)) : Nat → List Int → Int → Int → (Int → Option β) → (Option β) → Option β
  | 0, _, _, _, _, _ => none
  | F + 1, v0, v1, v2, k0, k1 => slices_IndexFunc_Sint_int_l0b N a1 v0 v1 v2 (fun v0 v1 v2 => slices_IndexFunc_Sint_int_l0 N a1 F v0 v1 v2 k0 k1) k0 k1
def slices_IndexFunc_Sint_int {β : Type} (N : Nat) (a0 : List Int) (a1 : (Int → (Bool → Option β) → Option β)) (k : Int → Option β) : Option β :=
slices_IndexFunc_Sint_int_l0 N a1 N a0 ((a0.length : Int)) 0 (fun e3_0 =>
k e3_0) (k (-1))
/-! slices.ContainsFunc[[]int,int] -/
def slices_ContainsFunc_Sint_int {β : Type} (N : Nat) (a0 : List Int) (a1 : (Int → (Bool → Option β) → Option β)) (k : Bool → Option β) : Option β :=
slices_IndexFunc_Sint_int N a0 a1 fun r2 =>
k ((decide (r2 ≥ 0)))
/-! (loop.example/g03403/impl.Table).tests -/
def impl_Table_tests_l2b {β : Type} (N : Nat)  (v0 : Int) (v1 : Int) (v2 : Int) (v3 : Int) (v4 : Int) (v5 : Int) (v6 : Int) (rec_ : Int → Int → Int → Int → Int → Int → Int → Option β) (k0 : Bool → Option β) (k1 : Int → Int → Int → Int → Int → Option β) : Option β :=
(cond ((decide (v4 < 2)))
(impl_Table_detecting N v5 v6 v1 v4 fun r3 =>
(cond ((r3 != 0))
((cond (((bits .and .i64 r3 v0) == 0))
(k0 false)
(rec_ v0 v1 v2 v3 ((w64 (v4 + 1))) v5 v6)))
(rec_ v0 v1 v2 v3 ((w64 (v4 + 1))) v5 v6)))
(k1 v0 v2 v3 v5 v6))
def impl_Table_tests_l2 {β : Type} (N : Nat)  : Nat → Int → Int → Int → Int → Int → Int → Int → (Bool → Option β) → (Int → Int → Int → Int → Int → Option β) → Option β
  | 0, _, _, _, _, _, _, _, _, _ => none
  | F + 1, v0, v1, v2, v3, v4, v5, v6, k0, k1 => impl_Table_tests_l2b N  v0 v1 v2 v3 v4 v5 v6 (fun v0 v1 v2 v3 v4 v5 v6 => impl_Table_tests_l2 N  F v0 v1 v2 v3 v4 v5 v6 k0 k1) k0 k1
def impl_Table_tests_l0b {β : Type} (N : Nat)  (v0 : Int) (v1 : Int) (v2 : Int) (v3 : Int) (v4 : Int) (rec_ : Int → Int → Int → Int → Int → Option β) (k0 : Bool → Option β) (k1 : Option β) : Option β :=
(cond ((decide (v2 < v1)))
(impl_Table_tests_l2 N  N v0 v2 v1 v2 0 v3 v4 (fun e4_0 =>
k0 e4_0) (fun e5_0 e5_1 e5_2 e5_3 e5_4 =>
rec_ e5_0 e5_1 ((w64 (e5_2 + 1))) e5_3 e5_4))
(k1 ))
def impl_Table_tests_l0 {β : Type} (N : Nat)  : Nat → Int → Int → Int → Int → Int → (Bool → Option β) → (Option β) → Option β
  | 0, _, _, _, _, _, _, _ => none
  | F + 1, v0, v1, v2, v3, v4, k0, k1 => impl_Table_tests_l0b N  v0 v1 v2 v3 v4 (fun v0 v1 v2 v3 v4 => impl_Table_tests_l0 N  F v0 v1 v2 v3 v4 k0 k1) k0 k1
def impl_Table_tests {β : Type} (N : Nat) (a0 : Int) (a1 : Int) (a2 : Int) (k : Bool → Option β) : Option β :=
impl_Table_tests_l0 N  N a2 a0 0 a0 a1 (fun e6_0 =>
k e6_0) (k true)
/-! loop.example/g03403/impl.IsTestSet -/
def impl_IsTestSet_l0b {β : Type} (N : Nat)  (v0 : Int) (v1 : List Int) (v2 : Int) (v3 : Int) (v4 : Int) (v5 : Int) (rec_ : Int → List Int → Int → Int → Int → Int → Option β) (k0 : Int → Int → Int → Option β) : Option β :=
(cond ((decide (v3 < v2)))
((gd ((decide (0 ≤ v3)))
((gd ((decide (v3 < (v1.length : Int))))
((gd ((decide (0 ≤ (rd 0 v1 v3))))
(rec_ ((bits .or .i64 v0 (shlI .i64 1 (rd 0 v1 v3)))) v1 v2 ((w64 (v3 + 1))) v4 v5)))))))
(k0 v0 v4 v5))
def impl_IsTestSet_l0 {β : Type} (N : Nat)  : Nat → Int → List Int → Int → Int → Int → Int → (Int → Int → Int → Option β) → Option β
  | 0, _, _, _, _, _, _, _ => none
  | F + 1, v0, v1, v2, v3, v4, v5, k0 => impl_IsTestSet_l0b N  v0 v1 v2 v3 v4 v5 (fun v0 v1 v2 v3 v4 v5 => impl_IsTestSet_l0 N  F v0 v1 v2 v3 v4 v5 k0) k0
def impl_IsTestSet {β : Type} (N : Nat) (a0 : Int) (a1 : Int) (a2 : List Int) (k : Bool → Option β) : Option β :=
impl_IsTable N a0 a1 fun r3 =>
(cond (!r3)
(k false)
(slices_ContainsFunc_Sint_int N a2 (fun x0 k => impl_IsTestSet_1 N x0 a0 a1 k) fun r4 =>
(cond r4
(k false)
(impl_IsTestSet_l0 N  N 0 a2 ((a2.length : Int)) 0 a0 a1 (fun e5_0 e5_1 e5_2 =>
impl_Table_tests N e5_1 e5_2 e5_0 fun r6 =>
k r6)))))
/-! loop.example/g03403/laws.FnExactIsTestSet -/
def laws_FnExactIsTestSet {β : Type} (N : Nat) (a0 : Int) (a1 : Int) (a2 : List Int) (k : Bool → Option β) : Option β :=
(cond ((decide ((a2.length : Int) > 1048576)))
(k true)
(laws_toTable N a0 a1 fun r3 r4 =>
laws_toIntS N a2 fun r5 =>
spec_IsTestSet N r3 r4 r5 fun r6 =>
laws_toIntS N a2 fun r7 =>
laws_toTable N a0 a1 fun r8 r9 =>
impl_IsTestSet N r8 r9 r7 fun r10 =>
(cond ((!(r10 == r6)))
(k false)
(laws_toIntS N a2 fun r11 =>
laws_eqIntS N r7 r11 fun r12 =>
(cond (!r12)
(k false)
(k true))))))
/-! loop.example/g03403/laws.szClaim -/
def laws_szClaim {β : Type} (N : Nat) (a0 : Int) (a1 : Int) (a2 : Int) (a3 : Int) (a4 : Int) (a5 : ByteArray) (a6 : List Int) (a7 : Int) (k : Int → Option β) : Option β :=
(cond ((decide ((w64 (a7 - (a5.size : Int))) < 0)))
(k (-1))
(laws_szIntS N a6 ((w64 (a7 - (a5.size : Int)))) fun r8 =>
(cond ((decide (r8 < 0)))
(k (-1))
(k r8))))
/-! loop.example/g03403/laws.toClaim -/
def laws_toClaim {β : Type} (N : Nat) (a0 : Int) (a1 : Int) (a2 : Int) (a3 : Int) (a4 : Int) (a5 : ByteArray) (a6 : List Int) (k : Int → Int → Int → Int → Int → ByteArray → List Int → Option β) : Option β :=
laws_toTable N a1 a2 fun r7 r8 =>
laws_toIntS N a6 fun r9 =>
k a0 r7 r8 a3 a4 a5 r9
/-! loop.example/g03403/spec.EqualClaims -/
def spec_EqualClaims {β : Type} (N : Nat) (a0 : Int) (a1 : Int) (a2 : Int) (a3 : Int) (a4 : Int) (a5 : ByteArray) (a6 : List Int) (a7 : Int) (a8 : Int) (a9 : Int) (a10 : Int) (a11 : Int) (a12 : ByteArray) (a13 : List Int) (k : Bool → Option β) : Option β :=
(cond ((a0 == a7))
((cond (((a1 == a8) && (a2 == a9)))
((cond ((a3 == a10))
((cond ((a4 == a11))
((cond ((a5.toList == a12.toList))
(spec_l30Same N a6 a13 fun r14 =>
k r14)
(k false)))
(k false)))
(k false)))
(k false)))
(k false))
/-! loop.example/g03403/impl.EqualClaims -/
def impl_EqualClaims {β : Type} (N : Nat) (a0 : Int) (a1 : Int) (a2 : Int) (a3 : Int) (a4 : Int) (a5 : ByteArray) (a6 : List Int) (a7 : Int) (a8 : Int) (a9 : Int) (a10 : Int) (a11 : Int) (a12 : ByteArray) (a13 : List Int) (k : Bool → Option β) : Option β :=
(cond ((a0 == a7))
((cond (((a1 == a8) && (a2 == a9)))
((cond ((a3 == a10))
((cond ((a4 == a11))
((cond ((a5.toList == a12.toList))
(slices_Equal_Sint_int N a6 a13 fun r14 =>
k r14)
(k false)))
(k false)))
(k false)))
(k false)))
(k false))
/-! loop.example/g03403/laws.eqClaim -/
def laws_eqClaim {β : Type} (N : Nat) (a0 : Int) (a1 : Int) (a2 : Int) (a3 : Int) (a4 : Int) (a5 : ByteArray) (a6 : List Int) (a7 : Int) (a8 : Int) (a9 : Int) (a10 : Int) (a11 : Int) (a12 : ByteArray) (a13 : List Int) (k : Bool → Option β) : Option β :=
(cond ((a0 != a7))
(k false)
(laws_eqTable N a1 a2 a8 a9 fun r14 =>
(cond (!r14)
(k false)
((cond ((a3 != a10))
(k false)
((cond ((a4 != a11))
(k false)
((cond ((!(a5.toList == a12.toList)))
(k false)
(laws_eqIntS N a6 a13 fun r15 =>
(cond (!r15)
(k false)
(k true))))))))))))
/-! loop.example/g03403/laws.FnExactEqualClaims -/
def laws_FnExactEqualClaims {β : Type} (N : Nat) (a0 : Int) (a1 : Int) (a2 : Int) (a3 : Int) (a4 : Int) (a5 : ByteArray) (a6 : List Int) (a7 : Int) (a8 : Int) (a9 : Int) (a10 : Int) (a11 : Int) (a12 : ByteArray) (a13 : List Int) (k : Bool → Option β) : Option β :=
laws_szClaim N a0 a1 a2 a3 a4 a5 a6 1048576 fun r14 =>
(cond ((decide (r14 < 0)))
(k true)
(laws_szClaim N a7 a8 a9 a10 a11 a12 a13 r14 fun r15 =>
(cond ((decide (r15 < 0)))
(k true)
(laws_toClaim N a0 a1 a2 a3 a4 a5 a6 fun r16 r17 r18 r19 r20 r21 r22 =>
laws_toClaim N a7 a8 a9 a10 a11 a12 a13 fun r23 r24 r25 r26 r27 r28 r29 =>
spec_EqualClaims N r16 r17 r18 r19 r20 r21 r22 r23 r24 r25 r26 r27 r28 r29 fun r30 =>
laws_toClaim N a0 a1 a2 a3 a4 a5 a6 fun r31 r32 r33 r34 r35 r36 r37 =>
laws_toClaim N a7 a8 a9 a10 a11 a12 a13 fun r38 r39 r40 r41 r42 r43 r44 =>
impl_EqualClaims N r31 r32 r33 r34 r35 r36 r37 r38 r39 r40 r41 r42 r43 r44 fun r45 =>
(cond ((!(r45 == r30)))
(k false)
(laws_toClaim N a0 a1 a2 a3 a4 a5 a6 fun r46 r47 r48 r49 r50 r51 r52 =>
laws_eqClaim N r31 r32 r33 r34 r35 r36 r37 r46 r47 r48 r49 r50 r51 r52 fun r53 =>
(cond (!r53)
(k false)
(laws_toClaim N a7 a8 a9 a10 a11 a12 a13 fun r54 r55 r56 r57 r58 r59 r60 =>
laws_eqClaim N r38 r39 r40 r41 r42 r43 r44 r54 r55 r56 r57 r58 r59 r60 fun r61 =>
(cond (!r61)
(k false)
(k true))))))))))
end Go.Proofs.Ytpiipfkopncbeaa
