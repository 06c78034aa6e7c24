/- The texts of the functions that the claims reach: plain Lean, no program. -/
import Derived.Test.YtfdggelojmofmaaDoorRvLib
namespace Go.Proofs.YtfdggelojmofmaaDoor
open Go.Rv
set_option linter.unusedVariables false
set_option maxRecDepth 100000
/-! loop.example/g03403/laws.toTable -/
def laws_toTable {β : Type} (N : Nat) (a0 : Int) (a1 : Int) (k : Int → Int → Option β) : Option β :=
k a0 a1
/-! loop.example/g03403/spec.l1In -/
def spec_l1In {β : Type} (N : Nat) (a0 : Int) (a1 : Int) (a2 : Int) (k : Bool → Option β) : Option β :=
(cond ((decide (a0 ≥ a1)))
(k ((decide (a0 ≤ a2))))
(k false))
/-! loop.example/g03403/spec.IsTable -/
def spec_IsTable {β : Type} (N : Nat) (a0 : Int) (a1 : Int) (k : Bool → Option β) : Option β :=
spec_l1In N a0 0 5 fun r3 =>
(cond r3
((gd ((decide (0 ≤ a0)))
((gd ((decide (0 ≤ (shlI .u64 1 a0))))
(spec_l1In N a1 0 ((w64 ((shlI .i64 1 (shlI .u64 1 a0)) - 1))) fun r4 =>
k r4)))))
(k false))
/-! loop.example/g03403/spec.l3Cube -/
def spec_l3Cube_l0b {β : Type} (N : Nat)  (v0 : Int) (v1 : Int) (v2 : Int) (v3 : Int) (v4 : Int) (v5 : Int) (rec_ : Int → Int → Int → Int → Int → Int → Option β) (k0 : Int → Option β) (k1 : Int → Option β) : Option β :=
(gd ((decide (0 ≤ v4)))
((cond ((decide (v3 < (shlI .i64 1 v4))))
((cond (((bits .and .i64 v3 v0) != v1))
(rec_ v0 v1 v2 ((w64 (v3 + 1))) v4 v5)
((gd ((decide (0 ≤ v3)))
((cond ((decide (v2 ≥ 0)))
((cond ((v2 != (bits .and .i64 (shrI .i64 v5 v3) 1)))
(k0 2)
(rec_ v0 v1 ((bits .and .i64 (shrI .i64 v5 v3) 1)) ((w64 (v3 + 1))) v4 v5)))
(rec_ v0 v1 ((bits .and .i64 (shrI .i64 v5 v3) 1)) ((w64 (v3 + 1))) v4 v5)))))))
(k1 v2))))
def spec_l3Cube_l0 {β : Type} (N : Nat)  : Nat → Int → Int → Int → Int → Int → Int → (Int → Option β) → (Int → Option β) → Option β
  | 0, _, _, _, _, _, _, _, _ => none
  | F + 1, v0, v1, v2, v3, v4, v5, k0, k1 => spec_l3Cube_l0b N  v0 v1 v2 v3 v4 v5 (fun v0 v1 v2 v3 v4 v5 => spec_l3Cube_l0 N  F v0 v1 v2 v3 v4 v5 k0 k1) k0 k1
def spec_l3Cube {β : Type} (N : Nat) (a0 : Int) (a1 : Int) (a2 : Int) (a3 : Int) (k : Int → Option β) : Option β :=
spec_l3Cube_l0 N  N a2 a3 (-1) 0 a0 a1 (fun e5_0 =>
k e5_0) (fun e6_0 =>
k e6_0)
/-! loop.example/g03403/spec.l7Least -/
def spec_l7Least_l0b {β : Type} (N : Nat) (self : Int → Int → Int → Int → (Int → Option β) → Option β)  (v0 : Int) (v1 : Int) (v2 : Int) (v3 : Int) (v4 : Int) (v5 : Int) (rec_ : Int → Int → Int → Int → Int → Int → Option β) (k0 : Int → Option β) : Option β :=
(cond ((decide (v3 < v4)))
((gd ((decide (0 ≤ v3)))
((cond (((bits .and .i64 v0 (shlI .i64 1 v3)) == 0))
(self v4 v5 ((bits .or .i64 v0 (shlI .i64 1 v3))) v1 fun r6 =>
self v4 v5 ((bits .or .i64 v0 (shlI .i64 1 v3))) ((bits .or .i64 v1 (shlI .i64 1 v3))) fun r7 =>
rec_ v0 v1 ((mnI v2 (w64 (1 + (mxI r6 r7))))) ((w64 (v3 + 1))) v4 v5)
(rec_ v0 v1 v2 ((w64 (v3 + 1))) v4 v5)))))
(k0 v2))
def spec_l7Least_l0 {β : Type} (N : Nat) (self : Int → Int → Int → Int → (Int → Option β) → Option β)  : Nat → Int → Int → Int → Int → Int → Int → (Int → Option β) → Option β
  | 0, _, _, _, _, _, _, _ => none
  | F + 1, v0, v1, v2, v3, v4, v5, k0 => spec_l7Least_l0b N self  v0 v1 v2 v3 v4 v5 (fun v0 v1 v2 v3 v4 v5 => spec_l7Least_l0 N self  F v0 v1 v2 v3 v4 v5 k0) k0
def spec_l7Least_b {β : Type} (N : Nat) (self : Int → Int → Int → Int → (Int → Option β) → Option β) (a0 : Int) (a1 : Int) (a2 : Int) (a3 : Int) (k : Int → Option β) : Option β :=
spec_l3Cube N a0 a1 a2 a3 fun r5 =>
(cond ((decide (r5 < 2)))
(k 0)
(spec_l7Least_l0 N self  N a2 a3 10 0 a0 a1 (fun e8_0 =>
k e8_0)))
def spec_l7Least_f {β : Type} (N : Nat) : Nat → Int → Int → Int → Int → (Int → Option β) → Option β
  | 0, _, _, _, _, _ => none
  | F + 1, a0, a1, a2, a3, k => spec_l7Least_b N (spec_l7Least_f N F) a0 a1 a2 a3 k
def spec_l7Least {β : Type} (N : Nat) (a0 : Int) (a1 : Int) (a2 : Int) (a3 : Int) (k : Int → Option β) : Option β := spec_l7Least_f N N a0 a1 a2 a3 k
/-! loop.example/g03403/spec.l7Best -/
def spec_l7Best_l0b {β : Type} (N : Nat) (self : Int → Int → Int → Int → (ByteArray → Option β) → Option β)  (v0 : Int) (v1 : Int) (v2 : Int) (v3 : Int) (v4 : Int) (v5 : Int) (rec_ : Int → Int → Int → Int → Int → Int → Option β) (k0 : ByteArray → Option β) (k1 : Option β) : Option β :=
(cond ((decide (v3 < v4)))
((gd ((decide (0 ≤ v3)))
((cond (((bits .and .i64 v0 (shlI .i64 1 v3)) == 0))
(spec_l7Least N v4 v5 ((bits .or .i64 v0 (shlI .i64 1 v3))) v1 fun r7 =>
spec_l7Least N v4 v5 ((bits .or .i64 v0 (shlI .i64 1 v3))) ((bits .or .i64 v1 (shlI .i64 1 v3))) fun r8 =>
(cond (((w64 (1 + (mxI r7 r8))) == v2))
((gd ((decide (0 ≤ (w64 (v3 + 1)))))
((gd ((decide ((w64 (v3 + 1)) ≤ (((strOf [97, 98, 99, 100, 101])).size : Int))))
((gd ((decide (0 ≤ v3)))
((gd ((decide (v3 ≤ (w64 (v3 + 1)))))
(self v4 v5 ((bits .or .i64 v0 (shlI .i64 1 v3))) v1 fun r9 =>
(gd ((decide (((((strOf [97, 98, 99, 100, 101])).extract (Int.toNat v3) (Int.toNat (w64 (v3 + 1))))).size + r9.size ≤ 9223372036854775807)))
(self v4 v5 ((bits .or .i64 v0 (shlI .i64 1 v3))) ((bits .or .i64 v1 (shlI .i64 1 v3))) fun r10 =>
(gd ((decide ((((((strOf [97, 98, 99, 100, 101])).extract (Int.toNat v3) (Int.toNat (w64 (v3 + 1)))) ++ r9)).size + r10.size ≤ 9223372036854775807)))
(k0 ((((((strOf [97, 98, 99, 100, 101])).extract (Int.toNat v3) (Int.toNat (w64 (v3 + 1)))) ++ r9) ++ r10)))))))))))))))
(rec_ v0 v1 v2 ((w64 (v3 + 1))) v4 v5)))
(rec_ v0 v1 v2 ((w64 (v3 + 1))) v4 v5)))))
(k1 ))
def spec_l7Best_l0 {β : Type} (N : Nat) (self : Int → Int → Int → Int → (ByteArray → Option β) → Option β)  : Nat → Int → Int → Int → Int → Int → Int → (ByteArray → Option β) → (Option β) → Option β
  | 0, _, _, _, _, _, _, _, _ => none
  | F + 1, v0, v1, v2, v3, v4, v5, k0, k1 => spec_l7Best_l0b N self  v0 v1 v2 v3 v4 v5 (fun v0 v1 v2 v3 v4 v5 => spec_l7Best_l0 N self  F v0 v1 v2 v3 v4 v5 k0 k1) k0 k1
def spec_l7Best_b {β : Type} (N : Nat) (self : Int → Int → Int → Int → (ByteArray → Option β) → Option β) (a0 : Int) (a1 : Int) (a2 : Int) (a3 : Int) (k : ByteArray → Option β) : Option β :=
spec_l3Cube N a0 a1 a2 a3 fun r5 =>
(cond ((decide (r5 < 2)))
((gd ((decide (0 ≤ (w64 (r5 + 1)))))
((gd ((decide ((w64 (r5 + 1)) ≤ (((strOf [48, 49])).size : Int))))
((gd ((decide (0 ≤ r5)))
((gd ((decide (r5 ≤ (w64 (r5 + 1)))))
(k ((((strOf [48, 49])).extract (Int.toNat r5) (Int.toNat (w64 (r5 + 1))))))))))))))
(spec_l7Least N a0 a1 a2 a3 fun r6 =>
spec_l7Best_l0 N self  N a2 a3 r6 0 a0 a1 (fun e11_0 =>
k e11_0) (k ByteArray.empty)))
def spec_l7Best_f {β : Type} (N : Nat) : Nat → Int → Int → Int → Int → (ByteArray → Option β) → Option β
  | 0, _, _, _, _, _ => none
  | F + 1, a0, a1, a2, a3, k => spec_l7Best_b N (spec_l7Best_f N F) a0 a1 a2 a3 k
def spec_l7Best {β : Type} (N : Nat) (a0 : Int) (a1 : Int) (a2 : Int) (a3 : Int) (k : ByteArray → Option β) : Option β := spec_l7Best_f N N a0 a1 a2 a3 k
/-! loop.example/g03403/spec.BestTree -/
def spec_BestTree {β : Type} (N : Nat) (a0 : Int) (a1 : Int) (k : ByteArray → Bool → Option β) : Option β :=
spec_IsTable N a0 a1 fun r4 =>
(cond (!r4)
(k ByteArray.empty false)
((cond ((decide (a0 > 4)))
(k ByteArray.empty false)
(spec_l7Best N a0 a1 0 0 fun r5 =>
k r5 true))))
/-! loop.example/g03403/spec.l7End -/
def spec_l7End_b {β : Type} (N : Nat) (self : ByteArray → Int → Int → (Int → Option β) → Option β) (a0 : ByteArray) (a1 : Int) (a2 : Int) (k : Int → Option β) : Option β :=
(cond ((decide (a1 ≥ (a0.size : Int))))
(k (-1))
((gd ((decide (0 ≤ a1)))
((gd ((decide (a1 < (a0.size : Int))))
((cond (((bt a0 a1) == 48))
(k ((w64 (a1 + 1))))
((gd ((decide (0 ≤ a1)))
((gd ((decide (a1 < (a0.size : Int))))
((cond (((bt a0 a1) == 49))
(k ((w64 (a1 + 1))))
((gd ((decide (0 ≤ a1)))
((gd ((decide (a1 < (a0.size : Int))))
(spec_l1In N ((w64 ((w64 ((bt a0 a1))) - 97))) 0 4 fun r4 =>
(cond (!r4)
(k (-1))
((gd ((decide (0 ≤ (w64 ((w64 ((bt a0 a1))) - 97)))))
((cond (((bits .and .i64 (shrI .i64 a2 (w64 ((w64 ((bt a0 a1))) - 97))) 1) == 1))
(k (-1))
((gd ((decide (0 ≤ (w64 ((w64 ((bt a0 a1))) - 97)))))
(self a0 ((w64 (a1 + 1))) ((bits .or .i64 a2 (shlI .i64 1 (w64 ((w64 ((bt a0 a1))) - 97))))) fun r5 =>
(cond ((decide (r5 < 0)))
(k (-1))
((gd ((decide (0 ≤ (w64 ((w64 ((bt a0 a1))) - 97)))))
(self a0 r5 ((bits .or .i64 a2 (shlI .i64 1 (w64 ((w64 ((bt a0 a1))) - 97))))) fun r6 =>
k r6))))))))))))))))))))))))))))))
def spec_l7End_f {β : Type} (N : Nat) : Nat → ByteArray → Int → Int → (Int → Option β) → Option β
  | 0, _, _, _, _ => none
  | F + 1, a0, a1, a2, k => spec_l7End_b N (spec_l7End_f N F) a0 a1 a2 k
def spec_l7End {β : Type} (N : Nat) (a0 : ByteArray) (a1 : Int) (a2 : Int) (k : Int → Option β) : Option β := spec_l7End_f N N a0 a1 a2 k
/-! loop.example/g03403/spec.IsTree -/
def spec_IsTree {β : Type} (N : Nat) (a0 : ByteArray) (k : Bool → Option β) : Option β :=
(cond ((decide ((a0.size : Int) ≤ 63)))
((cond ((decide ((a0.size : Int) > 0)))
(spec_l7End N a0 0 0 fun r2 =>
k ((r2 == (a0.size : Int))))
(k false)))
(k false))
/-! loop.example/g03403/spec.l7Skip -/
def spec_l7Skip_b {β : Type} (N : Nat) (self : ByteArray → Int → (Int → Option β) → Option β) (a0 : ByteArray) (a1 : Int) (k : Int → Option β) : Option β :=
(gd ((decide (0 ≤ a1)))
((gd ((decide (a1 < (a0.size : Int))))
((cond (((bt a0 a1) == 48))
(k ((w64 (a1 + 1))))
((gd ((decide (0 ≤ a1)))
((gd ((decide (a1 < (a0.size : Int))))
((cond (((bt a0 a1) == 49))
(k ((w64 (a1 + 1))))
(self a0 ((w64 (a1 + 1))) fun r3 =>
self a0 r3 fun r4 =>
k r4))))))))))))
def spec_l7Skip_f {β : Type} (N : Nat) : Nat → ByteArray → Int → (Int → Option β) → Option β
  | 0, _, _, _ => none
  | F + 1, a0, a1, k => spec_l7Skip_b N (spec_l7Skip_f N F) a0 a1 k
def spec_l7Skip {β : Type} (N : Nat) (a0 : ByteArray) (a1 : Int) (k : Int → Option β) : Option β := spec_l7Skip_f N N a0 a1 k
/-! loop.example/g03403/spec.l7Run -/
def spec_l7Run_l0b {β : Type} (N : Nat)  (v0 : ByteArray) (v1 : Int) (v2 : Int) (v3 : Int) (rec_ : ByteArray → Int → Int → Int → Option β) (k0 : ByteArray → Int → Int → Option β) : Option β :=
(gd ((decide (0 ≤ v2)))
((gd ((decide (v2 < (v0.size : Int))))
((cond (((bt v0 v2) != 48))
((gd ((decide (0 ≤ v2)))
((gd ((decide (v2 < (v0.size : Int))))
((cond (((bt v0 v2) != 49))
((gd ((decide (0 ≤ v2)))
((gd ((decide (v2 < (v0.size : Int))))
((gd ((decide (0 ≤ (w8 ((bt v0 v2) - 97)))))
((cond (((bits .and .i64 (shrI .i64 v1 (w8 ((bt v0 v2) - 97))) 1) == 1))
(spec_l7Skip N v0 ((w64 (v2 + 1))) fun r4 =>
rec_ v0 v1 r4 ((w64 (v3 + 1))))
(rec_ v0 v1 ((w64 (v2 + 1))) ((w64 (v3 + 1))))))))))))
(k0 v0 v2 v3)))))))
(k0 v0 v2 v3))))))
def spec_l7Run_l0 {β : Type} (N : Nat)  : Nat → ByteArray → Int → Int → Int → (ByteArray → Int → Int → Option β) → Option β
  | 0, _, _, _, _, _ => none
  | F + 1, v0, v1, v2, v3, k0 => spec_l7Run_l0b N  v0 v1 v2 v3 (fun v0 v1 v2 v3 => spec_l7Run_l0 N  F v0 v1 v2 v3 k0) k0
def spec_l7Run {β : Type} (N : Nat) (a0 : ByteArray) (a1 : Int) (k : Int → Int → Option β) : Option β :=
spec_l7Run_l0 N  N a0 a1 0 0 (fun e5_0 e5_1 e5_2 =>
(gd ((decide (0 ≤ e5_1)))
((gd ((decide (e5_1 < (e5_0.size : Int))))
(k ((w64 ((w8 ((bt e5_0 e5_1) - 48))))) e5_2)))))
/-! loop.example/g03403/spec.QueriesOf -/
def spec_QueriesOf {β : Type} (N : Nat) (a0 : ByteArray) (a1 : Int) (k : Int → Option β) : Option β :=
spec_IsTree N a0 fun r3 =>
(cond (!r3)
(k (-1))
(spec_l1In N a1 0 31 fun r4 =>
(cond (!r4)
(k (-1))
(spec_l7Run N a0 a1 fun r5 r6 =>
k r6))))
/-! loop.example/g03403/spec.DepthOfTree -/
def spec_DepthOfTree_l0b {β : Type} (N : Nat)  (v0 : ByteArray) (v1 : Int) (v2 : Int) (rec_ : ByteArray → Int → Int → Option β) (k0 : Int → Option β) : Option β :=
(cond ((decide (v2 < 32)))
(spec_QueriesOf N v0 v2 fun r3 =>
rec_ v0 ((mxI v1 r3)) ((w64 (v2 + 1))))
(k0 v1))
def spec_DepthOfTree_l0 {β : Type} (N : Nat)  : Nat → ByteArray → Int → Int → (Int → Option β) → Option β
  | 0, _, _, _, _ => none
  | F + 1, v0, v1, v2, k0 => spec_DepthOfTree_l0b N  v0 v1 v2 (fun v0 v1 v2 => spec_DepthOfTree_l0 N  F v0 v1 v2 k0) k0
def spec_DepthOfTree {β : Type} (N : Nat) (a0 : ByteArray) (k : Int → Option β) : Option β :=
spec_IsTree N a0 fun r2 =>
(cond (!r2)
(k (-1))
(spec_DepthOfTree_l0 N  N a0 0 0 (fun e4_0 =>
k e4_0)))
/-! loop.example/g03403/spec.ClaimOfDepth -/
def spec_ClaimOfDepth {β : Type} (N : Nat) (a0 : Int) (a1 : Int) (k : Int → Int → Int → Int → Int → ByteArray → List Int → Bool → Option β) : Option β :=
spec_BestTree N a0 a1 fun r10 r11 =>
(cond (!r11)
(k 0 0 0 0 0 ByteArray.empty (([] : List Int)) false)
(spec_DepthOfTree N r10 fun r12 =>
k 1 a0 a1 r12 0 r10 (([] : List Int)) true))
/-! loop.example/g03403/impl.isBits -/
def impl_isBits {β : Type} (N : Nat) (a0 : Int) (k : Bool → Option β) : Option β :=
(cond ((decide (a0 ≥ 0)))
(k ((decide (a0 ≤ 5))))
(k false))
/-! (loop.example/g03403/impl.Table).size -/
def impl_Table_size {β : Type} (N : Nat) (a0 : Int) (a1 : Int) (k : Int → Option β) : Option β :=
(gd ((decide (0 ≤ a0)))
(k ((shlI .i64 1 a0))))
/-! loop.example/g03403/impl.IsTable -/
def impl_IsTable {β : Type} (N : Nat) (a0 : Int) (a1 : Int) (k : Bool → Option β) : Option β :=
impl_isBits N a0 fun r3 =>
(cond r3
((cond ((decide (a1 ≥ 0)))
(impl_Table_size N a0 a1 fun r4 =>
(gd ((decide (0 ≤ r4)))
(k (((shrI .i64 a1 r4) == 0)))))
(k false)))
(k false))
/-! loop.example/g03403/impl.isSmall -/
def impl_isSmall {β : Type} (N : Nat) (a0 : Int) (a1 : Int) (a2 : Int) (k : Bool → Option β) : Option β :=
impl_IsTable N a0 a1 fun r4 =>
(cond r4
(k ((decide (a0 ≤ a2))))
(k false))
/-! (loop.example/g03403/impl.Table).asking -/
def impl_Table_asking_g0 {β : Type} (N : Nat) (a0 : Int) (a1 : Int) (k0 : Int → Int → Mp → Mp → Option β) : Option β :=
k0 a0 a1 (([] : Mp)) (([] : Mp))
/-! (loop.example/g03403/impl.Table).at -/
def impl_Table_at {β : Type} (N : Nat) (a0 : Int) (a1 : Int) (a2 : Int) (k : Int → Option β) : Option β :=
(gd ((decide (0 ≤ a2)))
(k ((bits .and .i64 (shrI .i64 a1 a2) 1))))
/-! (loop.example/g03403/impl.Table).cube -/
def impl_Table_cube_l0b {β : Type} (N : Nat)  (v0 : Int) (v1 : Int) (v2 : Int) (v3 : Int) (v4 : Int) (v5 : Int) (v6 : Bool) (v7 : Bool) (rec_ : Int → Int → Int → Int → Int → Int → Bool → Bool → Option β) (k0 : Bool → Bool → Option β) : Option β :=
(cond ((decide (v3 < v2)))
((cond (((bits .and .i64 v3 v0) == v1))
(impl_Table_at N v4 v5 v3 fun r6 =>
(gd ((decide (0 ≤ r6)))
((gd ((decide (r6 < 2)))
((cond ((r6 == 0))
(rec_ v0 v1 v2 ((w64 (v3 + 1))) v4 v5 true v7)
(rec_ v0 v1 v2 ((w64 (v3 + 1))) v4 v5 v6 true)))))))
(rec_ v0 v1 v2 ((w64 (v3 + 1))) v4 v5 v6 v7)))
(k0 v6 v7))
def impl_Table_cube_l0 {β : Type} (N : Nat)  : Nat → Int → Int → Int → Int → Int → Int → Bool → Bool → (Bool → Bool → Option β) → Option β
  | 0, _, _, _, _, _, _, _, _, _ => none
  | F + 1, v0, v1, v2, v3, v4, v5, v6, v7, k0 => impl_Table_cube_l0b N  v0 v1 v2 v3 v4 v5 v6 v7 (fun v0 v1 v2 v3 v4 v5 v6 v7 => impl_Table_cube_l0 N  F v0 v1 v2 v3 v4 v5 v6 v7 k0) k0
def impl_Table_cube {β : Type} (N : Nat) (a0 : Int) (a1 : Int) (a2 : Int) (a3 : Int) (k : Int → Option β) : Option β :=
impl_Table_size N a0 a1 fun r5 =>
impl_Table_cube_l0 N  N a2 a3 r5 0 a0 a1 false false (fun e7_0 e7_1 =>
(cond e7_0
((cond e7_1
(k 2)
((cond e7_1
(k 1)
(k 0)))))
((cond e7_1
(k 1)
(k 0)))))
/-! loop.example/g03403/impl.FormatInt -/
def impl_FormatInt {β : Type} (N : Nat) (a0 : Int) (k : ByteArray → Option β) : Option β :=
strconv_Itoa N a0 fun r2 =>
k r2
/-! (loop.example/g03403/impl.known).with -/
def impl_known_with {β : Type} (N : Nat) (a0 : Int) (a1 : Int) (a2 : Int) (a3 : Int) (k : Int → Int → Option β) : Option β :=
(gd ((decide (0 ≤ a2)))
((gd ((decide (0 ≤ a2)))
(k ((bits .or .i64 a0 (shlI .i64 1 a2))) ((bits .or .i64 a1 (shlI .i64 a3 a2)))))))
/-! (*loop.example/g03403/impl.asker).left -/
def impl_asker_left_l0b {β : Type} (N : Nat) (self : Int → Int → Int → Int → Mp → Mp → (Int → Int → Int → Mp → Mp → Option β) → Option β)  (v0 : Int) (v1 : Int) (v2 : Int) (v3 : Int) (v4 : Int) (v5 : Mp) (v6 : Mp) (v7 : Int) (v8 : Int) (rec_ : Int → Int → Int → Int → Int → Mp → Mp → Int → Int → Option β) (k0 : Int → Int → Int → Mp → Mp → Int → Int → Option β) : Option β :=
(cond ((decide (v2 < v1)))
((gd ((decide (0 ≤ v2)))
((cond (((bits .and .i64 (shrI .i64 v7 v2) 1) == 0))
(impl_known_with N v7 v8 v2 0 fun r7 r8 =>
self r7 r8 v3 v4 v5 v6 (fun r9_0 r9_1 r9_2 r9_3 r9_4 =>
impl_known_with N v7 v8 v2 1 fun r10 r11 =>
self r10 r11 r9_1 r9_2 r9_3 r9_4 (fun r12_0 r12_1 r12_2 r12_3 r12_4 =>
rec_ ((mnI v0 (w64 (1 + (mxI r9_0 r12_0))))) v1 ((w64 (v2 + 1))) r12_1 r12_2 r12_3 r12_4 v7 v8)))
(rec_ v0 v1 ((w64 (v2 + 1))) v3 v4 v5 v6 v7 v8)))))
(k0 v0 v3 v4 v5 v6 v7 v8))
def impl_asker_left_l0 {β : Type} (N : Nat) (self : Int → Int → Int → Int → Mp → Mp → (Int → Int → Int → Mp → Mp → Option β) → Option β)  : Nat → Int → Int → Int → Int → Int → Mp → Mp → Int → Int → (Int → Int → Int → Mp → Mp → Int → Int → Option β) → Option β
  | 0, _, _, _, _, _, _, _, _, _, _ => none
  | F + 1, v0, v1, v2, v3, v4, v5, v6, v7, v8, k0 => impl_asker_left_l0b N self  v0 v1 v2 v3 v4 v5 v6 v7 v8 (fun v0 v1 v2 v3 v4 v5 v6 v7 v8 => impl_asker_left_l0 N self  F v0 v1 v2 v3 v4 v5 v6 v7 v8 k0) k0
def impl_asker_left_g0_b {β : Type} (N : Nat) (self : Int → Int → Int → Int → Mp → Mp → (Int → Int → Int → Mp → Mp → Option β) → Option β) (a0 : Int) (a1 : Int) (a2 : Int) (a3 : Int) (a4 : Mp) (a5 : Mp) (k0 : Int → Int → Int → Mp → Mp → Option β) : Option β :=
(cond ((hasM ⟨true, false⟩ a4 a0 a1))
(k0 ((getM ⟨true, false⟩ a4 a0 a1)) a2 a3 a4 a5)
(impl_Table_cube N a2 a3 a0 a1 fun r6 =>
(cond ((r6 == 2))
(impl_asker_left_l0 N self  N a2 a2 0 a2 a3 a4 a5 a0 a1 (fun e13_0 e13_1 e13_2 e13_3 e13_4 e13_5 e13_6 =>
k0 e13_0 e13_1 e13_2 ((putM ⟨true, false⟩ e13_3 e13_5 e13_6 e13_0)) e13_4))
(k0 0 a2 a3 ((putM ⟨true, false⟩ a4 a0 a1 0)) a5))))
def impl_asker_left_g0_f {β : Type} (N : Nat) : Nat → Int → Int → Int → Int → Mp → Mp → (Int → Int → Int → Mp → Mp → Option β) → Option β
  | 0, _, _, _, _, _, _, _ => none
  | F + 1, a0, a1, a2, a3, a4, a5, k0 => impl_asker_left_g0_b N (impl_asker_left_g0_f N F) a0 a1 a2 a3 a4 a5 k0
def impl_asker_left_g0 {β : Type} (N : Nat) (a0 : Int) (a1 : Int) (a2 : Int) (a3 : Int) (a4 : Mp) (a5 : Mp) (k0 : Int → Int → Int → Mp → Mp → Option β) : Option β := impl_asker_left_g0_f N N a0 a1 a2 a3 a4 a5 k0
/-! (*loop.example/g03403/impl.asker).first -/
def impl_asker_first_l0b {β : Type} (N : Nat)  (v0 : Int) (v1 : Int) (v2 : Int) (v3 : Int) (v4 : Int) (v5 : Mp) (v6 : Mp) (v7 : Int) (v8 : Int) (rec_ : Int → Int → Int → Int → Int → Mp → Mp → Int → Int → Option β) (k0 : Int → Int → Int → Mp → Mp → Option β) (k1 : Int → Int → Mp → Mp → Option β) : Option β :=
(cond ((decide (v2 < v1)))
((cond ((decide (v0 > 0)))
((gd ((decide (0 ≤ v2)))
((cond (((bits .and .i64 (shrI .i64 v7 v2) 1) == 0))
(impl_known_with N v7 v8 v2 0 fun r15 r16 =>
impl_asker_left_g0 N r15 r16 v3 v4 v5 v6 (fun r17_0 r17_1 r17_2 r17_3 r17_4 =>
(cond ((decide (r17_0 < v0)))
(impl_known_with N v7 v8 v2 1 fun r18 r19 =>
impl_asker_left_g0 N r18 r19 r17_1 r17_2 r17_3 r17_4 (fun r20_0 r20_1 r20_2 r20_3 r20_4 =>
(cond ((decide (r20_0 < v0)))
(k0 v2 r20_1 r20_2 r20_3 r20_4)
(rec_ v0 v1 ((w64 (v2 + 1))) r20_1 r20_2 r20_3 r20_4 v7 v8))))
(rec_ v0 v1 ((w64 (v2 + 1))) r17_1 r17_2 r17_3 r17_4 v7 v8))))
(rec_ v0 v1 ((w64 (v2 + 1))) v3 v4 v5 v6 v7 v8)))))
(rec_ v0 v1 ((w64 (v2 + 1))) v3 v4 v5 v6 v7 v8)))
(k1 v3 v4 v5 v6))
def impl_asker_first_l0 {β : Type} (N : Nat)  : Nat → Int → Int → Int → Int → Int → Mp → Mp → Int → Int → (Int → Int → Int → Mp → Mp → Option β) → (Int → Int → Mp → Mp → Option β) → Option β
  | 0, _, _, _, _, _, _, _, _, _, _, _ => none
  | F + 1, v0, v1, v2, v3, v4, v5, v6, v7, v8, k0, k1 => impl_asker_first_l0b N  v0 v1 v2 v3 v4 v5 v6 v7 v8 (fun v0 v1 v2 v3 v4 v5 v6 v7 v8 => impl_asker_first_l0 N  F v0 v1 v2 v3 v4 v5 v6 v7 v8 k0 k1) k0 k1
def impl_asker_first_g0 {β : Type} (N : Nat) (a0 : Int) (a1 : Int) (a2 : Int) (a3 : Int) (a4 : Mp) (a5 : Mp) (k0 : Int → Int → Int → Mp → Mp → Option β) : Option β :=
impl_asker_left_g0 N a0 a1 a2 a3 a4 a5 (fun r14_0 r14_1 r14_2 r14_3 r14_4 =>
impl_asker_first_l0 N  N r14_0 r14_1 0 r14_1 r14_2 r14_3 r14_4 a0 a1 (fun e21_0 e21_1 e21_2 e21_3 e21_4 =>
k0 e21_0 e21_1 e21_2 e21_3 e21_4) (fun e22_0 e22_1 e22_2 e22_3 =>
k0 (-1) e22_0 e22_1 e22_2 e22_3))
/-! (*loop.example/g03403/impl.asker).best -/
def impl_asker_best_t4 {β : Type} (s0 : ByteArray) (s1 : Int) (s2 : Int) (s3 : Mp) (s4 : Mp) (u0 : ByteArray) (u1 : Int) (u2 : Int) (u3 : Mp) (u4 : Mp) (K : Option β) : Option β :=
(gd (decide (s0 = u0)) (gd (s1 == u1) (gd (s2 == u2) (gd (s3 == u3) (gd (s4 == u4) K)))))
def impl_asker_best_g0_b {β : Type} (N : Nat) (self : Int → Int → Int → Int → Mp → Mp → (ByteArray → Int → Int → Mp → Mp → Option β) → Option β) (a0 : Int) (a1 : Int) (a2 : Int) (a3 : Int) (a4 : Mp) (a5 : Mp) (k0 : ByteArray → Int → Int → Mp → Mp → Option β) : Option β :=
impl_asker_first_g0 N a0 a1 a2 a3 a4 a5 (fun r6_0 r6_1 r6_2 r6_3 r6_4 =>
(cond ((decide (r6_0 < 0)))
(impl_Table_cube N r6_1 r6_2 a0 a1 fun r7 =>
impl_FormatInt N r7 fun r8 =>
k0 r8 r6_1 r6_2 r6_3 r6_4)
(impl_known_with N a0 a1 r6_0 0 fun r9 r10 =>
self r9 r10 r6_1 r6_2 r6_3 r6_4 (fun r11_0 r11_1 r11_2 r11_3 r11_4 =>
(gd ((decide (((strOf ((([] : List Int) ++ [(w8 (97 + (w8 (r6_0))))])))).size + r11_0.size ≤ 9223372036854775807)))
(impl_known_with N a0 a1 r6_0 1 fun r12 r13 =>
self r12 r13 r11_1 r11_2 r11_3 r11_4 (fun r14_0 r14_1 r14_2 r14_3 r14_4 =>
(gd ((decide ((((strOf ((([] : List Int) ++ [(w8 (97 + (w8 (r6_0))))]))) ++ r11_0)).size + r14_0.size ≤ 9223372036854775807)))
(impl_known_with N a0 a1 r6_0 0 fun r15 r16 =>
self r15 r16 r6_1 r6_2 r6_3 r6_4 (fun r17_0 r17_1 r17_2 r17_3 r17_4 =>
(gd ((decide (((strOf ((([] : List Int) ++ [(w8 (97 + (w8 (r6_0))))])))).size + r17_0.size ≤ 9223372036854775807)))
(impl_known_with N a0 a1 r6_0 1 fun r18 r19 =>
self r18 r19 r17_1 r17_2 r17_3 r17_4 (fun r20_0 r20_1 r20_2 r20_3 r20_4 =>
(gd ((decide ((((strOf ((([] : List Int) ++ [(w8 (97 + (w8 (r6_0))))]))) ++ r17_0)).size + r20_0.size ≤ 9223372036854775807)))
(self r15 r16 r6_1 r6_2 r6_3 r6_4 (fun r21_0 r21_1 r21_2 r21_3 r21_4 =>
(gd ((decide (((strOf ((([] : List Int) ++ [(w8 (97 + (w8 (r6_0))))])))).size + r21_0.size ≤ 9223372036854775807)))
(impl_known_with N a0 a1 r6_0 1 fun r22 r23 =>
self r22 r23 r21_1 r21_2 r21_3 r21_4 (fun r24_0 r24_1 r24_2 r24_3 r24_4 =>
(gd ((decide ((((strOf ((([] : List Int) ++ [(w8 (97 + (w8 (r6_0))))]))) ++ r21_0)).size + r24_0.size ≤ 9223372036854775807)))
(impl_known_with N a0 a1 r6_0 1 fun r25 r26 =>
(gd ((decide (((strOf ((([] : List Int) ++ [(w8 (97 + (w8 (r6_0))))])))).size + r21_0.size ≤ 9223372036854775807)))
(self r25 r26 r21_1 r21_2 r21_3 r21_4 (fun r27_0 r27_1 r27_2 r27_3 r27_4 =>
(gd ((decide ((((strOf ((([] : List Int) ++ [(w8 (97 + (w8 (r6_0))))]))) ++ r21_0)).size + r27_0.size ≤ 9223372036854775807)))
(self r25 r26 r21_1 r21_2 r21_3 r21_4 (fun r28_0 r28_1 r28_2 r28_3 r28_4 =>
(gd ((decide (((strOf ((([] : List Int) ++ [(w8 (97 + (w8 (r6_0))))])))).size + r21_0.size ≤ 9223372036854775807)))
((gd ((decide ((((strOf ((([] : List Int) ++ [(w8 (97 + (w8 (r6_0))))]))) ++ r21_0)).size + r28_0.size ≤ 9223372036854775807)))
((impl_asker_best_t4 ((((strOf ((([] : List Int) ++ [(w8 (97 + (w8 (r6_0))))]))) ++ r21_0) ++ r27_0)) r27_1 r27_2 r27_3 r27_4 ((((strOf ((([] : List Int) ++ [(w8 (97 + (w8 (r6_0))))]))) ++ r21_0) ++ r28_0)) r28_1 r28_2 r28_3 r28_4
((impl_asker_best_t4 ((((strOf ((([] : List Int) ++ [(w8 (97 + (w8 (r6_0))))]))) ++ r21_0) ++ r24_0)) r24_1 r24_2 r24_3 r24_4 ((((strOf ((([] : List Int) ++ [(w8 (97 + (w8 (r6_0))))]))) ++ r21_0) ++ r27_0)) r27_1 r27_2 r27_3 r27_4
((impl_asker_best_t4 ((((strOf ((([] : List Int) ++ [(w8 (97 + (w8 (r6_0))))]))) ++ r17_0) ++ r20_0)) r20_1 r20_2 r20_3 r20_4 ((((strOf ((([] : List Int) ++ [(w8 (97 + (w8 (r6_0))))]))) ++ r21_0) ++ r24_0)) r24_1 r24_2 r24_3 r24_4
((impl_asker_best_t4 ((((strOf ((([] : List Int) ++ [(w8 (97 + (w8 (r6_0))))]))) ++ r11_0) ++ r14_0)) r14_1 r14_2 r14_3 r14_4 ((((strOf ((([] : List Int) ++ [(w8 (97 + (w8 (r6_0))))]))) ++ r17_0) ++ r20_0)) r20_1 r20_2 r20_3 r20_4
(k0 ((((strOf ((([] : List Int) ++ [(w8 (97 + (w8 (r6_0))))]))) ++ r11_0) ++ r14_0)) r14_1 r14_2 r14_3 r14_4)))))))))))))))))))))))))))))))))))))))
def impl_asker_best_g0_f {β : Type} (N : Nat) : Nat → Int → Int → Int → Int → Mp → Mp → (ByteArray → Int → Int → Mp → Mp → Option β) → Option β
  | 0, _, _, _, _, _, _, _ => none
  | F + 1, a0, a1, a2, a3, a4, a5, k0 => impl_asker_best_g0_b N (impl_asker_best_g0_f N F) a0 a1 a2 a3 a4 a5 k0
def impl_asker_best_g0 {β : Type} (N : Nat) (a0 : Int) (a1 : Int) (a2 : Int) (a3 : Int) (a4 : Mp) (a5 : Mp) (k0 : ByteArray → Int → Int → Mp → Mp → Option β) : Option β := impl_asker_best_g0_f N N a0 a1 a2 a3 a4 a5 k0
/-! loop.example/g03403/impl.BestTree -/
def impl_BestTree {β : Type} (N : Nat) (a0 : Int) (a1 : Int) (k : ByteArray → Bool → Option β) : Option β :=
impl_isSmall N a0 a1 4 fun r4 =>
(cond (!r4)
(k ByteArray.empty false)
(impl_Table_asking_g0 N a0 a1 (fun r5_0 r5_1 r5_2 r5_3 =>
impl_asker_best_g0 N 0 0 r5_0 r5_1 r5_2 r5_3 (fun r6_0 r6_1 r6_2 r6_3 r6_4 =>
k r6_0 true))))
/-! loop.example/g03403/impl.isLetter -/
def impl_isLetter {β : Type} (N : Nat) (a0 : Int) (k : Bool → Option β) : Option β :=
(cond ((decide (a0 ≥ 97)))
(k ((decide (a0 < 102))))
(k false))
/-! (*loop.example/g03403/impl.tree).variable -/
def impl_tree_variable_g0 {β : Type} (N : Nat) (a0 : Int) (k0 : Int → Int → Option β) : Option β :=
k0 ((w64 ((w8 (a0 - 97))))) a0
/-! loop.example/g03403/impl.readTree -/
def impl_readTree_b {β : Type} (N : Nat) (self : ByteArray → Int → (Tr → ByteArray → Option β) → Option β) (a0 : ByteArray) (a1 : Int) (k : Tr → ByteArray → Option β) : Option β :=
(cond ((a0.toList == ByteArray.empty.toList))
(k Tr.nil ByteArray.empty)
((gd ((decide (0 < (a0.size : Int))))
((gd ((decide (1 ≤ (a0.size : Int))))
((cond (((bt a0 0) == 48))
(k ((Tr.node ((bt a0 0)) 0 Tr.nil Tr.nil)) ((a0.extract (Int.toNat 1) a0.size)))
((cond (((bt a0 0) == 49))
(k ((Tr.node ((bt a0 0)) 0 Tr.nil Tr.nil)) ((a0.extract (Int.toNat 1) a0.size)))
(impl_isLetter N ((bt a0 0)) fun r4 =>
(cond (!r4)
(k Tr.nil ByteArray.empty)
(impl_tree_variable_g0 N ((bt a0 0)) (fun r5_0 r5_1 =>
(gd ((decide (0 ≤ r5_0)))
((cond (((bits .and .i64 (shrI .i64 a1 r5_0) 1) == 1))
(k Tr.nil ByteArray.empty)
(impl_tree_variable_g0 N r5_1 (fun r6_0 r6_1 =>
(gd ((decide (0 ≤ r6_0)))
(self ((a0.extract (Int.toNat 1) a0.size)) ((bits .or .i64 a1 (shlI .i64 1 r6_0))) fun r7 r8 =>
(cond ((Tr.isNil r7))
(k Tr.nil ByteArray.empty)
(self r8 ((bits .or .i64 a1 (shlI .i64 1 r6_0))) fun r9 r10 =>
(cond ((Tr.isNil r9))
(k Tr.nil ByteArray.empty)
(k ((Tr.node r6_1 0 r7 r9)) r10))))))))))))))))))))))))
def impl_readTree_f {β : Type} (N : Nat) : Nat → ByteArray → Int → (Tr → ByteArray → Option β) → Option β
  | 0, _, _, _ => none
  | F + 1, a0, a1, k => impl_readTree_b N (impl_readTree_f N F) a0 a1 k
def impl_readTree {β : Type} (N : Nat) (a0 : ByteArray) (a1 : Int) (k : Tr → ByteArray → Option β) : Option β := impl_readTree_f N N a0 a1 k
/-! loop.example/g03403/impl.wholeTree -/
def impl_wholeTree {β : Type} (N : Nat) (a0 : ByteArray) (k : Tr → Bool → Option β) : Option β :=
impl_readTree N a0 0 fun r3 r4 =>
(cond ((!(Tr.isNil r3)))
(k r3 ((r4.toList == ByteArray.empty.toList)))
(k r3 false))
/-! (*loop.example/g03403/impl.tree).depth -/
def impl_tree_depth_b {β : Type} (N : Nat) (self : Tr → (Int → Option β) → Option β) (a0 : Tr) (k : Int → Option β) : Option β :=
(gd ((!(Tr.isNil a0)))
((gd ((!(Tr.isNil a0)))
((gd ((!(Tr.isNil a0)))
((cond ((Tr.isNil ((Tr.l a0))))
(k 0)
((gd ((!(Tr.isNil a0)))
((gd ((!(Tr.isNil a0)))
((gd ((!(Tr.isNil a0)))
((gd ((!(Tr.isNil a0)))
((gd ((!(Tr.isNil a0)))
((gd ((!(Tr.isNil a0)))
(self ((Tr.l a0)) fun r2 =>
self ((Tr.r a0)) fun r3 =>
k ((w64 (1 + (mxI r2 r3))))))))))))))))))))))))
def impl_tree_depth_f {β : Type} (N : Nat) : Nat → Tr → (Int → Option β) → Option β
  | 0, _, _ => none
  | F + 1, a0, k => impl_tree_depth_b N (impl_tree_depth_f N F) a0 k
def impl_tree_depth {β : Type} (N : Nat) (a0 : Tr) (k : Int → Option β) : Option β := impl_tree_depth_f N N a0 k
/-! loop.example/g03403/impl.DepthOfTree -/
def impl_DepthOfTree {β : Type} (N : Nat) (a0 : ByteArray) (k : Int → Option β) : Option β :=
impl_wholeTree N a0 fun r2 r3 =>
(cond (!r3)
(k (-1))
(impl_tree_depth N r2 fun r4 =>
k r4))
/-! loop.example/g03403/impl.ClaimOfDepth -/
def impl_ClaimOfDepth {β : Type} (N : Nat) (a0 : Int) (a1 : Int) (k : Int → Int → Int → Int → Int → ByteArray → List Int → Bool → Option β) : Option β :=
impl_BestTree N a0 a1 fun r10 r11 =>
(cond (!r11)
(k 0 0 0 0 0 ByteArray.empty (([] : List Int)) false)
(impl_DepthOfTree N r10 fun r12 =>
k 1 a0 a1 r12 0 r10 (([] : List Int)) true))
/-! loop.example/g03403/laws.eqTable -/
def laws_eqTable {β : Type} (N : Nat) (a0 : Int) (a1 : Int) (a2 : Int) (a3 : Int) (k : Bool → Option β) : Option β :=
(cond ((a0 != a2))
(k false)
((cond ((a1 != a3))
(k false)
(k true))))
/-! loop.example/g03403/laws.eqIntS -/
def laws_eqIntS_l0b {β : Type} (N : Nat)  (v0 : List Int) (v1 : List Int) (v2 : Int) (rec_ : List Int → List Int → Int → Option β) (k0 : Bool → Option β) (k1 : Option β) : Option β :=
(cond ((decide (v2 < (v0.length : Int))))
((gd ((decide (0 ≤ v2)))
((gd ((decide (v2 < (v0.length : Int))))
((gd ((decide (0 ≤ v2)))
((gd ((decide (v2 < (v1.length : Int))))
((cond (((rd 0 v0 v2) != (rd 0 v1 v2)))
(k0 false)
(rec_ v0 v1 ((w64 (v2 + 1))))))))))))))
(k1 ))
def laws_eqIntS_l0 {β : Type} (N : Nat)  : Nat → List Int → List Int → Int → (Bool → Option β) → (Option β) → Option β
  | 0, _, _, _, _, _ => none
  | F + 1, v0, v1, v2, k0, k1 => laws_eqIntS_l0b N  v0 v1 v2 (fun v0 v1 v2 => laws_eqIntS_l0 N  F v0 v1 v2 k0 k1) k0 k1
def laws_eqIntS {β : Type} (N : Nat) (a0 : List Int) (a1 : List Int) (k : Bool → Option β) : Option β :=
(cond (((a0.length : Int) != (a1.length : Int)))
(k false)
(laws_eqIntS_l0 N  N a0 a1 0 (fun e3_0 =>
k e3_0) (k true)))
/-! loop.example/g03403/laws.eqClaim -/
def laws_eqClaim {β : Type} (N : Nat) (a0 : Int) (a1 : Int) (a2 : Int) (a3 : Int) (a4 : Int) (a5 : ByteArray) (a6 : List Int) (a7 : Int) (a8 : Int) (a9 : Int) (a10 : Int) (a11 : Int) (a12 : ByteArray) (a13 : List Int) (k : Bool → Option β) : Option β :=
(cond ((a0 != a7))
(k false)
(laws_eqTable N a1 a2 a8 a9 fun r15 =>
(cond (!r15)
(k false)
((cond ((a3 != a10))
(k false)
((cond ((a4 != a11))
(k false)
((cond ((!(a5.toList == a12.toList)))
(k false)
(laws_eqIntS N a6 a13 fun r16 =>
(cond (!r16)
(k false)
(k true))))))))))))
/-! loop.example/g03403/laws.heldIntS -/
def laws_heldIntS_l0b {β : Type} (N : Nat)  (v0 : List Int) (v1 : Int) (v2 : Int) (rec_ : List Int → Int → Int → Option β) (k0 : Int → Option β) (k1 : Int → Option β) : Option β :=
(cond ((decide (v2 < (v0.length : Int))))
((gd ((decide (0 ≤ v2)))
((gd ((decide (v2 < (v0.length : Int))))
((cond (((rd 0 v0 v2) != v1))
(k0 (-1))
(rec_ v0 ((w64 (v1 + 1))) ((w64 (v2 + 1))))))))))
(k1 v1))
def laws_heldIntS_l0 {β : Type} (N : Nat)  : Nat → List Int → Int → Int → (Int → Option β) → (Int → Option β) → Option β
  | 0, _, _, _, _, _ => none
  | F + 1, v0, v1, v2, k0, k1 => laws_heldIntS_l0b N  v0 v1 v2 (fun v0 v1 v2 => laws_heldIntS_l0 N  F v0 v1 v2 k0 k1) k0 k1
def laws_heldIntS {β : Type} (N : Nat) (a0 : List Int) (a1 : Int) (k : Int → Option β) : Option β :=
laws_heldIntS_l0 N  N a0 a1 0 (fun e3_0 =>
k e3_0) (fun e4_0 =>
k e4_0)
/-! loop.example/g03403/laws.heldClaim -/
def laws_heldClaim {β : Type} (N : Nat) (a0 : Int) (a1 : Int) (a2 : Int) (a3 : Int) (a4 : Int) (a5 : ByteArray) (a6 : List Int) (a7 : Int) (k : Int → Option β) : Option β :=
laws_heldIntS N a6 a7 fun r9 =>
(cond ((decide (r9 < 0)))
(k (-1))
(k r9))
/-! loop.example/g03403/laws.markIntS -/
def laws_markIntS_l0b {β : Type} (N : Nat)  (v0 : Int) (v1 : Int) (v2 : List Int) (rec_ : Int → Int → List Int → Option β) (k0 : Int → List Int → Option β) : Option β :=
(cond ((decide (v1 < (v2.length : Int))))
((gd ((decide (0 ≤ v1)))
((gd ((decide (v1 < (v2.length : Int))))
(rec_ ((w64 (v0 + 1))) ((w64 (v1 + 1))) ((wr v2 v1 v0)))))))
(k0 v0 v2))
def laws_markIntS_l0 {β : Type} (N : Nat)  : Nat → Int → Int → List Int → (Int → List Int → Option β) → Option β
  | 0, _, _, _, _ => none
  | F + 1, v0, v1, v2, k0 => laws_markIntS_l0b N  v0 v1 v2 (fun v0 v1 v2 => laws_markIntS_l0 N  F v0 v1 v2 k0) k0
def laws_markIntS {β : Type} (N : Nat) (a0 : List Int) (a1 : Int) (k : Int → List Int → Option β) : Option β :=
laws_markIntS_l0 N  N a1 0 a0 (fun e3_0 e3_1 =>
k e3_0 e3_1)
/-! loop.example/g03403/laws.markClaim -/
def laws_markClaim {β : Type} (N : Nat) (a0 : Int) (a1 : Int) (a2 : Int) (a3 : Int) (a4 : Int) (a5 : ByteArray) (a6 : List Int) (a7 : Int) (k : Int → List Int → Option β) : Option β :=
laws_markIntS N a6 a7 fun r9 m10 =>
k r9 m10
/-! loop.example/g03403/laws.FnExactClaimOfDepth -/
def laws_FnExactClaimOfDepth {β : Type} (N : Nat) (a0 : Int) (a1 : Int) (k : Bool → Option β) : Option β :=
laws_toTable N a0 a1 fun r3 r4 =>
spec_ClaimOfDepth N r3 r4 fun r5 r6 r7 r8 r9 r10 r11 r12 =>
laws_toTable N a0 a1 fun r13 r14 =>
impl_ClaimOfDepth N r13 r14 fun r15 r16 r17 r18 r19 r20 r21 r22 =>
laws_eqClaim N r15 r16 r17 r18 r19 r20 r21 r5 r6 r7 r8 r9 r10 r11 fun r23 =>
(cond (!r23)
(k false)
((cond ((!(r22 == r12)))
(k false)
(laws_markClaim N r15 r16 r17 r18 r19 r20 r21 1 fun r24 m25 =>
laws_heldClaim N r15 r16 r17 r18 r19 r20 m25 1 fun r26 =>
(cond ((decide (r26 < 0)))
(k false)
((cond ((r26 != r24))
(k false)
(laws_toTable N a0 a1 fun r27 r28 =>
impl_ClaimOfDepth N r27 r28 fun r29 r30 r31 r32 r33 r34 r35 r36 =>
laws_eqClaim N r29 r30 r31 r32 r33 r34 r35 r5 r6 r7 r8 r9 r10 r11 fun r37 =>
(cond (!r37)
(k false)
((cond ((!(r36 == r12)))
(k false)
(laws_heldClaim N r15 r16 r17 r18 r19 r20 m25 1 fun r38 =>
(cond ((decide (r38 < 0)))
(k false)
((cond ((r38 != r24))
(k false)
(k true))))))))))))))))
end Go.Proofs.YtfdggelojmofmaaDoor
