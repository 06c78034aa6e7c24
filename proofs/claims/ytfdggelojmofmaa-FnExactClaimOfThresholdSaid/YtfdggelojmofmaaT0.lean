/- The texts of the functions that the claims reach: plain Lean, no program. -/
import Derived.Test.YtfdggelojmofmaaRvLib
namespace Go.Proofs.Ytfdggelojmofmaa
open Go.Rv
set_option linter.unusedVariables false
set_option maxRecDepth 100000
/-! loop.example/g03403/laws.toTable -/
def laws_toTable {β : Type} (N : Nat) (a0 : Int) (a1 : Int) (k : Int → Int → Option β) : Option β :=
k a0 a1
/-! loop.example/g03403/spec.l1In -/
def spec_l1In {β : Type} (N : Nat) (a0 : Int) (a1 : Int) (a2 : Int) (k : Bool → Option β) : Option β :=
(cond ((decide (a0 ≥ a1)))
(k ((decide (a0 ≤ a2))))
(k false))
/-! loop.example/g03403/spec.IsTable -/
def spec_IsTable {β : Type} (N : Nat) (a0 : Int) (a1 : Int) (k : Bool → Option β) : Option β :=
spec_l1In N a0 0 5 fun r3 =>
(cond r3
((gd ((decide (0 ≤ a0)))
((gd ((decide (0 ≤ (shlI .u64 1 a0))))
(spec_l1In N a1 0 ((w64 ((shlI .i64 1 (shlI .u64 1 a0)) - 1))) fun r4 =>
k r4)))))
(k false))
/-! loop.example/g03403/spec.l16Sum -/
def spec_l16Sum_l0b {β : Type} (N : Nat)  (v0 : List Int) (v1 : Int) (v2 : Int) (v3 : Int) (rec_ : List Int → Int → Int → Int → Option β) (k0 : Int → Option β) : Option β :=
(cond ((decide (v3 < (v0.length : Int))))
((gd ((decide (0 ≤ v3)))
((cond (((bits .and .i64 (shrI .i64 v1 v3) 1) == 1))
((gd ((decide (0 ≤ v3)))
((gd ((decide (v3 < (v0.length : Int))))
(rec_ v0 v1 ((w64 (v2 + (rd 0 v0 v3)))) ((w64 (v3 + 1))))))))
(rec_ v0 v1 v2 ((w64 (v3 + 1))))))))
(k0 v2))
def spec_l16Sum_l0 {β : Type} (N : Nat)  : Nat → List Int → Int → Int → Int → (Int → Option β) → Option β
  | 0, _, _, _, _, _ => none
  | F + 1, v0, v1, v2, v3, k0 => spec_l16Sum_l0b N  v0 v1 v2 v3 (fun v0 v1 v2 v3 => spec_l16Sum_l0 N  F v0 v1 v2 v3 k0) k0
def spec_l16Sum {β : Type} (N : Nat) (a0 : List Int) (a1 : Int) (k : Int → Option β) : Option β :=
spec_l16Sum_l0 N  N a0 a1 0 0 (fun e3_0 =>
k e3_0)
/-! loop.example/g03403/spec.l16Fits -/
def spec_l16Fits_l0b {β : Type} (N : Nat)  (v0 : List Int) (v1 : Int) (v2 : Int) (v3 : Int) (v4 : Int) (v5 : Int) (rec_ : List Int → Int → Int → Int → Int → Int → Option β) (k0 : Int → Int → Option β) : Option β :=
(gd ((decide (0 ≤ v4)))
((cond ((decide (v3 < (shlI .i64 1 v4))))
(spec_l16Sum N v0 v3 fun r5 =>
(gd ((decide (0 ≤ v3)))
((cond (((bits .and .i64 (shrI .i64 v5 v3) 1) == 1))
(rec_ v0 ((mnI v1 r5)) v2 ((w64 (v3 + 1))) v4 v5)
(rec_ v0 v1 ((mxI v2 r5)) ((w64 (v3 + 1))) v4 v5)))))
(k0 v1 v2))))
def spec_l16Fits_l0 {β : Type} (N : Nat)  : Nat → List Int → Int → Int → Int → Int → Int → (Int → Int → Option β) → Option β
  | 0, _, _, _, _, _, _, _ => none
  | F + 1, v0, v1, v2, v3, v4, v5, k0 => spec_l16Fits_l0b N  v0 v1 v2 v3 v4 v5 (fun v0 v1 v2 v3 v4 v5 => spec_l16Fits_l0 N  F v0 v1 v2 v3 v4 v5 k0) k0
def spec_l16Fits {β : Type} (N : Nat) (a0 : Int) (a1 : Int) (a2 : List Int) (k : Int → Bool → Option β) : Option β :=
spec_l16Fits_l0 N  N a2 100 (-100) 0 a0 a1 (fun e6_0 e6_1 =>
(cond ((e6_0 == 100))
(k ((w64 (e6_1 + 1))) true)
(k e6_0 ((decide (e6_1 < e6_0))))))
/-! loop.example/g03403/spec.WeightsFor -/
def spec_WeightsFor_l0b {β : Type} (N : Nat)  (v0 : Int) (v1 : Int) (v2 : Int) (v3 : Int) (rec_ : Int → Int → Int → Int → Option β) (k0 : Int → Int → Int → Option β) : Option β :=
(cond ((decide (v1 < v2)))
(rec_ ((w64 (v0 * 7))) ((w64 (v1 + 1))) v2 v3)
(k0 v0 v2 v3))
def spec_WeightsFor_l0 {β : Type} (N : Nat)  : Nat → Int → Int → Int → Int → (Int → Int → Int → Option β) → Option β
  | 0, _, _, _, _, _ => none
  | F + 1, v0, v1, v2, v3, k0 => spec_WeightsFor_l0b N  v0 v1 v2 v3 (fun v0 v1 v2 v3 => spec_WeightsFor_l0 N  F v0 v1 v2 v3 k0) k0
def spec_WeightsFor_l4b {β : Type} (N : Nat)  (v0 : Int) (v1 : Int) (v2 : Int) (v3 : Int) (v4 : Int) (v5 : Int) (v6 : Int) (v7 : Int) (v8 : Int) (v9 : List Int) (v10 : List Int) (rec_ : Int → Int → Int → Int → Int → Int → Int → Int → Int → List Int → List Int → Option β) (k0 : Int → Int → Int → Int → Int → Int → Int → List Int → List Int → Option β) : Option β :=
(cond ((decide (v6 ≥ 0)))
((gd ((decide (0 ≤ v6)))
((gd ((decide (v6 < (v10.length : Int))))
((gd ((decide (0 ≤ v6)))
((gd ((decide (v6 < (((wr v10 v6 (w64 ((remI v4 7) - 3)))).length : Int))))
((gd ((decide (0 ≤ v6)))
((gd ((decide (v6 < (((wr v10 v6 (w64 ((remI v4 7) - 3)))).length : Int))))
(rec_ v0 v1 v2 v3 ((quoI .i64 v4 7)) ((w64 (v5 + (mxI (rd 0 ((wr v10 v6 (w64 ((remI v4 7) - 3)))) v6) (w64 (0 - (rd 0 ((wr v10 v6 (w64 ((remI v4 7) - 3)))) v6))))))) ((w64 (v6 - 1))) v7 v8 v9 ((wr v10 v6 (w64 ((remI v4 7) - 3)))))))))))))))))
(k0 v0 v1 v2 v3 v5 v7 v8 v9 v10))
def spec_WeightsFor_l4 {β : Type} (N : Nat)  : Nat → Int → Int → Int → Int → Int → Int → Int → Int → Int → List Int → List Int → (Int → Int → Int → Int → Int → Int → Int → List Int → List Int → Option β) → Option β
  | 0, _, _, _, _, _, _, _, _, _, _, _, _ => none
  | F + 1, v0, v1, v2, v3, v4, v5, v6, v7, v8, v9, v10, k0 => spec_WeightsFor_l4b N  v0 v1 v2 v3 v4 v5 v6 v7 v8 v9 v10 (fun v0 v1 v2 v3 v4 v5 v6 v7 v8 v9 v10 => spec_WeightsFor_l4 N  F v0 v1 v2 v3 v4 v5 v6 v7 v8 v9 v10 k0) k0
def spec_WeightsFor_l2b {β : Type} (N : Nat)  (v0 : Int) (v1 : Int) (v2 : Int) (v3 : Int) (v4 : Int) (v5 : Int) (v6 : List Int) (rec_ : Int → Int → Int → Int → Int → Int → List Int → Option β) (k0 : Int → Int → List Int → Option β) : Option β :=
(cond ((decide (v3 < v0)))
((gd ((decide (0 ≤ v4)))
((gd ((decide (v4 ≤ v4)))
((gd ((decide (8 * v4 ≤ 281474976710656)))
(spec_WeightsFor_l4 N  N v0 v1 v2 v3 v3 0 ((w64 (v4 - 1))) v4 v5 v6 ((List.replicate (Int.toNat v4) (0 : Int))) (fun e7_0 e7_1 e7_2 e7_3 e7_4 e7_5 e7_6 e7_7 e7_8 =>
(cond ((decide (e7_4 ≥ e7_1)))
(rec_ e7_0 e7_1 e7_2 ((w64 (e7_3 + 1))) e7_5 e7_6 e7_7)
(spec_l16Fits N e7_5 e7_6 e7_8 fun r8 r9 =>
(cond r9
(rec_ e7_0 e7_4 r8 ((w64 (e7_3 + 1))) e7_5 e7_6 e7_8)
(rec_ e7_0 e7_1 e7_2 ((w64 (e7_3 + 1))) e7_5 e7_6 e7_7))))))))))))
(k0 v1 v2 v6))
def spec_WeightsFor_l2 {β : Type} (N : Nat)  : Nat → Int → Int → Int → Int → Int → Int → List Int → (Int → Int → List Int → Option β) → Option β
  | 0, _, _, _, _, _, _, _, _ => none
  | F + 1, v0, v1, v2, v3, v4, v5, v6, k0 => spec_WeightsFor_l2b N  v0 v1 v2 v3 v4 v5 v6 (fun v0 v1 v2 v3 v4 v5 v6 => spec_WeightsFor_l2 N  F v0 v1 v2 v3 v4 v5 v6 k0) k0
def spec_WeightsFor {β : Type} (N : Nat) (a0 : Int) (a1 : Int) (k : List Int → Int → Bool → Option β) : Option β :=
spec_IsTable N a0 a1 fun r5 =>
(cond (!r5)
(k (([] : List Int)) 0 false)
((cond ((decide (a0 > 4)))
(k (([] : List Int)) 0 false)
(spec_WeightsFor_l0 N  N 1 0 a0 a1 (fun e6_0 e6_1 e6_2 =>
spec_WeightsFor_l2 N  N e6_0 100 0 0 e6_1 e6_2 (([] : List Int)) (fun e10_0 e10_1 e10_2 =>
k e10_2 e10_1 ((decide (e10_0 < 100)))))))))
/-! loop.example/g03403/spec.Contradiction -/
def spec_Contradiction_l6b {β : Type} (N : Nat)  (v0 : Int) (v1 : Int) (v2 : Int) (v3 : Int) (v4 : Int) (v5 : Int) (v6 : Int) (rec_ : Int → Int → Int → Int → Int → Int → Int → Option β) (k0 : Bool → List Int → Option β) (k1 : Int → Int → Int → Int → Int → Int → Option β) : Option β :=
(cond ((decide (v4 < v0)))
((cond (((bits .and .i64 v1 v2) == (bits .and .i64 v3 v4)))
((cond (((bits .xor .i64 v1 v2) == (bits .xor .i64 v3 v4)))
((gd ((decide (0 ≤ v3)))
((gd ((decide (0 ≤ v4)))
((cond (((bits .and .i64 (bits .or .i64 (shrI .i64 v6 v3) (shrI .i64 v6 v4)) 1) == 0))
(k0 true (((((([] : List Int) ++ [v1]) ++ [v2]) ++ [v3]) ++ [v4])))
(rec_ v0 v1 v2 v3 ((w64 (v4 + 1))) v5 v6)))))))
(rec_ v0 v1 v2 v3 ((w64 (v4 + 1))) v5 v6)))
(rec_ v0 v1 v2 v3 ((w64 (v4 + 1))) v5 v6)))
(k1 v0 v1 v2 v3 v5 v6))
def spec_Contradiction_l6 {β : Type} (N : Nat)  : Nat → Int → Int → Int → Int → Int → Int → Int → (Bool → List Int → Option β) → (Int → Int → Int → Int → Int → Int → Option β) → Option β
  | 0, _, _, _, _, _, _, _, _, _ => none
  | F + 1, v0, v1, v2, v3, v4, v5, v6, k0, k1 => spec_Contradiction_l6b N  v0 v1 v2 v3 v4 v5 v6 (fun v0 v1 v2 v3 v4 v5 v6 => spec_Contradiction_l6 N  F v0 v1 v2 v3 v4 v5 v6 k0 k1) k0 k1
def spec_Contradiction_l4b {β : Type} (N : Nat)  (v0 : Int) (v1 : Int) (v2 : Int) (v3 : Int) (v4 : Int) (v5 : Int) (rec_ : Int → Int → Int → Int → Int → Int → Option β) (k0 : Bool → List Int → Option β) (k1 : Int → Int → Int → Int → Int → Option β) : Option β :=
(cond ((decide (v3 < v0)))
(spec_Contradiction_l6 N  N v0 v1 v2 v3 v3 v4 v5 (fun e5_0 e5_1 =>
k0 e5_0 e5_1) (fun e6_0 e6_1 e6_2 e6_3 e6_4 e6_5 =>
rec_ e6_0 e6_1 e6_2 ((w64 (e6_3 + 1))) e6_4 e6_5))
(k1 v0 v1 v2 v4 v5))
def spec_Contradiction_l4 {β : Type} (N : Nat)  : Nat → Int → Int → Int → Int → Int → Int → (Bool → List Int → Option β) → (Int → Int → Int → Int → Int → Option β) → Option β
  | 0, _, _, _, _, _, _, _, _ => none
  | F + 1, v0, v1, v2, v3, v4, v5, k0, k1 => spec_Contradiction_l4b N  v0 v1 v2 v3 v4 v5 (fun v0 v1 v2 v3 v4 v5 => spec_Contradiction_l4 N  F v0 v1 v2 v3 v4 v5 k0 k1) k0 k1
def spec_Contradiction_l2b {β : Type} (N : Nat)  (v0 : Int) (v1 : Int) (v2 : Int) (v3 : Int) (v4 : Int) (rec_ : Int → Int → Int → Int → Int → Option β) (k0 : Bool → List Int → Option β) (k1 : Int → Int → Int → Int → Option β) : Option β :=
(cond ((decide (v2 < v0)))
((gd ((decide (0 ≤ v1)))
((gd ((decide (0 ≤ v2)))
((cond (((bits .and .i64 (bits .and .i64 (shrI .i64 v4 v1) (shrI .i64 v4 v2)) 1) == 0))
(rec_ v0 v1 ((w64 (v2 + 1))) v3 v4)
(spec_Contradiction_l4 N  N v0 v1 v2 0 v3 v4 (fun e7_0 e7_1 =>
k0 e7_0 e7_1) (fun e8_0 e8_1 e8_2 e8_3 e8_4 =>
rec_ e8_0 e8_1 ((w64 (e8_2 + 1))) e8_3 e8_4))))))))
(k1 v0 v1 v3 v4))
def spec_Contradiction_l2 {β : Type} (N : Nat)  : Nat → Int → Int → Int → Int → Int → (Bool → List Int → Option β) → (Int → Int → Int → Int → Option β) → Option β
  | 0, _, _, _, _, _, _, _ => none
  | F + 1, v0, v1, v2, v3, v4, k0, k1 => spec_Contradiction_l2b N  v0 v1 v2 v3 v4 (fun v0 v1 v2 v3 v4 => spec_Contradiction_l2 N  F v0 v1 v2 v3 v4 k0 k1) k0 k1
def spec_Contradiction_l0b {β : Type} (N : Nat)  (v0 : Int) (v1 : Int) (v2 : Int) (v3 : Int) (rec_ : Int → Int → Int → Int → Option β) (k0 : Bool → List Int → Option β) (k1 : Option β) : Option β :=
(cond ((decide (v1 < v0)))
(spec_Contradiction_l2 N  N v0 v1 v1 v2 v3 (fun e9_0 e9_1 =>
k0 e9_0 e9_1) (fun e10_0 e10_1 e10_2 e10_3 =>
rec_ e10_0 ((w64 (e10_1 + 1))) e10_2 e10_3))
(k1 ))
def spec_Contradiction_l0 {β : Type} (N : Nat)  : Nat → Int → Int → Int → Int → (Bool → List Int → Option β) → (Option β) → Option β
  | 0, _, _, _, _, _, _ => none
  | F + 1, v0, v1, v2, v3, k0, k1 => spec_Contradiction_l0b N  v0 v1 v2 v3 (fun v0 v1 v2 v3 => spec_Contradiction_l0 N  F v0 v1 v2 v3 k0 k1) k0 k1
def spec_Contradiction {β : Type} (N : Nat) (a0 : Int) (a1 : Int) (k : List Int → Bool → Option β) : Option β :=
spec_IsTable N a0 a1 fun r4 =>
(cond (!r4)
(k (([] : List Int)) false)
((gd ((decide (0 ≤ a0)))
(spec_Contradiction_l0 N  N ((shlI .i64 1 a0)) 0 a0 a1 (fun e11_0 e11_1 =>
k e11_1 e11_0) (k (([] : List Int)) false)))))
/-! loop.example/g03403/spec.ClaimOfThreshold -/
def spec_ClaimOfThreshold {β : Type} (N : Nat) (a0 : Int) (a1 : Int) (k : Int → Int → Int → Int → Int → ByteArray → List Int → Bool → Option β) : Option β :=
spec_WeightsFor N a0 a1 fun r10 r11 r12 =>
(cond r12
(k 2 a0 a1 r11 0 ByteArray.empty r10 true)
(spec_Contradiction N a0 a1 fun r13 r14 =>
(cond (!r14)
(k 0 0 0 0 0 ByteArray.empty (([] : List Int)) false)
((cond ((decide (a0 > 4)))
(k 0 0 0 0 0 ByteArray.empty (([] : List Int)) false)
(k 3 a0 a1 0 0 ByteArray.empty r13 true))))))
/-! loop.example/g03403/impl.isBits -/
def impl_isBits {β : Type} (N : Nat) (a0 : Int) (k : Bool → Option β) : Option β :=
(cond ((decide (a0 ≥ 0)))
(k ((decide (a0 ≤ 5))))
(k false))
/-! (loop.example/g03403/impl.Table).size -/
def impl_Table_size {β : Type} (N : Nat) (a0 : Int) (a1 : Int) (k : Int → Option β) : Option β :=
(gd ((decide (0 ≤ a0)))
(k ((shlI .i64 1 a0))))
/-! loop.example/g03403/impl.IsTable -/
def impl_IsTable {β : Type} (N : Nat) (a0 : Int) (a1 : Int) (k : Bool → Option β) : Option β :=
impl_isBits N a0 fun r3 =>
(cond r3
((cond ((decide (a1 ≥ 0)))
(impl_Table_size N a0 a1 fun r4 =>
(gd ((decide (0 ≤ r4)))
(k (((shrI .i64 a1 r4) == 0)))))
(k false)))
(k false))
/-! loop.example/g03403/impl.isSmall -/
def impl_isSmall {β : Type} (N : Nat) (a0 : Int) (a1 : Int) (a2 : Int) (k : Bool → Option β) : Option β :=
impl_IsTable N a0 a1 fun r4 =>
(cond r4
(k ((decide (a0 ≤ a2))))
(k false))
/-! loop.example/g03403/impl.weightAt -/
def impl_weightAt_l0b {β : Type} (N : Nat)  (v0 : Int) (v1 : Int) (v2 : List Int) (v3 : Int) (v4 : Int) (rec_ : Int → Int → List Int → Int → Int → Option β) (k0 : Int → Option β) : Option β :=
(cond ((decide (v4 < v3)))
((gd ((decide (0 ≤ v4)))
((gd ((decide (v4 < (v2.length : Int))))
((gd ((decide (0 ≤ v4)))
(rec_ v0 ((w64 (v1 + (w64 ((rd 0 v2 v4) * (bits .and .i64 (shrI .i64 v0 v4) 1)))))) v2 v3 ((w64 (v4 + 1))))))))))
(k0 v1))
def impl_weightAt_l0 {β : Type} (N : Nat)  : Nat → Int → Int → List Int → Int → Int → (Int → Option β) → Option β
  | 0, _, _, _, _, _, _ => none
  | F + 1, v0, v1, v2, v3, v4, k0 => impl_weightAt_l0b N  v0 v1 v2 v3 v4 (fun v0 v1 v2 v3 v4 => impl_weightAt_l0 N  F v0 v1 v2 v3 v4 k0) k0
def impl_weightAt {β : Type} (N : Nat) (a0 : List Int) (a1 : Int) (k : Int → Option β) : Option β :=
impl_weightAt_l0 N  N a1 0 a0 ((a0.length : Int)) 0 (fun e3_0 =>
k e3_0)
/-! (loop.example/g03403/impl.Table).at -/
def impl_Table_at {β : Type} (N : Nat) (a0 : Int) (a1 : Int) (a2 : Int) (k : Int → Option β) : Option β :=
(gd ((decide (0 ≤ a2)))
(k ((bits .and .i64 (shrI .i64 a1 a2) 1))))
/-! (loop.example/g03403/impl.Table).threshold -/
def impl_Table_threshold_l0b {β : Type} (N : Nat)  (v0 : List Int) (v1 : Int) (v2 : Int) (v3 : Bool) (v4 : Bool) (v5 : Int) (v6 : Int) (v7 : Int) (v8 : Int) (rec_ : List Int → Int → Int → Bool → Bool → Int → Int → Int → Int → Option β) (k0 : Int → Int → Bool → Bool → Option β) : Option β :=
(cond ((decide (v6 < v5)))
(impl_weightAt N v0 v6 fun r6 =>
impl_Table_at N v7 v8 v6 fun r7 =>
(cond ((r7 == 1))
((cond (!v3)
(impl_Table_at N v7 v8 v6 fun r8 =>
(cond ((r8 == 0))
((cond v4
(rec_ v0 r6 r6 true false v5 ((w64 (v6 + 1))) v7 v8)
((cond ((decide (r6 > v2)))
(rec_ v0 r6 r6 true false v5 ((w64 (v6 + 1))) v7 v8)
(rec_ v0 r6 v2 true v4 v5 ((w64 (v6 + 1))) v7 v8)))))
(rec_ v0 r6 v2 true v4 v5 ((w64 (v6 + 1))) v7 v8)))
((cond ((decide (r6 < v1)))
(impl_Table_at N v7 v8 v6 fun r9 =>
(cond ((r9 == 0))
((cond v4
(rec_ v0 r6 r6 true false v5 ((w64 (v6 + 1))) v7 v8)
((cond ((decide (r6 > v2)))
(rec_ v0 r6 r6 true false v5 ((w64 (v6 + 1))) v7 v8)
(rec_ v0 r6 v2 true v4 v5 ((w64 (v6 + 1))) v7 v8)))))
(rec_ v0 r6 v2 true v4 v5 ((w64 (v6 + 1))) v7 v8)))
(impl_Table_at N v7 v8 v6 fun r10 =>
(cond ((r10 == 0))
((cond v4
(rec_ v0 v1 r6 v3 false v5 ((w64 (v6 + 1))) v7 v8)
((cond ((decide (r6 > v2)))
(rec_ v0 v1 r6 v3 false v5 ((w64 (v6 + 1))) v7 v8)
(rec_ v0 v1 v2 v3 v4 v5 ((w64 (v6 + 1))) v7 v8)))))
(rec_ v0 v1 v2 v3 v4 v5 ((w64 (v6 + 1))) v7 v8)))))))
(impl_Table_at N v7 v8 v6 fun r11 =>
(cond ((r11 == 0))
((cond v4
(rec_ v0 v1 r6 v3 false v5 ((w64 (v6 + 1))) v7 v8)
((cond ((decide (r6 > v2)))
(rec_ v0 v1 r6 v3 false v5 ((w64 (v6 + 1))) v7 v8)
(rec_ v0 v1 v2 v3 v4 v5 ((w64 (v6 + 1))) v7 v8)))))
(rec_ v0 v1 v2 v3 v4 v5 ((w64 (v6 + 1))) v7 v8)))))
(k0 v1 v2 v3 v4))
def impl_Table_threshold_l0 {β : Type} (N : Nat)  : Nat → List Int → Int → Int → Bool → Bool → Int → Int → Int → Int → (Int → Int → Bool → Bool → Option β) → Option β
  | 0, _, _, _, _, _, _, _, _, _, _ => none
  | F + 1, v0, v1, v2, v3, v4, v5, v6, v7, v8, k0 => impl_Table_threshold_l0b N  v0 v1 v2 v3 v4 v5 v6 v7 v8 (fun v0 v1 v2 v3 v4 v5 v6 v7 v8 => impl_Table_threshold_l0 N  F v0 v1 v2 v3 v4 v5 v6 v7 v8 k0) k0
def impl_Table_threshold {β : Type} (N : Nat) (a0 : Int) (a1 : Int) (a2 : List Int) (k : Int → Bool → Option β) : Option β :=
impl_Table_size N a0 a1 fun r5 =>
impl_Table_threshold_l0 N  N a2 0 0 false true r5 0 a0 a1 (fun e12_0 e12_1 e12_2 e12_3 =>
(cond (!e12_2)
(k ((w64 (e12_1 + 1))) true)
((cond e12_3
(k e12_0 true)
(k e12_0 ((decide (e12_1 < e12_0))))))))
/-! loop.example/g03403/impl.size1 -/
def impl_size1 {β : Type} (N : Nat) (a0 : Int) (k : Int → Option β) : Option β :=
k ((mxI a0 (w64 (0 - a0))))
/-! loop.example/g03403/impl.sumOfSizes -/
def impl_sumOfSizes_l0b {β : Type} (N : Nat)  (v0 : Int) (v1 : List Int) (v2 : Int) (v3 : Int) (rec_ : Int → List Int → Int → Int → Option β) (k0 : Int → Option β) : Option β :=
(cond ((decide (v3 < v2)))
((gd ((decide (0 ≤ v3)))
((gd ((decide (v3 < (v1.length : Int))))
(impl_size1 N ((rd 0 v1 v3)) fun r2 =>
rec_ ((w64 (v0 + r2))) v1 v2 ((w64 (v3 + 1))))))))
(k0 v0))
def impl_sumOfSizes_l0 {β : Type} (N : Nat)  : Nat → Int → List Int → Int → Int → (Int → Option β) → Option β
  | 0, _, _, _, _, _ => none
  | F + 1, v0, v1, v2, v3, k0 => impl_sumOfSizes_l0b N  v0 v1 v2 v3 (fun v0 v1 v2 v3 => impl_sumOfSizes_l0 N  F v0 v1 v2 v3 k0) k0
def impl_sumOfSizes {β : Type} (N : Nat) (a0 : List Int) (k : Int → Option β) : Option β :=
impl_sumOfSizes_l0 N  N 0 a0 ((a0.length : Int)) 0 (fun e3_0 =>
k e3_0)
/-! loop.example/g03403/impl.WeightsFor -/
def impl_WeightsFor_l2b {β : Type} (N : Nat)  (v0 : Int) (v1 : Bool) (v2 : Int) (v3 : Int) (v4 : Int) (v5 : List Int) (v6 : List Int) (rec_ : Int → Bool → Int → Int → Int → List Int → List Int → Option β) (k0 : Int → Bool → Int → Int → Int → List Int → List Int → Option β) : Option β :=
(cond ((decide (v2 ≥ 0)))
((gd ((decide (0 ≤ v2)))
((gd ((decide (v2 < (v5.length : Int))))
((cond (((rd 0 v5 v2) == 3))
((gd ((decide (0 ≤ v2)))
((gd ((decide (v2 < (v5.length : Int))))
(rec_ v0 v1 ((w64 (v2 - 1))) v3 v4 ((wr v5 v2 (-3))) v6)))))
(k0 v0 v1 v2 v3 v4 v5 v6)))))))
(k0 v0 v1 v2 v3 v4 v5 v6))
def impl_WeightsFor_l2 {β : Type} (N : Nat)  : Nat → Int → Bool → Int → Int → Int → List Int → List Int → (Int → Bool → Int → Int → Int → List Int → List Int → Option β) → Option β
  | 0, _, _, _, _, _, _, _, _ => none
  | F + 1, v0, v1, v2, v3, v4, v5, v6, k0 => impl_WeightsFor_l2b N  v0 v1 v2 v3 v4 v5 v6 (fun v0 v1 v2 v3 v4 v5 v6 => impl_WeightsFor_l2 N  F v0 v1 v2 v3 v4 v5 v6 k0) k0
def impl_WeightsFor_l0b {β : Type} (N : Nat)  (v0 : Int) (v1 : Bool) (v2 : Int) (v3 : Int) (v4 : List Int) (v5 : List Int) (rec_ : Int → Bool → Int → Int → List Int → List Int → Option β) (k0 : Int → Bool → List Int → Option β) : Option β :=
impl_Table_threshold N v2 v3 v4 fun r7 r8 =>
(cond r8
((cond (!v1)
(slices_Clone_Sint_int N v4 fun r9 =>
impl_WeightsFor_l2 N  N r7 true ((w64 (v2 - 1))) v2 v3 v4 r9 (fun e10_0 e10_1 e10_2 e10_3 e10_4 e10_5 e10_6 =>
(cond ((decide (e10_2 < 0)))
(k0 e10_0 e10_1 e10_6)
((gd ((decide (0 ≤ e10_2)))
((gd ((decide (e10_2 < (e10_5.length : Int))))
((gd ((decide (0 ≤ e10_2)))
((gd ((decide (e10_2 < (e10_5.length : Int))))
(rec_ e10_0 e10_1 e10_3 e10_4 ((wr e10_5 e10_2 (w64 ((rd 0 e10_5 e10_2) + 1)))) e10_6))))))))))))
(impl_sumOfSizes N v4 fun r11 =>
impl_sumOfSizes N v5 fun r12 =>
(cond ((decide (r11 < r12)))
(slices_Clone_Sint_int N v4 fun r13 =>
impl_WeightsFor_l2 N  N r7 true ((w64 (v2 - 1))) v2 v3 v4 r13 (fun e14_0 e14_1 e14_2 e14_3 e14_4 e14_5 e14_6 =>
(cond ((decide (e14_2 < 0)))
(k0 e14_0 e14_1 e14_6)
((gd ((decide (0 ≤ e14_2)))
((gd ((decide (e14_2 < (e14_5.length : Int))))
((gd ((decide (0 ≤ e14_2)))
((gd ((decide (e14_2 < (e14_5.length : Int))))
(rec_ e14_0 e14_1 e14_3 e14_4 ((wr e14_5 e14_2 (w64 ((rd 0 e14_5 e14_2) + 1)))) e14_6))))))))))))
(impl_WeightsFor_l2 N  N v0 v1 ((w64 (v2 - 1))) v2 v3 v4 v5 (fun e15_0 e15_1 e15_2 e15_3 e15_4 e15_5 e15_6 =>
(cond ((decide (e15_2 < 0)))
(k0 e15_0 e15_1 e15_6)
((gd ((decide (0 ≤ e15_2)))
((gd ((decide (e15_2 < (e15_5.length : Int))))
((gd ((decide (0 ≤ e15_2)))
((gd ((decide (e15_2 < (e15_5.length : Int))))
(rec_ e15_0 e15_1 e15_3 e15_4 ((wr e15_5 e15_2 (w64 ((rd 0 e15_5 e15_2) + 1)))) e15_6))))))))))))))))
(impl_WeightsFor_l2 N  N v0 v1 ((w64 (v2 - 1))) v2 v3 v4 v5 (fun e16_0 e16_1 e16_2 e16_3 e16_4 e16_5 e16_6 =>
(cond ((decide (e16_2 < 0)))
(k0 e16_0 e16_1 e16_6)
((gd ((decide (0 ≤ e16_2)))
((gd ((decide (e16_2 < (e16_5.length : Int))))
((gd ((decide (0 ≤ e16_2)))
((gd ((decide (e16_2 < (e16_5.length : Int))))
(rec_ e16_0 e16_1 e16_3 e16_4 ((wr e16_5 e16_2 (w64 ((rd 0 e16_5 e16_2) + 1)))) e16_6)))))))))))))
def impl_WeightsFor_l0 {β : Type} (N : Nat)  : Nat → Int → Bool → Int → Int → List Int → List Int → (Int → Bool → List Int → Option β) → Option β
  | 0, _, _, _, _, _, _, _ => none
  | F + 1, v0, v1, v2, v3, v4, v5, k0 => impl_WeightsFor_l0b N  v0 v1 v2 v3 v4 v5 (fun v0 v1 v2 v3 v4 v5 => impl_WeightsFor_l0 N  F v0 v1 v2 v3 v4 v5 k0) k0
def impl_WeightsFor {β : Type} (N : Nat) (a0 : Int) (a1 : Int) (k : List Int → Int → Bool → Option β) : Option β :=
impl_isSmall N a0 a1 4 fun r5 =>
(cond (!r5)
(k (([] : List Int)) 0 false)
(slices_Repeat_Sint_int N ((([] : List Int) ++ [(-3)])) a0 fun r6 =>
impl_WeightsFor_l0 N  N 0 false a0 a1 r6 (([] : List Int)) (fun e17_0 e17_1 e17_2 =>
k e17_2 e17_0 e17_1)))
/-! loop.example/g03403/impl.isContradiction -/
def impl_isContradiction {β : Type} (N : Nat) (a0 : Int) (a1 : Int) (a2 : Int) (a3 : Int) (k : Bool → Option β) : Option β :=
(cond (((bits .and .i64 a0 a1) == (bits .and .i64 a2 a3)))
(k (((bits .xor .i64 a0 a1) == (bits .xor .i64 a2 a3))))
(k false))
/-! loop.example/g03403/impl.Contradiction -/
def impl_Contradiction_l4b {β : Type} (N : Nat)  (v0 : Int) (v1 : Int) (v2 : Int) (v3 : Int) (v4 : Int) (v5 : Int) (v6 : Int) (v7 : Int) (rec_ : Int → Int → Int → Int → Int → Int → Int → Int → Option β) (k0 : Bool → List Int → Option β) (k1 : Int → Int → Int → Int → Int → Int → Option β) : Option β :=
(cond ((decide (v5 < v4)))
((cond ((decide (v5 ≤ (bits .xor .i64 (bits .xor .i64 v0 v1) v5))))
(impl_Table_at N v6 v7 v5 fun r10 =>
(cond ((r10 == 0))
(impl_Table_at N v6 v7 ((bits .xor .i64 (bits .xor .i64 v0 v1) v5)) fun r11 =>
(cond ((r11 == 0))
(impl_isContradiction N v0 v1 v5 ((bits .xor .i64 (bits .xor .i64 v0 v1) v5)) fun r12 =>
(cond r12
(k0 true (((((([] : List Int) ++ [v0]) ++ [v1]) ++ [v5]) ++ [(bits .xor .i64 (bits .xor .i64 v0 v1) v5)])))
(rec_ v0 v1 v2 v3 v4 ((w64 (v5 + 1))) v6 v7)))
(rec_ v0 v1 v2 v3 v4 ((w64 (v5 + 1))) v6 v7)))
(rec_ v0 v1 v2 v3 v4 ((w64 (v5 + 1))) v6 v7)))
(rec_ v0 v1 v2 v3 v4 ((w64 (v5 + 1))) v6 v7)))
(k1 v0 v1 v2 v3 v6 v7))
def impl_Contradiction_l4 {β : Type} (N : Nat)  : Nat → Int → Int → Int → Int → Int → Int → Int → Int → (Bool → List Int → Option β) → (Int → Int → Int → Int → Int → Int → Option β) → Option β
  | 0, _, _, _, _, _, _, _, _, _, _ => none
  | F + 1, v0, v1, v2, v3, v4, v5, v6, v7, k0, k1 => impl_Contradiction_l4b N  v0 v1 v2 v3 v4 v5 v6 v7 (fun v0 v1 v2 v3 v4 v5 v6 v7 => impl_Contradiction_l4 N  F v0 v1 v2 v3 v4 v5 v6 v7 k0 k1) k0 k1
def impl_Contradiction_l2b {β : Type} (N : Nat)  (v0 : Int) (v1 : Int) (v2 : Int) (v3 : Int) (v4 : Int) (v5 : Int) (rec_ : Int → Int → Int → Int → Int → Int → Option β) (k0 : Bool → List Int → Option β) (k1 : Int → Int → Int → Int → Option β) : Option β :=
impl_Table_size N v4 v5 fun r6 =>
(cond ((decide (v1 < r6)))
(impl_Table_at N v4 v5 v0 fun r7 =>
(cond ((r7 == 0))
(rec_ v0 ((w64 (v1 + 1))) v2 v3 v4 v5)
(impl_Table_at N v4 v5 v1 fun r8 =>
(cond ((r8 == 0))
(rec_ v0 ((w64 (v1 + 1))) v2 v3 v4 v5)
(impl_Table_size N v4 v5 fun r9 =>
impl_Contradiction_l4 N  N v0 v1 v2 v3 r9 0 v4 v5 (fun e13_0 e13_1 =>
k0 e13_0 e13_1) (fun e14_0 e14_1 e14_2 e14_3 e14_4 e14_5 =>
rec_ e14_0 ((w64 (e14_1 + 1))) e14_2 e14_3 e14_4 e14_5))))))
(k1 v2 v3 v4 v5))
def impl_Contradiction_l2 {β : Type} (N : Nat)  : Nat → Int → Int → Int → Int → Int → Int → (Bool → List Int → Option β) → (Int → Int → Int → Int → Option β) → Option β
  | 0, _, _, _, _, _, _, _, _ => none
  | F + 1, v0, v1, v2, v3, v4, v5, k0, k1 => impl_Contradiction_l2b N  v0 v1 v2 v3 v4 v5 (fun v0 v1 v2 v3 v4 v5 => impl_Contradiction_l2 N  F v0 v1 v2 v3 v4 v5 k0 k1) k0 k1
def impl_Contradiction_l0b {β : Type} (N : Nat)  (v0 : Int) (v1 : Int) (v2 : Int) (v3 : Int) (rec_ : Int → Int → Int → Int → Option β) (k0 : Bool → List Int → Option β) (k1 : Option β) : Option β :=
(cond ((decide (v1 < v0)))
(impl_Contradiction_l2 N  N v1 v1 v0 v1 v2 v3 (fun e15_0 e15_1 =>
k0 e15_0 e15_1) (fun e16_0 e16_1 e16_2 e16_3 =>
rec_ e16_0 ((w64 (e16_1 + 1))) e16_2 e16_3))
(k1 ))
def impl_Contradiction_l0 {β : Type} (N : Nat)  : Nat → Int → Int → Int → Int → (Bool → List Int → Option β) → (Option β) → Option β
  | 0, _, _, _, _, _, _ => none
  | F + 1, v0, v1, v2, v3, k0, k1 => impl_Contradiction_l0b N  v0 v1 v2 v3 (fun v0 v1 v2 v3 => impl_Contradiction_l0 N  F v0 v1 v2 v3 k0 k1) k0 k1
def impl_Contradiction {β : Type} (N : Nat) (a0 : Int) (a1 : Int) (k : List Int → Bool → Option β) : Option β :=
impl_IsTable N a0 a1 fun r4 =>
(cond (!r4)
(k (([] : List Int)) false)
(impl_Table_size N a0 a1 fun r5 =>
impl_Contradiction_l0 N  N r5 0 a0 a1 (fun e17_0 e17_1 =>
k e17_1 e17_0) (k (([] : List Int)) false)))
/-! loop.example/g03403/impl.ClaimOfThreshold -/
def impl_ClaimOfThreshold {β : Type} (N : Nat) (a0 : Int) (a1 : Int) (k : Int → Int → Int → Int → Int → ByteArray → List Int → Bool → Option β) : Option β :=
impl_isSmall N a0 a1 4 fun r10 =>
(cond (!r10)
(k 0 0 0 0 0 ByteArray.empty (([] : List Int)) false)
(impl_WeightsFor N a0 a1 fun r11 r12 r13 =>
(cond r13
(k 2 a0 a1 r12 0 ByteArray.empty r11 true)
(impl_Contradiction N a0 a1 fun r14 r15 =>
(cond (!r15)
(k 0 0 0 0 0 ByteArray.empty (([] : List Int)) false)
(k 3 a0 a1 0 0 ByteArray.empty r14 true))))))
/-! loop.example/g03403/laws.eqTable -/
def laws_eqTable {β : Type} (N : Nat) (a0 : Int) (a1 : Int) (a2 : Int) (a3 : Int) (k : Bool → Option β) : Option β :=
(cond ((a0 != a2))
(k false)
((cond ((a1 != a3))
(k false)
(k true))))
/-! loop.example/g03403/laws.eqIntS -/
def laws_eqIntS_l0b {β : Type} (N : Nat)  (v0 : List Int) (v1 : List Int) (v2 : Int) (rec_ : List Int → List Int → Int → Option β) (k0 : Bool → Option β) (k1 : Option β) : Option β :=
(cond ((decide (v2 < (v0.length : Int))))
((gd ((decide (0 ≤ v2)))
((gd ((decide (v2 < (v0.length : Int))))
((gd ((decide (0 ≤ v2)))
((gd ((decide (v2 < (v1.length : Int))))
((cond (((rd 0 v0 v2) != (rd 0 v1 v2)))
(k0 false)
(rec_ v0 v1 ((w64 (v2 + 1))))))))))))))
(k1 ))
def laws_eqIntS_l0 {β : Type} (N : Nat)  : Nat → List Int → List Int → Int → (Bool → Option β) → (Option β) → Option β
  | 0, _, _, _, _, _ => none
  | F + 1, v0, v1, v2, k0, k1 => laws_eqIntS_l0b N  v0 v1 v2 (fun v0 v1 v2 => laws_eqIntS_l0 N  F v0 v1 v2 k0 k1) k0 k1
def laws_eqIntS {β : Type} (N : Nat) (a0 : List Int) (a1 : List Int) (k : Bool → Option β) : Option β :=
(cond (((a0.length : Int) != (a1.length : Int)))
(k false)
(laws_eqIntS_l0 N  N a0 a1 0 (fun e3_0 =>
k e3_0) (k true)))
/-! loop.example/g03403/laws.eqClaim -/
def laws_eqClaim {β : Type} (N : Nat) (a0 : Int) (a1 : Int) (a2 : Int) (a3 : Int) (a4 : Int) (a5 : ByteArray) (a6 : List Int) (a7 : Int) (a8 : Int) (a9 : Int) (a10 : Int) (a11 : Int) (a12 : ByteArray) (a13 : List Int) (k : Bool → Option β) : Option β :=
(cond ((a0 != a7))
(k false)
(laws_eqTable N a1 a2 a8 a9 fun r15 =>
(cond (!r15)
(k false)
((cond ((a3 != a10))
(k false)
((cond ((a4 != a11))
(k false)
((cond ((!(a5.toList == a12.toList)))
(k false)
(laws_eqIntS N a6 a13 fun r16 =>
(cond (!r16)
(k false)
(k true))))))))))))
/-! loop.example/g03403/laws.heldIntS -/
def laws_heldIntS_l0b {β : Type} (N : Nat)  (v0 : List Int) (v1 : Int) (v2 : Int) (rec_ : List Int → Int → Int → Option β) (k0 : Int → Option β) (k1 : Int → Option β) : Option β :=
(cond ((decide (v2 < (v0.length : Int))))
((gd ((decide (0 ≤ v2)))
((gd ((decide (v2 < (v0.length : Int))))
((cond (((rd 0 v0 v2) != v1))
(k0 (-1))
(rec_ v0 ((w64 (v1 + 1))) ((w64 (v2 + 1))))))))))
(k1 v1))
def laws_heldIntS_l0 {β : Type} (N : Nat)  : Nat → List Int → Int → Int → (Int → Option β) → (Int → Option β) → Option β
  | 0, _, _, _, _, _ => none
  | F + 1, v0, v1, v2, k0, k1 => laws_heldIntS_l0b N  v0 v1 v2 (fun v0 v1 v2 => laws_heldIntS_l0 N  F v0 v1 v2 k0 k1) k0 k1
def laws_heldIntS {β : Type} (N : Nat) (a0 : List Int) (a1 : Int) (k : Int → Option β) : Option β :=
laws_heldIntS_l0 N  N a0 a1 0 (fun e3_0 =>
k e3_0) (fun e4_0 =>
k e4_0)
/-! loop.example/g03403/laws.heldClaim -/
def laws_heldClaim {β : Type} (N : Nat) (a0 : Int) (a1 : Int) (a2 : Int) (a3 : Int) (a4 : Int) (a5 : ByteArray) (a6 : List Int) (a7 : Int) (k : Int → Option β) : Option β :=
laws_heldIntS N a6 a7 fun r9 =>
(cond ((decide (r9 < 0)))
(k (-1))
(k r9))
/-! loop.example/g03403/laws.markIntS -/
def laws_markIntS_l0b {β : Type} (N : Nat)  (v0 : Int) (v1 : Int) (v2 : List Int) (rec_ : Int → Int → List Int → Option β) (k0 : Int → List Int → Option β) : Option β :=
(cond ((decide (v1 < (v2.length : Int))))
((gd ((decide (0 ≤ v1)))
((gd ((decide (v1 < (v2.length : Int))))
(rec_ ((w64 (v0 + 1))) ((w64 (v1 + 1))) ((wr v2 v1 v0)))))))
(k0 v0 v2))
def laws_markIntS_l0 {β : Type} (N : Nat)  : Nat → Int → Int → List Int → (Int → List Int → Option β) → Option β
  | 0, _, _, _, _ => none
  | F + 1, v0, v1, v2, k0 => laws_markIntS_l0b N  v0 v1 v2 (fun v0 v1 v2 => laws_markIntS_l0 N  F v0 v1 v2 k0) k0
def laws_markIntS {β : Type} (N : Nat) (a0 : List Int) (a1 : Int) (k : Int → List Int → Option β) : Option β :=
laws_markIntS_l0 N  N a1 0 a0 (fun e3_0 e3_1 =>
k e3_0 e3_1)
/-! loop.example/g03403/laws.markClaim -/
def laws_markClaim {β : Type} (N : Nat) (a0 : Int) (a1 : Int) (a2 : Int) (a3 : Int) (a4 : Int) (a5 : ByteArray) (a6 : List Int) (a7 : Int) (k : Int → List Int → Option β) : Option β :=
laws_markIntS N a6 a7 fun r9 m10 =>
k r9 m10
/-! loop.example/g03403/laws.FnExactClaimOfThreshold -/
def laws_FnExactClaimOfThreshold {β : Type} (N : Nat) (a0 : Int) (a1 : Int) (k : Bool → Option β) : Option β :=
laws_toTable N a0 a1 fun r3 r4 =>
spec_ClaimOfThreshold N r3 r4 fun r5 r6 r7 r8 r9 r10 r11 r12 =>
laws_toTable N a0 a1 fun r13 r14 =>
impl_ClaimOfThreshold N r13 r14 fun r15 r16 r17 r18 r19 r20 r21 r22 =>
laws_eqClaim N r15 r16 r17 r18 r19 r20 r21 r5 r6 r7 r8 r9 r10 r11 fun r23 =>
(cond (!r23)
(k false)
((cond ((!(r22 == r12)))
(k false)
(laws_markClaim N r15 r16 r17 r18 r19 r20 r21 1 fun r24 m25 =>
laws_heldClaim N r15 r16 r17 r18 r19 r20 m25 1 fun r26 =>
(cond ((decide (r26 < 0)))
(k false)
((cond ((r26 != r24))
(k false)
(laws_toTable N a0 a1 fun r27 r28 =>
impl_ClaimOfThreshold N r27 r28 fun r29 r30 r31 r32 r33 r34 r35 r36 =>
laws_eqClaim N r29 r30 r31 r32 r33 r34 r35 r5 r6 r7 r8 r9 r10 r11 fun r37 =>
(cond (!r37)
(k false)
((cond ((!(r36 == r12)))
(k false)
(laws_heldClaim N r15 r16 r17 r18 r19 r20 m25 1 fun r38 =>
(cond ((decide (r38 < 0)))
(k false)
((cond ((r38 != r24))
(k false)
(k true))))))))))))))))
end Go.Proofs.Ytfdggelojmofmaa
