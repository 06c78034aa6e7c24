/- The texts of the functions that the claims reach: plain Lean, no program. -/
import Derived.Test.YtdkjnadhgdneaaaRvShape
namespace Go.Proofs.Ytdkjnadhgdneaaa
open Go.Rv
set_option linter.unusedVariables false
set_option maxRecDepth 100000
/-! loop.example/g03403/laws.toTable -/
def laws_toTable {β : Type} (N : Nat) (a0 : Int) (a1 : Int) (k : Int → Int → Option β) : Option β :=
k a0 a1
/-! loop.example/g03403/spec.l1In -/
def spec_l1In {β : Type} (N : Nat) (a0 : Int) (a1 : Int) (a2 : Int) (k : Bool → Option β) : Option β :=
(cond ((decide (a0 ≥ a1)))
(k ((decide (a0 ≤ a2))))
(k false))
/-! loop.example/g03403/spec.IsTable -/
def spec_IsTable {β : Type} (N : Nat) (a0 : Int) (a1 : Int) (k : Bool → Option β) : Option β :=
spec_l1In N a0 0 5 fun r3 =>
(cond r3
((gd ((decide (0 ≤ a0)))
((gd ((decide (0 ≤ (shlI .u64 1 a0))))
(spec_l1In N a1 0 ((w64 ((shlI .i64 1 (shlI .u64 1 a0)) - 1))) fun r4 =>
k r4)))))
(k false))
/-! loop.example/g03403/spec.l10At -/
def spec_l10At_l0b {β : Type} (N : Nat)  (v0 : Int) (v1 : Int) (v2 : Int) (v3 : Int) (v4 : Int) (rec_ : Int → Int → Int → Int → Int → Option β) (k0 : Int → Option β) : Option β :=
(cond ((decide (v2 < v3)))
((gd ((decide (0 ≤ v0)))
((gd ((decide (0 ≤ v2)))
((gd ((decide (0 ≤ (bits .xor .i64 v0 (shlI .i64 1 v2)))))
(rec_ v0 ((w64 (v1 + (bits .and .i64 (bits .xor .i64 (shrI .i64 v4 v0) (shrI .i64 v4 (bits .xor .i64 v0 (shlI .i64 1 v2)))) 1)))) ((w64 (v2 + 1))) v3 v4)))))))
(k0 v1))
def spec_l10At_l0 {β : Type} (N : Nat)  : Nat → Int → Int → Int → Int → Int → (Int → Option β) → Option β
  | 0, _, _, _, _, _, _ => none
  | F + 1, v0, v1, v2, v3, v4, k0 => spec_l10At_l0b N  v0 v1 v2 v3 v4 (fun v0 v1 v2 v3 v4 => spec_l10At_l0 N  F v0 v1 v2 v3 v4 k0) k0
def spec_l10At {β : Type} (N : Nat) (a0 : Int) (a1 : Int) (a2 : Int) (k : Int → Option β) : Option β :=
spec_l10At_l0 N  N a2 0 0 a0 a1 (fun e4_0 =>
k e4_0)
/-! loop.example/g03403/spec.SensitivityOf -/
def spec_SensitivityOf_l0b {β : Type} (N : Nat)  (v0 : Int) (v1 : Int) (v2 : Int) (v3 : Int) (rec_ : Int → Int → Int → Int → Option β) (k0 : Int → Option β) : Option β :=
(gd ((decide (0 ≤ v2)))
((cond ((decide (v1 < (shlI .i64 1 v2))))
(spec_l10At N v2 v3 v1 fun r4 =>
rec_ ((mxI v0 r4)) ((w64 (v1 + 1))) v2 v3)
(k0 v0))))
def spec_SensitivityOf_l0 {β : Type} (N : Nat)  : Nat → Int → Int → Int → Int → (Int → Option β) → Option β
  | 0, _, _, _, _, _ => none
  | F + 1, v0, v1, v2, v3, k0 => spec_SensitivityOf_l0b N  v0 v1 v2 v3 (fun v0 v1 v2 v3 => spec_SensitivityOf_l0 N  F v0 v1 v2 v3 k0) k0
def spec_SensitivityOf {β : Type} (N : Nat) (a0 : Int) (a1 : Int) (k : Int → Option β) : Option β :=
spec_IsTable N a0 a1 fun r3 =>
(cond (!r3)
(k (-1))
(spec_SensitivityOf_l0 N  N 0 0 a0 a1 (fun e5_0 =>
k e5_0)))
/-! loop.example/g03403/spec.l9In -/
def spec_l9In {β : Type} (N : Nat) (a0 : Int) (a1 : Int) (a2 : Int) (k : Bool → Option β) : Option β :=
spec_IsTable N a0 a1 fun r4 =>
(cond r4
((gd ((decide (0 ≤ a0)))
(spec_l1In N a2 0 ((w64 ((shlI .i64 1 a0) - 1))) fun r5 =>
k r5)))
(k false))
/-! loop.example/g03403/spec.l10Blocks -/
def spec_l10Blocks_l2b {β : Type} (N : Nat)  (v0 : Int) (v1 : Int) (v2 : Bool) (v3 : Int) (v4 : Int) (v5 : Int) (v6 : List Int) (rec_ : Int → Int → Bool → Int → Int → Int → List Int → Option β) (k0 : Int → Int → Bool → Int → Int → List Int → Option β) : Option β :=
(cond ((decide (v3 < (v6.length : Int))))
((cond v2
((gd ((decide (0 ≤ v3)))
((gd ((decide (v3 < (v6.length : Int))))
((gd ((decide (0 ≤ v3)))
((gd ((decide (v3 < (v6.length : Int))))
(rec_ v0 v1 (((bits .and .i64 (rd 0 v6 v3) v1) != (rd 0 v6 v3))) ((w64 (v3 + 1))) v4 v5 v6)))))))))
(rec_ v0 v1 false ((w64 (v3 + 1))) v4 v5 v6)))
(k0 v0 v1 v2 v4 v5 v6))
def spec_l10Blocks_l2 {β : Type} (N : Nat)  : Nat → Int → Int → Bool → Int → Int → Int → List Int → (Int → Int → Bool → Int → Int → List Int → Option β) → Option β
  | 0, _, _, _, _, _, _, _, _ => none
  | F + 1, v0, v1, v2, v3, v4, v5, v6, k0 => spec_l10Blocks_l2b N  v0 v1 v2 v3 v4 v5 v6 (fun v0 v1 v2 v3 v4 v5 v6 => spec_l10Blocks_l2 N  F v0 v1 v2 v3 v4 v5 v6 k0) k0
def spec_l10Blocks_l0b {β : Type} (N : Nat)  (v0 : Int) (v1 : Int) (v2 : Int) (v3 : Int) (v4 : List Int) (rec_ : Int → Int → Int → Int → List Int → Option β) (k0 : List Int → Option β) : Option β :=
(gd ((decide (0 ≤ v2)))
((cond ((decide (v1 < (shlI .i64 1 v2))))
((gd ((decide (0 ≤ v0)))
((gd ((decide (0 ≤ (bits .xor .i64 v0 v1))))
((cond (((bits .and .i64 (shrI .i64 v3 v0) 1) == (bits .and .i64 (shrI .i64 v3 (bits .xor .i64 v0 v1)) 1)))
(rec_ v0 ((w64 (v1 + 1))) v2 v3 v4)
(spec_l10Blocks_l2 N  N v0 v1 true 0 v2 v3 v4 (fun e4_0 e4_1 e4_2 e4_3 e4_4 e4_5 =>
(cond e4_2
((gd ((decide ((e4_5.length + ((([] : List Int) ++ [e4_1])).length) * 8 ≤ 140737488355328)))
(rec_ e4_0 ((w64 (e4_1 + 1))) e4_3 e4_4 ((e4_5 ++ (([] : List Int) ++ [e4_1]))))))
(rec_ e4_0 ((w64 (e4_1 + 1))) e4_3 e4_4 e4_5))))))))))
(k0 v4))))
def spec_l10Blocks_l0 {β : Type} (N : Nat)  : Nat → Int → Int → Int → Int → List Int → (List Int → Option β) → Option β
  | 0, _, _, _, _, _, _ => none
  | F + 1, v0, v1, v2, v3, v4, k0 => spec_l10Blocks_l0b N  v0 v1 v2 v3 v4 (fun v0 v1 v2 v3 v4 => spec_l10Blocks_l0 N  F v0 v1 v2 v3 v4 k0) k0
def spec_l10Blocks {β : Type} (N : Nat) (a0 : Int) (a1 : Int) (a2 : Int) (k : List Int → Option β) : Option β :=
spec_l10Blocks_l0 N  N a2 1 a0 a1 (([] : List Int)) (fun e5_0 =>
k e5_0)
/-! loop.example/g03403/spec.l10Pack -/
def spec_l10Pack_l0b {β : Type} (N : Nat) (self : List Int → Int → Int → (Int → Option β) → Option β)  (v0 : List Int) (v1 : Int) (v2 : Int) (v3 : Int) (rec_ : List Int → Int → Int → Int → Option β) (k0 : Int → Option β) : Option β :=
(cond ((decide (v3 < (v0.length : Int))))
((gd ((decide (0 ≤ v3)))
((gd ((decide (v3 < (v0.length : Int))))
((cond (((bits .and .i64 (rd 0 v0 v3) v1) == 0))
((gd ((decide (0 ≤ v3)))
((gd ((decide (v3 < (v0.length : Int))))
(self v0 ((w64 (v3 + 1))) ((bits .or .i64 v1 (rd 0 v0 v3))) fun r4 =>
rec_ v0 v1 ((mxI v2 (w64 (1 + r4)))) ((w64 (v3 + 1))))))))
(rec_ v0 v1 v2 ((w64 (v3 + 1))))))))))
(k0 v2))
def spec_l10Pack_l0 {β : Type} (N : Nat) (self : List Int → Int → Int → (Int → Option β) → Option β)  : Nat → List Int → Int → Int → Int → (Int → Option β) → Option β
  | 0, _, _, _, _, _ => none
  | F + 1, v0, v1, v2, v3, k0 => spec_l10Pack_l0b N self  v0 v1 v2 v3 (fun v0 v1 v2 v3 => spec_l10Pack_l0 N self  F v0 v1 v2 v3 k0) k0
def spec_l10Pack_b {β : Type} (N : Nat) (self : List Int → Int → Int → (Int → Option β) → Option β) (a0 : List Int) (a1 : Int) (a2 : Int) (k : Int → Option β) : Option β :=
spec_l10Pack_l0 N self  N a0 a2 0 a1 (fun e5_0 =>
k e5_0)
def spec_l10Pack_f {β : Type} (N : Nat) : Nat → List Int → Int → Int → (Int → Option β) → Option β
  | 0, _, _, _, _ => none
  | F + 1, a0, a1, a2, k => spec_l10Pack_b N (spec_l10Pack_f N F) a0 a1 a2 k
def spec_l10Pack {β : Type} (N : Nat) (a0 : List Int) (a1 : Int) (a2 : Int) (k : Int → Option β) : Option β := spec_l10Pack_f N N a0 a1 a2 k
/-! loop.example/g03403/spec.BlockSensitivityAt -/
def spec_BlockSensitivityAt {β : Type} (N : Nat) (a0 : Int) (a1 : Int) (a2 : Int) (k : Int → Option β) : Option β :=
spec_l9In N a0 a1 a2 fun r4 =>
(cond (!r4)
(k (-1))
(spec_l10Blocks N a0 a1 a2 fun r5 =>
spec_l10Pack N r5 0 0 fun r6 =>
k r6))
/-! loop.example/g03403/spec.BlockSensitivityOf -/
def spec_BlockSensitivityOf_l0b {β : Type} (N : Nat)  (v0 : Int) (v1 : Int) (v2 : Int) (v3 : Int) (rec_ : Int → Int → Int → Int → Option β) (k0 : Int → Option β) : Option β :=
(gd ((decide (0 ≤ v2)))
((cond ((decide (v1 < (shlI .i64 1 v2))))
(spec_BlockSensitivityAt N v2 v3 v1 fun r4 =>
rec_ ((mxI v0 r4)) ((w64 (v1 + 1))) v2 v3)
(k0 v0))))
def spec_BlockSensitivityOf_l0 {β : Type} (N : Nat)  : Nat → Int → Int → Int → Int → (Int → Option β) → Option β
  | 0, _, _, _, _, _ => none
  | F + 1, v0, v1, v2, v3, k0 => spec_BlockSensitivityOf_l0b N  v0 v1 v2 v3 (fun v0 v1 v2 v3 => spec_BlockSensitivityOf_l0 N  F v0 v1 v2 v3 k0) k0
def spec_BlockSensitivityOf {β : Type} (N : Nat) (a0 : Int) (a1 : Int) (k : Int → Option β) : Option β :=
spec_IsTable N a0 a1 fun r3 =>
(cond (!r3)
(k (-1))
(spec_BlockSensitivityOf_l0 N  N 0 0 a0 a1 (fun e5_0 =>
k e5_0)))
/-! loop.example/g03403/spec.l2Count -/
def spec_l2Count_l0b {β : Type} (N : Nat)  (v0 : Int) (v1 : Int) (rec_ : Int → Int → Option β) (k0 : Int → Option β) : Option β :=
(cond ((decide (v1 > 0)))
(rec_ ((w64 (v0 + (bits .and .i64 v1 1)))) ((shrI .i64 v1 1)))
(k0 v0))
def spec_l2Count_l0 {β : Type} (N : Nat)  : Nat → Int → Int → (Int → Option β) → Option β
  | 0, _, _, _ => none
  | F + 1, v0, v1, k0 => spec_l2Count_l0b N  v0 v1 (fun v0 v1 => spec_l2Count_l0 N  F v0 v1 k0) k0
def spec_l2Count {β : Type} (N : Nat) (a0 : Int) (k : Int → Option β) : Option β :=
spec_l2Count_l0 N  N 0 a0 (fun e2_0 =>
k e2_0)
/-! loop.example/g03403/spec.l3Cube -/
def spec_l3Cube_l0b {β : Type} (N : Nat)  (v0 : Int) (v1 : Int) (v2 : Int) (v3 : Int) (v4 : Int) (v5 : Int) (rec_ : Int → Int → Int → Int → Int → Int → Option β) (k0 : Int → Option β) (k1 : Int → Option β) : Option β :=
(gd ((decide (0 ≤ v4)))
((cond ((decide (v3 < (shlI .i64 1 v4))))
((cond (((bits .and .i64 v3 v0) != v1))
(rec_ v0 v1 v2 ((w64 (v3 + 1))) v4 v5)
((gd ((decide (0 ≤ v3)))
((cond ((decide (v2 ≥ 0)))
((cond ((v2 != (bits .and .i64 (shrI .i64 v5 v3) 1)))
(k0 2)
(rec_ v0 v1 ((bits .and .i64 (shrI .i64 v5 v3) 1)) ((w64 (v3 + 1))) v4 v5)))
(rec_ v0 v1 ((bits .and .i64 (shrI .i64 v5 v3) 1)) ((w64 (v3 + 1))) v4 v5)))))))
(k1 v2))))
def spec_l3Cube_l0 {β : Type} (N : Nat)  : Nat → Int → Int → Int → Int → Int → Int → (Int → Option β) → (Int → Option β) → Option β
  | 0, _, _, _, _, _, _, _, _ => none
  | F + 1, v0, v1, v2, v3, v4, v5, k0, k1 => spec_l3Cube_l0b N  v0 v1 v2 v3 v4 v5 (fun v0 v1 v2 v3 v4 v5 => spec_l3Cube_l0 N  F v0 v1 v2 v3 v4 v5 k0 k1) k0 k1
def spec_l3Cube {β : Type} (N : Nat) (a0 : Int) (a1 : Int) (a2 : Int) (a3 : Int) (k : Int → Option β) : Option β :=
spec_l3Cube_l0 N  N a2 a3 (-1) 0 a0 a1 (fun e5_0 =>
k e5_0) (fun e6_0 =>
k e6_0)
/-! loop.example/g03403/spec.l9Set -/
def spec_l9Set_l0b {β : Type} (N : Nat)  (v0 : Int) (v1 : Int) (v2 : Int) (v3 : Int) (v4 : Int) (rec_ : Int → Int → Int → Int → Int → Option β) (k0 : Int → Option β) : Option β :=
(gd ((decide (0 ≤ v3)))
((cond ((decide (v2 < (shlI .i64 1 v3))))
(spec_l2Count N v2 fun r4 =>
spec_l2Count N v1 fun r5 =>
(cond ((decide (r4 < r5)))
(spec_l3Cube N v3 v4 v2 ((bits .and .i64 v0 v2)) fun r6 =>
(cond ((decide (r6 < 2)))
(rec_ v0 v2 ((w64 (v2 + 1))) v3 v4)
(rec_ v0 v1 ((w64 (v2 + 1))) v3 v4)))
(rec_ v0 v1 ((w64 (v2 + 1))) v3 v4)))
(k0 v1))))
def spec_l9Set_l0 {β : Type} (N : Nat)  : Nat → Int → Int → Int → Int → Int → (Int → Option β) → Option β
  | 0, _, _, _, _, _, _ => none
  | F + 1, v0, v1, v2, v3, v4, k0 => spec_l9Set_l0b N  v0 v1 v2 v3 v4 (fun v0 v1 v2 v3 v4 => spec_l9Set_l0 N  F v0 v1 v2 v3 v4 k0) k0
def spec_l9Set {β : Type} (N : Nat) (a0 : Int) (a1 : Int) (a2 : Int) (k : Int → Option β) : Option β :=
(gd ((decide (0 ≤ a0)))
(spec_l9Set_l0 N  N a2 ((w64 ((shlI .i64 1 a0) - 1))) 0 a0 a1 (fun e7_0 =>
k e7_0)))
/-! loop.example/g03403/spec.CertificateAt -/
def spec_CertificateAt {β : Type} (N : Nat) (a0 : Int) (a1 : Int) (a2 : Int) (k : Int → Option β) : Option β :=
spec_l9In N a0 a1 a2 fun r4 =>
(cond (!r4)
(k (-1))
(spec_l9Set N a0 a1 a2 fun r5 =>
spec_l2Count N r5 fun r6 =>
k r6))
/-! loop.example/g03403/spec.CertificateOf -/
def spec_CertificateOf_l0b {β : Type} (N : Nat)  (v0 : Int) (v1 : Int) (v2 : Int) (v3 : Int) (v4 : Int) (rec_ : Int → Int → Int → Int → Int → Option β) (k0 : Int → Option β) : Option β :=
(gd ((decide (0 ≤ v3)))
((cond ((decide (v2 < (shlI .i64 1 v3))))
((gd ((decide (0 ≤ v2)))
((cond (((bits .and .i64 (shrI .i64 v4 v2) 1) == v0))
(spec_CertificateAt N v3 v4 v2 fun r6 =>
rec_ v0 ((mxI v1 r6)) ((w64 (v2 + 1))) v3 v4)
(rec_ v0 v1 ((w64 (v2 + 1))) v3 v4)))))
(k0 v1))))
def spec_CertificateOf_l0 {β : Type} (N : Nat)  : Nat → Int → Int → Int → Int → Int → (Int → Option β) → Option β
  | 0, _, _, _, _, _, _ => none
  | F + 1, v0, v1, v2, v3, v4, k0 => spec_CertificateOf_l0b N  v0 v1 v2 v3 v4 (fun v0 v1 v2 v3 v4 => spec_CertificateOf_l0 N  F v0 v1 v2 v3 v4 k0) k0
def spec_CertificateOf {β : Type} (N : Nat) (a0 : Int) (a1 : Int) (a2 : Int) (k : Int → Option β) : Option β :=
spec_IsTable N a0 a1 fun r4 =>
(cond (!r4)
(k (-1))
(spec_l1In N a2 0 1 fun r5 =>
(cond (!r5)
(k (-1))
(spec_CertificateOf_l0 N  N a2 0 0 a0 a1 (fun e7_0 =>
k e7_0)))))
/-! loop.example/g03403/spec.l7Least -/
def spec_l7Least_l0b {β : Type} (N : Nat) (self : Int → Int → Int → Int → (Int → Option β) → Option β)  (v0 : Int) (v1 : Int) (v2 : Int) (v3 : Int) (v4 : Int) (v5 : Int) (rec_ : Int → Int → Int → Int → Int → Int → Option β) (k0 : Int → Option β) : Option β :=
(cond ((decide (v3 < v4)))
((gd ((decide (0 ≤ v3)))
((cond (((bits .and .i64 v0 (shlI .i64 1 v3)) == 0))
(self v4 v5 ((bits .or .i64 v0 (shlI .i64 1 v3))) v1 fun r6 =>
self v4 v5 ((bits .or .i64 v0 (shlI .i64 1 v3))) ((bits .or .i64 v1 (shlI .i64 1 v3))) fun r7 =>
rec_ v0 v1 ((mnI v2 (w64 (1 + (mxI r6 r7))))) ((w64 (v3 + 1))) v4 v5)
(rec_ v0 v1 v2 ((w64 (v3 + 1))) v4 v5)))))
(k0 v2))
def spec_l7Least_l0 {β : Type} (N : Nat) (self : Int → Int → Int → Int → (Int → Option β) → Option β)  : Nat → Int → Int → Int → Int → Int → Int → (Int → Option β) → Option β
  | 0, _, _, _, _, _, _, _ => none
  | F + 1, v0, v1, v2, v3, v4, v5, k0 => spec_l7Least_l0b N self  v0 v1 v2 v3 v4 v5 (fun v0 v1 v2 v3 v4 v5 => spec_l7Least_l0 N self  F v0 v1 v2 v3 v4 v5 k0) k0
def spec_l7Least_b {β : Type} (N : Nat) (self : Int → Int → Int → Int → (Int → Option β) → Option β) (a0 : Int) (a1 : Int) (a2 : Int) (a3 : Int) (k : Int → Option β) : Option β :=
spec_l3Cube N a0 a1 a2 a3 fun r5 =>
(cond ((decide (r5 < 2)))
(k 0)
(spec_l7Least_l0 N self  N a2 a3 10 0 a0 a1 (fun e8_0 =>
k e8_0)))
def spec_l7Least_f {β : Type} (N : Nat) : Nat → Int → Int → Int → Int → (Int → Option β) → Option β
  | 0, _, _, _, _, _ => none
  | F + 1, a0, a1, a2, a3, k => spec_l7Least_b N (spec_l7Least_f N F) a0 a1 a2 a3 k
def spec_l7Least {β : Type} (N : Nat) (a0 : Int) (a1 : Int) (a2 : Int) (a3 : Int) (k : Int → Option β) : Option β := spec_l7Least_f N N a0 a1 a2 a3 k
/-! loop.example/g03403/spec.LeastDepth -/
def spec_LeastDepth {β : Type} (N : Nat) (a0 : Int) (a1 : Int) (k : Int → Option β) : Option β :=
spec_IsTable N a0 a1 fun r3 =>
(cond (!r3)
(k (-1))
((cond ((decide (a0 > 4)))
(k (-1))
(spec_l7Least N a0 a1 0 0 fun r4 =>
k r4))))
/-! loop.example/g03403/spec.RealCoefficients -/
def spec_RealCoefficients_l2b {β : Type} (N : Nat)  (v0 : Int) (v1 : Int) (v2 : Int) (v3 : Int) (v4 : Int) (v5 : List Int) (rec_ : Int → Int → Int → Int → Int → List Int → Option β) (k0 : Int → Int → Int → Int → List Int → Option β) : Option β :=
(cond ((decide (v2 ≤ v0)))
((cond (((bits .and .i64 v2 v0) != v2))
(rec_ v0 v1 ((w64 (v2 + 1))) v3 v4 v5)
(spec_l2Count N ((bits .xor .i64 v0 v2)) fun r4 =>
(cond (((remI r4 2) == 1))
((gd ((decide (0 ≤ v2)))
(rec_ v0 ((w64 (v1 - (bits .and .i64 (shrI .i64 v4 v2) 1)))) ((w64 (v2 + 1))) v3 v4 v5)))
((gd ((decide (0 ≤ v2)))
(rec_ v0 ((w64 (v1 + (bits .and .i64 (shrI .i64 v4 v2) 1)))) ((w64 (v2 + 1))) v3 v4 v5)))))))
(k0 v0 v1 v3 v4 v5))
def spec_RealCoefficients_l2 {β : Type} (N : Nat)  : Nat → Int → Int → Int → Int → Int → List Int → (Int → Int → Int → Int → List Int → Option β) → Option β
  | 0, _, _, _, _, _, _, _ => none
  | F + 1, v0, v1, v2, v3, v4, v5, k0 => spec_RealCoefficients_l2b N  v0 v1 v2 v3 v4 v5 (fun v0 v1 v2 v3 v4 v5 => spec_RealCoefficients_l2 N  F v0 v1 v2 v3 v4 v5 k0) k0
def spec_RealCoefficients_l0b {β : Type} (N : Nat)  (v0 : Int) (v1 : Int) (v2 : Int) (v3 : List Int) (rec_ : Int → Int → Int → List Int → Option β) (k0 : List Int → Option β) : Option β :=
spec_IsTable N v1 v2 fun r3 =>
(cond r3
((gd ((decide (0 ≤ v1)))
((cond ((decide (v0 < (shlI .i64 1 v1))))
(spec_RealCoefficients_l2 N  N v0 0 0 v1 v2 v3 (fun e5_0 e5_1 e5_2 e5_3 e5_4 =>
(gd ((decide ((e5_4.length + ((([] : List Int) ++ [e5_1])).length) * 8 ≤ 140737488355328)))
(rec_ ((w64 (e5_0 + 1))) e5_2 e5_3 ((e5_4 ++ (([] : List Int) ++ [e5_1])))))))
(k0 v3)))))
(k0 v3))
def spec_RealCoefficients_l0 {β : Type} (N : Nat)  : Nat → Int → Int → Int → List Int → (List Int → Option β) → Option β
  | 0, _, _, _, _, _ => none
  | F + 1, v0, v1, v2, v3, k0 => spec_RealCoefficients_l0b N  v0 v1 v2 v3 (fun v0 v1 v2 v3 => spec_RealCoefficients_l0 N  F v0 v1 v2 v3 k0) k0
def spec_RealCoefficients {β : Type} (N : Nat) (a0 : Int) (a1 : Int) (k : List Int → Option β) : Option β :=
spec_RealCoefficients_l0 N  N 0 a0 a1 (([] : List Int)) (fun e6_0 =>
k e6_0)
/-! loop.example/g03403/spec.RealDegree -/
def spec_RealDegree_l0b {β : Type} (N : Nat)  (v0 : Int) (v1 : Int) (v2 : List Int) (rec_ : Int → Int → List Int → Option β) (k0 : Int → Option β) : Option β :=
(cond ((decide (v1 < (v2.length : Int))))
((gd ((decide (0 ≤ v1)))
((gd ((decide (v1 < (v2.length : Int))))
((cond (((rd 0 v2 v1) != 0))
(spec_l2Count N v1 fun r5 =>
rec_ ((mxI v0 r5)) ((w64 (v1 + 1))) v2)
(rec_ v0 ((w64 (v1 + 1))) v2)))))))
(k0 v0))
def spec_RealDegree_l0 {β : Type} (N : Nat)  : Nat → Int → Int → List Int → (Int → Option β) → Option β
  | 0, _, _, _, _ => none
  | F + 1, v0, v1, v2, k0 => spec_RealDegree_l0b N  v0 v1 v2 (fun v0 v1 v2 => spec_RealDegree_l0 N  F v0 v1 v2 k0) k0
def spec_RealDegree {β : Type} (N : Nat) (a0 : Int) (a1 : Int) (k : Int → Option β) : Option β :=
spec_IsTable N a0 a1 fun r3 =>
(cond (!r3)
(k (-2))
(spec_RealCoefficients N a0 a1 fun r4 =>
spec_RealDegree_l0 N  N (-1) 0 r4 (fun e6_0 =>
k e6_0)))
/-! loop.example/g03403/spec.l11Anf -/
def spec_l11Anf_l2b {β : Type} (N : Nat)  (v0 : Int) (v1 : Int) (v2 : Int) (v3 : Int) (v4 : Int) (v5 : Int) (rec_ : Int → Int → Int → Int → Int → Int → Option β) (k0 : Int → Int → Int → Int → Int → Option β) : Option β :=
(cond ((decide (v3 ≤ v1)))
((cond (((bits .and .i64 v3 v1) == v3))
((gd ((decide (0 ≤ v3)))
(rec_ v0 v1 ((w64 (v2 + (bits .and .i64 (shrI .i64 v5 v3) 1)))) ((w64 (v3 + 1))) v4 v5)))
(rec_ v0 v1 v2 ((w64 (v3 + 1))) v4 v5)))
(k0 v0 v1 v2 v4 v5))
def spec_l11Anf_l2 {β : Type} (N : Nat)  : Nat → Int → Int → Int → Int → Int → Int → (Int → Int → Int → Int → Int → Option β) → Option β
  | 0, _, _, _, _, _, _, _ => none
  | F + 1, v0, v1, v2, v3, v4, v5, k0 => spec_l11Anf_l2b N  v0 v1 v2 v3 v4 v5 (fun v0 v1 v2 v3 v4 v5 => spec_l11Anf_l2 N  F v0 v1 v2 v3 v4 v5 k0) k0
def spec_l11Anf_l0b {β : Type} (N : Nat)  (v0 : Int) (v1 : Int) (v2 : Int) (v3 : Int) (rec_ : Int → Int → Int → Int → Option β) (k0 : Int → Option β) : Option β :=
(gd ((decide (0 ≤ v2)))
((cond ((decide (v1 < (shlI .i64 1 v2))))
(spec_l11Anf_l2 N  N v0 v1 0 0 v2 v3 (fun e3_0 e3_1 e3_2 e3_3 e3_4 =>
(gd ((decide (0 ≤ e3_1)))
(rec_ ((bits .or .i64 e3_0 (shlI .i64 (remI e3_2 2) e3_1))) ((w64 (e3_1 + 1))) e3_3 e3_4))))
(k0 v0))))
def spec_l11Anf_l0 {β : Type} (N : Nat)  : Nat → Int → Int → Int → Int → (Int → Option β) → Option β
  | 0, _, _, _, _, _ => none
  | F + 1, v0, v1, v2, v3, k0 => spec_l11Anf_l0b N  v0 v1 v2 v3 (fun v0 v1 v2 v3 => spec_l11Anf_l0 N  F v0 v1 v2 v3 k0) k0
def spec_l11Anf {β : Type} (N : Nat) (a0 : Int) (a1 : Int) (k : Int → Option β) : Option β :=
spec_l11Anf_l0 N  N 0 0 a0 a1 (fun e4_0 =>
k e4_0)
/-! loop.example/g03403/spec.DegreeMod2 -/
def spec_DegreeMod2_l0b {β : Type} (N : Nat)  (v0 : Int) (v1 : Int) (v2 : Int) (v3 : Int) (v4 : Int) (rec_ : Int → Int → Int → Int → Int → Option β) (k0 : Int → Option β) : Option β :=
(gd ((decide (0 ≤ v3)))
((cond ((decide (v2 < (shlI .i64 1 v3))))
((gd ((decide (0 ≤ v2)))
((cond (((bits .and .i64 (shrI .i64 v0 v2) 1) == 1))
(spec_l2Count N v2 fun r5 =>
rec_ v0 ((mxI v1 r5)) ((w64 (v2 + 1))) v3 v4)
(rec_ v0 v1 ((w64 (v2 + 1))) v3 v4)))))
(k0 v1))))
def spec_DegreeMod2_l0 {β : Type} (N : Nat)  : Nat → Int → Int → Int → Int → Int → (Int → Option β) → Option β
  | 0, _, _, _, _, _, _ => none
  | F + 1, v0, v1, v2, v3, v4, k0 => spec_DegreeMod2_l0b N  v0 v1 v2 v3 v4 (fun v0 v1 v2 v3 v4 => spec_DegreeMod2_l0 N  F v0 v1 v2 v3 v4 k0) k0
def spec_DegreeMod2 {β : Type} (N : Nat) (a0 : Int) (a1 : Int) (k : Int → Option β) : Option β :=
spec_IsTable N a0 a1 fun r3 =>
(cond (!r3)
(k (-2))
(spec_l11Anf N a0 a1 fun r4 =>
spec_DegreeMod2_l0 N  N r4 (-1) 0 a0 a1 (fun e6_0 =>
k e6_0)))
/-! loop.example/g03403/spec.CountOnes -/
def spec_CountOnes {β : Type} (N : Nat) (a0 : Int) (a1 : Int) (k : Int → Option β) : Option β :=
spec_IsTable N a0 a1 fun r3 =>
(cond (!r3)
(k (-1))
(spec_l2Count N a1 fun r4 =>
k r4))
/-! loop.example/g03403/spec.SensitiveEdges -/
def spec_SensitiveEdges_l0b {β : Type} (N : Nat)  (v0 : Int) (v1 : Int) (v2 : Int) (v3 : Int) (rec_ : Int → Int → Int → Int → Option β) (k0 : Int → Option β) : Option β :=
(gd ((decide (0 ≤ v2)))
((cond ((decide (v1 < (shlI .i64 1 v2))))
(spec_l10At N v2 v3 v1 fun r4 =>
rec_ ((w64 (v0 + r4))) ((w64 (v1 + 1))) v2 v3)
(k0 v0))))
def spec_SensitiveEdges_l0 {β : Type} (N : Nat)  : Nat → Int → Int → Int → Int → (Int → Option β) → Option β
  | 0, _, _, _, _, _ => none
  | F + 1, v0, v1, v2, v3, k0 => spec_SensitiveEdges_l0b N  v0 v1 v2 v3 (fun v0 v1 v2 v3 => spec_SensitiveEdges_l0 N  F v0 v1 v2 v3 k0) k0
def spec_SensitiveEdges {β : Type} (N : Nat) (a0 : Int) (a1 : Int) (k : Int → Option β) : Option β :=
spec_IsTable N a0 a1 fun r3 =>
(cond (!r3)
(k (-1))
(spec_SensitiveEdges_l0 N  N 0 0 a0 a1 (fun e5_0 =>
k ((quoI .i64 e5_0 2)))))
/-! loop.example/g03403/spec.TotalInfluence -/
def spec_TotalInfluence {β : Type} (N : Nat) (a0 : Int) (a1 : Int) (k : Int → Option β) : Option β :=
spec_IsTable N a0 a1 fun r3 =>
(cond (!r3)
(k (-1))
(spec_SensitiveEdges N a0 a1 fun r4 =>
k ((w64 (2 * r4)))))
/-! loop.example/g03403/spec.MeasureOf -/
def spec_MeasureOf {β : Type} (N : Nat) (a0 : ByteArray) (a1 : Int) (a2 : Int) (k : Int → Option β) : Option β :=
spec_IsTable N a1 a2 fun r4 =>
(cond (!r4)
(k (-1))
((cond ((decide (a1 > 4)))
(k (-1))
((cond ((a0.toList == ((strOf [115, 101, 110, 115, 105, 116, 105, 118, 105, 116, 121])).toList))
(spec_SensitivityOf N a1 a2 fun r5 =>
k r5)
((cond ((a0.toList == ((strOf [98, 108, 111, 99, 107, 115])).toList))
(spec_BlockSensitivityOf N a1 a2 fun r6 =>
k r6)
((cond ((a0.toList == ((strOf [99, 101, 114, 116, 105, 102, 105, 99, 97, 116, 101])).toList))
(spec_CertificateOf N a1 a2 0 fun r7 =>
spec_CertificateOf N a1 a2 1 fun r8 =>
k ((mxI r7 r8)))
((cond ((a0.toList == ((strOf [100, 101, 112, 116, 104])).toList))
(spec_LeastDepth N a1 a2 fun r9 =>
k r9)
((cond ((a0.toList == ((strOf [100, 101, 103, 114, 101, 101])).toList))
(spec_RealDegree N a1 a2 fun r10 =>
k ((mxI 0 r10)))
((cond ((a0.toList == ((strOf [100, 101, 103, 114, 101, 101, 50])).toList))
(spec_DegreeMod2 N a1 a2 fun r11 =>
k ((mxI 0 r11)))
((cond ((a0.toList == ((strOf [111, 110, 101, 115])).toList))
(spec_CountOnes N a1 a2 fun r12 =>
k r12)
((cond ((a0.toList == ((strOf [105, 110, 102, 108, 117, 101, 110, 99, 101])).toList))
(spec_TotalInfluence N a1 a2 fun r13 =>
k r13)
(k (-1)))))))))))))))))))))
/-! loop.example/g03403/impl.isBits -/
def impl_isBits {β : Type} (N : Nat) (a0 : Int) (k : Bool → Option β) : Option β :=
(cond ((decide (a0 ≥ 0)))
(k ((decide (a0 ≤ 5))))
(k false))
/-! (loop.example/g03403/impl.Table).size -/
def impl_Table_size {β : Type} (N : Nat) (a0 : Int) (a1 : Int) (k : Int → Option β) : Option β :=
(gd ((decide (0 ≤ a0)))
(k ((shlI .i64 1 a0))))
/-! loop.example/g03403/impl.IsTable -/
def impl_IsTable {β : Type} (N : Nat) (a0 : Int) (a1 : Int) (k : Bool → Option β) : Option β :=
impl_isBits N a0 fun r3 =>
(cond r3
((cond ((decide (a1 ≥ 0)))
(impl_Table_size N a0 a1 fun r4 =>
(gd ((decide (0 ≤ r4)))
(k (((shrI .i64 a1 r4) == 0)))))
(k false)))
(k false))
/-! loop.example/g03403/impl.isSmall -/
def impl_isSmall {β : Type} (N : Nat) (a0 : Int) (a1 : Int) (a2 : Int) (k : Bool → Option β) : Option β :=
impl_IsTable N a0 a1 fun r4 =>
(cond r4
(k ((decide (a0 ≤ a2))))
(k false))
/-! (loop.example/g03403/impl.Table).at -/
def impl_Table_at {β : Type} (N : Nat) (a0 : Int) (a1 : Int) (a2 : Int) (k : Int → Option β) : Option β :=
(gd ((decide (0 ≤ a2)))
(k ((bits .and .i64 (shrI .i64 a1 a2) 1))))
/-! (loop.example/g03403/impl.Table).changes -/
def impl_Table_changes {β : Type} (N : Nat) (a0 : Int) (a1 : Int) (a2 : Int) (a3 : Int) (k : Bool → Option β) : Option β :=
impl_Table_at N a0 a1 a2 fun r5 =>
impl_Table_at N a0 a1 ((bits .xor .i64 a2 a3)) fun r6 =>
k ((r5 != r6))
/-! (loop.example/g03403/impl.Table).sensitivity -/
def impl_Table_sensitivity_l0b {β : Type} (N : Nat)  (v0 : Int) (v1 : Int) (v2 : Int) (v3 : Int) (v4 : Int) (v5 : Int) (rec_ : Int → Int → Int → Int → Int → Int → Option β) (k0 : Int → Option β) : Option β :=
(cond ((decide (v3 < v2)))
((gd ((decide (0 ≤ v3)))
(impl_Table_changes N v4 v5 v0 ((shlI .i64 1 v3)) fun r4 =>
(cond r4
(rec_ v0 ((w64 (v1 + 1))) v2 ((w64 (v3 + 1))) v4 v5)
(rec_ v0 v1 v2 ((w64 (v3 + 1))) v4 v5)))))
(k0 v1))
def impl_Table_sensitivity_l0 {β : Type} (N : Nat)  : Nat → Int → Int → Int → Int → Int → Int → (Int → Option β) → Option β
  | 0, _, _, _, _, _, _, _ => none
  | F + 1, v0, v1, v2, v3, v4, v5, k0 => impl_Table_sensitivity_l0b N  v0 v1 v2 v3 v4 v5 (fun v0 v1 v2 v3 v4 v5 => impl_Table_sensitivity_l0 N  F v0 v1 v2 v3 v4 v5 k0) k0
def impl_Table_sensitivity {β : Type} (N : Nat) (a0 : Int) (a1 : Int) (a2 : Int) (k : Int → Option β) : Option β :=
impl_Table_sensitivity_l0 N  N a2 0 a0 0 a0 a1 (fun e5_0 =>
k e5_0)
/-! loop.example/g03403/impl.SensitivityOf -/
def impl_SensitivityOf_l0b {β : Type} (N : Nat)  (v0 : Int) (v1 : Int) (v2 : Int) (v3 : Int) (v4 : Int) (rec_ : Int → Int → Int → Int → Int → Option β) (k0 : Int → Option β) : Option β :=
(cond ((decide (v2 < v1)))
(impl_Table_sensitivity N v3 v4 v2 fun r5 =>
rec_ ((mxI v0 r5)) v1 ((w64 (v2 + 1))) v3 v4)
(k0 v0))
def impl_SensitivityOf_l0 {β : Type} (N : Nat)  : Nat → Int → Int → Int → Int → Int → (Int → Option β) → Option β
  | 0, _, _, _, _, _, _ => none
  | F + 1, v0, v1, v2, v3, v4, k0 => impl_SensitivityOf_l0b N  v0 v1 v2 v3 v4 (fun v0 v1 v2 v3 v4 => impl_SensitivityOf_l0 N  F v0 v1 v2 v3 v4 k0) k0
def impl_SensitivityOf {β : Type} (N : Nat) (a0 : Int) (a1 : Int) (k : Int → Option β) : Option β :=
impl_IsTable N a0 a1 fun r3 =>
(cond (!r3)
(k (-1))
(impl_Table_size N a0 a1 fun r4 =>
impl_SensitivityOf_l0 N  N 0 r4 0 a0 a1 (fun e6_0 =>
k e6_0)))
/-! (loop.example/g03403/impl.Table).blocks -/
def impl_Table_blocks_l2b {β : Type} (N : Nat)  (v0 : Int) (v1 : Int) (v2 : Bool) (v3 : Int) (v4 : Int) (v5 : Int) (v6 : Int) (v7 : Int) (v8 : List Int) (rec_ : Int → Int → Bool → Int → Int → Int → Int → Int → List Int → Option β) (k0 : Int → Int → Bool → Int → Int → Int → Int → List Int → Option β) : Option β :=
(cond v2
((cond ((decide (v3 > 0)))
(impl_Table_changes N v6 v7 v0 v3 fun r6 =>
rec_ v0 v1 (!r6) ((bits .and .i64 (w64 (v3 - 1)) v1)) v4 v5 v6 v7 v8)
(k0 v0 v1 v2 v4 v5 v6 v7 v8)))
(k0 v0 v1 v2 v4 v5 v6 v7 v8))
def impl_Table_blocks_l2 {β : Type} (N : Nat)  : Nat → Int → Int → Bool → Int → Int → Int → Int → Int → List Int → (Int → Int → Bool → Int → Int → Int → Int → List Int → Option β) → Option β
  | 0, _, _, _, _, _, _, _, _, _, _ => none
  | F + 1, v0, v1, v2, v3, v4, v5, v6, v7, v8, k0 => impl_Table_blocks_l2b N  v0 v1 v2 v3 v4 v5 v6 v7 v8 (fun v0 v1 v2 v3 v4 v5 v6 v7 v8 => impl_Table_blocks_l2 N  F v0 v1 v2 v3 v4 v5 v6 v7 v8 k0) k0
def impl_Table_blocks_l0b {β : Type} (N : Nat)  (v0 : Int) (v1 : Int) (v2 : Int) (v3 : Int) (v4 : Int) (v5 : List Int) (rec_ : Int → Int → Int → Int → Int → List Int → Option β) (k0 : List Int → Option β) : Option β :=
(cond ((decide (v2 < v1)))
(impl_Table_changes N v3 v4 v0 v2 fun r5 =>
impl_Table_blocks_l2 N  N v0 v2 r5 ((bits .and .i64 (w64 (v2 - 1)) v2)) v1 v2 v3 v4 v5 (fun e7_0 e7_1 e7_2 e7_3 e7_4 e7_5 e7_6 e7_7 =>
(cond e7_2
((gd ((decide ((e7_7.length + ((([] : List Int) ++ [e7_1])).length) * 8 ≤ 140737488355328)))
(rec_ e7_0 e7_3 ((w64 (e7_4 + 1))) e7_5 e7_6 ((e7_7 ++ (([] : List Int) ++ [e7_1]))))))
(rec_ e7_0 e7_3 ((w64 (e7_4 + 1))) e7_5 e7_6 e7_7))))
(k0 v5))
def impl_Table_blocks_l0 {β : Type} (N : Nat)  : Nat → Int → Int → Int → Int → Int → List Int → (List Int → Option β) → Option β
  | 0, _, _, _, _, _, _, _ => none
  | F + 1, v0, v1, v2, v3, v4, v5, k0 => impl_Table_blocks_l0b N  v0 v1 v2 v3 v4 v5 (fun v0 v1 v2 v3 v4 v5 => impl_Table_blocks_l0 N  F v0 v1 v2 v3 v4 v5 k0) k0
def impl_Table_blocks {β : Type} (N : Nat) (a0 : Int) (a1 : Int) (a2 : Int) (k : List Int → Option β) : Option β :=
impl_Table_size N a0 a1 fun r4 =>
impl_Table_blocks_l0 N  N a2 r4 0 a0 a1 (([] : List Int)) (fun e8_0 =>
k e8_0)
/-! (loop.example/g03403/impl.Table).apart -/
def impl_Table_apart_l2b {β : Type} (N : Nat)  (v0 : Int) (v1 : Int) (v2 : Int) (v3 : Int) (v4 : Int) (v5 : Int) (v6 : Int) (v7 : List Int) (v8 : List Int) (rec_ : Int → Int → Int → Int → Int → Int → Int → List Int → List Int → Option β) (k0 : Int → Int → Int → Int → List Int → List Int → Option β) : Option β :=
(cond ((decide (v4 < v3)))
((gd ((decide (0 ≤ v4)))
((gd ((decide (v4 < (v7.length : Int))))
((cond (((bits .andNot .i64 (rd 0 v7 v4) v0) == 0))
((gd ((decide (0 ≤ v0)))
((gd ((decide (v0 < (v8.length : Int))))
((gd ((decide (0 ≤ (bits .andNot .i64 v0 (rd 0 v7 v4)))))
((gd ((decide ((bits .andNot .i64 v0 (rd 0 v7 v4)) < (v8.length : Int))))
((gd ((decide (0 ≤ v0)))
((gd ((decide (v0 < (v8.length : Int))))
(rec_ v0 v1 v2 v3 ((w64 (v4 + 1))) v5 v6 v7 ((wr v8 v0 (mxI (rd 0 v8 v0) (w64 (1 + (rd 0 v8 (bits .andNot .i64 v0 (rd 0 v7 v4)))))))))))))))))))))
(rec_ v0 v1 v2 v3 ((w64 (v4 + 1))) v5 v6 v7 v8)))))))
(k0 v1 v2 v5 v6 v7 v8))
def impl_Table_apart_l2 {β : Type} (N : Nat)  : Nat → Int → Int → Int → Int → Int → Int → Int → List Int → List Int → (Int → Int → Int → Int → List Int → List Int → Option β) → Option β
  | 0, _, _, _, _, _, _, _, _, _, _ => none
  | F + 1, v0, v1, v2, v3, v4, v5, v6, v7, v8, k0 => impl_Table_apart_l2b N  v0 v1 v2 v3 v4 v5 v6 v7 v8 (fun v0 v1 v2 v3 v4 v5 v6 v7 v8 => impl_Table_apart_l2 N  F v0 v1 v2 v3 v4 v5 v6 v7 v8 k0) k0
def impl_Table_apart_l0b {β : Type} (N : Nat)  (v0 : Int) (v1 : Int) (v2 : Int) (v3 : Int) (v4 : List Int) (v5 : List Int) (rec_ : Int → Int → Int → Int → List Int → List Int → Option β) (k0 : Int → Int → List Int → Option β) : Option β :=
(cond ((decide (v1 < v0)))
(impl_Table_apart_l2 N  N v1 v0 v1 ((v4.length : Int)) 0 v2 v3 v4 v5 (fun e6_0 e6_1 e6_2 e6_3 e6_4 e6_5 =>
rec_ e6_0 ((w64 (e6_1 + 1))) e6_2 e6_3 e6_4 e6_5))
(k0 v2 v3 v5))
def impl_Table_apart_l0 {β : Type} (N : Nat)  : Nat → Int → Int → Int → Int → List Int → List Int → (Int → Int → List Int → Option β) → Option β
  | 0, _, _, _, _, _, _, _ => none
  | F + 1, v0, v1, v2, v3, v4, v5, k0 => impl_Table_apart_l0b N  v0 v1 v2 v3 v4 v5 (fun v0 v1 v2 v3 v4 v5 => impl_Table_apart_l0 N  F v0 v1 v2 v3 v4 v5 k0) k0
def impl_Table_apart {β : Type} (N : Nat) (a0 : Int) (a1 : Int) (a2 : Int) (k : Int → Option β) : Option β :=
impl_Table_blocks N a0 a1 a2 fun r4 =>
impl_Table_size N a0 a1 fun r5 =>
(gd ((decide (0 ≤ r5)))
((gd ((decide (r5 ≤ r5)))
((gd ((decide (8 * r5 ≤ 281474976710656)))
(impl_Table_apart_l0 N  N ((((List.replicate (Int.toNat r5) (0 : Int))).length : Int)) 0 a0 a1 r4 ((List.replicate (Int.toNat r5) (0 : Int))) (fun e7_0 e7_1 e7_2 =>
impl_Table_size N e7_0 e7_1 fun r8 =>
(gd ((decide (0 ≤ (w64 (r8 - 1)))))
((gd ((decide ((w64 (r8 - 1)) < (e7_2.length : Int))))
(k ((rd 0 e7_2 (w64 (r8 - 1)))))))))))))))
/-! loop.example/g03403/impl.BlockSensitivityOf -/
def impl_BlockSensitivityOf_l0b {β : Type} (N : Nat)  (v0 : Int) (v1 : Int) (v2 : Int) (v3 : Int) (v4 : Int) (rec_ : Int → Int → Int → Int → Int → Option β) (k0 : Int → Option β) : Option β :=
(cond ((decide (v2 < v1)))
(impl_Table_apart N v3 v4 v2 fun r5 =>
rec_ ((mxI v0 r5)) v1 ((w64 (v2 + 1))) v3 v4)
(k0 v0))
def impl_BlockSensitivityOf_l0 {β : Type} (N : Nat)  : Nat → Int → Int → Int → Int → Int → (Int → Option β) → Option β
  | 0, _, _, _, _, _, _ => none
  | F + 1, v0, v1, v2, v3, v4, k0 => impl_BlockSensitivityOf_l0b N  v0 v1 v2 v3 v4 (fun v0 v1 v2 v3 v4 => impl_BlockSensitivityOf_l0 N  F v0 v1 v2 v3 v4 k0) k0
def impl_BlockSensitivityOf {β : Type} (N : Nat) (a0 : Int) (a1 : Int) (k : Int → Option β) : Option β :=
impl_IsTable N a0 a1 fun r3 =>
(cond (!r3)
(k (-1))
(impl_Table_size N a0 a1 fun r4 =>
impl_BlockSensitivityOf_l0 N  N 0 r4 0 a0 a1 (fun e6_0 =>
k e6_0)))
/-! loop.example/g03403/impl.isBit -/
def impl_isBit {β : Type} (N : Nat) (a0 : Int) (k : Bool → Option β) : Option β :=
(cond ((a0 == 0))
(k true)
(k ((a0 == 1))))
/-! math/bits.OnesCount64 -/
def math_bits_OnesCount64 {β : Type} (N : Nat) (a0 : Int) (k : Int → Option β) : Option β :=
k ((bits .and .i64 (w64 ((wu64 ((wu64 ((wu64 ((bits .and .u64 (wu64 ((shrI .u64 (wu64 ((bits .and .u64 (shrI .u64 (wu64 ((bits .and .u64 (shrI .u64 a0 1) 6148914691236517205) + (bits .and .u64 a0 6148914691236517205))) 2) 3689348814741910323) + (bits .and .u64 (wu64 ((bits .and .u64 (shrI .u64 a0 1) 6148914691236517205) + (bits .and .u64 a0 6148914691236517205))) 3689348814741910323))) 4) + (wu64 ((bits .and .u64 (shrI .u64 (wu64 ((bits .and .u64 (shrI .u64 a0 1) 6148914691236517205) + (bits .and .u64 a0 6148914691236517205))) 2) 3689348814741910323) + (bits .and .u64 (wu64 ((bits .and .u64 (shrI .u64 a0 1) 6148914691236517205) + (bits .and .u64 a0 6148914691236517205))) 3689348814741910323))))) 1085102592571150095) + (shrI .u64 (bits .and .u64 (wu64 ((shrI .u64 (wu64 ((bits .and .u64 (shrI .u64 (wu64 ((bits .and .u64 (shrI .u64 a0 1) 6148914691236517205) + (bits .and .u64 a0 6148914691236517205))) 2) 3689348814741910323) + (bits .and .u64 (wu64 ((bits .and .u64 (shrI .u64 a0 1) 6148914691236517205) + (bits .and .u64 a0 6148914691236517205))) 3689348814741910323))) 4) + (wu64 ((bits .and .u64 (shrI .u64 (wu64 ((bits .and .u64 (shrI .u64 a0 1) 6148914691236517205) + (bits .and .u64 a0 6148914691236517205))) 2) 3689348814741910323) + (bits .and .u64 (wu64 ((bits .and .u64 (shrI .u64 a0 1) 6148914691236517205) + (bits .and .u64 a0 6148914691236517205))) 3689348814741910323))))) 1085102592571150095) 8))) + (shrI .u64 (wu64 ((bits .and .u64 (wu64 ((shrI .u64 (wu64 ((bits .and .u64 (shrI .u64 (wu64 ((bits .and .u64 (shrI .u64 a0 1) 6148914691236517205) + (bits .and .u64 a0 6148914691236517205))) 2) 3689348814741910323) + (bits .and .u64 (wu64 ((bits .and .u64 (shrI .u64 a0 1) 6148914691236517205) + (bits .and .u64 a0 6148914691236517205))) 3689348814741910323))) 4) + (wu64 ((bits .and .u64 (shrI .u64 (wu64 ((bits .and .u64 (shrI .u64 a0 1) 6148914691236517205) + (bits .and .u64 a0 6148914691236517205))) 2) 3689348814741910323) + (bits .and .u64 (wu64 ((bits .and .u64 (shrI .u64 a0 1) 6148914691236517205) + (bits .and .u64 a0 6148914691236517205))) 3689348814741910323))))) 1085102592571150095) + (shrI .u64 (bits .and .u64 (wu64 ((shrI .u64 (wu64 ((bits .and .u64 (shrI .u64 (wu64 ((bits .and .u64 (shrI .u64 a0 1) 6148914691236517205) + (bits .and .u64 a0 6148914691236517205))) 2) 3689348814741910323) + (bits .and .u64 (wu64 ((bits .and .u64 (shrI .u64 a0 1) 6148914691236517205) + (bits .and .u64 a0 6148914691236517205))) 3689348814741910323))) 4) + (wu64 ((bits .and .u64 (shrI .u64 (wu64 ((bits .and .u64 (shrI .u64 a0 1) 6148914691236517205) + (bits .and .u64 a0 6148914691236517205))) 2) 3689348814741910323) + (bits .and .u64 (wu64 ((bits .and .u64 (shrI .u64 a0 1) 6148914691236517205) + (bits .and .u64 a0 6148914691236517205))) 3689348814741910323))))) 1085102592571150095) 8))) 16))) + (shrI .u64 (wu64 ((wu64 ((bits .and .u64 (wu64 ((shrI .u64 (wu64 ((bits .and .u64 (shrI .u64 (wu64 ((bits .and .u64 (shrI .u64 a0 1) 6148914691236517205) + (bits .and .u64 a0 6148914691236517205))) 2) 3689348814741910323) + (bits .and .u64 (wu64 ((bits .and .u64 (shrI .u64 a0 1) 6148914691236517205) + (bits .and .u64 a0 6148914691236517205))) 3689348814741910323))) 4) + (wu64 ((bits .and .u64 (shrI .u64 (wu64 ((bits .and .u64 (shrI .u64 a0 1) 6148914691236517205) + (bits .and .u64 a0 6148914691236517205))) 2) 3689348814741910323) + (bits .and .u64 (wu64 ((bits .and .u64 (shrI .u64 a0 1) 6148914691236517205) + (bits .and .u64 a0 6148914691236517205))) 3689348814741910323))))) 1085102592571150095) + (shrI .u64 (bits .and .u64 (wu64 ((shrI .u64 (wu64 ((bits .and .u64 (shrI .u64 (wu64 ((bits .and .u64 (shrI .u64 a0 1) 6148914691236517205) + (bits .and .u64 a0 6148914691236517205))) 2) 3689348814741910323) + (bits .and .u64 (wu64 ((bits .and .u64 (shrI .u64 a0 1) 6148914691236517205) + (bits .and .u64 a0 6148914691236517205))) 3689348814741910323))) 4) + (wu64 ((bits .and .u64 (shrI .u64 (wu64 ((bits .and .u64 (shrI .u64 a0 1) 6148914691236517205) + (bits .and .u64 a0 6148914691236517205))) 2) 3689348814741910323) + (bits .and .u64 (wu64 ((bits .and .u64 (shrI .u64 a0 1) 6148914691236517205) + (bits .and .u64 a0 6148914691236517205))) 3689348814741910323))))) 1085102592571150095) 8))) + (shrI .u64 (wu64 ((bits .and .u64 (wu64 ((shrI .u64 (wu64 ((bits .and .u64 (shrI .u64 (wu64 ((bits .and .u64 (shrI .u64 a0 1) 6148914691236517205) + (bits .and .u64 a0 6148914691236517205))) 2) 3689348814741910323) + (bits .and .u64 (wu64 ((bits .and .u64 (shrI .u64 a0 1) 6148914691236517205) + (bits .and .u64 a0 6148914691236517205))) 3689348814741910323))) 4) + (wu64 ((bits .and .u64 (shrI .u64 (wu64 ((bits .and .u64 (shrI .u64 a0 1) 6148914691236517205) + (bits .and .u64 a0 6148914691236517205))) 2) 3689348814741910323) + (bits .and .u64 (wu64 ((bits .and .u64 (shrI .u64 a0 1) 6148914691236517205) + (bits .and .u64 a0 6148914691236517205))) 3689348814741910323))))) 1085102592571150095) + (shrI .u64 (bits .and .u64 (wu64 ((shrI .u64 (wu64 ((bits .and .u64 (shrI .u64 (wu64 ((bits .and .u64 (shrI .u64 a0 1) 6148914691236517205) + (bits .and .u64 a0 6148914691236517205))) 2) 3689348814741910323) + (bits .and .u64 (wu64 ((bits .and .u64 (shrI .u64 a0 1) 6148914691236517205) + (bits .and .u64 a0 6148914691236517205))) 3689348814741910323))) 4) + (wu64 ((bits .and .u64 (shrI .u64 (wu64 ((bits .and .u64 (shrI .u64 a0 1) 6148914691236517205) + (bits .and .u64 a0 6148914691236517205))) 2) 3689348814741910323) + (bits .and .u64 (wu64 ((bits .and .u64 (shrI .u64 a0 1) 6148914691236517205) + (bits .and .u64 a0 6148914691236517205))) 3689348814741910323))))) 1085102592571150095) 8))) 16))) 32))))) 127))
/-! loop.example/g03403/impl.ones -/
def impl_ones {β : Type} (N : Nat) (a0 : Int) (k : Int → Option β) : Option β :=
math_bits_OnesCount64 N ((wu64 (a0))) fun r2 =>
k r2
/-! (loop.example/g03403/impl.Table).cube -/
def impl_Table_cube_l0b {β : Type} (N : Nat)  (v0 : Int) (v1 : Int) (v2 : Int) (v3 : Int) (v4 : Int) (v5 : Int) (v6 : Bool) (v7 : Bool) (rec_ : Int → Int → Int → Int → Int → Int → Bool → Bool → Option β) (k0 : Bool → Bool → Option β) : Option β :=
(cond ((decide (v3 < v2)))
((cond (((bits .and .i64 v3 v0) == v1))
(impl_Table_at N v4 v5 v3 fun r6 =>
(gd ((decide (0 ≤ r6)))
((gd ((decide (r6 < 2)))
((cond ((r6 == 0))
(rec_ v0 v1 v2 ((w64 (v3 + 1))) v4 v5 true v7)
(rec_ v0 v1 v2 ((w64 (v3 + 1))) v4 v5 v6 true)))))))
(rec_ v0 v1 v2 ((w64 (v3 + 1))) v4 v5 v6 v7)))
(k0 v6 v7))
def impl_Table_cube_l0 {β : Type} (N : Nat)  : Nat → Int → Int → Int → Int → Int → Int → Bool → Bool → (Bool → Bool → Option β) → Option β
  | 0, _, _, _, _, _, _, _, _, _ => none
  | F + 1, v0, v1, v2, v3, v4, v5, v6, v7, k0 => impl_Table_cube_l0b N  v0 v1 v2 v3 v4 v5 v6 v7 (fun v0 v1 v2 v3 v4 v5 v6 v7 => impl_Table_cube_l0 N  F v0 v1 v2 v3 v4 v5 v6 v7 k0) k0
def impl_Table_cube {β : Type} (N : Nat) (a0 : Int) (a1 : Int) (a2 : Int) (a3 : Int) (k : Int → Option β) : Option β :=
impl_Table_size N a0 a1 fun r5 =>
impl_Table_cube_l0 N  N a2 a3 r5 0 a0 a1 false false (fun e7_0 e7_1 =>
(cond e7_0
((cond e7_1
(k 2)
((cond e7_1
(k 1)
(k 0)))))
((cond e7_1
(k 1)
(k 0)))))
/-! (loop.example/g03403/impl.Table).certifies -/
def impl_Table_certifies {β : Type} (N : Nat) (a0 : Int) (a1 : Int) (a2 : Int) (a3 : Int) (k : Bool → Option β) : Option β :=
impl_Table_cube N a0 a1 a3 ((bits .and .i64 a2 a3)) fun r5 =>
k ((r5 != 2))
/-! (loop.example/g03403/impl.Table).certificate -/
def impl_Table_certificate_l0b {β : Type} (N : Nat)  (v0 : Int) (v1 : Int) (v2 : Int) (v3 : Int) (v4 : Int) (v5 : Int) (rec_ : Int → Int → Int → Int → Int → Int → Option β) (k0 : Int → Option β) : Option β :=
(cond ((decide (v3 < v2)))
(impl_ones N v3 fun r6 =>
impl_ones N v1 fun r7 =>
(cond ((decide (r6 < r7)))
(impl_Table_certifies N v4 v5 v0 v3 fun r8 =>
(cond r8
(rec_ v0 v3 v2 ((w64 (v3 + 1))) v4 v5)
(rec_ v0 v1 v2 ((w64 (v3 + 1))) v4 v5)))
(rec_ v0 v1 v2 ((w64 (v3 + 1))) v4 v5)))
(k0 v1))
def impl_Table_certificate_l0 {β : Type} (N : Nat)  : Nat → Int → Int → Int → Int → Int → Int → (Int → Option β) → Option β
  | 0, _, _, _, _, _, _, _ => none
  | F + 1, v0, v1, v2, v3, v4, v5, k0 => impl_Table_certificate_l0b N  v0 v1 v2 v3 v4 v5 (fun v0 v1 v2 v3 v4 v5 => impl_Table_certificate_l0 N  F v0 v1 v2 v3 v4 v5 k0) k0
def impl_Table_certificate {β : Type} (N : Nat) (a0 : Int) (a1 : Int) (a2 : Int) (k : Int → Option β) : Option β :=
impl_Table_size N a0 a1 fun r4 =>
impl_Table_size N a0 a1 fun r5 =>
impl_Table_certificate_l0 N  N a2 ((w64 (r4 - 1))) r5 0 a0 a1 (fun e9_0 =>
k e9_0)
/-! loop.example/g03403/impl.CertificateOf -/
def impl_CertificateOf_l0b {β : Type} (N : Nat)  (v0 : Int) (v1 : Int) (v2 : Int) (v3 : Int) (v4 : Int) (v5 : Int) (rec_ : Int → Int → Int → Int → Int → Int → Option β) (k0 : Int → Option β) : Option β :=
(cond ((decide (v3 < v2)))
(impl_Table_at N v4 v5 v3 fun r7 =>
(cond ((r7 == v0))
(impl_Table_certificate N v4 v5 v3 fun r8 =>
impl_ones N r8 fun r9 =>
rec_ v0 ((mxI v1 r9)) v2 ((w64 (v3 + 1))) v4 v5)
(rec_ v0 v1 v2 ((w64 (v3 + 1))) v4 v5)))
(k0 v1))
def impl_CertificateOf_l0 {β : Type} (N : Nat)  : Nat → Int → Int → Int → Int → Int → Int → (Int → Option β) → Option β
  | 0, _, _, _, _, _, _, _ => none
  | F + 1, v0, v1, v2, v3, v4, v5, k0 => impl_CertificateOf_l0b N  v0 v1 v2 v3 v4 v5 (fun v0 v1 v2 v3 v4 v5 => impl_CertificateOf_l0 N  F v0 v1 v2 v3 v4 v5 k0) k0
def impl_CertificateOf {β : Type} (N : Nat) (a0 : Int) (a1 : Int) (a2 : Int) (k : Int → Option β) : Option β :=
impl_IsTable N a0 a1 fun r4 =>
(cond (!r4)
(k (-1))
(impl_isBit N a2 fun r5 =>
(cond (!r5)
(k (-1))
(impl_Table_size N a0 a1 fun r6 =>
impl_CertificateOf_l0 N  N a2 0 r6 0 a0 a1 (fun e10_0 =>
k e10_0)))))
/-! (loop.example/g03403/impl.Table).asking -/
def impl_Table_asking_g0 {β : Type} (N : Nat) (a0 : Int) (a1 : Int) (k0 : Int → Int → Mp → Mp → Option β) : Option β :=
k0 a0 a1 (([] : Mp)) (([] : Mp))
/-! (loop.example/g03403/impl.known).with -/
def impl_known_with {β : Type} (N : Nat) (a0 : Int) (a1 : Int) (a2 : Int) (a3 : Int) (k : Int → Int → Option β) : Option β :=
(gd ((decide (0 ≤ a2)))
((gd ((decide (0 ≤ a2)))
(k ((bits .or .i64 a0 (shlI .i64 1 a2))) ((bits .or .i64 a1 (shlI .i64 a3 a2)))))))
/-! (*loop.example/g03403/impl.asker).left -/
def impl_asker_left_l0b {β : Type} (N : Nat) (self : Int → Int → Int → Int → Mp → Mp → (Int → Int → Int → Mp → Mp → Option β) → Option β)  (v0 : Int) (v1 : Int) (v2 : Int) (v3 : Int) (v4 : Int) (v5 : Mp) (v6 : Mp) (v7 : Int) (v8 : Int) (rec_ : Int → Int → Int → Int → Int → Mp → Mp → Int → Int → Option β) (k0 : Int → Int → Int → Mp → Mp → Int → Int → Option β) : Option β :=
(cond ((decide (v2 < v1)))
((gd ((decide (0 ≤ v2)))
((cond (((bits .and .i64 (shrI .i64 v7 v2) 1) == 0))
(impl_known_with N v7 v8 v2 0 fun r6 r7 =>
self r6 r7 v3 v4 v5 v6 (fun r8_0 r8_1 r8_2 r8_3 r8_4 =>
impl_known_with N v7 v8 v2 1 fun r9 r10 =>
self r9 r10 r8_1 r8_2 r8_3 r8_4 (fun r11_0 r11_1 r11_2 r11_3 r11_4 =>
rec_ ((mnI v0 (w64 (1 + (mxI r8_0 r11_0))))) v1 ((w64 (v2 + 1))) r11_1 r11_2 r11_3 r11_4 v7 v8)))
(rec_ v0 v1 ((w64 (v2 + 1))) v3 v4 v5 v6 v7 v8)))))
(k0 v0 v3 v4 v5 v6 v7 v8))
def impl_asker_left_l0 {β : Type} (N : Nat) (self : Int → Int → Int → Int → Mp → Mp → (Int → Int → Int → Mp → Mp → Option β) → Option β)  : Nat → Int → Int → Int → Int → Int → Mp → Mp → Int → Int → (Int → Int → Int → Mp → Mp → Int → Int → Option β) → Option β
  | 0, _, _, _, _, _, _, _, _, _, _ => none
  | F + 1, v0, v1, v2, v3, v4, v5, v6, v7, v8, k0 => impl_asker_left_l0b N self  v0 v1 v2 v3 v4 v5 v6 v7 v8 (fun v0 v1 v2 v3 v4 v5 v6 v7 v8 => impl_asker_left_l0 N self  F v0 v1 v2 v3 v4 v5 v6 v7 v8 k0) k0
def impl_asker_left_g0_b {β : Type} (N : Nat) (self : Int → Int → Int → Int → Mp → Mp → (Int → Int → Int → Mp → Mp → Option β) → Option β) (a0 : Int) (a1 : Int) (a2 : Int) (a3 : Int) (a4 : Mp) (a5 : Mp) (k0 : Int → Int → Int → Mp → Mp → Option β) : Option β :=
(cond ((hasM ⟨true, false⟩ a4 a0 a1))
(k0 ((getM ⟨true, false⟩ a4 a0 a1)) a2 a3 a4 a5)
(impl_Table_cube N a2 a3 a0 a1 fun r5 =>
(cond ((r5 == 2))
(impl_asker_left_l0 N self  N a2 a2 0 a2 a3 a4 a5 a0 a1 (fun e12_0 e12_1 e12_2 e12_3 e12_4 e12_5 e12_6 =>
k0 e12_0 e12_1 e12_2 ((putM ⟨true, false⟩ e12_3 e12_5 e12_6 e12_0)) e12_4))
(k0 0 a2 a3 ((putM ⟨true, false⟩ a4 a0 a1 0)) a5))))
def impl_asker_left_g0_f {β : Type} (N : Nat) : Nat → Int → Int → Int → Int → Mp → Mp → (Int → Int → Int → Mp → Mp → Option β) → Option β
  | 0, _, _, _, _, _, _, _ => none
  | F + 1, a0, a1, a2, a3, a4, a5, k0 => impl_asker_left_g0_b N (impl_asker_left_g0_f N F) a0 a1 a2 a3 a4 a5 k0
def impl_asker_left_g0 {β : Type} (N : Nat) (a0 : Int) (a1 : Int) (a2 : Int) (a3 : Int) (a4 : Mp) (a5 : Mp) (k0 : Int → Int → Int → Mp → Mp → Option β) : Option β := impl_asker_left_g0_f N N a0 a1 a2 a3 a4 a5 k0
/-! loop.example/g03403/impl.LeastDepth -/
def impl_LeastDepth {β : Type} (N : Nat) (a0 : Int) (a1 : Int) (k : Int → Option β) : Option β :=
impl_isSmall N a0 a1 4 fun r3 =>
(cond (!r3)
(k (-1))
(impl_Table_asking_g0 N a0 a1 (fun r4_0 r4_1 r4_2 r4_3 =>
impl_asker_left_g0 N 0 0 r4_0 r4_1 r4_2 r4_3 (fun r5_0 r5_1 r5_2 r5_3 r5_4 =>
k r5_0))))
/-! (loop.example/g03403/impl.Table).coefficients -/
def impl_Table_coefficients_l2b {β : Type} (N : Nat)  (v0 : Int) (v1 : Int) (v2 : Int) (v3 : Int) (v4 : Int) (v5 : Int) (v6 : Int) (v7 : List Int) (rec_ : Int → Int → Int → Int → Int → Int → Int → List Int → Option β) (k0 : Int → Int → Int → Int → List Int → Option β) : Option β :=
(cond ((decide (v4 < v3)))
((cond (((bits .andNot .i64 v4 v0) != 0))
(rec_ v0 v1 v2 v3 ((w64 (v4 + 1))) v5 v6 v7)
(impl_ones N ((bits .xor .i64 v0 v4)) fun r5 =>
(cond (((remI r5 2) == 0))
((gd ((decide (0 ≤ v0)))
((gd ((decide (v0 < (v7.length : Int))))
(impl_Table_at N v5 v6 v4 fun r6 =>
(gd ((decide (0 ≤ v0)))
((gd ((decide (v0 < (v7.length : Int))))
(rec_ v0 v1 v2 v3 ((w64 (v4 + 1))) v5 v6 ((wr v7 v0 (w64 ((rd 0 v7 v0) + r6)))))))))))))
((gd ((decide (0 ≤ v0)))
((gd ((decide (v0 < (v7.length : Int))))
(impl_Table_at N v5 v6 v4 fun r7 =>
(gd ((decide (0 ≤ v0)))
((gd ((decide (v0 < (v7.length : Int))))
(rec_ v0 v1 v2 v3 ((w64 (v4 + 1))) v5 v6 ((wr v7 v0 (w64 ((rd 0 v7 v0) - r7)))))))))))))))))
(k0 v1 v2 v5 v6 v7))
def impl_Table_coefficients_l2 {β : Type} (N : Nat)  : Nat → Int → Int → Int → Int → Int → Int → Int → List Int → (Int → Int → Int → Int → List Int → Option β) → Option β
  | 0, _, _, _, _, _, _, _, _, _ => none
  | F + 1, v0, v1, v2, v3, v4, v5, v6, v7, k0 => impl_Table_coefficients_l2b N  v0 v1 v2 v3 v4 v5 v6 v7 (fun v0 v1 v2 v3 v4 v5 v6 v7 => impl_Table_coefficients_l2 N  F v0 v1 v2 v3 v4 v5 v6 v7 k0) k0
def impl_Table_coefficients_l0b {β : Type} (N : Nat)  (v0 : Int) (v1 : Int) (v2 : Int) (v3 : Int) (v4 : List Int) (rec_ : Int → Int → Int → Int → List Int → Option β) (k0 : List Int → Option β) : Option β :=
(cond ((decide (v1 < v0)))
(impl_Table_size N v2 v3 fun r4 =>
impl_Table_coefficients_l2 N  N v1 v0 v1 r4 0 v2 v3 v4 (fun e8_0 e8_1 e8_2 e8_3 e8_4 =>
rec_ e8_0 ((w64 (e8_1 + 1))) e8_2 e8_3 e8_4))
(k0 v4))
def impl_Table_coefficients_l0 {β : Type} (N : Nat)  : Nat → Int → Int → Int → Int → List Int → (List Int → Option β) → Option β
  | 0, _, _, _, _, _, _ => none
  | F + 1, v0, v1, v2, v3, v4, k0 => impl_Table_coefficients_l0b N  v0 v1 v2 v3 v4 (fun v0 v1 v2 v3 v4 => impl_Table_coefficients_l0 N  F v0 v1 v2 v3 v4 k0) k0
def impl_Table_coefficients {β : Type} (N : Nat) (a0 : Int) (a1 : Int) (k : List Int → Option β) : Option β :=
impl_Table_size N a0 a1 fun r3 =>
(gd ((decide (0 ≤ r3)))
((gd ((decide (r3 ≤ r3)))
((gd ((decide (8 * r3 ≤ 281474976710656)))
(impl_Table_coefficients_l0 N  N ((((List.replicate (Int.toNat r3) (0 : Int))).length : Int)) 0 a0 a1 ((List.replicate (Int.toNat r3) (0 : Int))) (fun e9_0 =>
k e9_0)))))))
/-! loop.example/g03403/impl.RealDegree$1 -/
def impl_RealDegree_1 {β : Type} (N : Nat) (a0 : Int) (c0 : List Int) (k : Bool → Option β) : Option β :=
(gd ((decide (0 ≤ a0)))
((gd ((decide (a0 < (c0.length : Int))))
(k (((rd 0 c0 a0) != 0))))))
/-! loop.example/g03403/impl.DegreeMod2$1 -/
def impl_DegreeMod2_1 {β : Type} (N : Nat) (a0 : Int) (c0 : Int) (c1 : Int) (k : Bool → Option β) : Option β :=
impl_Table_at N c0 c1 a0 fun r2 =>
k ((r2 == 1))
/-! loop.example/g03403/impl.degree -/
def impl_degree_l0b {β : Type} (N : Nat) (a1 : (Int → (Bool → Option β) → Option β)) (v0 : Int) (v1 : Int) (v2 : Int) (rec_ : Int → Int → Int → Option β) (k0 : Int → Option β) : Option β :=
(cond ((decide (v2 < v1)))
(a1 v2 fun r3 =>
(cond r3
(impl_ones N v2 fun r4 =>
rec_ ((mxI v0 r4)) v1 ((w64 (v2 + 1))))
(rec_ v0 v1 ((w64 (v2 + 1))))))
(k0 v0))
def impl_degree_l0 {β : Type} (N : Nat) (a1 : (Int → (Bool → Option β) → Option β)) : Nat → Int → Int → Int → (Int → Option β) → Option β
  | 0, _, _, _, _ => none
  | F + 1, v0, v1, v2, k0 => impl_degree_l0b N a1 v0 v1 v2 (fun v0 v1 v2 => impl_degree_l0 N a1 F v0 v1 v2 k0) k0
def impl_degree {β : Type} (N : Nat) (a0 : Int) (a1 : (Int → (Bool → Option β) → Option β)) (k : Int → Option β) : Option β :=
(gd ((decide (0 ≤ a0)))
(impl_degree_l0 N a1 N (-1) ((shlI .i64 1 a0)) 0 (fun e5_0 =>
k e5_0)))
/-! loop.example/g03403/impl.RealDegree -/
def impl_RealDegree {β : Type} (N : Nat) (a0 : Int) (a1 : Int) (k : Int → Option β) : Option β :=
impl_IsTable N a0 a1 fun r3 =>
(cond (!r3)
(k (-2))
(impl_Table_coefficients N a0 a1 fun r4 =>
impl_degree N a0 (fun x0 k => impl_RealDegree_1 N x0 r4 k) fun r5 =>
k r5))
/-! (loop.example/g03403/impl.Table).anf$1 -/
def impl_Table_anf_1_l0b {β : Type} (N : Nat)  (v0 : Int) (v1 : Int) (v2 : Int) (v3 : Int) (v4 : Int) (v5 : Int) (rec_ : Int → Int → Int → Int → Int → Int → Option β) (k0 : Int → Option β) : Option β :=
(cond ((decide (v5 < v4)))
((cond (((bits .andNot .i64 v5 v0) == 0))
(impl_Table_at N v1 v2 v5 fun r3 =>
rec_ v0 v1 v2 ((bits .xor .i64 v3 r3)) v4 ((w64 (v5 + 1))))
(rec_ v0 v1 v2 v3 v4 ((w64 (v5 + 1))))))
(k0 v3))
def impl_Table_anf_1_l0 {β : Type} (N : Nat)  : Nat → Int → Int → Int → Int → Int → Int → (Int → Option β) → Option β
  | 0, _, _, _, _, _, _, _ => none
  | F + 1, v0, v1, v2, v3, v4, v5, k0 => impl_Table_anf_1_l0b N  v0 v1 v2 v3 v4 v5 (fun v0 v1 v2 v3 v4 v5 => impl_Table_anf_1_l0 N  F v0 v1 v2 v3 v4 v5 k0) k0
def impl_Table_anf_1 {β : Type} (N : Nat) (a0 : Int) (c0 : Int) (c1 : Int) (k : Bool → Option β) : Option β :=
impl_Table_size N c0 c1 fun r2 =>
impl_Table_anf_1_l0 N  N a0 c0 c1 0 r2 0 (fun e4_0 =>
k ((e4_0 == 1)))
/-! loop.example/g03403/impl.spread -/
def impl_spread {β : Type} (N : Nat) (a0 : Int) (a1 : Int) (a2 : Int) (k : Int → Option β) : Option β :=
(gd ((decide (0 ≤ a1)))
((gd ((decide (0 ≤ a1)))
(k ((bits .or .i64 (bits .or .i64 (shlI .i64 (w64 (a0 - (bits .and .i64 a0 (w64 ((shlI .i64 1 a1) - 1))))) 1) (shlI .i64 a2 a1)) (bits .and .i64 a0 (w64 ((shlI .i64 1 a1) - 1)))))))))
/-! (loop.example/g03403/impl.Table).restrict$1 -/
def impl_Table_restrict_1 {β : Type} (N : Nat) (a0 : Int) (c0 : Int) (c1 : Int) (c2 : Int) (c3 : Int) (k : Bool → Option β) : Option β :=
impl_spread N a0 c2 c3 fun r2 =>
impl_Table_at N c0 c1 r2 fun r3 =>
k ((r3 == 1))
/-! loop.example/g03403/impl.makeTable -/
def impl_makeTable_l0b {β : Type} (N : Nat) (a1 : (Int → (Bool → Option β) → Option β)) (v0 : Int) (v1 : Int) (v2 : Int) (v3 : Int) (v4 : Int) (v5 : Int) (rec_ : Int → Int → Int → Int → Int → Int → Option β) (k0 : Int → Int → Int → Int → Option β) : Option β :=
(cond ((decide (v1 < v0)))
(a1 v1 fun r4 =>
(cond r4
((gd ((decide (0 ≤ v1)))
(rec_ v0 ((w64 (v1 + 1))) v2 v3 v4 ((bits .or .i64 v5 (shlI .i64 1 v1))))))
(rec_ v0 ((w64 (v1 + 1))) v2 v3 v4 v5)))
(k0 v2 v3 v4 v5))
def impl_makeTable_l0 {β : Type} (N : Nat) (a1 : (Int → (Bool → Option β) → Option β)) : Nat → Int → Int → Int → Int → Int → Int → (Int → Int → Int → Int → Option β) → Option β
  | 0, _, _, _, _, _, _, _ => none
  | F + 1, v0, v1, v2, v3, v4, v5, k0 => impl_makeTable_l0b N a1 v0 v1 v2 v3 v4 v5 (fun v0 v1 v2 v3 v4 v5 => impl_makeTable_l0 N a1 F v0 v1 v2 v3 v4 v5 k0) k0
def impl_makeTable {β : Type} (N : Nat) (a0 : Int) (a1 : (Int → (Bool → Option β) → Option β)) (k : Int → Int → Option β) : Option β :=
(gd ((decide (0 ≤ a0)))
(impl_makeTable_l0 N a1 N ((shlI .i64 1 a0)) 0 0 0 a0 0 (fun e5_0 e5_1 e5_2 e5_3 =>
k e5_2 e5_3)))
/-! (loop.example/g03403/impl.Table).anf -/
def impl_Table_anf {β : Type} (N : Nat) (a0 : Int) (a1 : Int) (k : Int → Int → Option β) : Option β :=
impl_makeTable N a0 (fun x0 k => impl_Table_anf_1 N x0 a0 a1 k) fun r4 r5 =>
k r4 r5
/-! loop.example/g03403/impl.DegreeMod2 -/
def impl_DegreeMod2 {β : Type} (N : Nat) (a0 : Int) (a1 : Int) (k : Int → Option β) : Option β :=
impl_IsTable N a0 a1 fun r3 =>
(cond (!r3)
(k (-2))
(impl_Table_anf N a0 a1 fun r4 r5 =>
impl_degree N a0 (fun x0 k => impl_DegreeMod2_1 N x0 r4 r5 k) fun r6 =>
k r6))
/-! loop.example/g03403/impl.CountOnes -/
def impl_CountOnes {β : Type} (N : Nat) (a0 : Int) (a1 : Int) (k : Int → Option β) : Option β :=
impl_IsTable N a0 a1 fun r3 =>
(cond (!r3)
(k (-1))
(impl_ones N a1 fun r4 =>
k r4))
/-! (loop.example/g03403/impl.Table).influence -/
def impl_Table_influence_l0b {β : Type} (N : Nat)  (v0 : Int) (v1 : Int) (v2 : Int) (v3 : Int) (v4 : Int) (v5 : Int) (rec_ : Int → Int → Int → Int → Int → Int → Option β) (k0 : Int → Option β) : Option β :=
(cond ((decide (v3 < v2)))
((gd ((decide (0 ≤ v0)))
(impl_Table_changes N v4 v5 v3 ((shlI .i64 1 v0)) fun r5 =>
(cond r5
(rec_ v0 ((w64 (v1 + 1))) v2 ((w64 (v3 + 1))) v4 v5)
(rec_ v0 v1 v2 ((w64 (v3 + 1))) v4 v5)))))
(k0 v1))
def impl_Table_influence_l0 {β : Type} (N : Nat)  : Nat → Int → Int → Int → Int → Int → Int → (Int → Option β) → Option β
  | 0, _, _, _, _, _, _, _ => none
  | F + 1, v0, v1, v2, v3, v4, v5, k0 => impl_Table_influence_l0b N  v0 v1 v2 v3 v4 v5 (fun v0 v1 v2 v3 v4 v5 => impl_Table_influence_l0 N  F v0 v1 v2 v3 v4 v5 k0) k0
def impl_Table_influence {β : Type} (N : Nat) (a0 : Int) (a1 : Int) (a2 : Int) (k : Int → Option β) : Option β :=
impl_Table_size N a0 a1 fun r4 =>
impl_Table_influence_l0 N  N a2 0 r4 0 a0 a1 (fun e6_0 =>
k e6_0)
/-! (loop.example/g03403/impl.Table).influences -/
def impl_Table_influences_l0b {β : Type} (N : Nat)  (v0 : Int) (v1 : Int) (v2 : Int) (v3 : Int) (v4 : List Int) (rec_ : Int → Int → Int → Int → List Int → Option β) (k0 : List Int → Option β) : Option β :=
(cond ((decide (v1 < v0)))
(impl_Table_influence N v2 v3 v1 fun r3 =>
(gd ((decide (0 ≤ v1)))
((gd ((decide (v1 < (v4.length : Int))))
(rec_ v0 ((w64 (v1 + 1))) v2 v3 ((wr v4 v1 r3)))))))
(k0 v4))
def impl_Table_influences_l0 {β : Type} (N : Nat)  : Nat → Int → Int → Int → Int → List Int → (List Int → Option β) → Option β
  | 0, _, _, _, _, _, _ => none
  | F + 1, v0, v1, v2, v3, v4, k0 => impl_Table_influences_l0b N  v0 v1 v2 v3 v4 (fun v0 v1 v2 v3 v4 => impl_Table_influences_l0 N  F v0 v1 v2 v3 v4 k0) k0
def impl_Table_influences {β : Type} (N : Nat) (a0 : Int) (a1 : Int) (k : List Int → Option β) : Option β :=
(gd ((decide (0 ≤ a0)))
((gd ((decide (a0 ≤ a0)))
((gd ((decide (8 * a0 ≤ 281474976710656)))
(impl_Table_influences_l0 N  N ((((List.replicate (Int.toNat a0) (0 : Int))).length : Int)) 0 a0 a1 ((List.replicate (Int.toNat a0) (0 : Int))) (fun e4_0 =>
k e4_0)))))))
/-! loop.example/g03403/impl.TotalInfluence -/
def impl_TotalInfluence_l0b {β : Type} (N : Nat)  (v0 : Int) (v1 : Int) (v2 : Int) (v3 : List Int) (rec_ : Int → Int → Int → List Int → Option β) (k0 : Int → Option β) : Option β :=
(cond ((decide (v2 < v1)))
((gd ((decide (0 ≤ v2)))
((gd ((decide (v2 < (v3.length : Int))))
(rec_ ((w64 (v0 + (rd 0 v3 v2)))) v1 ((w64 (v2 + 1))) v3)))))
(k0 v0))
def impl_TotalInfluence_l0 {β : Type} (N : Nat)  : Nat → Int → Int → Int → List Int → (Int → Option β) → Option β
  | 0, _, _, _, _, _ => none
  | F + 1, v0, v1, v2, v3, k0 => impl_TotalInfluence_l0b N  v0 v1 v2 v3 (fun v0 v1 v2 v3 => impl_TotalInfluence_l0 N  F v0 v1 v2 v3 k0) k0
def impl_TotalInfluence {β : Type} (N : Nat) (a0 : Int) (a1 : Int) (k : Int → Option β) : Option β :=
impl_IsTable N a0 a1 fun r3 =>
(cond (!r3)
(k (-1))
(impl_Table_influences N a0 a1 fun r4 =>
impl_TotalInfluence_l0 N  N 0 ((r4.length : Int)) 0 r4 (fun e5_0 =>
k e5_0)))
/-! loop.example/g03403/impl.measure -/
def impl_measure {β : Type} (N : Nat) (a0 : ByteArray) (a1 : Int) (a2 : Int) (k : Int → Option β) : Option β :=
(cond ((a0.toList == ((strOf [115, 101, 110, 115, 105, 116, 105, 118, 105, 116, 121])).toList))
(impl_SensitivityOf N a1 a2 fun r4 =>
k r4)
((cond ((a0.toList == ((strOf [98, 108, 111, 99, 107, 115])).toList))
(impl_BlockSensitivityOf N a1 a2 fun r5 =>
k r5)
((cond ((a0.toList == ((strOf [99, 101, 114, 116, 105, 102, 105, 99, 97, 116, 101])).toList))
(impl_CertificateOf N a1 a2 0 fun r6 =>
impl_CertificateOf N a1 a2 1 fun r7 =>
k ((mxI r6 r7)))
((cond ((a0.toList == ((strOf [100, 101, 112, 116, 104])).toList))
(impl_LeastDepth N a1 a2 fun r8 =>
k r8)
((cond ((a0.toList == ((strOf [100, 101, 103, 114, 101, 101])).toList))
(impl_RealDegree N a1 a2 fun r9 =>
k ((mxI r9 0)))
((cond ((a0.toList == ((strOf [100, 101, 103, 114, 101, 101, 50])).toList))
(impl_DegreeMod2 N a1 a2 fun r10 =>
k ((mxI r10 0)))
((cond ((a0.toList == ((strOf [111, 110, 101, 115])).toList))
(impl_CountOnes N a1 a2 fun r11 =>
k r11)
((cond ((a0.toList == ((strOf [105, 110, 102, 108, 117, 101, 110, 99, 101])).toList))
(impl_TotalInfluence N a1 a2 fun r12 =>
k r12)
(k (-1)))))))))))))))))
/-! loop.example/g03403/impl.MeasureOf -/
def impl_MeasureOf {β : Type} (N : Nat) (a0 : ByteArray) (a1 : Int) (a2 : Int) (k : Int → Option β) : Option β :=
impl_isSmall N a1 a2 4 fun r4 =>
(cond (!r4)
(k (-1))
(impl_measure N a0 a1 a2 fun r5 =>
k r5))
/-! loop.example/g03403/laws.FnExactMeasureOf -/
def laws_FnExactMeasureOf {β : Type} (N : Nat) (a0 : ByteArray) (a1 : Int) (a2 : Int) (k : Bool → Option β) : Option β :=
(cond ((decide ((a0.size : Int) > 1048576)))
(k true)
(laws_toTable N a1 a2 fun r4 r5 =>
spec_MeasureOf N a0 r4 r5 fun r6 =>
laws_toTable N a1 a2 fun r7 r8 =>
impl_MeasureOf N a0 r7 r8 fun r9 =>
(cond ((r9 != r6))
(k false)
(k true))))
/-! loop.example/g03403/spec.l2Full -/
def spec_l2Full {β : Type} (N : Nat) (a0 : Int) (k : Int → Option β) : Option β :=
(gd ((decide (0 ≤ a0)))
((gd ((decide (0 ≤ (shlI .u64 1 a0))))
(k ((w64 ((shlI .i64 1 (shlI .u64 1 a0)) - 1)))))))
/-! loop.example/g03403/spec.MaximumOf -/
def spec_MaximumOf_l0b {β : Type} (N : Nat)  (v0 : ByteArray) (v1 : Int) (v2 : Int) (v3 : Int) (rec_ : ByteArray → Int → Int → Int → Option β) (k0 : Int → Option β) : Option β :=
spec_l2Full N v1 fun r4 =>
(cond ((decide (v3 ≤ r4)))
(spec_MeasureOf N v0 v1 v3 fun r5 =>
rec_ v0 v1 ((mxI v2 r5)) ((w64 (v3 + 1))))
(k0 v2))
def spec_MaximumOf_l0 {β : Type} (N : Nat)  : Nat → ByteArray → Int → Int → Int → (Int → Option β) → Option β
  | 0, _, _, _, _, _ => none
  | F + 1, v0, v1, v2, v3, k0 => spec_MaximumOf_l0b N  v0 v1 v2 v3 (fun v0 v1 v2 v3 => spec_MaximumOf_l0 N  F v0 v1 v2 v3 k0) k0
def spec_MaximumOf {β : Type} (N : Nat) (a0 : ByteArray) (a1 : Int) (k : Int → Option β) : Option β :=
spec_l1In N a1 0 3 fun r3 =>
(cond (!r3)
(k (-1))
(spec_MaximumOf_l0 N  N a0 a1 (-1) 0 (fun e6_0 =>
k e6_0)))
/-! loop.example/g03403/impl.MaximumOf$1 -/
def impl_MaximumOf_1_g0 {β : Type} (N : Nat) (a0 : Int) (a1 : Int) (a2 : Int) (a3 : ByteArray) (k0 : Int → ByteArray → Option β) : Option β :=
impl_measure N a3 a0 a1 fun r3 =>
k0 ((mxI a2 r3)) a3
/-! loop.example/g03403/impl.allTables -/
def impl_allTables_l0b {β : Type} (N : Nat)  (v0 : Int) (v1 : Int) (v2 : Int) (v3 : Int) (v4 : ByteArray) (rec_ : Int → Int → Int → Int → ByteArray → Option β) (k0 : Int → ByteArray → Option β) : Option β :=
(cond ((decide (v2 < v1)))
(impl_MaximumOf_1_g0 N v0 v2 v3 v4 (fun r4_0 r4_1 =>
rec_ v0 v1 ((w64 (v2 + 1))) r4_0 r4_1))
(k0 v3 v4))
def impl_allTables_l0 {β : Type} (N : Nat)  : Nat → Int → Int → Int → Int → ByteArray → (Int → ByteArray → Option β) → Option β
  | 0, _, _, _, _, _, _ => none
  | F + 1, v0, v1, v2, v3, v4, k0 => impl_allTables_l0b N  v0 v1 v2 v3 v4 (fun v0 v1 v2 v3 v4 => impl_allTables_l0 N  F v0 v1 v2 v3 v4 k0) k0
def impl_allTables_g0 {β : Type} (N : Nat) (a0 : Int) (a1 : Int) (a2 : ByteArray) (k0 : Int → ByteArray → Option β) : Option β :=
(gd ((decide (0 ≤ a0)))
((gd ((decide (0 ≤ (shlI .u64 1 a0))))
(impl_allTables_l0 N  N a0 ((shlI .i64 1 (shlI .u64 1 a0))) 0 a1 a2 (fun e5_0 e5_1 =>
k0 e5_0 e5_1)))))
/-! loop.example/g03403/impl.MaximumOf -/
def impl_MaximumOf {β : Type} (N : Nat) (a0 : ByteArray) (a1 : Int) (k : Int → Option β) : Option β :=
(cond ((decide (a1 < 0)))
(k (-1))
((cond ((decide (a1 > 3)))
(k (-1))
(impl_allTables_g0 N a1 (-1) a0 (fun r3_0 r3_1 =>
k r3_0)))))
/-! loop.example/g03403/laws.FnExactMaximumOf -/
def laws_FnExactMaximumOf {β : Type} (N : Nat) (a0 : ByteArray) (a1 : Int) (k : Bool → Option β) : Option β :=
(cond ((decide ((a0.size : Int) > 1048576)))
(k true)
(spec_MaximumOf N a0 a1 fun r3 =>
impl_MaximumOf N a0 a1 fun r4 =>
(cond ((r4 != r3))
(k false)
(k true))))
/-! loop.example/g03403/spec.l3Insert -/
def spec_l3Insert {β : Type} (N : Nat) (a0 : Int) (a1 : Int) (a2 : Int) (k : Int → Option β) : Option β :=
(gd ((decide (0 ≤ a1)))
((gd ((decide (0 ≤ a1)))
((gd ((decide (0 ≤ (w64 (a1 + 1)))))
((gd ((decide (0 ≤ a1)))
(k ((bits .or .i64 (bits .or .i64 (shlI .i64 (shrI .i64 a0 a1) (w64 (a1 + 1))) (shlI .i64 a2 a1)) (bits .and .i64 a0 (w64 ((shlI .i64 1 a1) - 1)))))))))))))
/-! loop.example/g03403/spec.l3Restrict -/
def spec_l3Restrict_l0b {β : Type} (N : Nat)  (v0 : Int) (v1 : Int) (v2 : Int) (v3 : Int) (v4 : Int) (v5 : Int) (v6 : Int) (v7 : Int) (rec_ : Int → Int → Int → Int → Int → Int → Int → Int → Option β) (k0 : Int → Int → Int → Int → Int → Option β) : Option β :=
(gd ((decide (0 ≤ (w64 (v4 - 1)))))
((cond ((decide (v3 < (shlI .i64 1 (w64 (v4 - 1))))))
(spec_l3Insert N v3 v0 v1 fun r6 =>
(gd ((decide (0 ≤ r6)))
((gd ((decide (0 ≤ v3)))
(rec_ v0 v1 ((bits .or .i64 v2 (shlI .i64 (bits .and .i64 (shrI .i64 v5 r6) 1) v3))) ((w64 (v3 + 1))) v4 v5 v6 v7)))))
(k0 v2 v4 v5 v6 v7))))
def spec_l3Restrict_l0 {β : Type} (N : Nat)  : Nat → Int → Int → Int → Int → Int → Int → Int → Int → (Int → Int → Int → Int → Int → Option β) → Option β
  | 0, _, _, _, _, _, _, _, _, _ => none
  | F + 1, v0, v1, v2, v3, v4, v5, v6, v7, k0 => spec_l3Restrict_l0b N  v0 v1 v2 v3 v4 v5 v6 v7 (fun v0 v1 v2 v3 v4 v5 v6 v7 => spec_l3Restrict_l0 N  F v0 v1 v2 v3 v4 v5 v6 v7 k0) k0
def spec_l3Restrict {β : Type} (N : Nat) (a0 : Int) (a1 : Int) (a2 : Int) (a3 : Int) (k : Int → Int → Option β) : Option β :=
spec_l3Restrict_l0 N  N a2 a3 0 0 a0 a1 0 0 (fun e7_0 e7_1 e7_2 e7_3 e7_4 =>
k ((w64 (e7_1 - 1))) e7_0)
/-! loop.example/g03403/spec.l3Depends -/
def spec_l3Depends {β : Type} (N : Nat) (a0 : Int) (a1 : Int) (a2 : Int) (k : Bool → Option β) : Option β :=
spec_l3Restrict N a0 a1 a2 0 fun r4 r5 =>
spec_l3Restrict N a0 a1 a2 1 fun r6 r7 =>
k ((r5 != r7))
/-! loop.example/g03403/spec.VariablesOf -/
def spec_VariablesOf_l0b {β : Type} (N : Nat)  (v0 : Int) (v1 : Int) (v2 : Int) (v3 : List Int) (rec_ : Int → Int → Int → List Int → Option β) (k0 : List Int → Option β) : Option β :=
spec_IsTable N v1 v2 fun r3 =>
(cond r3
((cond ((decide (v0 < v1)))
(spec_l3Depends N v1 v2 v0 fun r4 =>
(cond r4
((gd ((decide ((v3.length + ((([] : List Int) ++ [v0])).length) * 8 ≤ 140737488355328)))
(rec_ ((w64 (v0 + 1))) v1 v2 ((v3 ++ (([] : List Int) ++ [v0]))))))
(rec_ ((w64 (v0 + 1))) v1 v2 v3)))
(k0 v3)))
(k0 v3))
def spec_VariablesOf_l0 {β : Type} (N : Nat)  : Nat → Int → Int → Int → List Int → (List Int → Option β) → Option β
  | 0, _, _, _, _, _ => none
  | F + 1, v0, v1, v2, v3, k0 => spec_VariablesOf_l0b N  v0 v1 v2 v3 (fun v0 v1 v2 v3 => spec_VariablesOf_l0 N  F v0 v1 v2 v3 k0) k0
def spec_VariablesOf {β : Type} (N : Nat) (a0 : Int) (a1 : Int) (k : List Int → Option β) : Option β :=
spec_VariablesOf_l0 N  N 0 a0 a1 (([] : List Int)) (fun e5_0 =>
k e5_0)
/-! loop.example/g03403/spec.RelationHolds -/
def spec_RelationHolds {β : Type} (N : Nat) (a0 : ByteArray) (a1 : Int) (a2 : Int) (k : Bool → Option β) : Option β :=
spec_MeasureOf N ((strOf [115, 101, 110, 115, 105, 116, 105, 118, 105, 116, 121])) a1 a2 fun r4 =>
spec_MeasureOf N ((strOf [98, 108, 111, 99, 107, 115])) a1 a2 fun r5 =>
spec_MeasureOf N ((strOf [99, 101, 114, 116, 105, 102, 105, 99, 97, 116, 101])) a1 a2 fun r6 =>
spec_MeasureOf N ((strOf [100, 101, 112, 116, 104])) a1 a2 fun r7 =>
spec_MeasureOf N ((strOf [100, 101, 103, 114, 101, 101])) a1 a2 fun r8 =>
(cond ((decide (r4 < 0)))
(k false)
((cond ((a0.toList == ((strOf [111, 114, 100, 101, 114])).toList))
((cond ((decide (r4 ≤ r5)))
((cond ((decide (r5 ≤ r6)))
((cond ((decide (r6 ≤ r7)))
(k ((decide (r8 ≤ r7))))
(k false)))
(k false)))
(k false)))
((cond ((a0.toList == ((strOf [112, 114, 111, 100, 117, 99, 116])).toList))
(spec_CertificateOf N a1 a2 0 fun r9 =>
spec_CertificateOf N a1 a2 1 fun r10 =>
k ((decide (r7 ≤ (w64 (r9 * r10))))))
((cond ((a0.toList == ((strOf [104, 117, 97, 110, 103])).toList))
(k ((decide (r8 ≤ (w64 (r4 * r4))))))
((cond ((a0.toList == ((strOf [98, 108, 111, 99, 107, 115])).toList))
((cond ((decide (r6 ≤ (w64 (r4 * r5)))))
(k ((decide (r7 ≤ (w64 ((w64 (r5 * r5)) * r5))))))
(k false)))
((cond ((a0.toList == ((strOf [100, 101, 103, 114, 101, 101, 115])).toList))
(spec_MeasureOf N ((strOf [100, 101, 103, 114, 101, 101, 50])) a1 a2 fun r11 =>
k ((decide (r11 ≤ r8))))
((cond ((a0.toList == ((strOf [118, 97, 114, 105, 97, 98, 108, 101, 115])).toList))
(spec_VariablesOf N a1 a2 fun r12 =>
(cond ((decide (r7 ≤ (r12.length : Int))))
((cond (((r12.length : Int) == 0))
((gd ((decide (0 ≤ a1)))
(spec_MeasureOf N ((strOf [105, 110, 102, 108, 117, 101, 110, 99, 101])) a1 a2 fun r13 =>
k ((decide (r13 ≤ (shlI .i64 r4 a1)))))))
((cond ((decide (r4 ≥ 1)))
((gd ((decide (0 ≤ a1)))
(spec_MeasureOf N ((strOf [105, 110, 102, 108, 117, 101, 110, 99, 101])) a1 a2 fun r14 =>
k ((decide (r14 ≤ (shlI .i64 r4 a1)))))))
(k false)))))
(k false)))
(k false))))))))))))))
/-! loop.example/g03403/impl.RelationHolds$1 -/
def impl_RelationHolds_1 {β : Type} (N : Nat) (a0 : ByteArray) (c0 : Int) (c1 : Int) (k : Int → Option β) : Option β :=
impl_measure N a0 c0 c1 fun r2 =>
k r2
/-! (loop.example/g03403/impl.Table).restrict -/
def impl_Table_restrict {β : Type} (N : Nat) (a0 : Int) (a1 : Int) (a2 : Int) (a3 : Int) (k : Int → Int → Option β) : Option β :=
impl_makeTable N ((w64 (a0 - 1))) (fun x0 k => impl_Table_restrict_1 N x0 a0 a1 a2 a3 k) fun r6 r7 =>
k r6 r7
/-! (loop.example/g03403/impl.Table).depends -/
def impl_Table_depends {β : Type} (N : Nat) (a0 : Int) (a1 : Int) (a2 : Int) (k : Bool → Option β) : Option β :=
impl_Table_restrict N a0 a1 a2 0 fun r4 r5 =>
impl_Table_restrict N a0 a1 a2 1 fun r6 r7 =>
k ((!((r4 == r6) && (r5 == r7))))
/-! loop.example/g03403/impl.VariablesOf -/
def impl_VariablesOf_l0b {β : Type} (N : Nat)  (v0 : Int) (v1 : Int) (v2 : Int) (v3 : Int) (v4 : List Int) (rec_ : Int → Int → Int → Int → List Int → Option β) (k0 : List Int → Option β) : Option β :=
(cond ((decide (v1 < v0)))
(impl_Table_depends N v2 v3 v1 fun r4 =>
(cond r4
((gd ((decide ((v4.length + ((([] : List Int) ++ [v1])).length) * 8 ≤ 140737488355328)))
(rec_ v0 ((w64 (v1 + 1))) v2 v3 ((v4 ++ (([] : List Int) ++ [v1]))))))
(rec_ v0 ((w64 (v1 + 1))) v2 v3 v4)))
(k0 v4))
def impl_VariablesOf_l0 {β : Type} (N : Nat)  : Nat → Int → Int → Int → Int → List Int → (List Int → Option β) → Option β
  | 0, _, _, _, _, _, _ => none
  | F + 1, v0, v1, v2, v3, v4, k0 => impl_VariablesOf_l0b N  v0 v1 v2 v3 v4 (fun v0 v1 v2 v3 v4 => impl_VariablesOf_l0 N  F v0 v1 v2 v3 v4 k0) k0
def impl_VariablesOf {β : Type} (N : Nat) (a0 : Int) (a1 : Int) (k : List Int → Option β) : Option β :=
impl_IsTable N a0 a1 fun r3 =>
(cond (!r3)
(k (([] : List Int)))
(impl_VariablesOf_l0 N  N a0 0 a0 a1 (([] : List Int)) (fun e5_0 =>
k e5_0)))
/-! loop.example/g03403/impl.RelationHolds -/
def impl_RelationHolds {β : Type} (N : Nat) (a0 : ByteArray) (a1 : Int) (a2 : Int) (k : Bool → Option β) : Option β :=
impl_isSmall N a1 a2 4 fun r4 =>
(cond (!r4)
(k false)
(impl_RelationHolds_1 N ((strOf [115, 101, 110, 115, 105, 116, 105, 118, 105, 116, 121])) a1 a2 fun r5 =>
impl_RelationHolds_1 N ((strOf [98, 108, 111, 99, 107, 115])) a1 a2 fun r6 =>
impl_RelationHolds_1 N ((strOf [99, 101, 114, 116, 105, 102, 105, 99, 97, 116, 101])) a1 a2 fun r7 =>
impl_RelationHolds_1 N ((strOf [100, 101, 112, 116, 104])) a1 a2 fun r8 =>
(cond ((a0.toList == ((strOf [111, 114, 100, 101, 114])).toList))
((cond ((decide (r5 ≤ r6)))
((cond ((decide (r6 ≤ r7)))
((cond ((decide (r7 ≤ r8)))
(impl_RelationHolds_1 N ((strOf [100, 101, 103, 114, 101, 101])) a1 a2 fun r9 =>
k ((decide (r9 ≤ r8))))
(k false)))
(k false)))
(k false)))
((cond ((a0.toList == ((strOf [112, 114, 111, 100, 117, 99, 116])).toList))
(impl_CertificateOf N a1 a2 0 fun r10 =>
impl_CertificateOf N a1 a2 1 fun r11 =>
k ((decide (r8 ≤ (w64 (r10 * r11))))))
((cond ((a0.toList == ((strOf [104, 117, 97, 110, 103])).toList))
(impl_RelationHolds_1 N ((strOf [100, 101, 103, 114, 101, 101])) a1 a2 fun r12 =>
k ((decide (r12 ≤ (w64 (r5 * r5))))))
((cond ((a0.toList == ((strOf [98, 108, 111, 99, 107, 115])).toList))
((cond ((decide (r7 ≤ (w64 (r5 * r6)))))
(k ((decide (r8 ≤ (w64 ((w64 (r6 * r6)) * r6))))))
(k false)))
((cond ((a0.toList == ((strOf [100, 101, 103, 114, 101, 101, 115])).toList))
(impl_RelationHolds_1 N ((strOf [100, 101, 103, 114, 101, 101, 50])) a1 a2 fun r13 =>
impl_RelationHolds_1 N ((strOf [100, 101, 103, 114, 101, 101])) a1 a2 fun r14 =>
k ((decide (r13 ≤ r14))))
((cond ((a0.toList == ((strOf [118, 97, 114, 105, 97, 98, 108, 101, 115])).toList))
(impl_VariablesOf N a1 a2 fun r15 =>
(cond ((decide (r8 ≤ (r15.length : Int))))
((cond (((r15.length : Int) == 0))
(impl_RelationHolds_1 N ((strOf [105, 110, 102, 108, 117, 101, 110, 99, 101])) a1 a2 fun r16 =>
impl_Table_size N a1 a2 fun r17 =>
k ((decide (r16 ≤ (w64 (r5 * r17))))))
((cond ((decide (r5 > 0)))
(impl_RelationHolds_1 N ((strOf [105, 110, 102, 108, 117, 101, 110, 99, 101])) a1 a2 fun r18 =>
impl_Table_size N a1 a2 fun r19 =>
k ((decide (r18 ≤ (w64 (r5 * r19))))))
(k false)))))
(k false)))
(k false))))))))))))))
/-! loop.example/g03403/laws.FnExactRelationHolds -/
def laws_FnExactRelationHolds {β : Type} (N : Nat) (a0 : ByteArray) (a1 : Int) (a2 : Int) (k : Bool → Option β) : Option β :=
(cond ((decide ((a0.size : Int) > 1048576)))
(k true)
(laws_toTable N a1 a2 fun r4 r5 =>
spec_RelationHolds N a0 r4 r5 fun r6 =>
laws_toTable N a1 a2 fun r7 r8 =>
impl_RelationHolds N a0 r7 r8 fun r9 =>
(cond ((!(r9 == r6)))
(k false)
(k true))))
end Go.Proofs.Ytdkjnadhgdneaaa
