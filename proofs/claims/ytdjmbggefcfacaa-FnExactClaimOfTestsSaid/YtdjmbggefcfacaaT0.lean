/- The texts of the functions that the claims reach: plain Lean, no program. -/
import Derived.Test.YtdjmbggefcfacaaRvUse
namespace Go.Proofs.Ytdjmbggefcfacaa
open Go.Rv
set_option linter.unusedVariables false
set_option maxRecDepth 100000
/-! loop.example/g03403/laws.toTable -/
def laws_toTable {β : Type} (N : Nat) (a0 : Int) (a1 : Int) (k : Int → Int → Option β) : Option β :=
k a0 a1
/-! loop.example/g03403/spec.l1In -/
def spec_l1In {β : Type} (N : Nat) (a0 : Int) (a1 : Int) (a2 : Int) (k : Bool → Option β) : Option β :=
(cond ((decide (a0 ≥ a1)))
(k ((decide (a0 ≤ a2))))
(k false))
/-! loop.example/g03403/spec.IsTable -/
def spec_IsTable {β : Type} (N : Nat) (a0 : Int) (a1 : Int) (k : Bool → Option β) : Option β :=
spec_l1In N a0 0 5 fun r2 =>
(cond r2
((gd ((decide (0 ≤ a0)))
((gd ((decide (0 ≤ (shlI .u64 1 a0))))
(spec_l1In N a1 0 ((w64 ((shlI .i64 1 (shlI .u64 1 a0)) - 1))) fun r3 =>
k r3)))))
(k false))
/-! loop.example/g03403/spec.l2Count -/
def spec_l2Count_l0b {β : Type} (N : Nat)  (v0 : Int) (v1 : Int) (rec_ : Int → Int → Option β) (k0 : Int → Option β) : Option β :=
(cond ((decide (v1 > 0)))
(rec_ ((w64 (v0 + (bits .and .i64 v1 1)))) ((shrI .i64 v1 1)))
(k0 v0))
def spec_l2Count_l0 {β : Type} (N : Nat)  : Nat → Int → Int → (Int → Option β) → Option β
  | 0, _, _, _ => none
  | F + 1, v0, v1, k0 => spec_l2Count_l0b N  v0 v1 (fun v0 v1 => spec_l2Count_l0 N  F v0 v1 k0) k0
def spec_l2Count {β : Type} (N : Nat) (a0 : Int) (k : Int → Option β) : Option β :=
spec_l2Count_l0 N  N 0 a0 (fun e1_0 =>
k e1_0)
/-! loop.example/g03403/spec.InfluenceOf -/
def spec_InfluenceOf_l0b {β : Type} (N : Nat)  (v0 : Int) (v1 : Int) (v2 : Int) (v3 : Int) (v4 : Int) (rec_ : Int → Int → Int → Int → Int → Option β) (k0 : Int → Option β) : Option β :=
(gd ((decide (0 ≤ v3)))
((cond ((decide (v2 < (shlI .i64 1 v3))))
((gd ((decide (0 ≤ v2)))
((gd ((decide (0 ≤ v0)))
((gd ((decide (0 ≤ (bits .xor .i64 v2 (shlI .i64 1 v0)))))
(rec_ v0 ((w64 (v1 + (bits .and .i64 (bits .xor .i64 (shrI .i64 v4 v2) (shrI .i64 v4 (bits .xor .i64 v2 (shlI .i64 1 v0)))) 1)))) ((w64 (v2 + 1))) v3 v4)))))))
(k0 v1))))
def spec_InfluenceOf_l0 {β : Type} (N : Nat)  : Nat → Int → Int → Int → Int → Int → (Int → Option β) → Option β
  | 0, _, _, _, _, _, _ => none
  | F + 1, v0, v1, v2, v3, v4, k0 => spec_InfluenceOf_l0b N  v0 v1 v2 v3 v4 (fun v0 v1 v2 v3 v4 => spec_InfluenceOf_l0 N  F v0 v1 v2 v3 v4 k0) k0
def spec_InfluenceOf {β : Type} (N : Nat) (a0 : Int) (a1 : Int) (a2 : Int) (k : Int → Option β) : Option β :=
spec_IsTable N a0 a1 fun r3 =>
(cond (!r3)
(k (-1))
(spec_l1In N a2 0 ((w64 (a0 - 1))) fun r4 =>
(cond (!r4)
(k (-1))
(spec_InfluenceOf_l0 N  N a2 0 0 a0 a1 (fun e5_0 =>
k e5_0)))))
/-! loop.example/g03403/spec.NewKept -/
def spec_NewKept_s3 {β : Type} (s0 : Int) (s1 : Int) (s2 : Int) (s3 : Int) (s4 : Int) (s5 : Int) (s6 : Int) (s7 : Int) (s8 : List Int) (s9 : List Int) (K : Option β) : Option β :=
(gd (s0 == s0) (gd (s1 == s1) (gd (s2 == s2) (gd (s3 == s3) (gd (s4 == s4) (gd (s5 == s5) (gd (s6 == s6) (gd (s7 == s7) (gd (s8 == s8) (gd (s9 == s9) K))))))))))
def spec_NewKept_l0b {β : Type} (N : Nat)  (v0 : Int) (v1 : Int) (v2 : Int) (v3 : Int) (v4 : Int) (v5 : Int) (v6 : Int) (v7 : Int) (v8 : Int) (v9 : List Int) (v10 : List Int) (rec_ : Int → Int → Int → Int → Int → Int → Int → Int → Int → List Int → List Int → Option β) (k0 : Int → Int → Int → Int → Int → Int → List Int → List Int → Option β) : Option β :=
(cond ((decide (v0 < v1)))
(spec_InfluenceOf N v1 v2 v0 fun r4 =>
(gd ((decide ((v10.length + ((([] : List Int) ++ [r4])).length) * 8 ≤ 140737488355328)))
(rec_ ((w64 (v0 + 1))) v1 v2 v3 v4 v5 v6 v7 v8 v9 ((v10 ++ (([] : List Int) ++ [r4]))))))
(k0 v3 v4 v5 v6 v7 v8 v9 v10))
def spec_NewKept_l0 {β : Type} (N : Nat)  : Nat → Int → Int → Int → Int → Int → Int → Int → Int → Int → List Int → List Int → (Int → Int → Int → Int → Int → Int → List Int → List Int → Option β) → Option β
  | 0, _, _, _, _, _, _, _, _, _, _, _, _ => none
  | F + 1, v0, v1, v2, v3, v4, v5, v6, v7, v8, v9, v10, k0 => spec_NewKept_l0b N  v0 v1 v2 v3 v4 v5 v6 v7 v8 v9 v10 (fun v0 v1 v2 v3 v4 v5 v6 v7 v8 v9 v10 => spec_NewKept_l0 N  F v0 v1 v2 v3 v4 v5 v6 v7 v8 v9 v10 k0) k0
def spec_NewKept {β : Type} (N : Nat) (a0 : Int) (a1 : Int) (k : Int → Int → Int → List Int → Bool → Option β) : Option β :=
spec_IsTable N a0 a1 fun r2 =>
(cond (!r2)
(k 0 0 0 (([] : List Int)) false)
(spec_l2Count N a1 fun r3 =>
(spec_NewKept_s3 a0 a1 0 0 0 a0 a1 r3 (([] : List Int)) (([] : List Int))
((spec_NewKept_s3 a0 a1 0 0 0 a0 a1 r3 (([] : List Int)) (([] : List Int))
(spec_NewKept_l0 N  N 0 a0 a1 0 0 0 a0 a1 r3 (([] : List Int)) (([] : List Int)) (fun e5_0 e5_1 e5_2 e5_3 e5_4 e5_5 e5_6 e5_7 =>
k e5_3 e5_4 e5_5 e5_7 true)))))))
/-! loop.example/g03403/impl.isBits -/
def impl_isBits {β : Type} (N : Nat) (a0 : Int) (k : Bool → Option β) : Option β :=
(cond ((decide (a0 ≥ 0)))
(k ((decide (a0 ≤ 5))))
(k false))
/-! (loop.example/g03403/impl.Table).size -/
def impl_Table_size {β : Type} (N : Nat) (a0 : Int) (a1 : Int) (k : Int → Option β) : Option β :=
(gd ((decide (0 ≤ a0)))
(k ((shlI .i64 1 a0))))
/-! loop.example/g03403/impl.IsTable -/
def impl_IsTable {β : Type} (N : Nat) (a0 : Int) (a1 : Int) (k : Bool → Option β) : Option β :=
impl_isBits N a0 fun r2 =>
(cond r2
((cond ((decide (a1 ≥ 0)))
(impl_Table_size N a0 a1 fun r3 =>
(gd ((decide (0 ≤ r3)))
(k (((shrI .i64 a1 r3) == 0)))))
(k false)))
(k false))
/-! math/bits.OnesCount64 -/
def math_bits_OnesCount64 {β : Type} (N : Nat) (a0 : Int) (k : Int → Option β) : Option β :=
k ((bits .and .i64 (w64 ((wu64 ((wu64 ((wu64 ((bits .and .u64 (wu64 ((shrI .u64 (wu64 ((bits .and .u64 (shrI .u64 (wu64 ((bits .and .u64 (shrI .u64 a0 1) 6148914691236517205) + (bits .and .u64 a0 6148914691236517205))) 2) 3689348814741910323) + (bits .and .u64 (wu64 ((bits .and .u64 (shrI .u64 a0 1) 6148914691236517205) + (bits .and .u64 a0 6148914691236517205))) 3689348814741910323))) 4) + (wu64 ((bits .and .u64 (shrI .u64 (wu64 ((bits .and .u64 (shrI .u64 a0 1) 6148914691236517205) + (bits .and .u64 a0 6148914691236517205))) 2) 3689348814741910323) + (bits .and .u64 (wu64 ((bits .and .u64 (shrI .u64 a0 1) 6148914691236517205) + (bits .and .u64 a0 6148914691236517205))) 3689348814741910323))))) 1085102592571150095) + (shrI .u64 (bits .and .u64 (wu64 ((shrI .u64 (wu64 ((bits .and .u64 (shrI .u64 (wu64 ((bits .and .u64 (shrI .u64 a0 1) 6148914691236517205) + (bits .and .u64 a0 6148914691236517205))) 2) 3689348814741910323) + (bits .and .u64 (wu64 ((bits .and .u64 (shrI .u64 a0 1) 6148914691236517205) + (bits .and .u64 a0 6148914691236517205))) 3689348814741910323))) 4) + (wu64 ((bits .and .u64 (shrI .u64 (wu64 ((bits .and .u64 (shrI .u64 a0 1) 6148914691236517205) + (bits .and .u64 a0 6148914691236517205))) 2) 3689348814741910323) + (bits .and .u64 (wu64 ((bits .and .u64 (shrI .u64 a0 1) 6148914691236517205) + (bits .and .u64 a0 6148914691236517205))) 3689348814741910323))))) 1085102592571150095) 8))) + (shrI .u64 (wu64 ((bits .and .u64 (wu64 ((shrI .u64 (wu64 ((bits .and .u64 (shrI .u64 (wu64 ((bits .and .u64 (shrI .u64 a0 1) 6148914691236517205) + (bits .and .u64 a0 6148914691236517205))) 2) 3689348814741910323) + (bits .and .u64 (wu64 ((bits .and .u64 (shrI .u64 a0 1) 6148914691236517205) + (bits .and .u64 a0 6148914691236517205))) 3689348814741910323))) 4) + (wu64 ((bits .and .u64 (shrI .u64 (wu64 ((bits .and .u64 (shrI .u64 a0 1) 6148914691236517205) + (bits .and .u64 a0 6148914691236517205))) 2) 3689348814741910323) + (bits .and .u64 (wu64 ((bits .and .u64 (shrI .u64 a0 1) 6148914691236517205) + (bits .and .u64 a0 6148914691236517205))) 3689348814741910323))))) 1085102592571150095) + (shrI .u64 (bits .and .u64 (wu64 ((shrI .u64 (wu64 ((bits .and .u64 (shrI .u64 (wu64 ((bits .and .u64 (shrI .u64 a0 1) 6148914691236517205) + (bits .and .u64 a0 6148914691236517205))) 2) 3689348814741910323) + (bits .and .u64 (wu64 ((bits .and .u64 (shrI .u64 a0 1) 6148914691236517205) + (bits .and .u64 a0 6148914691236517205))) 3689348814741910323))) 4) + (wu64 ((bits .and .u64 (shrI .u64 (wu64 ((bits .and .u64 (shrI .u64 a0 1) 6148914691236517205) + (bits .and .u64 a0 6148914691236517205))) 2) 3689348814741910323) + (bits .and .u64 (wu64 ((bits .and .u64 (shrI .u64 a0 1) 6148914691236517205) + (bits .and .u64 a0 6148914691236517205))) 3689348814741910323))))) 1085102592571150095) 8))) 16))) + (shrI .u64 (wu64 ((wu64 ((bits .and .u64 (wu64 ((shrI .u64 (wu64 ((bits .and .u64 (shrI .u64 (wu64 ((bits .and .u64 (shrI .u64 a0 1) 6148914691236517205) + (bits .and .u64 a0 6148914691236517205))) 2) 3689348814741910323) + (bits .and .u64 (wu64 ((bits .and .u64 (shrI .u64 a0 1) 6148914691236517205) + (bits .and .u64 a0 6148914691236517205))) 3689348814741910323))) 4) + (wu64 ((bits .and .u64 (shrI .u64 (wu64 ((bits .and .u64 (shrI .u64 a0 1) 6148914691236517205) + (bits .and .u64 a0 6148914691236517205))) 2) 3689348814741910323) + (bits .and .u64 (wu64 ((bits .and .u64 (shrI .u64 a0 1) 6148914691236517205) + (bits .and .u64 a0 6148914691236517205))) 3689348814741910323))))) 1085102592571150095) + (shrI .u64 (bits .and .u64 (wu64 ((shrI .u64 (wu64 ((bits .and .u64 (shrI .u64 (wu64 ((bits .and .u64 (shrI .u64 a0 1) 6148914691236517205) + (bits .and .u64 a0 6148914691236517205))) 2) 3689348814741910323) + (bits .and .u64 (wu64 ((bits .and .u64 (shrI .u64 a0 1) 6148914691236517205) + (bits .and .u64 a0 6148914691236517205))) 3689348814741910323))) 4) + (wu64 ((bits .and .u64 (shrI .u64 (wu64 ((bits .and .u64 (shrI .u64 a0 1) 6148914691236517205) + (bits .and .u64 a0 6148914691236517205))) 2) 3689348814741910323) + (bits .and .u64 (wu64 ((bits .and .u64 (shrI .u64 a0 1) 6148914691236517205) + (bits .and .u64 a0 6148914691236517205))) 3689348814741910323))))) 1085102592571150095) 8))) + (shrI .u64 (wu64 ((bits .and .u64 (wu64 ((shrI .u64 (wu64 ((bits .and .u64 (shrI .u64 (wu64 ((bits .and .u64 (shrI .u64 a0 1) 6148914691236517205) + (bits .and .u64 a0 6148914691236517205))) 2) 3689348814741910323) + (bits .and .u64 (wu64 ((bits .and .u64 (shrI .u64 a0 1) 6148914691236517205) + (bits .and .u64 a0 6148914691236517205))) 3689348814741910323))) 4) + (wu64 ((bits .and .u64 (shrI .u64 (wu64 ((bits .and .u64 (shrI .u64 a0 1) 6148914691236517205) + (bits .and .u64 a0 6148914691236517205))) 2) 3689348814741910323) + (bits .and .u64 (wu64 ((bits .and .u64 (shrI .u64 a0 1) 6148914691236517205) + (bits .and .u64 a0 6148914691236517205))) 3689348814741910323))))) 1085102592571150095) + (shrI .u64 (bits .and .u64 (wu64 ((shrI .u64 (wu64 ((bits .and .u64 (shrI .u64 (wu64 ((bits .and .u64 (shrI .u64 a0 1) 6148914691236517205) + (bits .and .u64 a0 6148914691236517205))) 2) 3689348814741910323) + (bits .and .u64 (wu64 ((bits .and .u64 (shrI .u64 a0 1) 6148914691236517205) + (bits .and .u64 a0 6148914691236517205))) 3689348814741910323))) 4) + (wu64 ((bits .and .u64 (shrI .u64 (wu64 ((bits .and .u64 (shrI .u64 a0 1) 6148914691236517205) + (bits .and .u64 a0 6148914691236517205))) 2) 3689348814741910323) + (bits .and .u64 (wu64 ((bits .and .u64 (shrI .u64 a0 1) 6148914691236517205) + (bits .and .u64 a0 6148914691236517205))) 3689348814741910323))))) 1085102592571150095) 8))) 16))) 32))))) 127))
/-! loop.example/g03403/impl.ones -/
def impl_ones {β : Type} (N : Nat) (a0 : Int) (k : Int → Option β) : Option β :=
math_bits_OnesCount64 N ((wu64 (a0))) fun r1 =>
k r1
/-! (loop.example/g03403/impl.Table).at -/
def impl_Table_at {β : Type} (N : Nat) (a0 : Int) (a1 : Int) (a2 : Int) (k : Int → Option β) : Option β :=
(gd ((decide (0 ≤ a2)))
(k ((bits .and .i64 (shrI .i64 a1 a2) 1))))
/-! (loop.example/g03403/impl.Table).changes -/
def impl_Table_changes {β : Type} (N : Nat) (a0 : Int) (a1 : Int) (a2 : Int) (a3 : Int) (k : Bool → Option β) : Option β :=
impl_Table_at N a0 a1 a2 fun r4 =>
impl_Table_at N a0 a1 ((bits .xor .i64 a2 a3)) fun r5 =>
k ((r4 != r5))
/-! (loop.example/g03403/impl.Table).influence -/
def impl_Table_influence_l0b {β : Type} (N : Nat)  (v0 : Int) (v1 : Int) (v2 : Int) (v3 : Int) (v4 : Int) (v5 : Int) (rec_ : Int → Int → Int → Int → Int → Int → Option β) (k0 : Int → Option β) : Option β :=
(cond ((decide (v3 < v2)))
((gd ((decide (0 ≤ v0)))
(impl_Table_changes N v4 v5 v3 ((shlI .i64 1 v0)) fun r4 =>
(cond r4
(rec_ v0 ((w64 (v1 + 1))) v2 ((w64 (v3 + 1))) v4 v5)
(rec_ v0 v1 v2 ((w64 (v3 + 1))) v4 v5)))))
(k0 v1))
def impl_Table_influence_l0 {β : Type} (N : Nat)  : Nat → Int → Int → Int → Int → Int → Int → (Int → Option β) → Option β
  | 0, _, _, _, _, _, _, _ => none
  | F + 1, v0, v1, v2, v3, v4, v5, k0 => impl_Table_influence_l0b N  v0 v1 v2 v3 v4 v5 (fun v0 v1 v2 v3 v4 v5 => impl_Table_influence_l0 N  F v0 v1 v2 v3 v4 v5 k0) k0
def impl_Table_influence {β : Type} (N : Nat) (a0 : Int) (a1 : Int) (a2 : Int) (k : Int → Option β) : Option β :=
impl_Table_size N a0 a1 fun r3 =>
impl_Table_influence_l0 N  N a2 0 r3 0 a0 a1 (fun e5_0 =>
k e5_0)
/-! (loop.example/g03403/impl.Table).influences -/
def impl_Table_influences_l0b {β : Type} (N : Nat)  (v0 : Int) (v1 : Int) (v2 : Int) (v3 : Int) (v4 : List Int) (rec_ : Int → Int → Int → Int → List Int → Option β) (k0 : List Int → Option β) : Option β :=
(cond ((decide (v1 < v0)))
(impl_Table_influence N v2 v3 v1 fun r2 =>
(gd ((decide (0 ≤ v1)))
((gd ((decide (v1 < (v4.length : Int))))
(rec_ v0 ((w64 (v1 + 1))) v2 v3 ((wr v4 v1 r2)))))))
(k0 v4))
def impl_Table_influences_l0 {β : Type} (N : Nat)  : Nat → Int → Int → Int → Int → List Int → (List Int → Option β) → Option β
  | 0, _, _, _, _, _, _ => none
  | F + 1, v0, v1, v2, v3, v4, k0 => impl_Table_influences_l0b N  v0 v1 v2 v3 v4 (fun v0 v1 v2 v3 v4 => impl_Table_influences_l0 N  F v0 v1 v2 v3 v4 k0) k0
def impl_Table_influences {β : Type} (N : Nat) (a0 : Int) (a1 : Int) (k : List Int → Option β) : Option β :=
(gd ((decide (0 ≤ a0)))
((gd ((decide (a0 ≤ a0)))
((gd ((decide (8 * a0 ≤ 281474976710656)))
(impl_Table_influences_l0 N  N ((((List.replicate (Int.toNat a0) (0 : Int))).length : Int)) 0 a0 a1 ((List.replicate (Int.toNat a0) (0 : Int))) (fun e3_0 =>
k e3_0)))))))
/-! (loop.example/g03403/impl.Table).kept -/
def impl_Table_kept {β : Type} (N : Nat) (a0 : Int) (a1 : Int) (k : Int → Int → Int → List Int → Option β) : Option β :=
impl_ones N a1 fun r2 =>
impl_Table_influences N a0 a1 fun r3 =>
k a0 a1 r2 r3
/-! loop.example/g03403/impl.NewKept -/
def impl_NewKept {β : Type} (N : Nat) (a0 : Int) (a1 : Int) (k : Int → Int → Int → List Int → Bool → Option β) : Option β :=
impl_IsTable N a0 a1 fun r2 =>
(cond (!r2)
(k 0 0 0 (([] : List Int)) false)
(impl_Table_kept N a0 a1 fun r3 r4 r5 r6 =>
k r3 r4 r5 r6 true))
/-! loop.example/g03403/laws.eqTable -/
def laws_eqTable {β : Type} (N : Nat) (a0 : Int) (a1 : Int) (a2 : Int) (a3 : Int) (k : Bool → Option β) : Option β :=
(cond ((a0 != a2))
(k false)
((cond ((a1 != a3))
(k false)
(k true))))
/-! loop.example/g03403/laws.eqIntS -/
def laws_eqIntS_l0b {β : Type} (N : Nat)  (v0 : List Int) (v1 : List Int) (v2 : Int) (rec_ : List Int → List Int → Int → Option β) (k0 : Bool → Option β) (k1 : Option β) : Option β :=
(cond ((decide (v2 < (v0.length : Int))))
((gd ((decide (0 ≤ v2)))
((gd ((decide (v2 < (v0.length : Int))))
((gd ((decide (0 ≤ v2)))
((gd ((decide (v2 < (v1.length : Int))))
((cond (((rd 0 v0 v2) != (rd 0 v1 v2)))
(k0 false)
(rec_ v0 v1 ((w64 (v2 + 1))))))))))))))
(k1 ))
def laws_eqIntS_l0 {β : Type} (N : Nat)  : Nat → List Int → List Int → Int → (Bool → Option β) → (Option β) → Option β
  | 0, _, _, _, _, _ => none
  | F + 1, v0, v1, v2, k0, k1 => laws_eqIntS_l0b N  v0 v1 v2 (fun v0 v1 v2 => laws_eqIntS_l0 N  F v0 v1 v2 k0 k1) k0 k1
def laws_eqIntS {β : Type} (N : Nat) (a0 : List Int) (a1 : List Int) (k : Bool → Option β) : Option β :=
(cond (((a0.length : Int) != (a1.length : Int)))
(k false)
(laws_eqIntS_l0 N  N a0 a1 0 (fun e2_0 =>
k e2_0) (k true)))
/-! loop.example/g03403/laws.eqKept -/
def laws_eqKept {β : Type} (N : Nat) (a0 : Int) (a1 : Int) (a2 : Int) (a3 : List Int) (a4 : Int) (a5 : Int) (a6 : Int) (a7 : List Int) (k : Bool → Option β) : Option β :=
laws_eqTable N a0 a1 a4 a5 fun r8 =>
(cond (!r8)
(k false)
((cond ((a2 != a6))
(k false)
(laws_eqIntS N a3 a7 fun r9 =>
(cond (!r9)
(k false)
(k true))))))
/-! loop.example/g03403/laws.heldIntS -/
def laws_heldIntS_l0b {β : Type} (N : Nat)  (v0 : List Int) (v1 : Int) (v2 : Int) (rec_ : List Int → Int → Int → Option β) (k0 : Int → Option β) (k1 : Int → Option β) : Option β :=
(cond ((decide (v2 < (v0.length : Int))))
((gd ((decide (0 ≤ v2)))
((gd ((decide (v2 < (v0.length : Int))))
((cond (((rd 0 v0 v2) != v1))
(k0 (-1))
(rec_ v0 ((w64 (v1 + 1))) ((w64 (v2 + 1))))))))))
(k1 v1))
def laws_heldIntS_l0 {β : Type} (N : Nat)  : Nat → List Int → Int → Int → (Int → Option β) → (Int → Option β) → Option β
  | 0, _, _, _, _, _ => none
  | F + 1, v0, v1, v2, k0, k1 => laws_heldIntS_l0b N  v0 v1 v2 (fun v0 v1 v2 => laws_heldIntS_l0 N  F v0 v1 v2 k0 k1) k0 k1
def laws_heldIntS {β : Type} (N : Nat) (a0 : List Int) (a1 : Int) (k : Int → Option β) : Option β :=
laws_heldIntS_l0 N  N a0 a1 0 (fun e2_0 =>
k e2_0) (fun e3_0 =>
k e3_0)
/-! loop.example/g03403/laws.heldKept -/
def laws_heldKept {β : Type} (N : Nat) (a0 : Int) (a1 : Int) (a2 : Int) (a3 : List Int) (a4 : Int) (k : Int → Option β) : Option β :=
laws_heldIntS N a3 a4 fun r5 =>
(cond ((decide (r5 < 0)))
(k (-1))
(k r5))
/-! loop.example/g03403/laws.markIntS -/
def laws_markIntS_l0b {β : Type} (N : Nat)  (v0 : Int) (v1 : Int) (v2 : List Int) (rec_ : Int → Int → List Int → Option β) (k0 : Int → List Int → Option β) : Option β :=
(cond ((decide (v1 < (v2.length : Int))))
((gd ((decide (0 ≤ v1)))
((gd ((decide (v1 < (v2.length : Int))))
(rec_ ((w64 (v0 + 1))) ((w64 (v1 + 1))) ((wr v2 v1 v0)))))))
(k0 v0 v2))
def laws_markIntS_l0 {β : Type} (N : Nat)  : Nat → Int → Int → List Int → (Int → List Int → Option β) → Option β
  | 0, _, _, _, _ => none
  | F + 1, v0, v1, v2, k0 => laws_markIntS_l0b N  v0 v1 v2 (fun v0 v1 v2 => laws_markIntS_l0 N  F v0 v1 v2 k0) k0
def laws_markIntS {β : Type} (N : Nat) (a0 : List Int) (a1 : Int) (k : Int → List Int → Option β) : Option β :=
laws_markIntS_l0 N  N a1 0 a0 (fun e2_0 e2_1 =>
k e2_0 e2_1)
/-! loop.example/g03403/laws.markKept -/
def laws_markKept {β : Type} (N : Nat) (a0 : Int) (a1 : Int) (a2 : Int) (a3 : List Int) (a4 : Int) (k : Int → List Int → Option β) : Option β :=
laws_markIntS N a3 a4 fun r5 m6 =>
k r5 m6
/-! loop.example/g03403/laws.FnExactNewKept -/
def laws_FnExactNewKept {β : Type} (N : Nat) (a0 : Int) (a1 : Int) (k : Bool → Option β) : Option β :=
laws_toTable N a0 a1 fun r2 r3 =>
spec_NewKept N r2 r3 fun r4 r5 r6 r7 r8 =>
laws_toTable N a0 a1 fun r9 r10 =>
impl_NewKept N r9 r10 fun r11 r12 r13 r14 r15 =>
laws_eqKept N r11 r12 r13 r14 r4 r5 r6 r7 fun r16 =>
(cond (!r16)
(k false)
((cond ((!(r15 == r8)))
(k false)
(laws_markKept N r11 r12 r13 r14 1 fun r17 m18 =>
laws_heldKept N r11 r12 r13 m18 1 fun r19 =>
(cond ((decide (r19 < 0)))
(k false)
((cond ((r19 != r17))
(k false)
(laws_toTable N a0 a1 fun r20 r21 =>
impl_NewKept N r20 r21 fun r22 r23 r24 r25 r26 =>
laws_eqKept N r22 r23 r24 r25 r4 r5 r6 r7 fun r27 =>
(cond (!r27)
(k false)
((cond ((!(r26 == r8)))
(k false)
(laws_heldKept N r11 r12 r13 m18 1 fun r28 =>
(cond ((decide (r28 < 0)))
(k false)
((cond ((r28 != r17))
(k false)
(k true))))))))))))))))
/-! loop.example/g03403/spec.l2Full -/
def spec_l2Full {β : Type} (N : Nat) (a0 : Int) (k : Int → Option β) : Option β :=
(gd ((decide (0 ≤ a0)))
((gd ((decide (0 ≤ (shlI .u64 1 a0))))
(k ((w64 ((shlI .i64 1 (shlI .u64 1 a0)) - 1)))))))
/-! loop.example/g03403/spec.l29Stuck -/
def spec_l29Stuck_l0b {β : Type} (N : Nat)  (v0 : Int) (v1 : Int) (v2 : Int) (v3 : Int) (v4 : Int) (v5 : Int) (v6 : Int) (v7 : Int) (rec_ : Int → Int → Int → Int → Int → Int → Int → Int → Option β) (k0 : Int → Int → Int → Int → Int → Option β) : Option β :=
(gd ((decide (0 ≤ v4)))
((cond ((decide (v3 < (shlI .i64 1 v4))))
((gd ((decide (0 ≤ v0)))
((gd ((decide (0 ≤ v0)))
((gd ((decide (0 ≤ (w64 ((w64 (v3 - (bits .and .i64 v3 (shlI .i64 1 v0)))) + (shlI .i64 v1 v0))))))
((gd ((decide (0 ≤ v3)))
(rec_ v0 v1 ((bits .or .i64 v2 (shlI .i64 (bits .and .i64 (shrI .i64 v5 (w64 ((w64 (v3 - (bits .and .i64 v3 (shlI .i64 1 v0)))) + (shlI .i64 v1 v0)))) 1) v3))) ((w64 (v3 + 1))) v4 v5 v6 v7)))))))))
(k0 v2 v4 v5 v6 v7))))
def spec_l29Stuck_l0 {β : Type} (N : Nat)  : Nat → Int → Int → Int → Int → Int → Int → Int → Int → (Int → Int → Int → Int → Int → Option β) → Option β
  | 0, _, _, _, _, _, _, _, _, _ => none
  | F + 1, v0, v1, v2, v3, v4, v5, v6, v7, k0 => spec_l29Stuck_l0b N  v0 v1 v2 v3 v4 v5 v6 v7 (fun v0 v1 v2 v3 v4 v5 v6 v7 => spec_l29Stuck_l0 N  F v0 v1 v2 v3 v4 v5 v6 v7 k0) k0
def spec_l29Stuck {β : Type} (N : Nat) (a0 : Int) (a1 : Int) (a2 : Int) (a3 : Int) (k : Int → Int → Option β) : Option β :=
spec_l29Stuck_l0 N  N a2 a3 0 0 a0 a1 0 0 (fun e4_0 e4_1 e4_2 e4_3 e4_4 =>
k e4_1 e4_0)
/-! loop.example/g03403/spec.l29Shows -/
def spec_l29Shows_l2b {β : Type} (N : Nat)  (v0 : Int) (v1 : Int) (v2 : Int) (v3 : Int) (v4 : Int) (rec_ : Int → Int → Int → Int → Int → Option β) (k0 : Bool → Option β) (k1 : Int → Int → Int → Int → Option β) : Option β :=
(cond ((decide (v2 < 2)))
(spec_l29Stuck N v3 v4 v1 v2 fun r3 r4 =>
(cond (((bits .xor .i64 v4 r4) != 0))
((cond (((bits .and .i64 (bits .xor .i64 v4 r4) v0) == 0))
(k0 false)
(rec_ v0 v1 ((w64 (v2 + 1))) v3 v4)))
(rec_ v0 v1 ((w64 (v2 + 1))) v3 v4)))
(k1 v0 v1 v3 v4))
def spec_l29Shows_l2 {β : Type} (N : Nat)  : Nat → Int → Int → Int → Int → Int → (Bool → Option β) → (Int → Int → Int → Int → Option β) → Option β
  | 0, _, _, _, _, _, _, _ => none
  | F + 1, v0, v1, v2, v3, v4, k0, k1 => spec_l29Shows_l2b N  v0 v1 v2 v3 v4 (fun v0 v1 v2 v3 v4 => spec_l29Shows_l2 N  F v0 v1 v2 v3 v4 k0 k1) k0 k1
def spec_l29Shows_l0b {β : Type} (N : Nat)  (v0 : Int) (v1 : Int) (v2 : Int) (v3 : Int) (rec_ : Int → Int → Int → Int → Option β) (k0 : Bool → Option β) (k1 : Option β) : Option β :=
(cond ((decide (v1 < v2)))
(spec_l29Shows_l2 N  N v0 v1 0 v2 v3 (fun e5_0 =>
k0 e5_0) (fun e6_0 e6_1 e6_2 e6_3 =>
rec_ e6_0 ((w64 (e6_1 + 1))) e6_2 e6_3))
(k1 ))
def spec_l29Shows_l0 {β : Type} (N : Nat)  : Nat → Int → Int → Int → Int → (Bool → Option β) → (Option β) → Option β
  | 0, _, _, _, _, _, _ => none
  | F + 1, v0, v1, v2, v3, k0, k1 => spec_l29Shows_l0b N  v0 v1 v2 v3 (fun v0 v1 v2 v3 => spec_l29Shows_l0 N  F v0 v1 v2 v3 k0 k1) k0 k1
def spec_l29Shows {β : Type} (N : Nat) (a0 : Int) (a1 : Int) (a2 : Int) (k : Bool → Option β) : Option β :=
spec_l29Shows_l0 N  N a2 0 a0 a1 (fun e7_0 =>
k e7_0) (k true)
/-! loop.example/g03403/spec.LeastTestSet -/
def spec_LeastTestSet_l0b {β : Type} (N : Nat)  (v0 : Int) (v1 : Int) (v2 : Int) (v3 : Int) (rec_ : Int → Int → Int → Int → Option β) (k0 : Int → Int → Int → Option β) : Option β :=
spec_l2Full N v2 fun r4 =>
(cond ((decide (v1 < r4)))
(spec_l2Count N v1 fun r5 =>
spec_l2Count N v0 fun r6 =>
(cond ((decide (r5 < r6)))
(spec_l29Shows N v2 v3 v1 fun r7 =>
(cond r7
(rec_ v1 ((w64 (v1 + 1))) v2 v3)
(rec_ v0 ((w64 (v1 + 1))) v2 v3)))
(rec_ v0 ((w64 (v1 + 1))) v2 v3)))
(k0 v0 v2 v3))
def spec_LeastTestSet_l0 {β : Type} (N : Nat)  : Nat → Int → Int → Int → Int → (Int → Int → Int → Option β) → Option β
  | 0, _, _, _, _, _ => none
  | F + 1, v0, v1, v2, v3, k0 => spec_LeastTestSet_l0b N  v0 v1 v2 v3 (fun v0 v1 v2 v3 => spec_LeastTestSet_l0 N  F v0 v1 v2 v3 k0) k0
def spec_LeastTestSet_l2b {β : Type} (N : Nat)  (v0 : Int) (v1 : Int) (v2 : Int) (v3 : Int) (v4 : List Int) (rec_ : Int → Int → Int → Int → List Int → Option β) (k0 : List Int → Option β) : Option β :=
(gd ((decide (0 ≤ v2)))
((cond ((decide (v1 < (shlI .i64 1 v2))))
((gd ((decide (0 ≤ v1)))
((cond (((bits .and .i64 (shrI .i64 v0 v1) 1) == 1))
((gd ((decide ((v4.length + ((([] : List Int) ++ [v1])).length) * 8 ≤ 140737488355328)))
(rec_ v0 ((w64 (v1 + 1))) v2 v3 ((v4 ++ (([] : List Int) ++ [v1]))))))
(rec_ v0 ((w64 (v1 + 1))) v2 v3 v4)))))
(k0 v4))))
def spec_LeastTestSet_l2 {β : Type} (N : Nat)  : Nat → Int → Int → Int → Int → List Int → (List Int → Option β) → Option β
  | 0, _, _, _, _, _, _ => none
  | F + 1, v0, v1, v2, v3, v4, k0 => spec_LeastTestSet_l2b N  v0 v1 v2 v3 v4 (fun v0 v1 v2 v3 v4 => spec_LeastTestSet_l2 N  F v0 v1 v2 v3 v4 k0) k0
def spec_LeastTestSet {β : Type} (N : Nat) (a0 : Int) (a1 : Int) (k : List Int → Bool → Option β) : Option β :=
spec_IsTable N a0 a1 fun r2 =>
(cond (!r2)
(k (([] : List Int)) false)
((cond ((decide (a0 > 3)))
(k (([] : List Int)) false)
(spec_l2Full N a0 fun r3 =>
spec_LeastTestSet_l0 N  N r3 0 a0 a1 (fun e8_0 e8_1 e8_2 =>
spec_LeastTestSet_l2 N  N e8_0 0 e8_1 e8_2 (([] : List Int)) (fun e9_0 =>
k e9_0 true))))))
/-! loop.example/g03403/impl.isSmall -/
def impl_isSmall {β : Type} (N : Nat) (a0 : Int) (a1 : Int) (a2 : Int) (k : Bool → Option β) : Option β :=
impl_IsTable N a0 a1 fun r3 =>
(cond r3
(k ((decide (a0 ≤ a2))))
(k false))
/-! (loop.example/g03403/impl.Table).stuck$1 -/
def impl_Table_stuck_1 {β : Type} (N : Nat) (a0 : Int) (c0 : Int) (c1 : Int) (c2 : Int) (c3 : Int) (k : Bool → Option β) : Option β :=
(gd ((decide (0 ≤ c2)))
((gd ((decide (0 ≤ c2)))
(impl_Table_at N c0 c1 ((bits .or .i64 (bits .andNot .i64 a0 (shlI .i64 1 c2)) (shlI .i64 c3 c2))) fun r1 =>
k ((r1 == 1))))))
/-! loop.example/g03403/impl.makeTable -/
def impl_makeTable_l0b {β : Type} (N : Nat) (a1 : (Int → (Bool → Option β) → Option β)) (v0 : Int) (v1 : Int) (v2 : Int) (v3 : Int) (v4 : Int) (v5 : Int) (rec_ : Int → Int → Int → Int → Int → Int → Option β) (k0 : Int → Int → Int → Int → Option β) : Option β :=
(cond ((decide (v1 < v0)))
(a1 v1 fun r2 =>
(cond r2
((gd ((decide (0 ≤ v1)))
(rec_ v0 ((w64 (v1 + 1))) v2 v3 v4 ((bits .or .i64 v5 (shlI .i64 1 v1))))))
(rec_ v0 ((w64 (v1 + 1))) v2 v3 v4 v5)))
(k0 v2 v3 v4 v5))
def impl_makeTable_l0 {β : Type} (N : Nat) (a1 : (Int → (Bool → Option β) → Option β)) : Nat → Int → Int → Int → Int → Int → Int → (Int → Int → Int → Int → Option β) → Option β
  | 0, _, _, _, _, _, _, _ => none
  | F + 1, v0, v1, v2, v3, v4, v5, k0 => impl_makeTable_l0b N a1 v0 v1 v2 v3 v4 v5 (fun v0 v1 v2 v3 v4 v5 => impl_makeTable_l0 N a1 F v0 v1 v2 v3 v4 v5 k0) k0
def impl_makeTable {β : Type} (N : Nat) (a0 : Int) (a1 : (Int → (Bool → Option β) → Option β)) (k : Int → Int → Option β) : Option β :=
(gd ((decide (0 ≤ a0)))
(impl_makeTable_l0 N a1 N ((shlI .i64 1 a0)) 0 0 0 a0 0 (fun e3_0 e3_1 e3_2 e3_3 =>
k e3_2 e3_3)))
/-! (loop.example/g03403/impl.Table).stuck -/
def impl_Table_stuck {β : Type} (N : Nat) (a0 : Int) (a1 : Int) (a2 : Int) (a3 : Int) (k : Int → Int → Option β) : Option β :=
impl_makeTable N a0 (fun x0 k => impl_Table_stuck_1 N x0 a0 a1 a2 a3 k) fun r4 r5 =>
k r4 r5
/-! (loop.example/g03403/impl.Table).detecting -/
def impl_Table_detecting {β : Type} (N : Nat) (a0 : Int) (a1 : Int) (a2 : Int) (a3 : Int) (k : Int → Option β) : Option β :=
impl_Table_stuck N a0 a1 a2 a3 fun r4 r5 =>
k ((bits .xor .i64 a1 r5))
/-! (loop.example/g03403/impl.Table).tests -/
def impl_Table_tests_l2b {β : Type} (N : Nat)  (v0 : Int) (v1 : Int) (v2 : Int) (v3 : Int) (v4 : Int) (v5 : Int) (v6 : Int) (rec_ : Int → Int → Int → Int → Int → Int → Int → Option β) (k0 : Bool → Option β) (k1 : Int → Int → Int → Int → Int → Option β) : Option β :=
(cond ((decide (v4 < 2)))
(impl_Table_detecting N v5 v6 v1 v4 fun r3 =>
(cond ((r3 != 0))
((cond (((bits .and .i64 r3 v0) == 0))
(k0 false)
(rec_ v0 v1 v2 v3 ((w64 (v4 + 1))) v5 v6)))
(rec_ v0 v1 v2 v3 ((w64 (v4 + 1))) v5 v6)))
(k1 v0 v2 v3 v5 v6))
def impl_Table_tests_l2 {β : Type} (N : Nat)  : Nat → Int → Int → Int → Int → Int → Int → Int → (Bool → Option β) → (Int → Int → Int → Int → Int → Option β) → Option β
  | 0, _, _, _, _, _, _, _, _, _ => none
  | F + 1, v0, v1, v2, v3, v4, v5, v6, k0, k1 => impl_Table_tests_l2b N  v0 v1 v2 v3 v4 v5 v6 (fun v0 v1 v2 v3 v4 v5 v6 => impl_Table_tests_l2 N  F v0 v1 v2 v3 v4 v5 v6 k0 k1) k0 k1
def impl_Table_tests_l0b {β : Type} (N : Nat)  (v0 : Int) (v1 : Int) (v2 : Int) (v3 : Int) (v4 : Int) (rec_ : Int → Int → Int → Int → Int → Option β) (k0 : Bool → Option β) (k1 : Option β) : Option β :=
(cond ((decide (v2 < v1)))
(impl_Table_tests_l2 N  N v0 v2 v1 v2 0 v3 v4 (fun e4_0 =>
k0 e4_0) (fun e5_0 e5_1 e5_2 e5_3 e5_4 =>
rec_ e5_0 e5_1 ((w64 (e5_2 + 1))) e5_3 e5_4))
(k1 ))
def impl_Table_tests_l0 {β : Type} (N : Nat)  : Nat → Int → Int → Int → Int → Int → (Bool → Option β) → (Option β) → Option β
  | 0, _, _, _, _, _, _, _ => none
  | F + 1, v0, v1, v2, v3, v4, k0, k1 => impl_Table_tests_l0b N  v0 v1 v2 v3 v4 (fun v0 v1 v2 v3 v4 => impl_Table_tests_l0 N  F v0 v1 v2 v3 v4 k0 k1) k0 k1
def impl_Table_tests {β : Type} (N : Nat) (a0 : Int) (a1 : Int) (a2 : Int) (k : Bool → Option β) : Option β :=
impl_Table_tests_l0 N  N a2 a0 0 a0 a1 (fun e6_0 =>
k e6_0) (k true)
/-! loop.example/g03403/impl.elements -/
def impl_elements_l0b {β : Type} (N : Nat)  (v0 : Int) (v1 : Int) (v2 : List Int) (rec_ : Int → Int → List Int → Option β) (k0 : List Int → Option β) : Option β :=
(cond ((decide (v1 < 32)))
((gd ((decide (0 ≤ v1)))
((cond (((bits .and .i64 (shrI .i64 v0 v1) 1) == 1))
((gd ((decide ((v2.length + ((([] : List Int) ++ [v1])).length) * 8 ≤ 140737488355328)))
(rec_ v0 ((w64 (v1 + 1))) ((v2 ++ (([] : List Int) ++ [v1]))))))
(rec_ v0 ((w64 (v1 + 1))) v2)))))
(k0 v2))
def impl_elements_l0 {β : Type} (N : Nat)  : Nat → Int → Int → List Int → (List Int → Option β) → Option β
  | 0, _, _, _, _ => none
  | F + 1, v0, v1, v2, k0 => impl_elements_l0b N  v0 v1 v2 (fun v0 v1 v2 => impl_elements_l0 N  F v0 v1 v2 k0) k0
def impl_elements {β : Type} (N : Nat) (a0 : Int) (k : List Int → Option β) : Option β :=
impl_elements_l0 N  N a0 0 (([] : List Int)) (fun e1_0 =>
k e1_0)
/-! loop.example/g03403/impl.LeastTestSet -/
def impl_LeastTestSet_l0b {β : Type} (N : Nat)  (v0 : Int) (v1 : Int) (v2 : Int) (v3 : Int) (v4 : Int) (rec_ : Int → Int → Int → Int → Int → Option β) (k0 : Int → Option β) : Option β :=
(cond ((decide (v2 < v1)))
(impl_ones N v2 fun r4 =>
impl_ones N v0 fun r5 =>
(cond ((decide (r4 < r5)))
(impl_Table_tests N v3 v4 v2 fun r6 =>
(cond r6
(rec_ v2 v1 ((w64 (v2 + 1))) v3 v4)
(rec_ v0 v1 ((w64 (v2 + 1))) v3 v4)))
(rec_ v0 v1 ((w64 (v2 + 1))) v3 v4)))
(k0 v0))
def impl_LeastTestSet_l0 {β : Type} (N : Nat)  : Nat → Int → Int → Int → Int → Int → (Int → Option β) → Option β
  | 0, _, _, _, _, _, _ => none
  | F + 1, v0, v1, v2, v3, v4, k0 => impl_LeastTestSet_l0b N  v0 v1 v2 v3 v4 (fun v0 v1 v2 v3 v4 => impl_LeastTestSet_l0 N  F v0 v1 v2 v3 v4 k0) k0
def impl_LeastTestSet {β : Type} (N : Nat) (a0 : Int) (a1 : Int) (k : List Int → Bool → Option β) : Option β :=
impl_isSmall N a0 a1 3 fun r2 =>
(cond (!r2)
(k (([] : List Int)) false)
(impl_Table_size N a0 a1 fun r3 =>
(gd ((decide (0 ≤ r3)))
(impl_LeastTestSet_l0 N  N ((w64 ((shlI .i64 1 r3) - 1))) ((w64 ((shlI .i64 1 r3) - 1))) 0 a0 a1 (fun e7_0 =>
impl_elements N e7_0 fun r8 =>
k r8 true)))))
/-! loop.example/g03403/laws.FnExactLeastTestSet -/
def laws_FnExactLeastTestSet {β : Type} (N : Nat) (a0 : Int) (a1 : Int) (k : Bool → Option β) : Option β :=
laws_toTable N a0 a1 fun r2 r3 =>
spec_LeastTestSet N r2 r3 fun r4 r5 =>
laws_toTable N a0 a1 fun r6 r7 =>
impl_LeastTestSet N r6 r7 fun r8 r9 =>
laws_eqIntS N r8 r4 fun r10 =>
(cond (!r10)
(k false)
((cond ((!(r9 == r5)))
(k false)
(laws_markIntS N r8 1 fun r11 m12 =>
laws_heldIntS N m12 1 fun r13 =>
(cond ((decide (r13 < 0)))
(k false)
((cond ((r13 != r11))
(k false)
(laws_toTable N a0 a1 fun r14 r15 =>
impl_LeastTestSet N r14 r15 fun r16 r17 =>
laws_eqIntS N r16 r4 fun r18 =>
(cond (!r18)
(k false)
((cond ((!(r17 == r5)))
(k false)
(laws_heldIntS N m12 1 fun r19 =>
(cond ((decide (r19 < 0)))
(k false)
((cond ((r19 != r11))
(k false)
(k true))))))))))))))))
/-! loop.example/g03403/laws.szIntS -/
def laws_szIntS {β : Type} (N : Nat) (a0 : List Int) (a1 : Int) (k : Int → Option β) : Option β :=
(cond ((decide ((w64 (a1 - (a0.length : Int))) < 0)))
(k (-1))
(k ((w64 (a1 - (a0.length : Int))))))
/-! loop.example/g03403/laws.szKept -/
def laws_szKept {β : Type} (N : Nat) (a0 : Int) (a1 : Int) (a2 : Int) (a3 : List Int) (a4 : Int) (k : Int → Option β) : Option β :=
laws_szIntS N a3 a4 fun r5 =>
(cond ((decide (r5 < 0)))
(k (-1))
(k r5))
/-! loop.example/g03403/laws.toIntS -/
def laws_toIntS_l0b {β : Type} (N : Nat)  (v0 : List Int) (v1 : Int) (v2 : List Int) (rec_ : List Int → Int → List Int → Option β) (k0 : List Int → Option β) : Option β :=
(cond ((decide (v1 < (v0.length : Int))))
((gd ((decide (0 ≤ v1)))
((gd ((decide (v1 < (v0.length : Int))))
((gd ((decide (0 ≤ v1)))
((gd ((decide (v1 < (v2.length : Int))))
(rec_ v0 ((w64 (v1 + 1))) ((wr v2 v1 (rd 0 v0 v1))))))))))))
(k0 v2))
def laws_toIntS_l0 {β : Type} (N : Nat)  : Nat → List Int → Int → List Int → (List Int → Option β) → Option β
  | 0, _, _, _, _ => none
  | F + 1, v0, v1, v2, k0 => laws_toIntS_l0b N  v0 v1 v2 (fun v0 v1 v2 => laws_toIntS_l0 N  F v0 v1 v2 k0) k0
def laws_toIntS {β : Type} (N : Nat) (a0 : List Int) (k : List Int → Option β) : Option β :=
(gd ((decide (0 ≤ (a0.length : Int))))
((gd ((decide ((a0.length : Int) ≤ (a0.length : Int))))
((gd ((decide (8 * (a0.length : Int) ≤ 281474976710656)))
(laws_toIntS_l0 N  N a0 0 ((List.replicate (Int.toNat (a0.length : Int)) (0 : Int))) (fun e1_0 =>
k e1_0)))))))
/-! loop.example/g03403/laws.toKept -/
def laws_toKept {β : Type} (N : Nat) (a0 : Int) (a1 : Int) (a2 : Int) (a3 : List Int) (k : Int → Int → Int → List Int → Option β) : Option β :=
laws_toTable N a0 a1 fun r4 r5 =>
laws_toIntS N a3 fun r6 =>
k r4 r5 a2 r6
/-! loop.example/g03403/spec.l30Same -/
def spec_l30Same_l0b {β : Type} (N : Nat)  (v0 : List Int) (v1 : List Int) (v2 : Int) (rec_ : List Int → List Int → Int → Option β) (k0 : Bool → Option β) (k1 : Option β) : Option β :=
(cond ((decide (v2 < (v0.length : Int))))
((gd ((decide (0 ≤ v2)))
((gd ((decide (v2 < (v0.length : Int))))
((gd ((decide (0 ≤ v2)))
((gd ((decide (v2 < (v1.length : Int))))
((cond (((rd 0 v0 v2) != (rd 0 v1 v2)))
(k0 false)
(rec_ v0 v1 ((w64 (v2 + 1))))))))))))))
(k1 ))
def spec_l30Same_l0 {β : Type} (N : Nat)  : Nat → List Int → List Int → Int → (Bool → Option β) → (Option β) → Option β
  | 0, _, _, _, _, _ => none
  | F + 1, v0, v1, v2, k0, k1 => spec_l30Same_l0b N  v0 v1 v2 (fun v0 v1 v2 => spec_l30Same_l0 N  F v0 v1 v2 k0 k1) k0 k1
def spec_l30Same {β : Type} (N : Nat) (a0 : List Int) (a1 : List Int) (k : Bool → Option β) : Option β :=
(cond (((a0.length : Int) != (a1.length : Int)))
(k false)
(spec_l30Same_l0 N  N a0 a1 0 (fun e2_0 =>
k e2_0) (k true)))
/-! loop.example/g03403/spec.IsKept -/
def spec_IsKept {β : Type} (N : Nat) (a0 : Int) (a1 : Int) (a2 : Int) (a3 : List Int) (k : Bool → Option β) : Option β :=
spec_NewKept N a0 a1 fun r4 r5 r6 r7 r8 =>
(cond r8
((cond ((a2 == r6))
(spec_l30Same N a3 r7 fun r9 =>
k r9)
(k false)))
(k false))
/-! slices.Equal[[]int,int] -/
def slices_Equal_Sint_int_l0b {β : Type} (N : Nat)  (v0 : List Int) (v1 : List Int) (v2 : Int) (v3 : Int) (rec_ : List Int → List Int → Int → Int → Option β) (k0 : Bool → Option β) (k1 : Option β) : Option β :=
(cond ((decide (v3 < v2)))
((gd ((decide (0 ≤ v3)))
((gd ((decide (v3 < (v0.length : Int))))
((gd ((decide (0 ≤ v3)))
((gd ((decide (v3 < (v1.length : Int))))
((cond (((rd 0 v0 v3) != (rd 0 v1 v3)))
(k0 false)
(rec_ v0 v1 v2 ((w64 (v3 + 1))))))))))))))
(k1 ))
def slices_Equal_Sint_int_l0 {β : Type} (N : Nat)  : Nat → List Int → List Int → Int → Int → (Bool → Option β) → (Option β) → Option β
  | 0, _, _, _, _, _, _ => none
  | F + 1, v0, v1, v2, v3, k0, k1 => slices_Equal_Sint_int_l0b N  v0 v1 v2 v3 (fun v0 v1 v2 v3 => slices_Equal_Sint_int_l0 N  F v0 v1 v2 v3 k0 k1) k0 k1
def slices_Equal_Sint_int {β : Type} (N : Nat) (a0 : List Int) (a1 : List Int) (k : Bool → Option β) : Option β :=
(cond (((a0.length : Int) != (a1.length : Int)))
(k false)
(slices_Equal_Sint_int_l0 N  N a0 a1 ((a0.length : Int)) 0 (fun e2_0 =>
k e2_0) (k true)))
/-! loop.example/g03403/impl.EqualKept -/
def impl_EqualKept {β : Type} (N : Nat) (a0 : Int) (a1 : Int) (a2 : Int) (a3 : List Int) (a4 : Int) (a5 : Int) (a6 : Int) (a7 : List Int) (k : Bool → Option β) : Option β :=
(cond (((a0 == a4) && (a1 == a5)))
((cond ((a2 == a6))
(slices_Equal_Sint_int N a3 a7 fun r8 =>
k r8)
(k false)))
(k false))
/-! loop.example/g03403/impl.IsKept -/
def impl_IsKept {β : Type} (N : Nat) (a0 : Int) (a1 : Int) (a2 : Int) (a3 : List Int) (k : Bool → Option β) : Option β :=
impl_IsTable N a0 a1 fun r4 =>
(cond r4
(impl_Table_kept N a0 a1 fun r5 r6 r7 r8 =>
impl_EqualKept N a0 a1 a2 a3 r5 r6 r7 r8 fun r9 =>
k r9)
(k false))
/-! loop.example/g03403/laws.FnExactIsKept -/
def laws_FnExactIsKept {β : Type} (N : Nat) (a0 : Int) (a1 : Int) (a2 : Int) (a3 : List Int) (k : Bool → Option β) : Option β :=
laws_szKept N a0 a1 a2 a3 1048576 fun r4 =>
(cond ((decide (r4 < 0)))
(k true)
(laws_toKept N a0 a1 a2 a3 fun r5 r6 r7 r8 =>
spec_IsKept N r5 r6 r7 r8 fun r9 =>
laws_toKept N a0 a1 a2 a3 fun r10 r11 r12 r13 =>
impl_IsKept N r10 r11 r12 r13 fun r14 =>
(cond ((!(r14 == r9)))
(k false)
(laws_toKept N a0 a1 a2 a3 fun r15 r16 r17 r18 =>
laws_eqKept N r10 r11 r12 r13 r15 r16 r17 r18 fun r19 =>
(cond (!r19)
(k false)
(k true))))))
/-! loop.example/g03403/spec.ClaimOfTests -/
def spec_ClaimOfTests {β : Type} (N : Nat) (a0 : Int) (a1 : Int) (k : Int → Int → Int → Int → Int → ByteArray → List Int → Bool → Option β) : Option β :=
spec_LeastTestSet N a0 a1 fun r2 r3 =>
(cond (!r3)
(k 0 0 0 0 0 ByteArray.empty (([] : List Int)) false)
(k 7 a0 a1 ((r2.length : Int)) 0 ByteArray.empty r2 true))
/-! loop.example/g03403/impl.ClaimOfTests -/
def impl_ClaimOfTests {β : Type} (N : Nat) (a0 : Int) (a1 : Int) (k : Int → Int → Int → Int → Int → ByteArray → List Int → Bool → Option β) : Option β :=
impl_LeastTestSet N a0 a1 fun r2 r3 =>
(cond (!r3)
(k 0 0 0 0 0 ByteArray.empty (([] : List Int)) false)
(k 7 a0 a1 ((r2.length : Int)) 0 ByteArray.empty r2 true))
/-! loop.example/g03403/laws.eqClaim -/
def laws_eqClaim {β : Type} (N : Nat) (a0 : Int) (a1 : Int) (a2 : Int) (a3 : Int) (a4 : Int) (a5 : ByteArray) (a6 : List Int) (a7 : Int) (a8 : Int) (a9 : Int) (a10 : Int) (a11 : Int) (a12 : ByteArray) (a13 : List Int) (k : Bool → Option β) : Option β :=
(cond ((a0 != a7))
(k false)
(laws_eqTable N a1 a2 a8 a9 fun r14 =>
(cond (!r14)
(k false)
((cond ((a3 != a10))
(k false)
((cond ((a4 != a11))
(k false)
((cond ((!(a5.toList == a12.toList)))
(k false)
(laws_eqIntS N a6 a13 fun r15 =>
(cond (!r15)
(k false)
(k true))))))))))))
/-! loop.example/g03403/laws.heldClaim -/
def laws_heldClaim {β : Type} (N : Nat) (a0 : Int) (a1 : Int) (a2 : Int) (a3 : Int) (a4 : Int) (a5 : ByteArray) (a6 : List Int) (a7 : Int) (k : Int → Option β) : Option β :=
laws_heldIntS N a6 a7 fun r8 =>
(cond ((decide (r8 < 0)))
(k (-1))
(k r8))
/-! loop.example/g03403/laws.markClaim -/
def laws_markClaim {β : Type} (N : Nat) (a0 : Int) (a1 : Int) (a2 : Int) (a3 : Int) (a4 : Int) (a5 : ByteArray) (a6 : List Int) (a7 : Int) (k : Int → List Int → Option β) : Option β :=
laws_markIntS N a6 a7 fun r8 m9 =>
k r8 m9
/-! loop.example/g03403/laws.FnExactClaimOfTests -/
def laws_FnExactClaimOfTests {β : Type} (N : Nat) (a0 : Int) (a1 : Int) (k : Bool → Option β) : Option β :=
laws_toTable N a0 a1 fun r2 r3 =>
spec_ClaimOfTests N r2 r3 fun r4 r5 r6 r7 r8 r9 r10 r11 =>
laws_toTable N a0 a1 fun r12 r13 =>
impl_ClaimOfTests N r12 r13 fun r14 r15 r16 r17 r18 r19 r20 r21 =>
laws_eqClaim N r14 r15 r16 r17 r18 r19 r20 r4 r5 r6 r7 r8 r9 r10 fun r22 =>
(cond (!r22)
(k false)
((cond ((!(r21 == r11)))
(k false)
(laws_markClaim N r14 r15 r16 r17 r18 r19 r20 1 fun r23 m24 =>
laws_heldClaim N r14 r15 r16 r17 r18 r19 m24 1 fun r25 =>
(cond ((decide (r25 < 0)))
(k false)
((cond ((r25 != r23))
(k false)
(laws_toTable N a0 a1 fun r26 r27 =>
impl_ClaimOfTests N r26 r27 fun r28 r29 r30 r31 r32 r33 r34 r35 =>
laws_eqClaim N r28 r29 r30 r31 r32 r33 r34 r4 r5 r6 r7 r8 r9 r10 fun r36 =>
(cond (!r36)
(k false)
((cond ((!(r35 == r11)))
(k false)
(laws_heldClaim N r14 r15 r16 r17 r18 r19 m24 1 fun r37 =>
(cond ((decide (r37 < 0)))
(k false)
((cond ((r37 != r23))
(k false)
(k true))))))))))))))))
/-! loop.example/g03403/spec.l9In -/
def spec_l9In {β : Type} (N : Nat) (a0 : Int) (a1 : Int) (a2 : Int) (k : Bool → Option β) : Option β :=
spec_IsTable N a0 a1 fun r3 =>
(cond r3
((gd ((decide (0 ≤ a0)))
(spec_l1In N a2 0 ((w64 ((shlI .i64 1 a0) - 1))) fun r4 =>
k r4)))
(k false))
/-! loop.example/g03403/spec.l30Flip -/
def spec_l30Flip_s2 {β : Type} (s0 : Int) (s1 : Int) (s2 : Int) (s3 : Int) (s4 : List Int) (s5 : Int) (s6 : Int) (s7 : Int) (s8 : Int) (s9 : Int) (s10 : Int) (s11 : Int) (s12 : Int) (s13 : List Int) (s14 : List Int) (K : Option β) : Option β :=
(gd (s0 == s0) (gd (s1 == s1) (gd (s2 == s2) (gd (s3 == s3) (gd (s4 == s4) (gd (s5 == s5) (gd (s6 == s6) (gd (s7 == s7) (gd (s8 == s8) (gd (s9 == s9) (gd (s10 == s10) (gd (s11 == s11) (gd (s12 == s12) (gd (s13 == s13) (gd (s14 == s14) K)))))))))))))))
def spec_l30Flip_l0b {β : Type} (N : Nat)  (v0 : Int) (v1 : Int) (v2 : Int) (v3 : Int) (v4 : Int) (v5 : List Int) (v6 : Int) (v7 : Int) (v8 : Int) (v9 : Int) (v10 : Int) (v11 : Int) (v12 : Int) (v13 : Int) (v14 : List Int) (v15 : List Int) (rec_ : Int → Int → Int → Int → Int → List Int → Int → Int → Int → Int → Int → Int → Int → Int → List Int → List Int → Option β) (k0 : Int → Int → Int → Int → Int → Int → List Int → List Int → Option β) : Option β :=
(cond ((decide (v1 < v9)))
((gd ((decide (0 ≤ v0)))
((gd ((decide (0 ≤ v1)))
((gd ((decide (0 ≤ (bits .xor .i64 v0 (shlI .i64 1 v1)))))
((cond (((bits .and .i64 (bits .xor .i64 (shrI .i64 v10 v0) (shrI .i64 v10 (bits .xor .i64 v0 (shlI .i64 1 v1)))) 1) == 1))
((gd ((decide (0 ≤ v1)))
((gd ((decide (v1 < (v5.length : Int))))
((gd ((decide ((v15.length + ((([] : List Int) ++ [(w64 ((rd 0 v5 v1) + (-2)))])).length) * 8 ≤ 140737488355328)))
(rec_ v0 ((w64 (v1 + 1))) v2 v3 v4 v5 v6 v7 v8 v9 v10 v11 v12 v13 v14 ((v15 ++ (([] : List Int) ++ [(w64 ((rd 0 v5 v1) + (-2)))]))))))))))
((gd ((decide (0 ≤ v1)))
((gd ((decide (v1 < (v5.length : Int))))
((gd ((decide ((v15.length + ((([] : List Int) ++ [(w64 ((rd 0 v5 v1) + 2))])).length) * 8 ≤ 140737488355328)))
(rec_ v0 ((w64 (v1 + 1))) v2 v3 v4 v5 v6 v7 v8 v9 v10 v11 v12 v13 v14 ((v15 ++ (([] : List Int) ++ [(w64 ((rd 0 v5 v1) + 2))]))))))))))))))))))
(k0 v6 v7 v8 v11 v12 v13 v14 v15))
def spec_l30Flip_l0 {β : Type} (N : Nat)  : Nat → Int → Int → Int → Int → Int → List Int → Int → Int → Int → Int → Int → Int → Int → Int → List Int → List Int → (Int → Int → Int → Int → Int → Int → List Int → List Int → Option β) → Option β
  | 0, _, _, _, _, _, _, _, _, _, _, _, _, _, _, _, _, _ => none
  | F + 1, v0, v1, v2, v3, v4, v5, v6, v7, v8, v9, v10, v11, v12, v13, v14, v15, k0 => spec_l30Flip_l0b N  v0 v1 v2 v3 v4 v5 v6 v7 v8 v9 v10 v11 v12 v13 v14 v15 (fun v0 v1 v2 v3 v4 v5 v6 v7 v8 v9 v10 v11 v12 v13 v14 v15 => spec_l30Flip_l0 N  F v0 v1 v2 v3 v4 v5 v6 v7 v8 v9 v10 v11 v12 v13 v14 v15 k0) k0
def spec_l30Flip {β : Type} (N : Nat) (a0 : Int) (a1 : Int) (a2 : Int) (a3 : List Int) (a4 : Int) (k : Int → Int → Int → List Int → Option β) : Option β :=
(gd ((decide (0 ≤ a4)))
((spec_l30Flip_s2 a4 a0 a1 a2 a3 0 0 0 a0 a1 a0 ((bits .xor .i64 a1 (shlI .i64 1 a4))) ((w64 (a2 + 1))) (([] : List Int)) (([] : List Int))
((spec_l30Flip_s2 a4 a0 a1 a2 a3 0 0 0 a0 a1 a0 ((bits .xor .i64 a1 (shlI .i64 1 a4))) ((w64 (a2 + 1))) (([] : List Int)) (([] : List Int))
((spec_l30Flip_s2 a4 a0 a1 a2 a3 0 0 0 a0 a1 a0 ((bits .xor .i64 a1 (shlI .i64 1 a4))) ((w64 (a2 + 1))) (([] : List Int)) (([] : List Int))
((spec_l30Flip_s2 a4 a0 a1 a2 a3 0 0 0 a0 a1 a0 ((bits .xor .i64 a1 (shlI .i64 1 a4))) ((w64 (a2 + 1))) (([] : List Int)) (([] : List Int))
((spec_l30Flip_s2 a4 a0 a1 a2 a3 0 0 0 a0 a1 a0 ((bits .xor .i64 a1 (shlI .i64 1 a4))) ((w64 (a2 + 1))) (([] : List Int)) (([] : List Int))
((spec_l30Flip_s2 a4 a0 a1 a2 a3 0 0 0 a0 a1 a0 ((bits .xor .i64 a1 (shlI .i64 1 a4))) ((w64 (a2 + 1))) (([] : List Int)) (([] : List Int))
((spec_l30Flip_s2 a4 a0 a1 a2 a3 0 0 0 a0 a1 a0 ((bits .xor .i64 a1 (shlI .i64 1 a4))) ((w64 (a2 + 1))) (([] : List Int)) (([] : List Int))
((gd ((decide (0 ≤ a4)))
((cond (((bits .and .i64 (shrI .i64 a1 a4) 1) == 1))
(spec_l30Flip_l0 N  N a4 0 a0 a1 a2 a3 0 0 0 a0 a1 a0 ((bits .xor .i64 a1 (shlI .i64 1 a4))) ((w64 (a2 - 1))) (([] : List Int)) (([] : List Int)) (fun e5_0 e5_1 e5_2 e5_3 e5_4 e5_5 e5_6 e5_7 =>
k e5_3 e5_4 e5_5 e5_7))
(spec_l30Flip_l0 N  N a4 0 a0 a1 a2 a3 0 0 0 a0 a1 a0 ((bits .xor .i64 a1 (shlI .i64 1 a4))) ((w64 (a2 + 1))) (([] : List Int)) (([] : List Int)) (fun e6_0 e6_1 e6_2 e6_3 e6_4 e6_5 e6_6 e6_7 =>
k e6_3 e6_4 e6_5 e6_7)))))))))))))))))))))
/-! loop.example/g03403/spec.FlipAt -/
def spec_FlipAt {β : Type} (N : Nat) (a0 : Int) (a1 : Int) (a2 : Int) (a3 : List Int) (a4 : Int) (k : Int → Int → Int → List Int → Bool → Option β) : Option β :=
spec_IsKept N a0 a1 a2 a3 fun r5 =>
(cond (!r5)
(k 0 0 0 (([] : List Int)) false)
(spec_l9In N a0 a1 a4 fun r6 =>
(cond (!r6)
(k 0 0 0 (([] : List Int)) false)
(spec_l30Flip N a0 a1 a2 a3 a4 fun r7 r8 r9 r10 =>
k r7 r8 r9 r10 true))))
/-! loop.example/g03403/impl.isInput -/
def impl_isInput {β : Type} (N : Nat) (a0 : Int) (a1 : Int) (k : Bool → Option β) : Option β :=
(cond ((decide (a1 ≥ 0)))
((gd ((decide (0 ≤ a0)))
(k ((decide (a1 < (shlI .i64 1 a0)))))))
(k false))
/-! loop.example/g03403/impl.FlipAll -/
def impl_FlipAll_l0b {β : Type} (N : Nat)  (v0 : List Int) (v1 : Int) (v2 : Int) (v3 : Int) (v4 : Int) (v5 : Int) (v6 : Int) (v7 : Int) (v8 : List Int) (rec_ : List Int → Int → Int → Int → Int → Int → Int → Int → List Int → Option β) (k0 : Bool → Int → Int → Int → List Int → Option β) (k1 : Int → Int → Int → Int → Int → List Int → Option β) : Option β :=
(cond ((decide (v2 < v1)))
((gd ((decide (0 ≤ v2)))
((gd ((decide (v2 < (v0.length : Int))))
(impl_isInput N v6 ((rd 0 v0 v2)) fun r6 =>
(cond (!r6)
(k0 false 0 0 0 (([] : List Int)))
((gd ((decide (0 ≤ (rd 0 v0 v2))))
(rec_ v0 v1 ((w64 (v2 + 1))) v3 v4 v5 v6 ((bits .xor .i64 v7 (shlI .i64 1 (rd 0 v0 v2)))) v8)))))))))
(k1 v3 v4 v5 v6 v7 v8))
def impl_FlipAll_l0 {β : Type} (N : Nat)  : Nat → List Int → Int → Int → Int → Int → Int → Int → Int → List Int → (Bool → Int → Int → Int → List Int → Option β) → (Int → Int → Int → Int → Int → List Int → Option β) → Option β
  | 0, _, _, _, _, _, _, _, _, _, _, _ => none
  | F + 1, v0, v1, v2, v3, v4, v5, v6, v7, v8, k0, k1 => impl_FlipAll_l0b N  v0 v1 v2 v3 v4 v5 v6 v7 v8 (fun v0 v1 v2 v3 v4 v5 v6 v7 v8 => impl_FlipAll_l0 N  F v0 v1 v2 v3 v4 v5 v6 v7 v8 k0 k1) k0 k1
def impl_FlipAll {β : Type} (N : Nat) (a0 : Int) (a1 : Int) (a2 : Int) (a3 : List Int) (a4 : List Int) (k : Int → Int → Int → List Int → Bool → Option β) : Option β :=
impl_IsKept N a0 a1 a2 a3 fun r5 =>
(cond (!r5)
(k 0 0 0 (([] : List Int)) false)
((cond ((decide ((a4.length : Int) > 40)))
(k 0 0 0 (([] : List Int)) false)
(impl_FlipAll_l0 N  N a4 ((a4.length : Int)) 0 0 0 0 a0 a1 (([] : List Int)) (fun e7_0 e7_1 e7_2 e7_3 e7_4 =>
k e7_1 e7_2 e7_3 e7_4 e7_0) (fun e8_0 e8_1 e8_2 e8_3 e8_4 e8_5 =>
impl_Table_kept N e8_3 e8_4 fun r9 r10 r11 r12 =>
k r9 r10 r11 r12 true)))))
/-! loop.example/g03403/impl.FlipAt -/
def impl_FlipAt {β : Type} (N : Nat) (a0 : Int) (a1 : Int) (a2 : Int) (a3 : List Int) (a4 : Int) (k : Int → Int → Int → List Int → Bool → Option β) : Option β :=
impl_FlipAll N a0 a1 a2 a3 ((([] : List Int) ++ [a4])) fun r5 r6 r7 r8 r9 =>
k r5 r6 r7 r8 r9
/-! loop.example/g03403/laws.FnExactFlipAt -/
def laws_FnExactFlipAt {β : Type} (N : Nat) (a0 : Int) (a1 : Int) (a2 : Int) (a3 : List Int) (a4 : Int) (k : Bool → Option β) : Option β :=
laws_szKept N a0 a1 a2 a3 1048576 fun r5 =>
(cond ((decide (r5 < 0)))
(k true)
(laws_toKept N a0 a1 a2 a3 fun r6 r7 r8 r9 =>
spec_FlipAt N r6 r7 r8 r9 a4 fun r10 r11 r12 r13 r14 =>
laws_toKept N a0 a1 a2 a3 fun r15 r16 r17 r18 =>
impl_FlipAt N r15 r16 r17 r18 a4 fun r19 r20 r21 r22 r23 =>
laws_eqKept N r19 r20 r21 r22 r10 r11 r12 r13 fun r24 =>
(cond (!r24)
(k false)
((cond ((!(r23 == r14)))
(k false)
(laws_toKept N a0 a1 a2 a3 fun r25 r26 r27 r28 =>
laws_eqKept N r15 r16 r17 r18 r25 r26 r27 r28 fun r29 =>
(cond (!r29)
(k false)
(laws_markKept N r15 r16 r17 r18 1 fun r30 m31 =>
(cond ((decide (r30 < 0)))
(k false)
(laws_eqKept N r19 r20 r21 r22 r10 r11 r12 r13 fun r32 =>
(cond (!r32)
(k false)
((cond ((!(r23 == r14)))
(k false)
(laws_markKept N r19 r20 r21 r22 1 fun r33 m34 =>
laws_heldKept N r19 r20 r21 m34 1 fun r35 =>
(cond ((decide (r35 < 0)))
(k false)
((cond ((r35 != r33))
(k false)
(laws_toKept N a0 a1 a2 a3 fun r36 r37 r38 r39 =>
impl_FlipAt N r36 r37 r38 r39 a4 fun r40 r41 r42 r43 r44 =>
laws_eqKept N r40 r41 r42 r43 r10 r11 r12 r13 fun r45 =>
(cond (!r45)
(k false)
((cond ((!(r44 == r14)))
(k false)
(laws_heldKept N r19 r20 r21 m34 1 fun r46 =>
(cond ((decide (r46 < 0)))
(k false)
((cond ((r46 != r33))
(k false)
(k true))))))))))))))))))))))))))
end Go.Proofs.Ytdjmbggefcfacaa
