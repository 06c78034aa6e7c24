/- The texts of the functions that the claims reach: plain Lean, no program. -/
import Derived.Test.YtdjmbggefcfacaaRvShape
namespace Go.Proofs.Ytdjmbggefcfacaa
open Go.Rv
set_option linter.unusedVariables false
set_option maxRecDepth 100000
/-! loop.example/g03403/laws.szIntS -/
def laws_szIntS {β : Type} (N : Nat) (a0 : List Int) (a1 : Int) (k : Int → Option β) : Option β :=
(cond ((decide ((w64 (a1 - (a0.length : Int))) < 0)))
(k (-1))
(k ((w64 (a1 - (a0.length : Int))))))
/-! loop.example/g03403/laws.szKept -/
def laws_szKept {β : Type} (N : Nat) (a0 : Int) (a1 : Int) (a2 : Int) (a3 : List Int) (a4 : Int) (k : Int → Option β) : Option β :=
laws_szIntS N a3 a4 fun r6 =>
(cond ((decide (r6 < 0)))
(k (-1))
(k r6))
/-! loop.example/g03403/laws.toTable -/
def laws_toTable {β : Type} (N : Nat) (a0 : Int) (a1 : Int) (k : Int → Int → Option β) : Option β :=
k a0 a1
/-! loop.example/g03403/laws.toIntS -/
def laws_toIntS_l0b {β : Type} (N : Nat)  (v0 : List Int) (v1 : Int) (v2 : List Int) (rec_ : List Int → Int → List Int → Option β) (k0 : List Int → Option β) : Option β :=
(cond ((decide (v1 < (v0.length : Int))))
((gd ((decide (0 ≤ v1)))
((gd ((decide (v1 < (v0.length : Int))))
((gd ((decide (0 ≤ v1)))
((gd ((decide (v1 < (v2.length : Int))))
(rec_ v0 ((w64 (v1 + 1))) ((wr v2 v1 (rd 0 v0 v1))))))))))))
(k0 v2))
def laws_toIntS_l0 {β : Type} (N : Nat)  : Nat → List Int → Int → List Int → (List Int → Option β) → Option β
  | 0, _, _, _, _ => none
  | F + 1, v0, v1, v2, k0 => laws_toIntS_l0b N  v0 v1 v2 (fun v0 v1 v2 => laws_toIntS_l0 N  F v0 v1 v2 k0) k0
def laws_toIntS {β : Type} (N : Nat) (a0 : List Int) (k : List Int → Option β) : Option β :=
(gd ((decide (0 ≤ (a0.length : Int))))
((gd ((decide ((a0.length : Int) ≤ (a0.length : Int))))
((gd ((decide (8 * (a0.length : Int) ≤ 281474976710656)))
(laws_toIntS_l0 N  N a0 0 ((List.replicate (Int.toNat (a0.length : Int)) (0 : Int))) (fun e2_0 =>
k e2_0)))))))
/-! loop.example/g03403/laws.toKept -/
def laws_toKept {β : Type} (N : Nat) (a0 : Int) (a1 : Int) (a2 : Int) (a3 : List Int) (k : Int → Int → Int → List Int → Option β) : Option β :=
laws_toTable N a0 a1 fun r8 r9 =>
laws_toIntS N a3 fun r10 =>
k r8 r9 a2 r10
/-! loop.example/g03403/spec.l1In -/
def spec_l1In {β : Type} (N : Nat) (a0 : Int) (a1 : Int) (a2 : Int) (k : Bool → Option β) : Option β :=
(cond ((decide (a0 ≥ a1)))
(k ((decide (a0 ≤ a2))))
(k false))
/-! loop.example/g03403/spec.IsTable -/
def spec_IsTable {β : Type} (N : Nat) (a0 : Int) (a1 : Int) (k : Bool → Option β) : Option β :=
spec_l1In N a0 0 5 fun r3 =>
(cond r3
((gd ((decide (0 ≤ a0)))
((gd ((decide (0 ≤ (shlI .u64 1 a0))))
(spec_l1In N a1 0 ((w64 ((shlI .i64 1 (shlI .u64 1 a0)) - 1))) fun r4 =>
k r4)))))
(k false))
/-! loop.example/g03403/spec.l2Count -/
def spec_l2Count_l0b {β : Type} (N : Nat)  (v0 : Int) (v1 : Int) (rec_ : Int → Int → Option β) (k0 : Int → Option β) : Option β :=
(cond ((decide (v1 > 0)))
(rec_ ((w64 (v0 + (bits .and .i64 v1 1)))) ((shrI .i64 v1 1)))
(k0 v0))
def spec_l2Count_l0 {β : Type} (N : Nat)  : Nat → Int → Int → (Int → Option β) → Option β
  | 0, _, _, _ => none
  | F + 1, v0, v1, k0 => spec_l2Count_l0b N  v0 v1 (fun v0 v1 => spec_l2Count_l0 N  F v0 v1 k0) k0
def spec_l2Count {β : Type} (N : Nat) (a0 : Int) (k : Int → Option β) : Option β :=
spec_l2Count_l0 N  N 0 a0 (fun e2_0 =>
k e2_0)
/-! loop.example/g03403/spec.InfluenceOf -/
def spec_InfluenceOf_l0b {β : Type} (N : Nat)  (v0 : Int) (v1 : Int) (v2 : Int) (v3 : Int) (v4 : Int) (rec_ : Int → Int → Int → Int → Int → Option β) (k0 : Int → Option β) : Option β :=
(gd ((decide (0 ≤ v3)))
((cond ((decide (v2 < (shlI .i64 1 v3))))
((gd ((decide (0 ≤ v2)))
((gd ((decide (0 ≤ v0)))
((gd ((decide (0 ≤ (bits .xor .i64 v2 (shlI .i64 1 v0)))))
(rec_ v0 ((w64 (v1 + (bits .and .i64 (bits .xor .i64 (shrI .i64 v4 v2) (shrI .i64 v4 (bits .xor .i64 v2 (shlI .i64 1 v0)))) 1)))) ((w64 (v2 + 1))) v3 v4)))))))
(k0 v1))))
def spec_InfluenceOf_l0 {β : Type} (N : Nat)  : Nat → Int → Int → Int → Int → Int → (Int → Option β) → Option β
  | 0, _, _, _, _, _, _ => none
  | F + 1, v0, v1, v2, v3, v4, k0 => spec_InfluenceOf_l0b N  v0 v1 v2 v3 v4 (fun v0 v1 v2 v3 v4 => spec_InfluenceOf_l0 N  F v0 v1 v2 v3 v4 k0) k0
def spec_InfluenceOf {β : Type} (N : Nat) (a0 : Int) (a1 : Int) (a2 : Int) (k : Int → Option β) : Option β :=
spec_IsTable N a0 a1 fun r4 =>
(cond (!r4)
(k (-1))
(spec_l1In N a2 0 ((w64 (a0 - 1))) fun r5 =>
(cond (!r5)
(k (-1))
(spec_InfluenceOf_l0 N  N a2 0 0 a0 a1 (fun e6_0 =>
k e6_0)))))
/-! loop.example/g03403/spec.NewKept -/
def spec_NewKept_s3 {β : Type} (s0 : Int) (s1 : Int) (s2 : Int) (s3 : Int) (s4 : Int) (s5 : Int) (s6 : Int) (s7 : Int) (s8 : List Int) (s9 : List Int) (K : Option β) : Option β :=
(gd (s0 == s0) (gd (s1 == s1) (gd (s2 == s2) (gd (s3 == s3) (gd (s4 == s4) (gd (s5 == s5) (gd (s6 == s6) (gd (s7 == s7) (gd (s8 == s8) (gd (s9 == s9) K))))))))))
def spec_NewKept_l0b {β : Type} (N : Nat)  (v0 : Int) (v1 : Int) (v2 : Int) (v3 : Int) (v4 : Int) (v5 : Int) (v6 : Int) (v7 : Int) (v8 : Int) (v9 : List Int) (v10 : List Int) (rec_ : Int → Int → Int → Int → Int → Int → Int → Int → Int → List Int → List Int → Option β) (k0 : Int → Int → Int → Int → Int → Int → List Int → List Int → Option β) : Option β :=
(cond ((decide (v0 < v1)))
(spec_InfluenceOf N v1 v2 v0 fun r9 =>
(gd ((decide ((v10.length + ((([] : List Int) ++ [r9])).length) * 8 ≤ 140737488355328)))
(rec_ ((w64 (v0 + 1))) v1 v2 v3 v4 v5 v6 v7 v8 v9 ((v10 ++ (([] : List Int) ++ [r9]))))))
(k0 v3 v4 v5 v6 v7 v8 v9 v10))
def spec_NewKept_l0 {β : Type} (N : Nat)  : Nat → Int → Int → Int → Int → Int → Int → Int → Int → Int → List Int → List Int → (Int → Int → Int → Int → Int → Int → List Int → List Int → Option β) → Option β
  | 0, _, _, _, _, _, _, _, _, _, _, _, _ => none
  | F + 1, v0, v1, v2, v3, v4, v5, v6, v7, v8, v9, v10, k0 => spec_NewKept_l0b N  v0 v1 v2 v3 v4 v5 v6 v7 v8 v9 v10 (fun v0 v1 v2 v3 v4 v5 v6 v7 v8 v9 v10 => spec_NewKept_l0 N  F v0 v1 v2 v3 v4 v5 v6 v7 v8 v9 v10 k0) k0
def spec_NewKept {β : Type} (N : Nat) (a0 : Int) (a1 : Int) (k : Int → Int → Int → List Int → Bool → Option β) : Option β :=
spec_IsTable N a0 a1 fun r7 =>
(cond (!r7)
(k 0 0 0 (([] : List Int)) false)
(spec_l2Count N a1 fun r8 =>
(spec_NewKept_s3 a0 a1 0 0 0 a0 a1 r8 (([] : List Int)) (([] : List Int))
(spec_NewKept_l0 N  N 0 a0 a1 0 0 0 a0 a1 r8 (([] : List Int)) (([] : List Int)) (fun e10_0 e10_1 e10_2 e10_3 e10_4 e10_5 e10_6 e10_7 =>
k e10_3 e10_4 e10_5 e10_7 true)))))
/-! loop.example/g03403/spec.l30Same -/
def spec_l30Same_l0b {β : Type} (N : Nat)  (v0 : List Int) (v1 : List Int) (v2 : Int) (rec_ : List Int → List Int → Int → Option β) (k0 : Bool → Option β) (k1 : Option β) : Option β :=
(cond ((decide (v2 < (v0.length : Int))))
((gd ((decide (0 ≤ v2)))
((gd ((decide (v2 < (v0.length : Int))))
((gd ((decide (0 ≤ v2)))
((gd ((decide (v2 < (v1.length : Int))))
((cond (((rd 0 v0 v2) != (rd 0 v1 v2)))
(k0 false)
(rec_ v0 v1 ((w64 (v2 + 1))))))))))))))
(k1 ))
def spec_l30Same_l0 {β : Type} (N : Nat)  : Nat → List Int → List Int → Int → (Bool → Option β) → (Option β) → Option β
  | 0, _, _, _, _, _ => none
  | F + 1, v0, v1, v2, k0, k1 => spec_l30Same_l0b N  v0 v1 v2 (fun v0 v1 v2 => spec_l30Same_l0 N  F v0 v1 v2 k0 k1) k0 k1
def spec_l30Same {β : Type} (N : Nat) (a0 : List Int) (a1 : List Int) (k : Bool → Option β) : Option β :=
(cond (((a0.length : Int) != (a1.length : Int)))
(k false)
(spec_l30Same_l0 N  N a0 a1 0 (fun e3_0 =>
k e3_0) (k true)))
/-! loop.example/g03403/spec.IsKept -/
def spec_IsKept {β : Type} (N : Nat) (a0 : Int) (a1 : Int) (a2 : Int) (a3 : List Int) (k : Bool → Option β) : Option β :=
spec_NewKept N a0 a1 fun r5 r6 r7 r8 r9 =>
(cond r9
((cond ((a2 == r7))
(spec_l30Same N a3 r8 fun r10 =>
k r10)
(k false)))
(k false))
/-! loop.example/g03403/spec.l9In -/
def spec_l9In {β : Type} (N : Nat) (a0 : Int) (a1 : Int) (a2 : Int) (k : Bool → Option β) : Option β :=
spec_IsTable N a0 a1 fun r4 =>
(cond r4
((gd ((decide (0 ≤ a0)))
(spec_l1In N a2 0 ((w64 ((shlI .i64 1 a0) - 1))) fun r5 =>
k r5)))
(k false))
/-! loop.example/g03403/spec.l30Flip -/
def spec_l30Flip_s2 {β : Type} (s0 : Int) (s1 : Int) (s2 : Int) (s3 : Int) (s4 : List Int) (s5 : Int) (s6 : Int) (s7 : Int) (s8 : Int) (s9 : Int) (s10 : Int) (s11 : Int) (s12 : Int) (s13 : List Int) (s14 : List Int) (K : Option β) : Option β :=
(gd (s0 == s0) (gd (s1 == s1) (gd (s2 == s2) (gd (s3 == s3) (gd (s4 == s4) (gd (s5 == s5) (gd (s6 == s6) (gd (s7 == s7) (gd (s8 == s8) (gd (s9 == s9) (gd (s10 == s10) (gd (s11 == s11) (gd (s12 == s12) (gd (s13 == s13) (gd (s14 == s14) K)))))))))))))))
def spec_l30Flip_l0b {β : Type} (N : Nat)  (v0 : Int) (v1 : Int) (v2 : Int) (v3 : Int) (v4 : Int) (v5 : List Int) (v6 : Int) (v7 : Int) (v8 : Int) (v9 : Int) (v10 : Int) (v11 : Int) (v12 : Int) (v13 : Int) (v14 : List Int) (v15 : List Int) (rec_ : Int → Int → Int → Int → Int → List Int → Int → Int → Int → Int → Int → Int → Int → Int → List Int → List Int → Option β) (k0 : Int → Int → Int → Int → Int → Int → List Int → List Int → Option β) : Option β :=
(cond ((decide (v1 < v9)))
((gd ((decide (0 ≤ v0)))
((gd ((decide (0 ≤ v1)))
((gd ((decide (0 ≤ (bits .xor .i64 v0 (shlI .i64 1 v1)))))
((cond (((bits .and .i64 (bits .xor .i64 (shrI .i64 v10 v0) (shrI .i64 v10 (bits .xor .i64 v0 (shlI .i64 1 v1)))) 1) == 1))
((gd ((decide (0 ≤ v1)))
((gd ((decide (v1 < (v5.length : Int))))
((gd ((decide ((v15.length + ((([] : List Int) ++ [(w64 ((rd 0 v5 v1) + (-2)))])).length) * 8 ≤ 140737488355328)))
(rec_ v0 ((w64 (v1 + 1))) v2 v3 v4 v5 v6 v7 v8 v9 v10 v11 v12 v13 v14 ((v15 ++ (([] : List Int) ++ [(w64 ((rd 0 v5 v1) + (-2)))]))))))))))
((gd ((decide (0 ≤ v1)))
((gd ((decide (v1 < (v5.length : Int))))
((gd ((decide ((v15.length + ((([] : List Int) ++ [(w64 ((rd 0 v5 v1) + 2))])).length) * 8 ≤ 140737488355328)))
(rec_ v0 ((w64 (v1 + 1))) v2 v3 v4 v5 v6 v7 v8 v9 v10 v11 v12 v13 v14 ((v15 ++ (([] : List Int) ++ [(w64 ((rd 0 v5 v1) + 2))]))))))))))))))))))
(k0 v6 v7 v8 v11 v12 v13 v14 v15))
def spec_l30Flip_l0 {β : Type} (N : Nat)  : Nat → Int → Int → Int → Int → Int → List Int → Int → Int → Int → Int → Int → Int → Int → Int → List Int → List Int → (Int → Int → Int → Int → Int → Int → List Int → List Int → Option β) → Option β
  | 0, _, _, _, _, _, _, _, _, _, _, _, _, _, _, _, _, _ => none
  | F + 1, v0, v1, v2, v3, v4, v5, v6, v7, v8, v9, v10, v11, v12, v13, v14, v15, k0 => spec_l30Flip_l0b N  v0 v1 v2 v3 v4 v5 v6 v7 v8 v9 v10 v11 v12 v13 v14 v15 (fun v0 v1 v2 v3 v4 v5 v6 v7 v8 v9 v10 v11 v12 v13 v14 v15 => spec_l30Flip_l0 N  F v0 v1 v2 v3 v4 v5 v6 v7 v8 v9 v10 v11 v12 v13 v14 v15 k0) k0
def spec_l30Flip {β : Type} (N : Nat) (a0 : Int) (a1 : Int) (a2 : Int) (a3 : List Int) (a4 : Int) (k : Int → Int → Int → List Int → Option β) : Option β :=
(gd ((decide (0 ≤ a4)))
((spec_l30Flip_s2 a4 a0 a1 a2 a3 0 0 0 a0 a1 a0 ((bits .xor .i64 a1 (shlI .i64 1 a4))) ((w64 (a2 + 1))) (([] : List Int)) (([] : List Int))
((gd ((decide (0 ≤ a4)))
((cond (((bits .and .i64 (shrI .i64 a1 a4) 1) == 1))
(spec_l30Flip_l0 N  N a4 0 a0 a1 a2 a3 0 0 0 a0 a1 a0 ((bits .xor .i64 a1 (shlI .i64 1 a4))) ((w64 (a2 - 1))) (([] : List Int)) (([] : List Int)) (fun e9_0 e9_1 e9_2 e9_3 e9_4 e9_5 e9_6 e9_7 =>
k e9_3 e9_4 e9_5 e9_7))
(spec_l30Flip_l0 N  N a4 0 a0 a1 a2 a3 0 0 0 a0 a1 a0 ((bits .xor .i64 a1 (shlI .i64 1 a4))) ((w64 (a2 + 1))) (([] : List Int)) (([] : List Int)) (fun e10_0 e10_1 e10_2 e10_3 e10_4 e10_5 e10_6 e10_7 =>
k e10_3 e10_4 e10_5 e10_7)))))))))
/-! loop.example/g03403/spec.FlipAt -/
def spec_FlipAt {β : Type} (N : Nat) (a0 : Int) (a1 : Int) (a2 : Int) (a3 : List Int) (a4 : Int) (k : Int → Int → Int → List Int → Bool → Option β) : Option β :=
spec_IsKept N a0 a1 a2 a3 fun r10 =>
(cond (!r10)
(k 0 0 0 (([] : List Int)) false)
(spec_l9In N a0 a1 a4 fun r11 =>
(cond (!r11)
(k 0 0 0 (([] : List Int)) false)
(spec_l30Flip N a0 a1 a2 a3 a4 fun r12 r13 r14 r15 =>
k r12 r13 r14 r15 true))))
/-! loop.example/g03403/impl.isBits -/
def impl_isBits {β : Type} (N : Nat) (a0 : Int) (k : Bool → Option β) : Option β :=
(cond ((decide (a0 ≥ 0)))
(k ((decide (a0 ≤ 5))))
(k false))
/-! (loop.example/g03403/impl.Table).size -/
def impl_Table_size {β : Type} (N : Nat) (a0 : Int) (a1 : Int) (k : Int → Option β) : Option β :=
(gd ((decide (0 ≤ a0)))
(k ((shlI .i64 1 a0))))
/-! loop.example/g03403/impl.IsTable -/
def impl_IsTable {β : Type} (N : Nat) (a0 : Int) (a1 : Int) (k : Bool → Option β) : Option β :=
impl_isBits N a0 fun r3 =>
(cond r3
((cond ((decide (a1 ≥ 0)))
(impl_Table_size N a0 a1 fun r4 =>
(gd ((decide (0 ≤ r4)))
(k (((shrI .i64 a1 r4) == 0)))))
(k false)))
(k false))
/-! math/bits.OnesCount64 -/
def math_bits_OnesCount64 {β : Type} (N : Nat) (a0 : Int) (k : Int → Option β) : Option β :=
k ((bits .and .i64 (w64 ((wu64 ((wu64 ((wu64 ((bits .and .u64 (wu64 ((shrI .u64 (wu64 ((bits .and .u64 (shrI .u64 (wu64 ((bits .and .u64 (shrI .u64 a0 1) 6148914691236517205) + (bits .and .u64 a0 6148914691236517205))) 2) 3689348814741910323) + (bits .and .u64 (wu64 ((bits .and .u64 (shrI .u64 a0 1) 6148914691236517205) + (bits .and .u64 a0 6148914691236517205))) 3689348814741910323))) 4) + (wu64 ((bits .and .u64 (shrI .u64 (wu64 ((bits .and .u64 (shrI .u64 a0 1) 6148914691236517205) + (bits .and .u64 a0 6148914691236517205))) 2) 3689348814741910323) + (bits .and .u64 (wu64 ((bits .and .u64 (shrI .u64 a0 1) 6148914691236517205) + (bits .and .u64 a0 6148914691236517205))) 3689348814741910323))))) 1085102592571150095) + (shrI .u64 (bits .and .u64 (wu64 ((shrI .u64 (wu64 ((bits .and .u64 (shrI .u64 (wu64 ((bits .and .u64 (shrI .u64 a0 1) 6148914691236517205) + (bits .and .u64 a0 6148914691236517205))) 2) 3689348814741910323) + (bits .and .u64 (wu64 ((bits .and .u64 (shrI .u64 a0 1) 6148914691236517205) + (bits .and .u64 a0 6148914691236517205))) 3689348814741910323))) 4) + (wu64 ((bits .and .u64 (shrI .u64 (wu64 ((bits .and .u64 (shrI .u64 a0 1) 6148914691236517205) + (bits .and .u64 a0 6148914691236517205))) 2) 3689348814741910323) + (bits .and .u64 (wu64 ((bits .and .u64 (shrI .u64 a0 1) 6148914691236517205) + (bits .and .u64 a0 6148914691236517205))) 3689348814741910323))))) 1085102592571150095) 8))) + (shrI .u64 (wu64 ((bits .and .u64 (wu64 ((shrI .u64 (wu64 ((bits .and .u64 (shrI .u64 (wu64 ((bits .and .u64 (shrI .u64 a0 1) 6148914691236517205) + (bits .and .u64 a0 6148914691236517205))) 2) 3689348814741910323) + (bits .and .u64 (wu64 ((bits .and .u64 (shrI .u64 a0 1) 6148914691236517205) + (bits .and .u64 a0 6148914691236517205))) 3689348814741910323))) 4) + (wu64 ((bits .and .u64 (shrI .u64 (wu64 ((bits .and .u64 (shrI .u64 a0 1) 6148914691236517205) + (bits .and .u64 a0 6148914691236517205))) 2) 3689348814741910323) + (bits .and .u64 (wu64 ((bits .and .u64 (shrI .u64 a0 1) 6148914691236517205) + (bits .and .u64 a0 6148914691236517205))) 3689348814741910323))))) 1085102592571150095) + (shrI .u64 (bits .and .u64 (wu64 ((shrI .u64 (wu64 ((bits .and .u64 (shrI .u64 (wu64 ((bits .and .u64 (shrI .u64 a0 1) 6148914691236517205) + (bits .and .u64 a0 6148914691236517205))) 2) 3689348814741910323) + (bits .and .u64 (wu64 ((bits .and .u64 (shrI .u64 a0 1) 6148914691236517205) + (bits .and .u64 a0 6148914691236517205))) 3689348814741910323))) 4) + (wu64 ((bits .and .u64 (shrI .u64 (wu64 ((bits .and .u64 (shrI .u64 a0 1) 6148914691236517205) + (bits .and .u64 a0 6148914691236517205))) 2) 3689348814741910323) + (bits .and .u64 (wu64 ((bits .and .u64 (shrI .u64 a0 1) 6148914691236517205) + (bits .and .u64 a0 6148914691236517205))) 3689348814741910323))))) 1085102592571150095) 8))) 16))) + (shrI .u64 (wu64 ((wu64 ((bits .and .u64 (wu64 ((shrI .u64 (wu64 ((bits .and .u64 (shrI .u64 (wu64 ((bits .and .u64 (shrI .u64 a0 1) 6148914691236517205) + (bits .and .u64 a0 6148914691236517205))) 2) 3689348814741910323) + (bits .and .u64 (wu64 ((bits .and .u64 (shrI .u64 a0 1) 6148914691236517205) + (bits .and .u64 a0 6148914691236517205))) 3689348814741910323))) 4) + (wu64 ((bits .and .u64 (shrI .u64 (wu64 ((bits .and .u64 (shrI .u64 a0 1) 6148914691236517205) + (bits .and .u64 a0 6148914691236517205))) 2) 3689348814741910323) + (bits .and .u64 (wu64 ((bits .and .u64 (shrI .u64 a0 1) 6148914691236517205) + (bits .and .u64 a0 6148914691236517205))) 3689348814741910323))))) 1085102592571150095) + (shrI .u64 (bits .and .u64 (wu64 ((shrI .u64 (wu64 ((bits .and .u64 (shrI .u64 (wu64 ((bits .and .u64 (shrI .u64 a0 1) 6148914691236517205) + (bits .and .u64 a0 6148914691236517205))) 2) 3689348814741910323) + (bits .and .u64 (wu64 ((bits .and .u64 (shrI .u64 a0 1) 6148914691236517205) + (bits .and .u64 a0 6148914691236517205))) 3689348814741910323))) 4) + (wu64 ((bits .and .u64 (shrI .u64 (wu64 ((bits .and .u64 (shrI .u64 a0 1) 6148914691236517205) + (bits .and .u64 a0 6148914691236517205))) 2) 3689348814741910323) + (bits .and .u64 (wu64 ((bits .and .u64 (shrI .u64 a0 1) 6148914691236517205) + (bits .and .u64 a0 6148914691236517205))) 3689348814741910323))))) 1085102592571150095) 8))) + (shrI .u64 (wu64 ((bits .and .u64 (wu64 ((shrI .u64 (wu64 ((bits .and .u64 (shrI .u64 (wu64 ((bits .and .u64 (shrI .u64 a0 1) 6148914691236517205) + (bits .and .u64 a0 6148914691236517205))) 2) 3689348814741910323) + (bits .and .u64 (wu64 ((bits .and .u64 (shrI .u64 a0 1) 6148914691236517205) + (bits .and .u64 a0 6148914691236517205))) 3689348814741910323))) 4) + (wu64 ((bits .and .u64 (shrI .u64 (wu64 ((bits .and .u64 (shrI .u64 a0 1) 6148914691236517205) + (bits .and .u64 a0 6148914691236517205))) 2) 3689348814741910323) + (bits .and .u64 (wu64 ((bits .and .u64 (shrI .u64 a0 1) 6148914691236517205) + (bits .and .u64 a0 6148914691236517205))) 3689348814741910323))))) 1085102592571150095) + (shrI .u64 (bits .and .u64 (wu64 ((shrI .u64 (wu64 ((bits .and .u64 (shrI .u64 (wu64 ((bits .and .u64 (shrI .u64 a0 1) 6148914691236517205) + (bits .and .u64 a0 6148914691236517205))) 2) 3689348814741910323) + (bits .and .u64 (wu64 ((bits .and .u64 (shrI .u64 a0 1) 6148914691236517205) + (bits .and .u64 a0 6148914691236517205))) 3689348814741910323))) 4) + (wu64 ((bits .and .u64 (shrI .u64 (wu64 ((bits .and .u64 (shrI .u64 a0 1) 6148914691236517205) + (bits .and .u64 a0 6148914691236517205))) 2) 3689348814741910323) + (bits .and .u64 (wu64 ((bits .and .u64 (shrI .u64 a0 1) 6148914691236517205) + (bits .and .u64 a0 6148914691236517205))) 3689348814741910323))))) 1085102592571150095) 8))) 16))) 32))))) 127))
/-! loop.example/g03403/impl.ones -/
def impl_ones {β : Type} (N : Nat) (a0 : Int) (k : Int → Option β) : Option β :=
math_bits_OnesCount64 N ((wu64 (a0))) fun r2 =>
k r2
/-! (loop.example/g03403/impl.Table).at -/
def impl_Table_at {β : Type} (N : Nat) (a0 : Int) (a1 : Int) (a2 : Int) (k : Int → Option β) : Option β :=
(gd ((decide (0 ≤ a2)))
(k ((bits .and .i64 (shrI .i64 a1 a2) 1))))
/-! (loop.example/g03403/impl.Table).changes -/
def impl_Table_changes {β : Type} (N : Nat) (a0 : Int) (a1 : Int) (a2 : Int) (a3 : Int) (k : Bool → Option β) : Option β :=
impl_Table_at N a0 a1 a2 fun r5 =>
impl_Table_at N a0 a1 ((bits .xor .i64 a2 a3)) fun r6 =>
k ((r5 != r6))
/-! (loop.example/g03403/impl.Table).influence -/
def impl_Table_influence_l0b {β : Type} (N : Nat)  (v0 : Int) (v1 : Int) (v2 : Int) (v3 : Int) (v4 : Int) (v5 : Int) (rec_ : Int → Int → Int → Int → Int → Int → Option β) (k0 : Int → Option β) : Option β :=
(cond ((decide (v3 < v2)))
((gd ((decide (0 ≤ v0)))
(impl_Table_changes N v4 v5 v3 ((shlI .i64 1 v0)) fun r5 =>
(cond r5
(rec_ v0 ((w64 (v1 + 1))) v2 ((w64 (v3 + 1))) v4 v5)
(rec_ v0 v1 v2 ((w64 (v3 + 1))) v4 v5)))))
(k0 v1))
def impl_Table_influence_l0 {β : Type} (N : Nat)  : Nat → Int → Int → Int → Int → Int → Int → (Int → Option β) → Option β
  | 0, _, _, _, _, _, _, _ => none
  | F + 1, v0, v1, v2, v3, v4, v5, k0 => impl_Table_influence_l0b N  v0 v1 v2 v3 v4 v5 (fun v0 v1 v2 v3 v4 v5 => impl_Table_influence_l0 N  F v0 v1 v2 v3 v4 v5 k0) k0
def impl_Table_influence {β : Type} (N : Nat) (a0 : Int) (a1 : Int) (a2 : Int) (k : Int → Option β) : Option β :=
impl_Table_size N a0 a1 fun r4 =>
impl_Table_influence_l0 N  N a2 0 r4 0 a0 a1 (fun e6_0 =>
k e6_0)
/-! (loop.example/g03403/impl.Table).influences -/
def impl_Table_influences_l0b {β : Type} (N : Nat)  (v0 : Int) (v1 : Int) (v2 : Int) (v3 : Int) (v4 : List Int) (rec_ : Int → Int → Int → Int → List Int → Option β) (k0 : List Int → Option β) : Option β :=
(cond ((decide (v1 < v0)))
(impl_Table_influence N v2 v3 v1 fun r3 =>
(gd ((decide (0 ≤ v1)))
((gd ((decide (v1 < (v4.length : Int))))
(rec_ v0 ((w64 (v1 + 1))) v2 v3 ((wr v4 v1 r3)))))))
(k0 v4))
def impl_Table_influences_l0 {β : Type} (N : Nat)  : Nat → Int → Int → Int → Int → List Int → (List Int → Option β) → Option β
  | 0, _, _, _, _, _, _ => none
  | F + 1, v0, v1, v2, v3, v4, k0 => impl_Table_influences_l0b N  v0 v1 v2 v3 v4 (fun v0 v1 v2 v3 v4 => impl_Table_influences_l0 N  F v0 v1 v2 v3 v4 k0) k0
def impl_Table_influences {β : Type} (N : Nat) (a0 : Int) (a1 : Int) (k : List Int → Option β) : Option β :=
(gd ((decide (0 ≤ a0)))
((gd ((decide (a0 ≤ a0)))
((gd ((decide (8 * a0 ≤ 281474976710656)))
(impl_Table_influences_l0 N  N ((((List.replicate (Int.toNat a0) (0 : Int))).length : Int)) 0 a0 a1 ((List.replicate (Int.toNat a0) (0 : Int))) (fun e4_0 =>
k e4_0)))))))
/-! (loop.example/g03403/impl.Table).kept -/
def impl_Table_kept {β : Type} (N : Nat) (a0 : Int) (a1 : Int) (k : Int → Int → Int → List Int → Option β) : Option β :=
impl_ones N a1 fun r6 =>
impl_Table_influences N a0 a1 fun r7 =>
k a0 a1 r6 r7
/-! slices.Equal[[]int,int] -/
def slices_Equal_Sint_int_l0b {β : Type} (N : Nat)  (v0 : List Int) (v1 : List Int) (v2 : Int) (v3 : Int) (rec_ : List Int → List Int → Int → Int → Option β) (k0 : Bool → Option β) (k1 : Option β) : Option β :=
(cond ((decide (v3 < v2)))
((gd ((decide (0 ≤ v3)))
((gd ((decide (v3 < (v0.length : Int))))
((gd ((decide (0 ≤ v3)))
((gd ((decide (v3 < (v1.length : Int))))
((cond (((rd 0 v0 v3) != (rd 0 v1 v3)))
(k0 false)
(rec_ v0 v1 v2 ((w64 (v3 + 1))))))))))))))
(k1 ))
def slices_Equal_Sint_int_l0 {β : Type} (N : Nat)  : Nat → List Int → List Int → Int → Int → (Bool → Option β) → (Option β) → Option β
  | 0, _, _, _, _, _, _ => none
  | F + 1, v0, v1, v2, v3, k0, k1 => slices_Equal_Sint_int_l0b N  v0 v1 v2 v3 (fun v0 v1 v2 v3 => slices_Equal_Sint_int_l0 N  F v0 v1 v2 v3 k0 k1) k0 k1
def slices_Equal_Sint_int {β : Type} (N : Nat) (a0 : List Int) (a1 : List Int) (k : Bool → Option β) : Option β :=
(cond (((a0.length : Int) != (a1.length : Int)))
(k false)
(slices_Equal_Sint_int_l0 N  N a0 a1 ((a0.length : Int)) 0 (fun e3_0 =>
k e3_0) (k true)))
/-! loop.example/g03403/impl.EqualKept -/
def impl_EqualKept {β : Type} (N : Nat) (a0 : Int) (a1 : Int) (a2 : Int) (a3 : List Int) (a4 : Int) (a5 : Int) (a6 : Int) (a7 : List Int) (k : Bool → Option β) : Option β :=
(cond (((a0 == a4) && (a1 == a5)))
((cond ((a2 == a6))
(slices_Equal_Sint_int N a3 a7 fun r9 =>
k r9)
(k false)))
(k false))
/-! loop.example/g03403/impl.IsKept -/
def impl_IsKept {β : Type} (N : Nat) (a0 : Int) (a1 : Int) (a2 : Int) (a3 : List Int) (k : Bool → Option β) : Option β :=
impl_IsTable N a0 a1 fun r5 =>
(cond r5
(impl_Table_kept N a0 a1 fun r6 r7 r8 r9 =>
impl_EqualKept N a0 a1 a2 a3 r6 r7 r8 r9 fun r10 =>
k r10)
(k false))
/-! loop.example/g03403/impl.isInput -/
def impl_isInput {β : Type} (N : Nat) (a0 : Int) (a1 : Int) (k : Bool → Option β) : Option β :=
(cond ((decide (a1 ≥ 0)))
((gd ((decide (0 ≤ a0)))
(k ((decide (a1 < (shlI .i64 1 a0)))))))
(k false))
/-! loop.example/g03403/impl.FlipAll -/
def impl_FlipAll_l0b {β : Type} (N : Nat)  (v0 : List Int) (v1 : Int) (v2 : Int) (v3 : Int) (v4 : Int) (v5 : Int) (v6 : Int) (v7 : Int) (v8 : List Int) (rec_ : List Int → Int → Int → Int → Int → Int → Int → Int → List Int → Option β) (k0 : Bool → Int → Int → Int → List Int → Option β) (k1 : Int → Int → Int → Int → Int → List Int → Option β) : Option β :=
(cond ((decide (v2 < v1)))
((gd ((decide (0 ≤ v2)))
((gd ((decide (v2 < (v0.length : Int))))
(impl_isInput N v6 ((rd 0 v0 v2)) fun r11 =>
(cond (!r11)
(k0 false 0 0 0 (([] : List Int)))
((gd ((decide (0 ≤ (rd 0 v0 v2))))
(rec_ v0 v1 ((w64 (v2 + 1))) v3 v4 v5 v6 ((bits .xor .i64 v7 (shlI .i64 1 (rd 0 v0 v2)))) v8)))))))))
(k1 v3 v4 v5 v6 v7 v8))
def impl_FlipAll_l0 {β : Type} (N : Nat)  : Nat → List Int → Int → Int → Int → Int → Int → Int → Int → List Int → (Bool → Int → Int → Int → List Int → Option β) → (Int → Int → Int → Int → Int → List Int → Option β) → Option β
  | 0, _, _, _, _, _, _, _, _, _, _, _ => none
  | F + 1, v0, v1, v2, v3, v4, v5, v6, v7, v8, k0, k1 => impl_FlipAll_l0b N  v0 v1 v2 v3 v4 v5 v6 v7 v8 (fun v0 v1 v2 v3 v4 v5 v6 v7 v8 => impl_FlipAll_l0 N  F v0 v1 v2 v3 v4 v5 v6 v7 v8 k0 k1) k0 k1
def impl_FlipAll {β : Type} (N : Nat) (a0 : Int) (a1 : Int) (a2 : Int) (a3 : List Int) (a4 : List Int) (k : Int → Int → Int → List Int → Bool → Option β) : Option β :=
impl_IsKept N a0 a1 a2 a3 fun r10 =>
(cond (!r10)
(k 0 0 0 (([] : List Int)) false)
((cond ((decide ((a4.length : Int) > 40)))
(k 0 0 0 (([] : List Int)) false)
(impl_FlipAll_l0 N  N a4 ((a4.length : Int)) 0 0 0 0 a0 a1 (([] : List Int)) (fun e12_0 e12_1 e12_2 e12_3 e12_4 =>
k e12_1 e12_2 e12_3 e12_4 e12_0) (fun e13_0 e13_1 e13_2 e13_3 e13_4 e13_5 =>
impl_Table_kept N e13_3 e13_4 fun r14 r15 r16 r17 =>
k r14 r15 r16 r17 true)))))
/-! loop.example/g03403/impl.FlipAt -/
def impl_FlipAt {β : Type} (N : Nat) (a0 : Int) (a1 : Int) (a2 : Int) (a3 : List Int) (a4 : Int) (k : Int → Int → Int → List Int → Bool → Option β) : Option β :=
impl_FlipAll N a0 a1 a2 a3 ((([] : List Int) ++ [a4])) fun r10 r11 r12 r13 r14 =>
k r10 r11 r12 r13 r14
/-! loop.example/g03403/laws.eqTable -/
def laws_eqTable {β : Type} (N : Nat) (a0 : Int) (a1 : Int) (a2 : Int) (a3 : Int) (k : Bool → Option β) : Option β :=
(cond ((a0 != a2))
(k false)
((cond ((a1 != a3))
(k false)
(k true))))
/-! loop.example/g03403/laws.eqIntS -/
def laws_eqIntS_l0b {β : Type} (N : Nat)  (v0 : List Int) (v1 : List Int) (v2 : Int) (rec_ : List Int → List Int → Int → Option β) (k0 : Bool → Option β) (k1 : Option β) : Option β :=
(cond ((decide (v2 < (v0.length : Int))))
((gd ((decide (0 ≤ v2)))
((gd ((decide (v2 < (v0.length : Int))))
((gd ((decide (0 ≤ v2)))
((gd ((decide (v2 < (v1.length : Int))))
((cond (((rd 0 v0 v2) != (rd 0 v1 v2)))
(k0 false)
(rec_ v0 v1 ((w64 (v2 + 1))))))))))))))
(k1 ))
def laws_eqIntS_l0 {β : Type} (N : Nat)  : Nat → List Int → List Int → Int → (Bool → Option β) → (Option β) → Option β
  | 0, _, _, _, _, _ => none
  | F + 1, v0, v1, v2, k0, k1 => laws_eqIntS_l0b N  v0 v1 v2 (fun v0 v1 v2 => laws_eqIntS_l0 N  F v0 v1 v2 k0 k1) k0 k1
def laws_eqIntS {β : Type} (N : Nat) (a0 : List Int) (a1 : List Int) (k : Bool → Option β) : Option β :=
(cond (((a0.length : Int) != (a1.length : Int)))
(k false)
(laws_eqIntS_l0 N  N a0 a1 0 (fun e3_0 =>
k e3_0) (k true)))
/-! loop.example/g03403/laws.eqKept -/
def laws_eqKept {β : Type} (N : Nat) (a0 : Int) (a1 : Int) (a2 : Int) (a3 : List Int) (a4 : Int) (a5 : Int) (a6 : Int) (a7 : List Int) (k : Bool → Option β) : Option β :=
laws_eqTable N a0 a1 a4 a5 fun r9 =>
(cond (!r9)
(k false)
((cond ((a2 != a6))
(k false)
(laws_eqIntS N a3 a7 fun r10 =>
(cond (!r10)
(k false)
(k true))))))
/-! loop.example/g03403/laws.heldIntS -/
def laws_heldIntS_l0b {β : Type} (N : Nat)  (v0 : List Int) (v1 : Int) (v2 : Int) (rec_ : List Int → Int → Int → Option β) (k0 : Int → Option β) (k1 : Int → Option β) : Option β :=
(cond ((decide (v2 < (v0.length : Int))))
((gd ((decide (0 ≤ v2)))
((gd ((decide (v2 < (v0.length : Int))))
((cond (((rd 0 v0 v2) != v1))
(k0 (-1))
(rec_ v0 ((w64 (v1 + 1))) ((w64 (v2 + 1))))))))))
(k1 v1))
def laws_heldIntS_l0 {β : Type} (N : Nat)  : Nat → List Int → Int → Int → (Int → Option β) → (Int → Option β) → Option β
  | 0, _, _, _, _, _ => none
  | F + 1, v0, v1, v2, k0, k1 => laws_heldIntS_l0b N  v0 v1 v2 (fun v0 v1 v2 => laws_heldIntS_l0 N  F v0 v1 v2 k0 k1) k0 k1
def laws_heldIntS {β : Type} (N : Nat) (a0 : List Int) (a1 : Int) (k : Int → Option β) : Option β :=
laws_heldIntS_l0 N  N a0 a1 0 (fun e3_0 =>
k e3_0) (fun e4_0 =>
k e4_0)
/-! loop.example/g03403/laws.heldKept -/
def laws_heldKept {β : Type} (N : Nat) (a0 : Int) (a1 : Int) (a2 : Int) (a3 : List Int) (a4 : Int) (k : Int → Option β) : Option β :=
laws_heldIntS N a3 a4 fun r6 =>
(cond ((decide (r6 < 0)))
(k (-1))
(k r6))
/-! loop.example/g03403/laws.markIntS -/
def laws_markIntS_l0b {β : Type} (N : Nat)  (v0 : Int) (v1 : Int) (v2 : List Int) (rec_ : Int → Int → List Int → Option β) (k0 : Int → List Int → Option β) : Option β :=
(cond ((decide (v1 < (v2.length : Int))))
((gd ((decide (0 ≤ v1)))
((gd ((decide (v1 < (v2.length : Int))))
(rec_ ((w64 (v0 + 1))) ((w64 (v1 + 1))) ((wr v2 v1 v0)))))))
(k0 v0 v2))
def laws_markIntS_l0 {β : Type} (N : Nat)  : Nat → Int → Int → List Int → (Int → List Int → Option β) → Option β
  | 0, _, _, _, _ => none
  | F + 1, v0, v1, v2, k0 => laws_markIntS_l0b N  v0 v1 v2 (fun v0 v1 v2 => laws_markIntS_l0 N  F v0 v1 v2 k0) k0
def laws_markIntS {β : Type} (N : Nat) (a0 : List Int) (a1 : Int) (k : Int → List Int → Option β) : Option β :=
laws_markIntS_l0 N  N a1 0 a0 (fun e3_0 e3_1 =>
k e3_0 e3_1)
/-! loop.example/g03403/laws.markKept -/
def laws_markKept {β : Type} (N : Nat) (a0 : Int) (a1 : Int) (a2 : Int) (a3 : List Int) (a4 : Int) (k : Int → List Int → Option β) : Option β :=
laws_markIntS N a3 a4 fun r6 m7 =>
k r6 m7
/-! loop.example/g03403/laws.FnExactFlipAt -/
def laws_FnExactFlipAt {β : Type} (N : Nat) (a0 : Int) (a1 : Int) (a2 : Int) (a3 : List Int) (a4 : Int) (k : Bool → Option β) : Option β :=
laws_szKept N a0 a1 a2 a3 1048576 fun r6 =>
(cond ((decide (r6 < 0)))
(k true)
(laws_toKept N a0 a1 a2 a3 fun r7 r8 r9 r10 =>
spec_FlipAt N r7 r8 r9 r10 a4 fun r11 r12 r13 r14 r15 =>
laws_toKept N a0 a1 a2 a3 fun r16 r17 r18 r19 =>
impl_FlipAt N r16 r17 r18 r19 a4 fun r20 r21 r22 r23 r24 =>
laws_eqKept N r20 r21 r22 r23 r11 r12 r13 r14 fun r25 =>
(cond (!r25)
(k false)
((cond ((!(r24 == r15)))
(k false)
(laws_toKept N a0 a1 a2 a3 fun r26 r27 r28 r29 =>
laws_eqKept N r16 r17 r18 r19 r26 r27 r28 r29 fun r30 =>
(cond (!r30)
(k false)
(laws_markKept N r16 r17 r18 r19 1 fun r31 m32 =>
(cond ((decide (r31 < 0)))
(k false)
(laws_eqKept N r20 r21 r22 r23 r11 r12 r13 r14 fun r33 =>
(cond (!r33)
(k false)
((cond ((!(r24 == r15)))
(k false)
(laws_markKept N r20 r21 r22 r23 1 fun r34 m35 =>
laws_heldKept N r20 r21 r22 m35 1 fun r36 =>
(cond ((decide (r36 < 0)))
(k false)
((cond ((r36 != r34))
(k false)
(laws_toKept N a0 a1 a2 a3 fun r37 r38 r39 r40 =>
impl_FlipAt N r37 r38 r39 r40 a4 fun r41 r42 r43 r44 r45 =>
laws_eqKept N r41 r42 r43 r44 r11 r12 r13 r14 fun r46 =>
(cond (!r46)
(k false)
((cond ((!(r45 == r15)))
(k false)
(laws_heldKept N r20 r21 r22 m35 1 fun r47 =>
(cond ((decide (r47 < 0)))
(k false)
((cond ((r47 != r34))
(k false)
(k true))))))))))))))))))))))))))
/-! loop.example/g03403/spec.FlipAll -/
def spec_FlipAll_s3 {β : Type} (s0 : List Int) (s1 : Int) (s2 : Int) (s3 : Int) (s4 : List Int) (s5 : Int) (s6 : Int) (s7 : Int) (s8 : Int) (s9 : Int) (s10 : Int) (s11 : List Int) (s12 : List Int) (K : Option β) : Option β :=
(gd (s0 == s0) (gd (s1 == s1) (gd (s2 == s2) (gd (s3 == s3) (gd (s4 == s4) (gd (s5 == s5) (gd (s6 == s6) (gd (s7 == s7) (gd (s8 == s8) (gd (s9 == s9) (gd (s10 == s10) (gd (s11 == s11) (gd (s12 == s12) K)))))))))))))
def spec_FlipAll_l0b {β : Type} (N : Nat)  (v0 : List Int) (v1 : Int) (v2 : Int) (v3 : Int) (v4 : Int) (v5 : List Int) (v6 : Int) (v7 : Int) (v8 : Int) (v9 : Int) (v10 : Int) (v11 : Int) (v12 : List Int) (v13 : List Int) (rec_ : List Int → Int → Int → Int → Int → List Int → Int → Int → Int → Int → Int → Int → List Int → List Int → Option β) (k0 : Bool → Int → Int → Int → List Int → Option β) (k1 : Int → Int → Int → Int → Int → Int → List Int → List Int → Option β) : Option β :=
(cond ((decide (v1 < (v0.length : Int))))
((gd ((decide (0 ≤ v1)))
((gd ((decide (v1 < (v0.length : Int))))
(spec_l9In N v2 v3 ((rd 0 v0 v1)) fun r11 =>
(cond (!r11)
(k0 false 0 0 0 (([] : List Int)))
((gd ((decide (0 ≤ v1)))
((gd ((decide (v1 < (v0.length : Int))))
(spec_l30Flip N v9 v10 v11 v13 ((rd 0 v0 v1)) fun r12 r13 r14 r15 =>
rec_ v0 ((w64 (v1 + 1))) v2 v3 v4 v5 v6 v7 v8 r12 r13 r14 v12 r15)))))))))))
(k1 v6 v7 v8 v9 v10 v11 v12 v13))
def spec_FlipAll_l0 {β : Type} (N : Nat)  : Nat → List Int → Int → Int → Int → Int → List Int → Int → Int → Int → Int → Int → Int → List Int → List Int → (Bool → Int → Int → Int → List Int → Option β) → (Int → Int → Int → Int → Int → Int → List Int → List Int → Option β) → Option β
  | 0, _, _, _, _, _, _, _, _, _, _, _, _, _, _, _, _ => none
  | F + 1, v0, v1, v2, v3, v4, v5, v6, v7, v8, v9, v10, v11, v12, v13, k0, k1 => spec_FlipAll_l0b N  v0 v1 v2 v3 v4 v5 v6 v7 v8 v9 v10 v11 v12 v13 (fun v0 v1 v2 v3 v4 v5 v6 v7 v8 v9 v10 v11 v12 v13 => spec_FlipAll_l0 N  F v0 v1 v2 v3 v4 v5 v6 v7 v8 v9 v10 v11 v12 v13 k0 k1) k0 k1
def spec_FlipAll {β : Type} (N : Nat) (a0 : Int) (a1 : Int) (a2 : Int) (a3 : List Int) (a4 : List Int) (k : Int → Int → Int → List Int → Bool → Option β) : Option β :=
spec_IsKept N a0 a1 a2 a3 fun r10 =>
(cond (!r10)
(k 0 0 0 (([] : List Int)) false)
((cond ((decide ((a4.length : Int) > 40)))
(k 0 0 0 (([] : List Int)) false)
((gd ((decide (((([] : List Int)).length + a3.length) * 8 ≤ 140737488355328)))
((gd ((decide (((([] : List Int)).length + a3.length) * 8 ≤ 140737488355328)))
((spec_FlipAll_s3 a4 a0 a1 a2 a3 0 0 0 a0 a1 a2 (([] : List Int)) ((([] : List Int) ++ a3))
((gd ((decide (((([] : List Int)).length + a3.length) * 8 ≤ 140737488355328)))
((spec_FlipAll_s3 a4 a0 a1 a2 a3 0 0 0 a0 a1 a2 (([] : List Int)) ((([] : List Int) ++ a3))
(spec_FlipAll_l0 N  N a4 0 a0 a1 a2 a3 0 0 0 a0 a1 a2 (([] : List Int)) ((([] : List Int) ++ a3)) (fun e16_0 e16_1 e16_2 e16_3 e16_4 =>
k e16_1 e16_2 e16_3 e16_4 e16_0) (fun e17_0 e17_1 e17_2 e17_3 e17_4 e17_5 e17_6 e17_7 =>
k e17_3 e17_4 e17_5 e17_7 true)))))))))))))))
/-! loop.example/g03403/laws.FnExactFlipAll -/
def laws_FnExactFlipAll {β : Type} (N : Nat) (a0 : Int) (a1 : Int) (a2 : Int) (a3 : List Int) (a4 : List Int) (k : Bool → Option β) : Option β :=
(cond ((decide ((a4.length : Int) > 1048576)))
(k true)
(laws_szKept N a0 a1 a2 a3 1048576 fun r6 =>
(cond ((decide (r6 < 0)))
(k true)
(laws_toKept N a0 a1 a2 a3 fun r7 r8 r9 r10 =>
laws_toIntS N a4 fun r11 =>
spec_FlipAll N r7 r8 r9 r10 r11 fun r12 r13 r14 r15 r16 =>
laws_toKept N a0 a1 a2 a3 fun r17 r18 r19 r20 =>
laws_toIntS N a4 fun r21 =>
impl_FlipAll N r17 r18 r19 r20 r21 fun r22 r23 r24 r25 r26 =>
laws_eqKept N r22 r23 r24 r25 r12 r13 r14 r15 fun r27 =>
(cond (!r27)
(k false)
((cond ((!(r26 == r16)))
(k false)
(laws_toKept N a0 a1 a2 a3 fun r28 r29 r30 r31 =>
laws_eqKept N r17 r18 r19 r20 r28 r29 r30 r31 fun r32 =>
(cond (!r32)
(k false)
(laws_toIntS N a4 fun r33 =>
laws_eqIntS N r21 r33 fun r34 =>
(cond (!r34)
(k false)
(laws_markKept N r17 r18 r19 r20 1 fun r35 m36 =>
laws_markIntS N r21 r35 fun r37 m38 =>
(cond ((decide (r37 < 0)))
(k false)
(laws_eqKept N r22 r23 r24 r25 r12 r13 r14 r15 fun r39 =>
(cond (!r39)
(k false)
((cond ((!(r26 == r16)))
(k false)
(laws_markKept N r22 r23 r24 r25 1 fun r40 m41 =>
laws_heldKept N r22 r23 r24 m41 1 fun r42 =>
(cond ((decide (r42 < 0)))
(k false)
((cond ((r42 != r40))
(k false)
(laws_toKept N a0 a1 a2 a3 fun r43 r44 r45 r46 =>
laws_toIntS N a4 fun r47 =>
impl_FlipAll N r43 r44 r45 r46 r47 fun r48 r49 r50 r51 r52 =>
laws_eqKept N r48 r49 r50 r51 r12 r13 r14 r15 fun r53 =>
(cond (!r53)
(k false)
((cond ((!(r52 == r16)))
(k false)
(laws_heldKept N r22 r23 r24 m41 1 fun r54 =>
(cond ((decide (r54 < 0)))
(k false)
((cond ((r54 != r40))
(k false)
(k true))))))))))))))))))))))))))))))
end Go.Proofs.Ytdjmbggefcfacaa
