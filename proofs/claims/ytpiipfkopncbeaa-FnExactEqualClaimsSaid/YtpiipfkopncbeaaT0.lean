/- The texts of the functions that the claims reach: plain Lean, no program. -/
import Derived.Test.YtpiipfkopncbeaaRvUse
namespace Go.Proofs.Ytpiipfkopncbeaa
open Go.Rv
set_option linter.unusedVariables false
/-! loop.example/g03403/laws.szIntS -/
def laws_szIntS {β : Type} (N : Nat) (a0 : List Int) (a1 : Int) (k : Int → Option β) : Option β :=
(cond ((decide ((w64 (a1 - (a0.length : Int))) < 0)))
(k (-1))
(k ((w64 (a1 - (a0.length : Int))))))
/-! loop.example/g03403/laws.szKept -/
def laws_szKept {β : Type} (N : Nat) (a0 : Int) (a1 : Int) (a2 : Int) (a3 : List Int) (a4 : Int) (k : Int → Option β) : Option β :=
laws_szIntS N a3 a4 fun r5 =>
(cond ((decide (r5 < 0)))
(k (-1))
(k r5))
/-! loop.example/g03403/laws.toTable -/
def laws_toTable {β : Type} (N : Nat) (a0 : Int) (a1 : Int) (k : Int → Int → Option β) : Option β :=
k a0 a1
/-! loop.example/g03403/laws.toIntS -/
def laws_toIntS_l0b {β : Type} (N : Nat)  (v0 : List Int) (v1 : Int) (v2 : List Int) (rec_ : List Int → Int → List Int → Option β) (k0 : List Int → Option β) : Option β :=
(cond ((decide (v1 < (v0.length : Int))))
((gd ((decide (0 ≤ v1)))
((gd ((decide (v1 < (v0.length : Int))))
((gd ((decide (0 ≤ v1)))
((gd ((decide (v1 < (v2.length : Int))))
(rec_ v0 ((w64 (v1 + 1))) ((wr v2 v1 (rd 0 v0 v1))))))))))))
(k0 v2))
def laws_toIntS_l0 {β : Type} (N : Nat)  : Nat → List Int → Int → List Int → (List Int → Option β) → Option β
  | 0, _, _, _, _ => none
  | F + 1, v0, v1, v2, k0 => laws_toIntS_l0b N  v0 v1 v2 (fun v0 v1 v2 => laws_toIntS_l0 N  F v0 v1 v2 k0) k0
def laws_toIntS {β : Type} (N : Nat) (a0 : List Int) (k : List Int → Option β) : Option β :=
(gd ((decide (0 ≤ (a0.length : Int))))
((gd ((decide ((a0.length : Int) ≤ (a0.length : Int))))
((gd ((decide (8 * (a0.length : Int) ≤ 281474976710656)))
(laws_toIntS_l0 N  N a0 0 ((List.replicate (Int.toNat (a0.length : Int)) (0 : Int))) (fun e1_0 =>
k e1_0)))))))
/-! loop.example/g03403/laws.toKept -/
def laws_toKept {β : Type} (N : Nat) (a0 : Int) (a1 : Int) (a2 : Int) (a3 : List Int) (k : Int → Int → Int → List Int → Option β) : Option β :=
laws_toTable N a0 a1 fun r4 r5 =>
laws_toIntS N a3 fun r6 =>
k r4 r5 a2 r6
/-! loop.example/g03403/spec.l30Same -/
def spec_l30Same_l0b {β : Type} (N : Nat)  (v0 : List Int) (v1 : List Int) (v2 : Int) (rec_ : List Int → List Int → Int → Option β) (k0 : Bool → Option β) (k1 : Option β) : Option β :=
(cond ((decide (v2 < (v0.length : Int))))
((gd ((decide (0 ≤ v2)))
((gd ((decide (v2 < (v0.length : Int))))
((gd ((decide (0 ≤ v2)))
((gd ((decide (v2 < (v1.length : Int))))
((cond (((rd 0 v0 v2) != (rd 0 v1 v2)))
(k0 false)
(rec_ v0 v1 ((w64 (v2 + 1))))))))))))))
(k1 ))
def spec_l30Same_l0 {β : Type} (N : Nat)  : Nat → List Int → List Int → Int → (Bool → Option β) → (Option β) → Option β
  | 0, _, _, _, _, _ => none
  | F + 1, v0, v1, v2, k0, k1 => spec_l30Same_l0b N  v0 v1 v2 (fun v0 v1 v2 => spec_l30Same_l0 N  F v0 v1 v2 k0 k1) k0 k1
def spec_l30Same {β : Type} (N : Nat) (a0 : List Int) (a1 : List Int) (k : Bool → Option β) : Option β :=
(cond (((a0.length : Int) != (a1.length : Int)))
(k false)
(spec_l30Same_l0 N  N a0 a1 0 (fun e2_0 =>
k e2_0) (k true)))
/-! loop.example/g03403/spec.EqualKept -/
def spec_EqualKept {β : Type} (N : Nat) (a0 : Int) (a1 : Int) (a2 : Int) (a3 : List Int) (a4 : Int) (a5 : Int) (a6 : Int) (a7 : List Int) (k : Bool → Option β) : Option β :=
(cond (((a0 == a4) && (a1 == a5)))
((cond ((a2 == a6))
(spec_l30Same N a3 a7 fun r8 =>
k r8)
(k false)))
(k false))
/-! slices.Equal[[]int,int] -/
def slices_Equal_Sint_int_l0b {β : Type} (N : Nat)  (v0 : List Int) (v1 : List Int) (v2 : Int) (v3 : Int) (rec_ : List Int → List Int → Int → Int → Option β) (k0 : Bool → Option β) (k1 : Option β) : Option β :=
(cond ((decide (v3 < v2)))
((gd ((decide (0 ≤ v3)))
((gd ((decide (v3 < (v0.length : Int))))
((gd ((decide (0 ≤ v3)))
((gd ((decide (v3 < (v1.length : Int))))
((cond (((rd 0 v0 v3) != (rd 0 v1 v3)))
(k0 false)
(rec_ v0 v1 v2 ((w64 (v3 + 1))))))))))))))
(k1 ))
def slices_Equal_Sint_int_l0 {β : Type} (N : Nat)  : Nat → List Int → List Int → Int → Int → (Bool → Option β) → (Option β) → Option β
  | 0, _, _, _, _, _, _ => none
  | F + 1, v0, v1, v2, v3, k0, k1 => slices_Equal_Sint_int_l0b N  v0 v1 v2 v3 (fun v0 v1 v2 v3 => slices_Equal_Sint_int_l0 N  F v0 v1 v2 v3 k0 k1) k0 k1
def slices_Equal_Sint_int {β : Type} (N : Nat) (a0 : List Int) (a1 : List Int) (k : Bool → Option β) : Option β :=
(cond (((a0.length : Int) != (a1.length : Int)))
(k false)
(slices_Equal_Sint_int_l0 N  N a0 a1 ((a0.length : Int)) 0 (fun e2_0 =>
k e2_0) (k true)))
/-! loop.example/g03403/impl.EqualKept -/
def impl_EqualKept {β : Type} (N : Nat) (a0 : Int) (a1 : Int) (a2 : Int) (a3 : List Int) (a4 : Int) (a5 : Int) (a6 : Int) (a7 : List Int) (k : Bool → Option β) : Option β :=
(cond (((a0 == a4) && (a1 == a5)))
((cond ((a2 == a6))
(slices_Equal_Sint_int N a3 a7 fun r8 =>
k r8)
(k false)))
(k false))
/-! loop.example/g03403/laws.eqTable -/
def laws_eqTable {β : Type} (N : Nat) (a0 : Int) (a1 : Int) (a2 : Int) (a3 : Int) (k : Bool → Option β) : Option β :=
(cond ((a0 != a2))
(k false)
((cond ((a1 != a3))
(k false)
(k true))))
/-! loop.example/g03403/laws.eqIntS -/
def laws_eqIntS_l0b {β : Type} (N : Nat)  (v0 : List Int) (v1 : List Int) (v2 : Int) (rec_ : List Int → List Int → Int → Option β) (k0 : Bool → Option β) (k1 : Option β) : Option β :=
(cond ((decide (v2 < (v0.length : Int))))
((gd ((decide (0 ≤ v2)))
((gd ((decide (v2 < (v0.length : Int))))
((gd ((decide (0 ≤ v2)))
((gd ((decide (v2 < (v1.length : Int))))
((cond (((rd 0 v0 v2) != (rd 0 v1 v2)))
(k0 false)
(rec_ v0 v1 ((w64 (v2 + 1))))))))))))))
(k1 ))
def laws_eqIntS_l0 {β : Type} (N : Nat)  : Nat → List Int → List Int → Int → (Bool → Option β) → (Option β) → Option β
  | 0, _, _, _, _, _ => none
  | F + 1, v0, v1, v2, k0, k1 => laws_eqIntS_l0b N  v0 v1 v2 (fun v0 v1 v2 => laws_eqIntS_l0 N  F v0 v1 v2 k0 k1) k0 k1
def laws_eqIntS {β : Type} (N : Nat) (a0 : List Int) (a1 : List Int) (k : Bool → Option β) : Option β :=
(cond (((a0.length : Int) != (a1.length : Int)))
(k false)
(laws_eqIntS_l0 N  N a0 a1 0 (fun e2_0 =>
k e2_0) (k true)))
/-! loop.example/g03403/laws.eqKept -/
def laws_eqKept {β : Type} (N : Nat) (a0 : Int) (a1 : Int) (a2 : Int) (a3 : List Int) (a4 : Int) (a5 : Int) (a6 : Int) (a7 : List Int) (k : Bool → Option β) : Option β :=
laws_eqTable N a0 a1 a4 a5 fun r8 =>
(cond (!r8)
(k false)
((cond ((a2 != a6))
(k false)
(laws_eqIntS N a3 a7 fun r9 =>
(cond (!r9)
(k false)
(k true))))))
/-! loop.example/g03403/laws.FnExactEqualKept -/
def laws_FnExactEqualKept {β : Type} (N : Nat) (a0 : Int) (a1 : Int) (a2 : Int) (a3 : List Int) (a4 : Int) (a5 : Int) (a6 : Int) (a7 : List Int) (k : Bool → Option β) : Option β :=
laws_szKept N a0 a1 a2 a3 1048576 fun r8 =>
(cond ((decide (r8 < 0)))
(k true)
(laws_szKept N a4 a5 a6 a7 r8 fun r9 =>
(cond ((decide (r9 < 0)))
(k true)
(laws_toKept N a0 a1 a2 a3 fun r10 r11 r12 r13 =>
laws_toKept N a4 a5 a6 a7 fun r14 r15 r16 r17 =>
spec_EqualKept N r10 r11 r12 r13 r14 r15 r16 r17 fun r18 =>
laws_toKept N a0 a1 a2 a3 fun r19 r20 r21 r22 =>
laws_toKept N a4 a5 a6 a7 fun r23 r24 r25 r26 =>
impl_EqualKept N r19 r20 r21 r22 r23 r24 r25 r26 fun r27 =>
(cond ((!(r27 == r18)))
(k false)
(laws_toKept N a0 a1 a2 a3 fun r28 r29 r30 r31 =>
laws_eqKept N r19 r20 r21 r22 r28 r29 r30 r31 fun r32 =>
(cond (!r32)
(k false)
(laws_toKept N a4 a5 a6 a7 fun r33 r34 r35 r36 =>
laws_eqKept N r23 r24 r25 r26 r33 r34 r35 r36 fun r37 =>
(cond (!r37)
(k false)
(k true))))))))))
/-! loop.example/g03403/laws.szClaim -/
def laws_szClaim {β : Type} (N : Nat) (a0 : Int) (a1 : Int) (a2 : Int) (a3 : Int) (a4 : Int) (a5 : ByteArray) (a6 : List Int) (a7 : Int) (k : Int → Option β) : Option β :=
(cond ((decide ((w64 (a7 - (a5.size : Int))) < 0)))
(k (-1))
(laws_szIntS N a6 ((w64 (a7 - (a5.size : Int)))) fun r8 =>
(cond ((decide (r8 < 0)))
(k (-1))
(k r8))))
/-! loop.example/g03403/laws.toClaim -/
def laws_toClaim {β : Type} (N : Nat) (a0 : Int) (a1 : Int) (a2 : Int) (a3 : Int) (a4 : Int) (a5 : ByteArray) (a6 : List Int) (k : Int → Int → Int → Int → Int → ByteArray → List Int → Option β) : Option β :=
laws_toTable N a1 a2 fun r7 r8 =>
laws_toIntS N a6 fun r9 =>
k a0 r7 r8 a3 a4 a5 r9
/-! loop.example/g03403/spec.EqualClaims -/
def spec_EqualClaims {β : Type} (N : Nat) (a0 : Int) (a1 : Int) (a2 : Int) (a3 : Int) (a4 : Int) (a5 : ByteArray) (a6 : List Int) (a7 : Int) (a8 : Int) (a9 : Int) (a10 : Int) (a11 : Int) (a12 : ByteArray) (a13 : List Int) (k : Bool → Option β) : Option β :=
(cond ((a0 == a7))
((cond (((a1 == a8) && (a2 == a9)))
((cond ((a3 == a10))
((cond ((a4 == a11))
((cond ((a5.toList == a12.toList))
(spec_l30Same N a6 a13 fun r14 =>
k r14)
(k false)))
(k false)))
(k false)))
(k false)))
(k false))
/-! loop.example/g03403/impl.EqualClaims -/
def impl_EqualClaims {β : Type} (N : Nat) (a0 : Int) (a1 : Int) (a2 : Int) (a3 : Int) (a4 : Int) (a5 : ByteArray) (a6 : List Int) (a7 : Int) (a8 : Int) (a9 : Int) (a10 : Int) (a11 : Int) (a12 : ByteArray) (a13 : List Int) (k : Bool → Option β) : Option β :=
(cond ((a0 == a7))
((cond (((a1 == a8) && (a2 == a9)))
((cond ((a3 == a10))
((cond ((a4 == a11))
((cond ((a5.toList == a12.toList))
(slices_Equal_Sint_int N a6 a13 fun r14 =>
k r14)
(k false)))
(k false)))
(k false)))
(k false)))
(k false))
/-! loop.example/g03403/laws.eqClaim -/
def laws_eqClaim {β : Type} (N : Nat) (a0 : Int) (a1 : Int) (a2 : Int) (a3 : Int) (a4 : Int) (a5 : ByteArray) (a6 : List Int) (a7 : Int) (a8 : Int) (a9 : Int) (a10 : Int) (a11 : Int) (a12 : ByteArray) (a13 : List Int) (k : Bool → Option β) : Option β :=
(cond ((a0 != a7))
(k false)
(laws_eqTable N a1 a2 a8 a9 fun r14 =>
(cond (!r14)
(k false)
((cond ((a3 != a10))
(k false)
((cond ((a4 != a11))
(k false)
((cond ((!(a5.toList == a12.toList)))
(k false)
(laws_eqIntS N a6 a13 fun r15 =>
(cond (!r15)
(k false)
(k true))))))))))))
/-! loop.example/g03403/laws.FnExactEqualClaims -/
def laws_FnExactEqualClaims {β : Type} (N : Nat) (a0 : Int) (a1 : Int) (a2 : Int) (a3 : Int) (a4 : Int) (a5 : ByteArray) (a6 : List Int) (a7 : Int) (a8 : Int) (a9 : Int) (a10 : Int) (a11 : Int) (a12 : ByteArray) (a13 : List Int) (k : Bool → Option β) : Option β :=
laws_szClaim N a0 a1 a2 a3 a4 a5 a6 1048576 fun r14 =>
(cond ((decide (r14 < 0)))
(k true)
(laws_szClaim N a7 a8 a9 a10 a11 a12 a13 r14 fun r15 =>
(cond ((decide (r15 < 0)))
(k true)
(laws_toClaim N a0 a1 a2 a3 a4 a5 a6 fun r16 r17 r18 r19 r20 r21 r22 =>
laws_toClaim N a7 a8 a9 a10 a11 a12 a13 fun r23 r24 r25 r26 r27 r28 r29 =>
spec_EqualClaims N r16 r17 r18 r19 r20 r21 r22 r23 r24 r25 r26 r27 r28 r29 fun r30 =>
laws_toClaim N a0 a1 a2 a3 a4 a5 a6 fun r31 r32 r33 r34 r35 r36 r37 =>
laws_toClaim N a7 a8 a9 a10 a11 a12 a13 fun r38 r39 r40 r41 r42 r43 r44 =>
impl_EqualClaims N r31 r32 r33 r34 r35 r36 r37 r38 r39 r40 r41 r42 r43 r44 fun r45 =>
(cond ((!(r45 == r30)))
(k false)
(laws_toClaim N a0 a1 a2 a3 a4 a5 a6 fun r46 r47 r48 r49 r50 r51 r52 =>
laws_eqClaim N r31 r32 r33 r34 r35 r36 r37 r46 r47 r48 r49 r50 r51 r52 fun r53 =>
(cond (!r53)
(k false)
(laws_toClaim N a7 a8 a9 a10 a11 a12 a13 fun r54 r55 r56 r57 r58 r59 r60 =>
laws_eqClaim N r38 r39 r40 r41 r42 r43 r44 r54 r55 r56 r57 r58 r59 r60 fun r61 =>
(cond (!r61)
(k false)
(k true))))))))))
end Go.Proofs.Ytpiipfkopncbeaa
