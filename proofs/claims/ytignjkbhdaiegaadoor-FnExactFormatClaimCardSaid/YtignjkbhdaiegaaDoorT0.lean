/- The texts of the functions that the claims reach: plain Lean, no program. -/
import Derived.Test.YtignjkbhdaiegaaDoorRvLib
namespace Go.Proofs.YtignjkbhdaiegaaDoor
open Go.Rv
set_option linter.unusedVariables false
set_option maxRecDepth 100000
/-! loop.example/g03403/laws.szIntS -/
def laws_szIntS {β : Type} (N : Nat) (a0 : List Int) (a1 : Int) (k : Int → Option β) : Option β :=
(cond ((decide ((w64 (a1 - (a0.length : Int))) < 0)))
(k (-1))
(k ((w64 (a1 - (a0.length : Int))))))
/-! loop.example/g03403/laws.szClaim -/
def laws_szClaim {β : Type} (N : Nat) (a0 : Int) (a1 : Int) (a2 : Int) (a3 : Int) (a4 : Int) (a5 : ByteArray) (a6 : List Int) (a7 : Int) (k : Int → Option β) : Option β :=
(cond ((decide ((w64 (a7 - (a5.size : Int))) < 0)))
(k (-1))
(laws_szIntS N a6 ((w64 (a7 - (a5.size : Int)))) fun r9 =>
(cond ((decide (r9 < 0)))
(k (-1))
(k r9))))
/-! loop.example/g03403/laws.toTable -/
def laws_toTable {β : Type} (N : Nat) (a0 : Int) (a1 : Int) (k : Int → Int → Option β) : Option β :=
k a0 a1
/-! loop.example/g03403/laws.toIntS -/
def laws_toIntS_l0b {β : Type} (N : Nat)  (v0 : List Int) (v1 : Int) (v2 : List Int) (rec_ : List Int → Int → List Int → Option β) (k0 : List Int → Option β) : Option β :=
(cond ((decide (v1 < (v0.length : Int))))
((gd ((decide (0 ≤ v1)))
((gd ((decide (v1 < (v0.length : Int))))
((gd ((decide (0 ≤ v1)))
((gd ((decide (v1 < (v2.length : Int))))
(rec_ v0 ((w64 (v1 + 1))) ((wr v2 v1 (rd 0 v0 v1))))))))))))
(k0 v2))
def laws_toIntS_l0 {β : Type} (N : Nat)  : Nat → List Int → Int → List Int → (List Int → Option β) → Option β
  | 0, _, _, _, _ => none
  | F + 1, v0, v1, v2, k0 => laws_toIntS_l0b N  v0 v1 v2 (fun v0 v1 v2 => laws_toIntS_l0 N  F v0 v1 v2 k0) k0
def laws_toIntS {β : Type} (N : Nat) (a0 : List Int) (k : List Int → Option β) : Option β :=
(gd ((decide (0 ≤ (a0.length : Int))))
((gd ((decide ((a0.length : Int) ≤ (a0.length : Int))))
((gd ((decide (8 * (a0.length : Int) ≤ 281474976710656)))
(laws_toIntS_l0 N  N a0 0 ((List.replicate (Int.toNat (a0.length : Int)) (0 : Int))) (fun e2_0 =>
k e2_0)))))))
/-! loop.example/g03403/laws.toClaim -/
def laws_toClaim {β : Type} (N : Nat) (a0 : Int) (a1 : Int) (a2 : Int) (a3 : Int) (a4 : Int) (a5 : ByteArray) (a6 : List Int) (k : Int → Int → Int → Int → Int → ByteArray → List Int → Option β) : Option β :=
laws_toTable N a1 a2 fun r14 r15 =>
laws_toIntS N a6 fun r16 =>
k a0 r14 r15 a3 a4 a5 r16
/-! loop.example/g03403/spec.l1In -/
def spec_l1In {β : Type} (N : Nat) (a0 : Int) (a1 : Int) (a2 : Int) (k : Bool → Option β) : Option β :=
(cond ((decide (a0 ≥ a1)))
(k ((decide (a0 ≤ a2))))
(k false))
/-! loop.example/g03403/spec.ClaimWord -/
def spec_ClaimWord {β : Type} (N : Nat) (a0 : Int) (k : ByteArray → Option β) : Option β :=
spec_l1In N a0 1 7 fun r2 =>
(cond (!r2)
(k ByteArray.empty)
((gd ((decide (0 ≤ (w64 (a0 - 1)))))
((gd ((decide ((w64 (a0 - 1)) < (((((((((([] : List ByteArray) ++ [(strOf [100, 101, 112, 116, 104])]) ++ [(strOf [119, 101, 105, 103, 104, 116, 115])]) ++ [(strOf [110, 111, 110, 101])]) ++ [(strOf [102, 111, 114, 109, 117, 108, 97])]) ++ [(strOf [112, 114, 111, 116, 111, 99, 111, 108])]) ++ [(strOf [111, 114, 100, 101, 114])]) ++ [(strOf [116, 101, 115, 116, 115])])).length : Int))))
(k ((rd ByteArray.empty ((((((((([] : List ByteArray) ++ [(strOf [100, 101, 112, 116, 104])]) ++ [(strOf [119, 101, 105, 103, 104, 116, 115])]) ++ [(strOf [110, 111, 110, 101])]) ++ [(strOf [102, 111, 114, 109, 117, 108, 97])]) ++ [(strOf [112, 114, 111, 116, 111, 99, 111, 108])]) ++ [(strOf [111, 114, 100, 101, 114])]) ++ [(strOf [116, 101, 115, 116, 115])])) (w64 (a0 - 1))))))))))
/-! loop.example/g03403/spec.IsTable -/
def spec_IsTable {β : Type} (N : Nat) (a0 : Int) (a1 : Int) (k : Bool → Option β) : Option β :=
spec_l1In N a0 0 5 fun r3 =>
(cond r3
((gd ((decide (0 ≤ a0)))
((gd ((decide (0 ≤ (shlI .u64 1 a0))))
(spec_l1In N a1 0 ((w64 ((shlI .i64 1 (shlI .u64 1 a0)) - 1))) fun r4 =>
k r4)))))
(k false))
/-! loop.example/g03403/spec.FormatTable -/
def spec_FormatTable_l0b {β : Type} (N : Nat)  (v0 : ByteArray) (v1 : Int) (v2 : Int) (v3 : Int) (rec_ : ByteArray → Int → Int → Int → Option β) (k0 : ByteArray → Option β) : Option β :=
spec_IsTable N v2 v3 fun r3 =>
(cond r3
((gd ((decide (0 ≤ v2)))
((cond ((decide (v1 < (shlI .i64 1 v2))))
((gd ((decide (0 ≤ v1)))
((cond (((bits .and .i64 (shrI .i64 v3 v1) 1) == 1))
((gd ((decide (v0.size + ((strOf [49])).size ≤ 9223372036854775807)))
(rec_ ((v0 ++ (strOf [49]))) ((w64 (v1 + 1))) v2 v3)))
((gd ((decide (v0.size + ((strOf [48])).size ≤ 9223372036854775807)))
(rec_ ((v0 ++ (strOf [48]))) ((w64 (v1 + 1))) v2 v3)))))))
(k0 v0)))))
(k0 v0))
def spec_FormatTable_l0 {β : Type} (N : Nat)  : Nat → ByteArray → Int → Int → Int → (ByteArray → Option β) → Option β
  | 0, _, _, _, _, _ => none
  | F + 1, v0, v1, v2, v3, k0 => spec_FormatTable_l0b N  v0 v1 v2 v3 (fun v0 v1 v2 v3 => spec_FormatTable_l0 N  F v0 v1 v2 v3 k0) k0
def spec_FormatTable {β : Type} (N : Nat) (a0 : Int) (a1 : Int) (k : ByteArray → Option β) : Option β :=
spec_FormatTable_l0 N  N ByteArray.empty 0 a0 a1 (fun e4_0 =>
k e4_0)
/-! loop.example/g03403/spec.FormatInt -/
def spec_FormatInt_l0b {β : Type} (N : Nat)  (v0 : Int) (v1 : ByteArray) (v2 : Bool) (rec_ : Int → ByteArray → Bool → Option β) (k0 : ByteArray → Bool → Option β) : Option β :=
(cond ((v0 != 0))
((cond ((decide ((remI v0 10) < 0)))
((gd ((decide (((strOf ((([] : List Int) ++ [(w8 ((w64 (48 + (w64 (0 - (remI v0 10)))))))])))).size + v1.size ≤ 9223372036854775807)))
(rec_ ((quoI .i64 v0 10)) (((strOf ((([] : List Int) ++ [(w8 ((w64 (48 + (w64 (0 - (remI v0 10)))))))]))) ++ v1)) v2)))
((gd ((decide (((strOf ((([] : List Int) ++ [(w8 ((w64 (48 + (remI v0 10)))))])))).size + v1.size ≤ 9223372036854775807)))
(rec_ ((quoI .i64 v0 10)) (((strOf ((([] : List Int) ++ [(w8 ((w64 (48 + (remI v0 10)))))]))) ++ v1)) v2)))))
(k0 v1 v2))
def spec_FormatInt_l0 {β : Type} (N : Nat)  : Nat → Int → ByteArray → Bool → (ByteArray → Bool → Option β) → Option β
  | 0, _, _, _, _ => none
  | F + 1, v0, v1, v2, k0 => spec_FormatInt_l0b N  v0 v1 v2 (fun v0 v1 v2 => spec_FormatInt_l0 N  F v0 v1 v2 k0) k0
def spec_FormatInt {β : Type} (N : Nat) (a0 : Int) (k : ByteArray → Option β) : Option β :=
(cond ((a0 == 0))
(k ((strOf [48])))
(spec_FormatInt_l0 N  N a0 ByteArray.empty ((decide (a0 < 0))) (fun e2_0 e2_1 =>
(cond e2_1
((gd ((decide (((strOf [45])).size + e2_0.size ≤ 9223372036854775807)))
(k (((strOf [45]) ++ e2_0)))))
(k e2_0)))))
/-! loop.example/g03403/spec.l7End -/
def spec_l7End_b {β : Type} (N : Nat) (self : ByteArray → Int → Int → (Int → Option β) → Option β) (a0 : ByteArray) (a1 : Int) (a2 : Int) (k : Int → Option β) : Option β :=
(cond ((decide (a1 ≥ (a0.size : Int))))
(k (-1))
((gd ((decide (0 ≤ a1)))
((gd ((decide (a1 < (a0.size : Int))))
((cond (((bt a0 a1) == 48))
(k ((w64 (a1 + 1))))
((gd ((decide (0 ≤ a1)))
((gd ((decide (a1 < (a0.size : Int))))
((cond (((bt a0 a1) == 49))
(k ((w64 (a1 + 1))))
((gd ((decide (0 ≤ a1)))
((gd ((decide (a1 < (a0.size : Int))))
(spec_l1In N ((w64 ((w64 ((bt a0 a1))) - 97))) 0 4 fun r4 =>
(cond (!r4)
(k (-1))
((gd ((decide (0 ≤ (w64 ((w64 ((bt a0 a1))) - 97)))))
((cond (((bits .and .i64 (shrI .i64 a2 (w64 ((w64 ((bt a0 a1))) - 97))) 1) == 1))
(k (-1))
((gd ((decide (0 ≤ (w64 ((w64 ((bt a0 a1))) - 97)))))
(self a0 ((w64 (a1 + 1))) ((bits .or .i64 a2 (shlI .i64 1 (w64 ((w64 ((bt a0 a1))) - 97))))) fun r5 =>
(cond ((decide (r5 < 0)))
(k (-1))
((gd ((decide (0 ≤ (w64 ((w64 ((bt a0 a1))) - 97)))))
(self a0 r5 ((bits .or .i64 a2 (shlI .i64 1 (w64 ((w64 ((bt a0 a1))) - 97))))) fun r6 =>
k r6))))))))))))))))))))))))))))))
def spec_l7End_f {β : Type} (N : Nat) : Nat → ByteArray → Int → Int → (Int → Option β) → Option β
  | 0, _, _, _, _ => none
  | F + 1, a0, a1, a2, k => spec_l7End_b N (spec_l7End_f N F) a0 a1 a2 k
def spec_l7End {β : Type} (N : Nat) (a0 : ByteArray) (a1 : Int) (a2 : Int) (k : Int → Option β) : Option β := spec_l7End_f N N a0 a1 a2 k
/-! loop.example/g03403/spec.IsTree -/
def spec_IsTree {β : Type} (N : Nat) (a0 : ByteArray) (k : Bool → Option β) : Option β :=
(cond ((decide ((a0.size : Int) ≤ 63)))
((cond ((decide ((a0.size : Int) > 0)))
(spec_l7End N a0 0 0 fun r2 =>
k ((r2 == (a0.size : Int))))
(k false)))
(k false))
/-! loop.example/g03403/spec.l5End -/
def spec_l5End_b {β : Type} (N : Nat) (self : ByteArray → Int → (Int → Option β) → Option β) (a0 : ByteArray) (a1 : Int) (k : Int → Option β) : Option β :=
(cond ((decide (a1 ≥ (a0.size : Int))))
(k (-1))
((gd ((decide (0 ≤ a1)))
((gd ((decide (a1 < (a0.size : Int))))
((cond (((bt a0 a1) == 97))
((cond (((bt a0 a1) == 97))
(k ((w64 (a1 + 1))))
((cond (((bt a0 a1) == 33))
(self a0 ((w64 (a1 + 1))) fun r3 =>
k r3)
((cond (((bt a0 a1) == 38))
((cond (((bt a0 a1) == 38))
(self a0 ((w64 (a1 + 1))) fun r4 =>
(cond ((decide (r4 < 0)))
(k (-1))
(self a0 r4 fun r5 =>
k r5)))
(k (-1))))
((cond (((bt a0 a1) == 124))
((cond (((bt a0 a1) == 124))
(self a0 ((w64 (a1 + 1))) fun r6 =>
(cond ((decide (r6 < 0)))
(k (-1))
(self a0 r6 fun r7 =>
k r7)))
(k (-1))))
((cond (((bt a0 a1) == 94))
(self a0 ((w64 (a1 + 1))) fun r8 =>
(cond ((decide (r8 < 0)))
(k (-1))
(self a0 r8 fun r9 =>
k r9)))
(k (-1))))))))))))
((cond (((bt a0 a1) == 98))
((cond (((bt a0 a1) == 98))
(k ((w64 (a1 + 1))))
((cond (((bt a0 a1) == 33))
(self a0 ((w64 (a1 + 1))) fun r10 =>
k r10)
((cond (((bt a0 a1) == 38))
((cond (((bt a0 a1) == 38))
(self a0 ((w64 (a1 + 1))) fun r11 =>
(cond ((decide (r11 < 0)))
(k (-1))
(self a0 r11 fun r12 =>
k r12)))
(k (-1))))
((cond (((bt a0 a1) == 124))
((cond (((bt a0 a1) == 124))
(self a0 ((w64 (a1 + 1))) fun r13 =>
(cond ((decide (r13 < 0)))
(k (-1))
(self a0 r13 fun r14 =>
k r14)))
(k (-1))))
((cond (((bt a0 a1) == 94))
(self a0 ((w64 (a1 + 1))) fun r15 =>
(cond ((decide (r15 < 0)))
(k (-1))
(self a0 r15 fun r16 =>
k r16)))
(k (-1))))))))))))
((cond (((bt a0 a1) == 99))
((cond (((bt a0 a1) == 99))
(k ((w64 (a1 + 1))))
((cond (((bt a0 a1) == 33))
(self a0 ((w64 (a1 + 1))) fun r17 =>
k r17)
((cond (((bt a0 a1) == 38))
((cond (((bt a0 a1) == 38))
(self a0 ((w64 (a1 + 1))) fun r18 =>
(cond ((decide (r18 < 0)))
(k (-1))
(self a0 r18 fun r19 =>
k r19)))
(k (-1))))
((cond (((bt a0 a1) == 124))
((cond (((bt a0 a1) == 124))
(self a0 ((w64 (a1 + 1))) fun r20 =>
(cond ((decide (r20 < 0)))
(k (-1))
(self a0 r20 fun r21 =>
k r21)))
(k (-1))))
((cond (((bt a0 a1) == 94))
(self a0 ((w64 (a1 + 1))) fun r22 =>
(cond ((decide (r22 < 0)))
(k (-1))
(self a0 r22 fun r23 =>
k r23)))
(k (-1))))))))))))
((cond (((bt a0 a1) == 100))
((cond (((bt a0 a1) == 100))
(k ((w64 (a1 + 1))))
((cond (((bt a0 a1) == 33))
(self a0 ((w64 (a1 + 1))) fun r24 =>
k r24)
((cond (((bt a0 a1) == 38))
((cond (((bt a0 a1) == 38))
(self a0 ((w64 (a1 + 1))) fun r25 =>
(cond ((decide (r25 < 0)))
(k (-1))
(self a0 r25 fun r26 =>
k r26)))
(k (-1))))
((cond (((bt a0 a1) == 124))
((cond (((bt a0 a1) == 124))
(self a0 ((w64 (a1 + 1))) fun r27 =>
(cond ((decide (r27 < 0)))
(k (-1))
(self a0 r27 fun r28 =>
k r28)))
(k (-1))))
((cond (((bt a0 a1) == 94))
(self a0 ((w64 (a1 + 1))) fun r29 =>
(cond ((decide (r29 < 0)))
(k (-1))
(self a0 r29 fun r30 =>
k r30)))
(k (-1))))))))))))
((cond (((bt a0 a1) == 101))
((cond (((bt a0 a1) == 101))
(k ((w64 (a1 + 1))))
((cond (((bt a0 a1) == 33))
(self a0 ((w64 (a1 + 1))) fun r31 =>
k r31)
((cond (((bt a0 a1) == 38))
((cond (((bt a0 a1) == 38))
(self a0 ((w64 (a1 + 1))) fun r32 =>
(cond ((decide (r32 < 0)))
(k (-1))
(self a0 r32 fun r33 =>
k r33)))
(k (-1))))
((cond (((bt a0 a1) == 124))
((cond (((bt a0 a1) == 124))
(self a0 ((w64 (a1 + 1))) fun r34 =>
(cond ((decide (r34 < 0)))
(k (-1))
(self a0 r34 fun r35 =>
k r35)))
(k (-1))))
((cond (((bt a0 a1) == 94))
(self a0 ((w64 (a1 + 1))) fun r36 =>
(cond ((decide (r36 < 0)))
(k (-1))
(self a0 r36 fun r37 =>
k r37)))
(k (-1))))))))))))
((cond (((bt a0 a1) == 48))
((cond (((bt a0 a1) == 48))
(k ((w64 (a1 + 1))))
((cond (((bt a0 a1) == 33))
(self a0 ((w64 (a1 + 1))) fun r38 =>
k r38)
((cond (((bt a0 a1) == 38))
((cond (((bt a0 a1) == 38))
(self a0 ((w64 (a1 + 1))) fun r39 =>
(cond ((decide (r39 < 0)))
(k (-1))
(self a0 r39 fun r40 =>
k r40)))
(k (-1))))
((cond (((bt a0 a1) == 124))
((cond (((bt a0 a1) == 124))
(self a0 ((w64 (a1 + 1))) fun r41 =>
(cond ((decide (r41 < 0)))
(k (-1))
(self a0 r41 fun r42 =>
k r42)))
(k (-1))))
((cond (((bt a0 a1) == 94))
(self a0 ((w64 (a1 + 1))) fun r43 =>
(cond ((decide (r43 < 0)))
(k (-1))
(self a0 r43 fun r44 =>
k r44)))
(k (-1))))))))))))
((cond (((bt a0 a1) == 49))
(k ((w64 (a1 + 1))))
((cond (((bt a0 a1) == 33))
(self a0 ((w64 (a1 + 1))) fun r45 =>
k r45)
((cond (((bt a0 a1) == 38))
((cond (((bt a0 a1) == 38))
(self a0 ((w64 (a1 + 1))) fun r46 =>
(cond ((decide (r46 < 0)))
(k (-1))
(self a0 r46 fun r47 =>
k r47)))
(k (-1))))
((cond (((bt a0 a1) == 124))
((cond (((bt a0 a1) == 124))
(self a0 ((w64 (a1 + 1))) fun r48 =>
(cond ((decide (r48 < 0)))
(k (-1))
(self a0 r48 fun r49 =>
k r49)))
(k (-1))))
((cond (((bt a0 a1) == 94))
(self a0 ((w64 (a1 + 1))) fun r50 =>
(cond ((decide (r50 < 0)))
(k (-1))
(self a0 r50 fun r51 =>
k r51)))
(k (-1)))))))))))))))))))))))))))))
def spec_l5End_f {β : Type} (N : Nat) : Nat → ByteArray → Int → (Int → Option β) → Option β
  | 0, _, _, _ => none
  | F + 1, a0, a1, k => spec_l5End_b N (spec_l5End_f N F) a0 a1 k
def spec_l5End {β : Type} (N : Nat) (a0 : ByteArray) (a1 : Int) (k : Int → Option β) : Option β := spec_l5End_f N N a0 a1 k
/-! loop.example/g03403/spec.IsFormula -/
def spec_IsFormula {β : Type} (N : Nat) (a0 : ByteArray) (k : Bool → Option β) : Option β :=
(cond ((decide ((a0.size : Int) ≤ 60)))
((cond ((decide ((a0.size : Int) > 0)))
(spec_l5End N a0 0 fun r2 =>
k ((r2 == (a0.size : Int))))
(k false)))
(k false))
/-! loop.example/g03403/spec.l21Digit -/
def spec_l21Digit {β : Type} (N : Nat) (a0 : Int) (k : Int → Option β) : Option β :=
(cond ((decide (a0 ≥ 48)))
((cond ((decide (a0 ≤ 57)))
(k ((w64 ((w8 (a0 - 48))))))
((cond ((decide (a0 ≥ 97)))
((cond ((decide (a0 ≤ 102)))
(k ((w64 ((w64 ((w8 (a0 - 97)))) + 10))))
(k (-1))))
(k (-1))))))
((cond ((decide (a0 ≥ 97)))
((cond ((decide (a0 ≤ 102)))
(k ((w64 ((w64 ((w8 (a0 - 97)))) + 10))))
(k (-1))))
(k (-1)))))
/-! loop.example/g03403/spec.l21End -/
def spec_l21End_b {β : Type} (N : Nat) (self : ByteArray → Int → (Int → Option β) → Option β) (a0 : ByteArray) (a1 : Int) (k : Int → Option β) : Option β :=
(cond ((decide (a1 ≥ (a0.size : Int))))
(k (-1))
((gd ((decide (0 ≤ a1)))
((gd ((decide (a1 < (a0.size : Int))))
((cond (((bt a0 a1) == 48))
(k ((w64 (a1 + 1))))
((gd ((decide (0 ≤ a1)))
((gd ((decide (a1 < (a0.size : Int))))
((cond (((bt a0 a1) == 49))
(k ((w64 (a1 + 1))))
((gd ((decide (0 ≤ a1)))
((gd ((decide (a1 < (a0.size : Int))))
((cond (((bt a0 a1) != 65))
((gd ((decide (0 ≤ a1)))
((gd ((decide (a1 < (a0.size : Int))))
((cond (((bt a0 a1) != 66))
(k (-1))
((cond ((decide ((w64 (a1 + 1)) ≥ (a0.size : Int))))
(k (-1))
((gd ((decide (0 ≤ (w64 (a1 + 1)))))
((gd ((decide ((w64 (a1 + 1)) < (a0.size : Int))))
(spec_l21Digit N ((bt a0 (w64 (a1 + 1)))) fun r3 =>
(cond ((decide (r3 < 0)))
(k (-1))
(self a0 ((w64 (a1 + 2))) fun r4 =>
(cond ((decide (r4 < 0)))
(k (-1))
(self a0 r4 fun r5 =>
k r5)))))))))))))))))
((cond ((decide ((w64 (a1 + 1)) ≥ (a0.size : Int))))
(k (-1))
((gd ((decide (0 ≤ (w64 (a1 + 1)))))
((gd ((decide ((w64 (a1 + 1)) < (a0.size : Int))))
(spec_l21Digit N ((bt a0 (w64 (a1 + 1)))) fun r6 =>
(cond ((decide (r6 < 0)))
(k (-1))
(self a0 ((w64 (a1 + 2))) fun r7 =>
(cond ((decide (r7 < 0)))
(k (-1))
(self a0 r7 fun r8 =>
k r8))))))))))))))))))))))))))))))
def spec_l21End_f {β : Type} (N : Nat) : Nat → ByteArray → Int → (Int → Option β) → Option β
  | 0, _, _, _ => none
  | F + 1, a0, a1, k => spec_l21End_b N (spec_l21End_f N F) a0 a1 k
def spec_l21End {β : Type} (N : Nat) (a0 : ByteArray) (a1 : Int) (k : Int → Option β) : Option β := spec_l21End_f N N a0 a1 k
/-! loop.example/g03403/spec.IsProtocol -/
def spec_IsProtocol {β : Type} (N : Nat) (a0 : ByteArray) (k : Bool → Option β) : Option β :=
(cond ((decide ((a0.size : Int) ≤ 100)))
((cond ((decide ((a0.size : Int) > 0)))
(spec_l21End N a0 0 fun r2 =>
k ((r2 == (a0.size : Int))))
(k false)))
(k false))
/-! loop.example/g03403/spec.l33Numbers -/
def spec_l33Numbers_l0b {β : Type} (N : Nat)  (v0 : List Int) (v1 : ByteArray) (v2 : Int) (rec_ : List Int → ByteArray → Int → Option β) (k0 : ByteArray → Option β) : Option β :=
(cond ((decide (v2 < (v0.length : Int))))
((cond ((decide ((v0.length : Int) ≤ 40)))
((cond ((decide (v2 > 0)))
((gd ((decide (v1.size + ((strOf [44])).size ≤ 9223372036854775807)))
((gd ((decide (0 ≤ v2)))
((gd ((decide (v2 < (v0.length : Int))))
(spec_FormatInt N ((mxI (-99) (mnI 99 (rd 0 v0 v2)))) fun r2 =>
(gd ((decide (((v1 ++ (strOf [44]))).size + r2.size ≤ 9223372036854775807)))
(rec_ v0 (((v1 ++ (strOf [44])) ++ r2)) ((w64 (v2 + 1))))))))))))
((gd ((decide (0 ≤ v2)))
((gd ((decide (v2 < (v0.length : Int))))
(spec_FormatInt N ((mxI (-99) (mnI 99 (rd 0 v0 v2)))) fun r3 =>
(gd ((decide (v1.size + r3.size ≤ 9223372036854775807)))
(rec_ v0 ((v1 ++ r3)) ((w64 (v2 + 1))))))))))))
(k0 v1)))
(k0 v1))
def spec_l33Numbers_l0 {β : Type} (N : Nat)  : Nat → List Int → ByteArray → Int → (ByteArray → Option β) → Option β
  | 0, _, _, _, _ => none
  | F + 1, v0, v1, v2, k0 => spec_l33Numbers_l0b N  v0 v1 v2 (fun v0 v1 v2 => spec_l33Numbers_l0 N  F v0 v1 v2 k0) k0
def spec_l33Numbers {β : Type} (N : Nat) (a0 : List Int) (k : ByteArray → Option β) : Option β :=
spec_l33Numbers_l0 N  N a0 ByteArray.empty 0 (fun e4_0 =>
(cond ((e4_0.toList == ByteArray.empty.toList))
(k ((strOf [110, 111, 110, 101])))
(k e4_0)))
/-! loop.example/g03403/spec.FormatClaim -/
def spec_FormatClaim {β : Type} (N : Nat) (a0 : Int) (a1 : Int) (a2 : Int) (a3 : Int) (a4 : Int) (a5 : ByteArray) (a6 : List Int) (k : ByteArray → Option β) : Option β :=
spec_ClaimWord N a0 fun r8 =>
(cond ((r8.toList == ByteArray.empty.toList))
(k ByteArray.empty)
(spec_IsTable N a1 a2 fun r9 =>
(cond (!r9)
(k ByteArray.empty)
((gd ((decide (r8.size + ((strOf [32])).size ≤ 9223372036854775807)))
(spec_FormatTable N a1 a2 fun r10 =>
(gd ((decide (((r8 ++ (strOf [32]))).size + r10.size ≤ 9223372036854775807)))
((gd ((decide ((((r8 ++ (strOf [32])) ++ r10)).size + ((strOf [32])).size ≤ 9223372036854775807)))
(spec_FormatInt N ((mxI (-99) (mnI 99 a3))) fun r11 =>
(gd ((decide (((((r8 ++ (strOf [32])) ++ r10) ++ (strOf [32]))).size + r11.size ≤ 9223372036854775807)))
((cond ((a0 == 1))
(spec_IsTree N a5 fun r12 =>
(cond (!r12)
(k ByteArray.empty)
((gd ((decide ((((((r8 ++ (strOf [32])) ++ r10) ++ (strOf [32])) ++ r11)).size + ((strOf [32, 98, 121, 32])).size ≤ 9223372036854775807)))
((gd ((decide (((((((r8 ++ (strOf [32])) ++ r10) ++ (strOf [32])) ++ r11) ++ (strOf [32, 98, 121, 32]))).size + a5.size ≤ 9223372036854775807)))
(k (((((((r8 ++ (strOf [32])) ++ r10) ++ (strOf [32])) ++ r11) ++ (strOf [32, 98, 121, 32])) ++ a5)))))))))
((cond ((a0 == 4))
(spec_IsFormula N a5 fun r13 =>
(cond (!r13)
(k ByteArray.empty)
((gd ((decide ((((((r8 ++ (strOf [32])) ++ r10) ++ (strOf [32])) ++ r11)).size + ((strOf [32, 98, 121, 32])).size ≤ 9223372036854775807)))
((gd ((decide (((((((r8 ++ (strOf [32])) ++ r10) ++ (strOf [32])) ++ r11) ++ (strOf [32, 98, 121, 32]))).size + a5.size ≤ 9223372036854775807)))
(k (((((((r8 ++ (strOf [32])) ++ r10) ++ (strOf [32])) ++ r11) ++ (strOf [32, 98, 121, 32])) ++ a5)))))))))
((cond ((a0 == 5))
(spec_IsProtocol N a5 fun r14 =>
(cond (!r14)
(k ByteArray.empty)
((gd ((decide ((((((r8 ++ (strOf [32])) ++ r10) ++ (strOf [32])) ++ r11)).size + ((strOf [32, 115, 105, 100, 101, 32])).size ≤ 9223372036854775807)))
(spec_FormatInt N ((mxI (-99) (mnI 99 a4))) fun r15 =>
(gd ((decide (((((((r8 ++ (strOf [32])) ++ r10) ++ (strOf [32])) ++ r11) ++ (strOf [32, 115, 105, 100, 101, 32]))).size + r15.size ≤ 9223372036854775807)))
((gd ((decide ((((((((r8 ++ (strOf [32])) ++ r10) ++ (strOf [32])) ++ r11) ++ (strOf [32, 115, 105, 100, 101, 32])) ++ r15)).size + ((strOf [32, 98, 121, 32])).size ≤ 9223372036854775807)))
((gd ((decide (((((((((r8 ++ (strOf [32])) ++ r10) ++ (strOf [32])) ++ r11) ++ (strOf [32, 115, 105, 100, 101, 32])) ++ r15) ++ (strOf [32, 98, 121, 32]))).size + a5.size ≤ 9223372036854775807)))
(k (((((((((r8 ++ (strOf [32])) ++ r10) ++ (strOf [32])) ++ r11) ++ (strOf [32, 115, 105, 100, 101, 32])) ++ r15) ++ (strOf [32, 98, 121, 32])) ++ a5)))))))))))))
((gd ((decide ((((((r8 ++ (strOf [32])) ++ r10) ++ (strOf [32])) ++ r11)).size + ((strOf [32, 98, 121, 32])).size ≤ 9223372036854775807)))
(spec_l33Numbers N a6 fun r16 =>
(gd ((decide (((((((r8 ++ (strOf [32])) ++ r10) ++ (strOf [32])) ++ r11) ++ (strOf [32, 98, 121, 32]))).size + r16.size ≤ 9223372036854775807)))
(k (((((((r8 ++ (strOf [32])) ++ r10) ++ (strOf [32])) ++ r11) ++ (strOf [32, 98, 121, 32])) ++ r16))))))))))))))))))))))))
/-! loop.example/g03403/impl.ClaimWord -/
def impl_ClaimWord {β : Type} (N : Nat) (a0 : Int) (k : ByteArray → Option β) : Option β :=
(cond ((a0 == 1))
(k ((strOf [100, 101, 112, 116, 104])))
((cond ((a0 == 2))
(k ((strOf [119, 101, 105, 103, 104, 116, 115])))
((cond ((a0 == 3))
(k ((strOf [110, 111, 110, 101])))
((cond ((a0 == 4))
(k ((strOf [102, 111, 114, 109, 117, 108, 97])))
((cond ((a0 == 5))
(k ((strOf [112, 114, 111, 116, 111, 99, 111, 108])))
((cond ((a0 == 6))
(k ((strOf [111, 114, 100, 101, 114])))
((cond ((a0 == 7))
(k ((strOf [116, 101, 115, 116, 115])))
(k ByteArray.empty))))))))))))))
/-! loop.example/g03403/impl.isBits -/
def impl_isBits {β : Type} (N : Nat) (a0 : Int) (k : Bool → Option β) : Option β :=
(cond ((decide (a0 ≥ 0)))
(k ((decide (a0 ≤ 5))))
(k false))
/-! (loop.example/g03403/impl.Table).size -/
def impl_Table_size {β : Type} (N : Nat) (a0 : Int) (a1 : Int) (k : Int → Option β) : Option β :=
(gd ((decide (0 ≤ a0)))
(k ((shlI .i64 1 a0))))
/-! loop.example/g03403/impl.IsTable -/
def impl_IsTable {β : Type} (N : Nat) (a0 : Int) (a1 : Int) (k : Bool → Option β) : Option β :=
impl_isBits N a0 fun r3 =>
(cond r3
((cond ((decide (a1 ≥ 0)))
(impl_Table_size N a0 a1 fun r4 =>
(gd ((decide (0 ≤ r4)))
(k (((shrI .i64 a1 r4) == 0)))))
(k false)))
(k false))
/-! (loop.example/g03403/impl.Table).at -/
def impl_Table_at {β : Type} (N : Nat) (a0 : Int) (a1 : Int) (a2 : Int) (k : Int → Option β) : Option β :=
(gd ((decide (0 ≤ a2)))
(k ((bits .and .i64 (shrI .i64 a1 a2) 1))))
/-! loop.example/g03403/impl.FormatTable -/
def impl_FormatTable_l0b {β : Type} (N : Nat)  (v0 : Int) (v1 : Int) (v2 : Int) (v3 : Int) (v4 : List Int) (rec_ : Int → Int → Int → Int → List Int → Option β) (k0 : List Int → Option β) : Option β :=
(cond ((decide (v1 < v0)))
(impl_Table_at N v2 v3 v1 fun r5 =>
(gd ((decide (0 ≤ v1)))
((gd ((decide (v1 < (v4.length : Int))))
(rec_ v0 ((w64 (v1 + 1))) v2 v3 ((wr v4 v1 (w8 (48 + (w8 (r5)))))))))))
(k0 v4))
def impl_FormatTable_l0 {β : Type} (N : Nat)  : Nat → Int → Int → Int → Int → List Int → (List Int → Option β) → Option β
  | 0, _, _, _, _, _, _ => none
  | F + 1, v0, v1, v2, v3, v4, k0 => impl_FormatTable_l0b N  v0 v1 v2 v3 v4 (fun v0 v1 v2 v3 v4 => impl_FormatTable_l0 N  F v0 v1 v2 v3 v4 k0) k0
def impl_FormatTable {β : Type} (N : Nat) (a0 : Int) (a1 : Int) (k : ByteArray → Option β) : Option β :=
impl_IsTable N a0 a1 fun r3 =>
(cond (!r3)
(k ByteArray.empty)
(impl_Table_size N a0 a1 fun r4 =>
(gd ((decide (0 ≤ r4)))
((gd ((decide (r4 ≤ r4)))
((gd ((decide (1 * r4 ≤ 281474976710656)))
(impl_FormatTable_l0 N  N ((((List.replicate (Int.toNat r4) (0 : Int))).length : Int)) 0 a0 a1 ((List.replicate (Int.toNat r4) (0 : Int))) (fun e6_0 =>
k ((strOf e6_0)))))))))))
/-! loop.example/g03403/impl.FormatInt -/
def impl_FormatInt {β : Type} (N : Nat) (a0 : Int) (k : ByteArray → Option β) : Option β :=
strconv_Itoa N a0 fun r2 =>
k r2
/-! loop.example/g03403/impl.written -/
def impl_written {β : Type} (N : Nat) (a0 : Int) (k : ByteArray → Option β) : Option β :=
impl_FormatInt N ((mnI (mxI a0 (-99)) 99)) fun r2 =>
k r2
/-! loop.example/g03403/impl.writtenList -/
def impl_writtenList_l0b {β : Type} (N : Nat)  (v0 : List Int) (v1 : Int) (v2 : Int) (v3 : List ByteArray) (rec_ : List Int → Int → Int → List ByteArray → Option β) (k0 : List ByteArray → Option β) : Option β :=
(cond ((decide (v2 < v1)))
((gd ((decide (0 ≤ v2)))
((gd ((decide (v2 < (v0.length : Int))))
(impl_written N ((rd 0 v0 v2)) fun r2 =>
(gd ((decide (0 ≤ v2)))
((gd ((decide (v2 < (v3.length : Int))))
(rec_ v0 v1 ((w64 (v2 + 1))) ((wr v3 v2 r2)))))))))))
(k0 v3))
def impl_writtenList_l0 {β : Type} (N : Nat)  : Nat → List Int → Int → Int → List ByteArray → (List ByteArray → Option β) → Option β
  | 0, _, _, _, _, _ => none
  | F + 1, v0, v1, v2, v3, k0 => impl_writtenList_l0b N  v0 v1 v2 v3 (fun v0 v1 v2 v3 => impl_writtenList_l0 N  F v0 v1 v2 v3 k0) k0
def impl_writtenList {β : Type} (N : Nat) (a0 : List Int) (k : ByteArray → Option β) : Option β :=
(cond (((a0.length : Int) == 0))
(k ((strOf [110, 111, 110, 101])))
((cond ((decide ((a0.length : Int) > 40)))
(k ((strOf [110, 111, 110, 101])))
((gd ((decide (0 ≤ (a0.length : Int))))
((gd ((decide ((a0.length : Int) ≤ (a0.length : Int))))
((gd ((decide (16 * (a0.length : Int) ≤ 281474976710656)))
(impl_writtenList_l0 N  N a0 ((a0.length : Int)) 0 ((List.replicate (Int.toNat (a0.length : Int)) ByteArray.empty)) (fun e3_0 =>
strings_Join N e3_0 ((strOf [44])) fun r4 =>
k r4)))))))))))
/-! loop.example/g03403/impl.isLetter -/
def impl_isLetter {β : Type} (N : Nat) (a0 : Int) (k : Bool → Option β) : Option β :=
(cond ((decide (a0 ≥ 97)))
(k ((decide (a0 < 102))))
(k false))
/-! (*loop.example/g03403/impl.tree).variable -/
def impl_tree_variable_g0 {β : Type} (N : Nat) (a0 : Int) (k0 : Int → Int → Option β) : Option β :=
k0 ((w64 ((w8 (a0 - 97))))) a0
/-! loop.example/g03403/impl.readTree -/
def impl_readTree_b {β : Type} (N : Nat) (self : ByteArray → Int → (Tr → ByteArray → Option β) → Option β) (a0 : ByteArray) (a1 : Int) (k : Tr → ByteArray → Option β) : Option β :=
(cond ((a0.toList == ByteArray.empty.toList))
(k Tr.nil ByteArray.empty)
((gd ((decide (0 < (a0.size : Int))))
((gd ((decide (1 ≤ (a0.size : Int))))
((cond (((bt a0 0) == 48))
(k ((Tr.node ((bt a0 0)) 0 Tr.nil Tr.nil)) ((a0.extract (Int.toNat 1) a0.size)))
((cond (((bt a0 0) == 49))
(k ((Tr.node ((bt a0 0)) 0 Tr.nil Tr.nil)) ((a0.extract (Int.toNat 1) a0.size)))
(impl_isLetter N ((bt a0 0)) fun r4 =>
(cond (!r4)
(k Tr.nil ByteArray.empty)
(impl_tree_variable_g0 N ((bt a0 0)) (fun r5_0 r5_1 =>
(gd ((decide (0 ≤ r5_0)))
((cond (((bits .and .i64 (shrI .i64 a1 r5_0) 1) == 1))
(k Tr.nil ByteArray.empty)
(impl_tree_variable_g0 N r5_1 (fun r6_0 r6_1 =>
(gd ((decide (0 ≤ r6_0)))
(self ((a0.extract (Int.toNat 1) a0.size)) ((bits .or .i64 a1 (shlI .i64 1 r6_0))) fun r7 r8 =>
(cond ((Tr.isNil r7))
(k Tr.nil ByteArray.empty)
(self r8 ((bits .or .i64 a1 (shlI .i64 1 r6_0))) fun r9 r10 =>
(cond ((Tr.isNil r9))
(k Tr.nil ByteArray.empty)
(k ((Tr.node r6_1 0 r7 r9)) r10))))))))))))))))))))))))
def impl_readTree_f {β : Type} (N : Nat) : Nat → ByteArray → Int → (Tr → ByteArray → Option β) → Option β
  | 0, _, _, _ => none
  | F + 1, a0, a1, k => impl_readTree_b N (impl_readTree_f N F) a0 a1 k
def impl_readTree {β : Type} (N : Nat) (a0 : ByteArray) (a1 : Int) (k : Tr → ByteArray → Option β) : Option β := impl_readTree_f N N a0 a1 k
/-! loop.example/g03403/impl.wholeTree -/
def impl_wholeTree {β : Type} (N : Nat) (a0 : ByteArray) (k : Tr → Bool → Option β) : Option β :=
impl_readTree N a0 0 fun r3 r4 =>
(cond ((!(Tr.isNil r3)))
(k r3 ((r4.toList == ByteArray.empty.toList)))
(k r3 false))
/-! loop.example/g03403/impl.IsTree -/
def impl_IsTree {β : Type} (N : Nat) (a0 : ByteArray) (k : Bool → Option β) : Option β :=
impl_wholeTree N a0 fun r2 r3 =>
k r3
/-! loop.example/g03403/impl.readPart -/
def impl_readPart_b {β : Type} (N : Nat) (self : ByteArray → (Tr → ByteArray → Option β) → Option β) (a0 : ByteArray) (k : Tr → ByteArray → Option β) : Option β :=
(cond ((a0.toList == ByteArray.empty.toList))
(k Tr.nil ByteArray.empty)
((gd ((decide (0 < (a0.size : Int))))
((gd ((decide (1 ≤ (a0.size : Int))))
(impl_isLetter N ((bt a0 0)) fun r3 =>
(cond r3
(k ((Tr.node ((bt a0 0)) 0 Tr.nil Tr.nil)) ((a0.extract (Int.toNat 1) a0.size)))
((cond (((bt a0 0) == 48))
(k ((Tr.node ((bt a0 0)) 0 Tr.nil Tr.nil)) ((a0.extract (Int.toNat 1) a0.size)))
((cond (((bt a0 0) == 49))
(k ((Tr.node ((bt a0 0)) 0 Tr.nil Tr.nil)) ((a0.extract (Int.toNat 1) a0.size)))
((cond (((bt a0 0) == 33))
(self ((a0.extract (Int.toNat 1) a0.size)) fun r4 r5 =>
(cond ((Tr.isNil r4))
(k Tr.nil ByteArray.empty)
(k ((Tr.node ((bt a0 0)) 0 r4 Tr.nil)) r5)))
((cond (((bt a0 0) == 38))
(self ((a0.extract (Int.toNat 1) a0.size)) fun r6 r7 =>
(cond ((Tr.isNil r6))
(k Tr.nil ByteArray.empty)
(self r7 fun r8 r9 =>
(cond ((Tr.isNil r8))
(k Tr.nil ByteArray.empty)
(k ((Tr.node ((bt a0 0)) 0 r6 r8)) r9)))))
((cond (((bt a0 0) == 124))
(self ((a0.extract (Int.toNat 1) a0.size)) fun r10 r11 =>
(cond ((Tr.isNil r10))
(k Tr.nil ByteArray.empty)
(self r11 fun r12 r13 =>
(cond ((Tr.isNil r12))
(k Tr.nil ByteArray.empty)
(k ((Tr.node ((bt a0 0)) 0 r10 r12)) r13)))))
((cond (((bt a0 0) == 94))
(self ((a0.extract (Int.toNat 1) a0.size)) fun r14 r15 =>
(cond ((Tr.isNil r14))
(k Tr.nil ByteArray.empty)
(self r15 fun r16 r17 =>
(cond ((Tr.isNil r16))
(k Tr.nil ByteArray.empty)
(k ((Tr.node ((bt a0 0)) 0 r14 r16)) r17)))))
(k Tr.nil ByteArray.empty))))))))))))))))))))
def impl_readPart_f {β : Type} (N : Nat) : Nat → ByteArray → (Tr → ByteArray → Option β) → Option β
  | 0, _, _ => none
  | F + 1, a0, k => impl_readPart_b N (impl_readPart_f N F) a0 k
def impl_readPart {β : Type} (N : Nat) (a0 : ByteArray) (k : Tr → ByteArray → Option β) : Option β := impl_readPart_f N N a0 k
/-! loop.example/g03403/impl.readFormula -/
def impl_readFormula {β : Type} (N : Nat) (a0 : ByteArray) (k : Tr → Bool → Option β) : Option β :=
(cond ((decide ((a0.size : Int) > 60)))
(k Tr.nil false)
(impl_readPart N a0 fun r3 r4 =>
(cond ((!(Tr.isNil r3)))
(k r3 ((r4.toList == ByteArray.empty.toList)))
(k r3 false))))
/-! loop.example/g03403/impl.IsFormula -/
def impl_IsFormula {β : Type} (N : Nat) (a0 : ByteArray) (k : Bool → Option β) : Option β :=
impl_readFormula N a0 fun r2 r3 =>
k r3
/-! loop.example/g03403/impl.readTurn -/
def impl_readTurn_b {β : Type} (N : Nat) (self : ByteArray → (Tr → ByteArray → Option β) → Option β) (a0 : ByteArray) (k : Tr → ByteArray → Option β) : Option β :=
(cond ((a0.toList == ByteArray.empty.toList))
(k Tr.nil ByteArray.empty)
((gd ((decide (0 < (a0.size : Int))))
((cond (((bt a0 0) == 48))
((gd ((decide (1 ≤ (a0.size : Int))))
(k ((Tr.node ((bt a0 0)) 0 Tr.nil Tr.nil)) ((a0.extract (Int.toNat 1) a0.size)))))
((cond (((bt a0 0) == 49))
((gd ((decide (1 ≤ (a0.size : Int))))
(k ((Tr.node ((bt a0 0)) 0 Tr.nil Tr.nil)) ((a0.extract (Int.toNat 1) a0.size)))))
((cond (((bt a0 0) != 65))
((cond (((bt a0 0) != 66))
(k Tr.nil ByteArray.empty)
((cond ((decide ((a0.size : Int) < 2)))
(k Tr.nil ByteArray.empty)
((gd ((decide (1 < (a0.size : Int))))
(strings_IndexByte N ((strOf [48, 49, 50, 51, 52, 53, 54, 55, 56, 57, 97, 98, 99, 100, 101, 102])) ((bt a0 1)) fun r3 =>
(cond ((decide (r3 < 0)))
(k Tr.nil ByteArray.empty)
((gd ((decide (2 ≤ (a0.size : Int))))
(self ((a0.extract (Int.toNat 2) a0.size)) fun r4 r5 =>
(cond ((Tr.isNil r4))
(k Tr.nil ByteArray.empty)
(self r5 fun r6 r7 =>
(cond ((Tr.isNil r6))
(k Tr.nil ByteArray.empty)
(k ((Tr.node ((bt a0 0)) r3 r4 r6)) r7)))))))))))))))
((cond ((decide ((a0.size : Int) < 2)))
(k Tr.nil ByteArray.empty)
((gd ((decide (1 < (a0.size : Int))))
(strings_IndexByte N ((strOf [48, 49, 50, 51, 52, 53, 54, 55, 56, 57, 97, 98, 99, 100, 101, 102])) ((bt a0 1)) fun r8 =>
(cond ((decide (r8 < 0)))
(k Tr.nil ByteArray.empty)
((gd ((decide (2 ≤ (a0.size : Int))))
(self ((a0.extract (Int.toNat 2) a0.size)) fun r9 r10 =>
(cond ((Tr.isNil r9))
(k Tr.nil ByteArray.empty)
(self r10 fun r11 r12 =>
(cond ((Tr.isNil r11))
(k Tr.nil ByteArray.empty)
(k ((Tr.node ((bt a0 0)) r8 r9 r11)) r12))))))))))))))))))))))
def impl_readTurn_f {β : Type} (N : Nat) : Nat → ByteArray → (Tr → ByteArray → Option β) → Option β
  | 0, _, _ => none
  | F + 1, a0, k => impl_readTurn_b N (impl_readTurn_f N F) a0 k
def impl_readTurn {β : Type} (N : Nat) (a0 : ByteArray) (k : Tr → ByteArray → Option β) : Option β := impl_readTurn_f N N a0 k
/-! loop.example/g03403/impl.wholeTurn -/
def impl_wholeTurn {β : Type} (N : Nat) (a0 : ByteArray) (k : Tr → Bool → Option β) : Option β :=
(cond ((decide ((a0.size : Int) > 100)))
(k Tr.nil false)
(impl_readTurn N a0 fun r3 r4 =>
(cond ((!(Tr.isNil r3)))
(k r3 ((r4.toList == ByteArray.empty.toList)))
(k r3 false))))
/-! loop.example/g03403/impl.IsProtocol -/
def impl_IsProtocol {β : Type} (N : Nat) (a0 : ByteArray) (k : Bool → Option β) : Option β :=
impl_wholeTurn N a0 fun r2 r3 =>
k r3
/-! loop.example/g03403/impl.FormatClaim -/
def impl_FormatClaim {β : Type} (N : Nat) (a0 : Int) (a1 : Int) (a2 : Int) (a3 : Int) (a4 : Int) (a5 : ByteArray) (a6 : List Int) (k : ByteArray → Option β) : Option β :=
impl_ClaimWord N a0 fun r8 =>
(cond ((r8.toList == ByteArray.empty.toList))
(k ByteArray.empty)
(impl_IsTable N a1 a2 fun r9 =>
(cond (!r9)
(k ByteArray.empty)
(impl_ClaimWord N a0 fun r10 =>
impl_FormatTable N a1 a2 fun r11 =>
impl_written N a3 fun r12 =>
impl_writtenList N a6 fun r13 =>
(cond ((a0 == 1))
(impl_IsTree N a5 fun r14 =>
(cond (!r14)
(k ByteArray.empty)
((gd ((decide ((((((([] : List ByteArray) ++ [r10]) ++ [r11]) ++ [r12])).length + (((([] : List ByteArray) ++ [(strOf [98, 121])]) ++ [a5])).length) * 16 ≤ 140737488355328)))
(strings_Join N (((((([] : List ByteArray) ++ [r10]) ++ [r11]) ++ [r12]) ++ ((([] : List ByteArray) ++ [(strOf [98, 121])]) ++ [a5]))) ((strOf [32])) fun r15 =>
k r15)))))
((cond ((a0 == 4))
(impl_IsFormula N a5 fun r16 =>
(cond (!r16)
(k ByteArray.empty)
((gd ((decide ((((((([] : List ByteArray) ++ [r10]) ++ [r11]) ++ [r12])).length + (((([] : List ByteArray) ++ [(strOf [98, 121])]) ++ [a5])).length) * 16 ≤ 140737488355328)))
(strings_Join N (((((([] : List ByteArray) ++ [r10]) ++ [r11]) ++ [r12]) ++ ((([] : List ByteArray) ++ [(strOf [98, 121])]) ++ [a5]))) ((strOf [32])) fun r17 =>
k r17)))))
((cond ((a0 == 5))
(impl_IsProtocol N a5 fun r18 =>
impl_written N a4 fun r19 =>
(gd ((decide ((((((([] : List ByteArray) ++ [r10]) ++ [r11]) ++ [r12])).length + (((([] : List ByteArray) ++ [(strOf [115, 105, 100, 101])]) ++ [r19])).length) * 16 ≤ 140737488355328)))
((cond (!r18)
(k ByteArray.empty)
((gd ((decide (((((((([] : List ByteArray) ++ [r10]) ++ [r11]) ++ [r12]) ++ ((([] : List ByteArray) ++ [(strOf [115, 105, 100, 101])]) ++ [r19]))).length + (((([] : List ByteArray) ++ [(strOf [98, 121])]) ++ [a5])).length) * 16 ≤ 140737488355328)))
(strings_Join N ((((((([] : List ByteArray) ++ [r10]) ++ [r11]) ++ [r12]) ++ ((([] : List ByteArray) ++ [(strOf [115, 105, 100, 101])]) ++ [r19])) ++ ((([] : List ByteArray) ++ [(strOf [98, 121])]) ++ [a5]))) ((strOf [32])) fun r20 =>
k r20)))))))
((gd ((decide ((((((([] : List ByteArray) ++ [r10]) ++ [r11]) ++ [r12])).length + (((([] : List ByteArray) ++ [(strOf [98, 121])]) ++ [r13])).length) * 16 ≤ 140737488355328)))
(strings_Join N (((((([] : List ByteArray) ++ [r10]) ++ [r11]) ++ [r12]) ++ ((([] : List ByteArray) ++ [(strOf [98, 121])]) ++ [r13]))) ((strOf [32])) fun r21 =>
k r21))))))))))))
/-! loop.example/g03403/laws.eqTable -/
def laws_eqTable {β : Type} (N : Nat) (a0 : Int) (a1 : Int) (a2 : Int) (a3 : Int) (k : Bool → Option β) : Option β :=
(cond ((a0 != a2))
(k false)
((cond ((a1 != a3))
(k false)
(k true))))
/-! loop.example/g03403/laws.eqIntS -/
def laws_eqIntS_l0b {β : Type} (N : Nat)  (v0 : List Int) (v1 : List Int) (v2 : Int) (rec_ : List Int → List Int → Int → Option β) (k0 : Bool → Option β) (k1 : Option β) : Option β :=
(cond ((decide (v2 < (v0.length : Int))))
((gd ((decide (0 ≤ v2)))
((gd ((decide (v2 < (v0.length : Int))))
((gd ((decide (0 ≤ v2)))
((gd ((decide (v2 < (v1.length : Int))))
((cond (((rd 0 v0 v2) != (rd 0 v1 v2)))
(k0 false)
(rec_ v0 v1 ((w64 (v2 + 1))))))))))))))
(k1 ))
def laws_eqIntS_l0 {β : Type} (N : Nat)  : Nat → List Int → List Int → Int → (Bool → Option β) → (Option β) → Option β
  | 0, _, _, _, _, _ => none
  | F + 1, v0, v1, v2, k0, k1 => laws_eqIntS_l0b N  v0 v1 v2 (fun v0 v1 v2 => laws_eqIntS_l0 N  F v0 v1 v2 k0 k1) k0 k1
def laws_eqIntS {β : Type} (N : Nat) (a0 : List Int) (a1 : List Int) (k : Bool → Option β) : Option β :=
(cond (((a0.length : Int) != (a1.length : Int)))
(k false)
(laws_eqIntS_l0 N  N a0 a1 0 (fun e3_0 =>
k e3_0) (k true)))
/-! loop.example/g03403/laws.eqClaim -/
def laws_eqClaim {β : Type} (N : Nat) (a0 : Int) (a1 : Int) (a2 : Int) (a3 : Int) (a4 : Int) (a5 : ByteArray) (a6 : List Int) (a7 : Int) (a8 : Int) (a9 : Int) (a10 : Int) (a11 : Int) (a12 : ByteArray) (a13 : List Int) (k : Bool → Option β) : Option β :=
(cond ((a0 != a7))
(k false)
(laws_eqTable N a1 a2 a8 a9 fun r15 =>
(cond (!r15)
(k false)
((cond ((a3 != a10))
(k false)
((cond ((a4 != a11))
(k false)
((cond ((!(a5.toList == a12.toList)))
(k false)
(laws_eqIntS N a6 a13 fun r16 =>
(cond (!r16)
(k false)
(k true))))))))))))
/-! loop.example/g03403/laws.FnExactFormatClaim -/
def laws_FnExactFormatClaim {β : Type} (N : Nat) (a0 : Int) (a1 : Int) (a2 : Int) (a3 : Int) (a4 : Int) (a5 : ByteArray) (a6 : List Int) (k : Bool → Option β) : Option β :=
laws_szClaim N a0 a1 a2 a3 a4 a5 a6 1048576 fun r8 =>
(cond ((decide (r8 < 0)))
(k true)
(laws_toClaim N a0 a1 a2 a3 a4 a5 a6 fun r9 r10 r11 r12 r13 r14 r15 =>
spec_FormatClaim N r9 r10 r11 r12 r13 r14 r15 fun r16 =>
laws_toClaim N a0 a1 a2 a3 a4 a5 a6 fun r17 r18 r19 r20 r21 r22 r23 =>
impl_FormatClaim N r17 r18 r19 r20 r21 r22 r23 fun r24 =>
(cond ((!(r24.toList == r16.toList)))
(k false)
(laws_toClaim N a0 a1 a2 a3 a4 a5 a6 fun r25 r26 r27 r28 r29 r30 r31 =>
laws_eqClaim N r17 r18 r19 r20 r21 r22 r23 r25 r26 r27 r28 r29 r30 r31 fun r32 =>
(cond (!r32)
(k false)
(k true))))))
end Go.Proofs.YtignjkbhdaiegaaDoor
