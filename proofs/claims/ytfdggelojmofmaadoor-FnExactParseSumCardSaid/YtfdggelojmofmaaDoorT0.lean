/- The texts of the functions that the claims reach: plain Lean, no program. -/
import Derived.Test.YtfdggelojmofmaaDoorRvLib
namespace Go.Proofs.YtfdggelojmofmaaDoor
open Go.Rv
set_option linter.unusedVariables false
set_option maxRecDepth 100000
/-! loop.example/g03403/spec.l1In -/
def spec_l1In {β : Type} (N : Nat) (a0 : Int) (a1 : Int) (a2 : Int) (k : Bool → Option β) : Option β :=
(cond ((decide (a0 ≥ a1)))
(k ((decide (a0 ≤ a2))))
(k false))
/-! loop.example/g03403/spec.IsTerm -/
def spec_IsTerm {β : Type} (N : Nat) (a0 : Int) (a1 : Int) (a2 : Int) (k : Bool → Option β) : Option β :=
spec_l1In N a0 0 5 fun r4 =>
(cond r4
((gd ((decide (0 ≤ a0)))
(spec_l1In N a1 0 ((w64 ((shlI .i64 1 a0) - 1))) fun r5 =>
(cond r5
(spec_l1In N a2 0 a1 fun r6 =>
(cond r6
(k (((bits .and .i64 a2 a1) == a2)))
(k false)))
(k false)))))
(k false))
/-! loop.example/g03403/spec.FormatTerm -/
def spec_FormatTerm_l0b {β : Type} (N : Nat)  (v0 : Int) (v1 : ByteArray) (v2 : Int) (v3 : Int) (v4 : Int) (rec_ : Int → ByteArray → Int → Int → Int → Option β) (k0 : Int → ByteArray → Int → Int → Option β) : Option β :=
spec_IsTerm N v0 v3 v4 fun r4 =>
(cond r4
((cond ((decide (v2 < v0)))
((gd ((decide (0 ≤ v2)))
((cond (((bits .and .i64 (shrI .i64 v3 v2) 1) == 0))
(rec_ v0 v1 ((w64 (v2 + 1))) v3 v4)
((gd ((decide (0 ≤ v2)))
((cond (((bits .and .i64 (shrI .i64 v4 v2) 1) == 0))
((gd ((decide (v1.size + ((strOf [33])).size ≤ 9223372036854775807)))
((gd ((decide (0 ≤ (w64 (v2 + 1)))))
((gd ((decide ((w64 (v2 + 1)) ≤ (((strOf [97, 98, 99, 100, 101])).size : Int))))
((gd ((decide (0 ≤ v2)))
((gd ((decide (v2 ≤ (w64 (v2 + 1)))))
((gd ((decide (((v1 ++ (strOf [33]))).size + ((((strOf [97, 98, 99, 100, 101])).extract (Int.toNat v2) (Int.toNat (w64 (v2 + 1))))).size ≤ 9223372036854775807)))
(rec_ v0 (((v1 ++ (strOf [33])) ++ (((strOf [97, 98, 99, 100, 101])).extract (Int.toNat v2) (Int.toNat (w64 (v2 + 1)))))) ((w64 (v2 + 1))) v3 v4)))))))))))))
((gd ((decide (0 ≤ (w64 (v2 + 1)))))
((gd ((decide ((w64 (v2 + 1)) ≤ (((strOf [97, 98, 99, 100, 101])).size : Int))))
((gd ((decide (0 ≤ v2)))
((gd ((decide (v2 ≤ (w64 (v2 + 1)))))
((gd ((decide (v1.size + ((((strOf [97, 98, 99, 100, 101])).extract (Int.toNat v2) (Int.toNat (w64 (v2 + 1))))).size ≤ 9223372036854775807)))
(rec_ v0 ((v1 ++ (((strOf [97, 98, 99, 100, 101])).extract (Int.toNat v2) (Int.toNat (w64 (v2 + 1)))))) ((w64 (v2 + 1))) v3 v4)))))))))))))))))))
(k0 v0 v1 v3 v4)))
(k0 v0 v1 v3 v4))
def spec_FormatTerm_l0 {β : Type} (N : Nat)  : Nat → Int → ByteArray → Int → Int → Int → (Int → ByteArray → Int → Int → Option β) → Option β
  | 0, _, _, _, _, _, _ => none
  | F + 1, v0, v1, v2, v3, v4, k0 => spec_FormatTerm_l0b N  v0 v1 v2 v3 v4 (fun v0 v1 v2 v3 v4 => spec_FormatTerm_l0 N  F v0 v1 v2 v3 v4 k0) k0
def spec_FormatTerm {β : Type} (N : Nat) (a0 : Int) (a1 : Int) (a2 : Int) (k : ByteArray → Option β) : Option β :=
spec_FormatTerm_l0 N  N a0 ByteArray.empty 0 a1 a2 (fun e5_0 e5_1 e5_2 e5_3 =>
(cond ((e5_1.toList == ByteArray.empty.toList))
(spec_IsTerm N e5_0 e5_2 e5_3 fun r6 =>
(cond r6
(k ((strOf [49])))
(k e5_1)))
(k e5_1)))
/-! loop.example/g03403/spec.ParseTerm -/
def spec_ParseTerm_l0b {β : Type} (N : Nat)  (v0 : Int) (v1 : ByteArray) (v2 : Bool) (v3 : Int) (v4 : Int) (v5 : Int) (v6 : Int) (v7 : Int) (rec_ : Int → ByteArray → Bool → Int → Int → Int → Int → Int → Option β) (k0 : Bool → Int → Int → Option β) (k1 : Int → ByteArray → Int → Int → Int → Int → Option β) : Option β :=
(cond ((decide (v3 < (v1.size : Int))))
((cond ((!(v1.toList == ((strOf [49])).toList)))
((gd ((decide (0 ≤ v3)))
((gd ((decide (v3 < (v1.size : Int))))
((cond (((bt v1 v3) == 33))
(rec_ v0 v1 true ((w64 (v3 + 1))) v4 v5 v6 v7)
((gd ((decide (0 ≤ v3)))
((gd ((decide (v3 < (v1.size : Int))))
(spec_l1In N v0 0 5 fun r5 =>
(cond (!r5)
(k0 false 0 0)
(spec_l1In N ((w64 ((w64 ((bt v1 v3))) - 97))) 0 ((w64 (v0 - 1))) fun r6 =>
(cond (!r6)
(k0 false 0 0)
((gd ((decide (0 ≤ (w64 ((w64 ((bt v1 v3))) - 97)))))
((cond (!v2)
((gd ((decide (0 ≤ (w64 ((w64 ((bt v1 v3))) - 97)))))
(rec_ v0 v1 false ((w64 (v3 + 1))) v4 v5 ((bits .or .i64 v6 (shlI .i64 1 (w64 ((w64 ((bt v1 v3))) - 97))))) ((bits .or .i64 v7 (shlI .i64 1 (w64 ((w64 ((bt v1 v3))) - 97))))))))
(rec_ v0 v1 false ((w64 (v3 + 1))) v4 v5 ((bits .or .i64 v6 (shlI .i64 1 (w64 ((w64 ((bt v1 v3))) - 97))))) v7)))))))))))))))))))
(k1 v0 v1 v4 v5 v6 v7)))
(k1 v0 v1 v4 v5 v6 v7))
def spec_ParseTerm_l0 {β : Type} (N : Nat)  : Nat → Int → ByteArray → Bool → Int → Int → Int → Int → Int → (Bool → Int → Int → Option β) → (Int → ByteArray → Int → Int → Int → Int → Option β) → Option β
  | 0, _, _, _, _, _, _, _, _, _, _ => none
  | F + 1, v0, v1, v2, v3, v4, v5, v6, v7, k0, k1 => spec_ParseTerm_l0b N  v0 v1 v2 v3 v4 v5 v6 v7 (fun v0 v1 v2 v3 v4 v5 v6 v7 => spec_ParseTerm_l0 N  F v0 v1 v2 v3 v4 v5 v6 v7 k0 k1) k0 k1
def spec_ParseTerm {β : Type} (N : Nat) (a0 : Int) (a1 : ByteArray) (k : Int → Int → Bool → Option β) : Option β :=
spec_ParseTerm_l0 N  N a0 a1 false 0 0 0 0 0 (fun e7_0 e7_1 e7_2 =>
k e7_1 e7_2 e7_0) (fun e8_0 e8_1 e8_2 e8_3 e8_4 e8_5 =>
(cond ((e8_1.toList == ByteArray.empty.toList))
(k 0 0 false)
(spec_FormatTerm N e8_0 e8_4 e8_5 fun r9 =>
(cond ((!(r9.toList == e8_1.toList)))
(k 0 0 false)
(k e8_4 e8_5 true)))))
/-! loop.example/g03403/spec.l28Terms -/
def spec_l28Terms_l0b {β : Type} (N : Nat)  (v0 : Int) (v1 : List (Int × Int)) (v2 : Int) (rec_ : Int → List (Int × Int) → Int → Option β) (k0 : Bool → Option β) (k1 : Int → List (Int × Int) → Option β) : Option β :=
(cond ((decide (v2 < (v1.length : Int))))
((gd ((decide (0 ≤ v2)))
((gd ((decide (v2 < (v1.length : Int))))
(spec_IsTerm N v0 ((rd (0, 0) v1 v2).1) ((rd (0, 0) v1 v2).2) fun r3 =>
(cond (!r3)
(k0 false)
(rec_ v0 v1 ((w64 (v2 + 1))))))))))
(k1 v0 v1))
def spec_l28Terms_l0 {β : Type} (N : Nat)  : Nat → Int → List (Int × Int) → Int → (Bool → Option β) → (Int → List (Int × Int) → Option β) → Option β
  | 0, _, _, _, _, _ => none
  | F + 1, v0, v1, v2, k0, k1 => spec_l28Terms_l0b N  v0 v1 v2 (fun v0 v1 v2 => spec_l28Terms_l0 N  F v0 v1 v2 k0 k1) k0 k1
def spec_l28Terms {β : Type} (N : Nat) (a0 : Int) (a1 : List (Int × Int)) (k : Bool → Option β) : Option β :=
spec_l28Terms_l0 N  N a0 a1 0 (fun e4_0 =>
k e4_0) (fun e5_0 e5_1 =>
spec_l1In N e5_0 0 5 fun r6 =>
(cond r6
(k ((decide ((e5_1.length : Int) ≤ 40))))
(k false)))
/-! loop.example/g03403/spec.ParseSum -/
def spec_ParseSum_l0b {β : Type} (N : Nat)  (v0 : Int) (v1 : ByteArray) (v2 : ByteArray) (v3 : Int) (v4 : List (Int × Int)) (rec_ : Int → ByteArray → ByteArray → Int → List (Int × Int) → Option β) (k0 : Bool → List (Int × Int) → Option β) (k1 : Int → ByteArray → List (Int × Int) → Option β) : Option β :=
(cond ((decide (v3 ≤ (v1.size : Int))))
((cond ((decide ((v1.size : Int) ≤ 200)))
((cond ((decide (v3 < (v1.size : Int))))
((gd ((decide (0 ≤ v3)))
((gd ((decide (v3 < (v1.size : Int))))
((cond (((bt v1 v3) != 124))
((gd ((decide (0 ≤ (w64 (v3 + 1)))))
((gd ((decide ((w64 (v3 + 1)) ≤ (v1.size : Int))))
((gd ((decide (0 ≤ v3)))
((gd ((decide (v3 ≤ (w64 (v3 + 1)))))
((gd ((decide (v2.size + ((v1.extract (Int.toNat v3) (Int.toNat (w64 (v3 + 1))))).size ≤ 9223372036854775807)))
(rec_ v0 v1 ((v2 ++ (v1.extract (Int.toNat v3) (Int.toNat (w64 (v3 + 1)))))) ((w64 (v3 + 1))) v4)))))))))))
(spec_ParseTerm N v0 v2 fun r5 r6 r7 =>
(cond (!r7)
(k0 false (([] : List (Int × Int))))
((gd ((decide ((v4.length + ((([] : List (Int × Int)) ++ [(r5, r6)])).length) * 16 ≤ 140737488355328)))
(rec_ v0 v1 ByteArray.empty ((w64 (v3 + 1))) ((v4 ++ (([] : List (Int × Int)) ++ [(r5, r6)]))))))))))))))
(spec_ParseTerm N v0 v2 fun r8 r9 r10 =>
(cond (!r10)
(k0 false (([] : List (Int × Int))))
((gd ((decide ((v4.length + ((([] : List (Int × Int)) ++ [(r8, r9)])).length) * 16 ≤ 140737488355328)))
(rec_ v0 v1 ByteArray.empty ((w64 (v3 + 1))) ((v4 ++ (([] : List (Int × Int)) ++ [(r8, r9)]))))))))))
(k1 v0 v1 v4)))
(k1 v0 v1 v4))
def spec_ParseSum_l0 {β : Type} (N : Nat)  : Nat → Int → ByteArray → ByteArray → Int → List (Int × Int) → (Bool → List (Int × Int) → Option β) → (Int → ByteArray → List (Int × Int) → Option β) → Option β
  | 0, _, _, _, _, _, _, _ => none
  | F + 1, v0, v1, v2, v3, v4, k0, k1 => spec_ParseSum_l0b N  v0 v1 v2 v3 v4 (fun v0 v1 v2 v3 v4 => spec_ParseSum_l0 N  F v0 v1 v2 v3 v4 k0 k1) k0 k1
def spec_ParseSum {β : Type} (N : Nat) (a0 : Int) (a1 : ByteArray) (k : List (Int × Int) → Bool → Option β) : Option β :=
(cond ((a1.toList == ((strOf [48])).toList))
(spec_l1In N a0 0 5 fun r4 =>
k (([] : List (Int × Int))) r4)
(spec_ParseSum_l0 N  N a0 a1 ByteArray.empty 0 (([] : List (Int × Int))) (fun e11_0 e11_1 =>
k e11_1 e11_0) (fun e12_0 e12_1 e12_2 =>
(cond ((decide ((e12_1.size : Int) > 200)))
(k (([] : List (Int × Int))) false)
(spec_l28Terms N e12_0 e12_2 fun r13 =>
(cond (!r13)
(k (([] : List (Int × Int))) false)
(k e12_2 true)))))))
/-! loop.example/g03403/impl.isBits -/
def impl_isBits {β : Type} (N : Nat) (a0 : Int) (k : Bool → Option β) : Option β :=
(cond ((decide (a0 ≥ 0)))
(k ((decide (a0 ≤ 5))))
(k false))
/-! loop.example/g03403/impl.isLetter -/
def impl_isLetter {β : Type} (N : Nat) (a0 : Int) (k : Bool → Option β) : Option β :=
(cond ((decide (a0 ≥ 97)))
(k ((decide (a0 < 102))))
(k false))
/-! loop.example/g03403/impl.isInput -/
def impl_isInput {β : Type} (N : Nat) (a0 : Int) (a1 : Int) (k : Bool → Option β) : Option β :=
(cond ((decide (a1 ≥ 0)))
((gd ((decide (0 ≤ a0)))
(k ((decide (a1 < (shlI .i64 1 a0)))))))
(k false))
/-! loop.example/g03403/impl.IsTerm -/
def impl_IsTerm {β : Type} (N : Nat) (a0 : Int) (a1 : Int) (a2 : Int) (k : Bool → Option β) : Option β :=
impl_isBits N a0 fun r4 =>
(cond r4
(impl_isInput N a0 a1 fun r5 =>
(cond r5
((cond ((decide (a2 ≥ 0)))
(k (((bits .andNot .i64 a2 a1) == 0)))
(k false)))
(k false)))
(k false))
/-! loop.example/g03403/impl.FormatTerm -/
def impl_FormatTerm_l0b {β : Type} (N : Nat)  (v0 : Int) (v1 : Int) (v2 : Int) (v3 : Int) (v4 : List Int) (rec_ : Int → Int → Int → Int → List Int → Option β) (k0 : List Int → Option β) : Option β :=
(cond ((decide (v1 < v0)))
((gd ((decide (0 ≤ v1)))
((cond (((bits .and .i64 (shrI .i64 v2 v1) 1) == 0))
(rec_ v0 ((w64 (v1 + 1))) v2 v3 v4)
((gd ((decide (0 ≤ v1)))
((cond (((bits .and .i64 (shrI .i64 v3 v1) 1) == 0))
((gd ((decide ((v4.length + ((([] : List Int) ++ [33])).length) * 1 ≤ 140737488355328)))
((gd ((decide ((((v4 ++ (([] : List Int) ++ [33]))).length + ((([] : List Int) ++ [(w8 (97 + (w8 (v1))))])).length) * 1 ≤ 140737488355328)))
(rec_ v0 ((w64 (v1 + 1))) v2 v3 (((v4 ++ (([] : List Int) ++ [33])) ++ (([] : List Int) ++ [(w8 (97 + (w8 (v1))))]))))))))
((gd ((decide ((v4.length + ((([] : List Int) ++ [(w8 (97 + (w8 (v1))))])).length) * 1 ≤ 140737488355328)))
(rec_ v0 ((w64 (v1 + 1))) v2 v3 ((v4 ++ (([] : List Int) ++ [(w8 (97 + (w8 (v1))))]))))))))))))))
(k0 v4))
def impl_FormatTerm_l0 {β : Type} (N : Nat)  : Nat → Int → Int → Int → Int → List Int → (List Int → Option β) → Option β
  | 0, _, _, _, _, _, _ => none
  | F + 1, v0, v1, v2, v3, v4, k0 => impl_FormatTerm_l0b N  v0 v1 v2 v3 v4 (fun v0 v1 v2 v3 v4 => impl_FormatTerm_l0 N  F v0 v1 v2 v3 v4 k0) k0
def impl_FormatTerm {β : Type} (N : Nat) (a0 : Int) (a1 : Int) (a2 : Int) (k : ByteArray → Option β) : Option β :=
impl_IsTerm N a0 a1 a2 fun r4 =>
(cond (!r4)
(k ByteArray.empty)
(impl_FormatTerm_l0 N  N a0 0 a1 a2 (([] : List Int)) (fun e5_0 =>
(cond (((e5_0.length : Int) == 0))
(k ((strOf [49])))
(k ((strOf e5_0)))))))
/-! loop.example/g03403/impl.ParseTerm -/
def impl_ParseTerm_l0b {β : Type} (N : Nat)  (v0 : Int) (v1 : ByteArray) (v2 : Int) (v3 : Int) (v4 : Int) (v5 : Int) (v6 : Int) (v7 : Int) (v8 : Int) (rec_ : Int → ByteArray → Int → Int → Int → Int → Int → Int → Int → Option β) (k0 : Int → ByteArray → Int → Int → Int → Int → Option β) : Option β :=
(cond ((decide (v4 < v3)))
((gd ((decide (0 ≤ v4)))
((gd ((decide (v4 < (v1.size : Int))))
((cond (((bt v1 v4) == 33))
(rec_ v0 v1 0 v3 ((w64 (v4 + 1))) v5 v6 v7 v8)
((gd ((decide (0 ≤ v4)))
((gd ((decide (v4 < (v1.size : Int))))
(impl_isLetter N ((bt v1 v4)) fun r5 =>
(cond r5
((gd ((decide (0 ≤ v4)))
((gd ((decide (v4 < (v1.size : Int))))
((gd ((decide (0 ≤ (w8 ((bt v1 v4) - 97)))))
((gd ((decide (0 ≤ v4)))
((gd ((decide (v4 < (v1.size : Int))))
((gd ((decide (0 ≤ (w8 ((bt v1 v4) - 97)))))
(rec_ v0 v1 1 v3 ((w64 (v4 + 1))) v5 v6 ((bits .or .i64 v7 (shlI .i64 1 (w8 ((bt v1 v4) - 97))))) ((bits .or .i64 v8 (shlI .i64 v2 (w8 ((bt v1 v4) - 97))))))))))))))))))
(rec_ v0 v1 v2 v3 ((w64 (v4 + 1))) v5 v6 v7 v8)))))))))))))
(k0 v0 v1 v5 v6 v7 v8))
def impl_ParseTerm_l0 {β : Type} (N : Nat)  : Nat → Int → ByteArray → Int → Int → Int → Int → Int → Int → Int → (Int → ByteArray → Int → Int → Int → Int → Option β) → Option β
  | 0, _, _, _, _, _, _, _, _, _, _ => none
  | F + 1, v0, v1, v2, v3, v4, v5, v6, v7, v8, k0 => impl_ParseTerm_l0b N  v0 v1 v2 v3 v4 v5 v6 v7 v8 (fun v0 v1 v2 v3 v4 v5 v6 v7 v8 => impl_ParseTerm_l0 N  F v0 v1 v2 v3 v4 v5 v6 v7 v8 k0) k0
def impl_ParseTerm {β : Type} (N : Nat) (a0 : Int) (a1 : ByteArray) (k : Int → Int → Bool → Option β) : Option β :=
(cond ((!(a1.toList == ((strOf [49])).toList)))
(impl_ParseTerm_l0 N  N a0 a1 1 ((a1.size : Int)) 0 0 0 0 0 (fun e6_0 e6_1 e6_2 e6_3 e6_4 e6_5 =>
(cond ((e6_1.toList == ByteArray.empty.toList))
(k 0 0 false)
(impl_FormatTerm N e6_0 e6_4 e6_5 fun r7 =>
(cond ((!(r7.toList == e6_1.toList)))
(k 0 0 false)
(k e6_4 e6_5 true))))))
((cond ((a1.toList == ByteArray.empty.toList))
(k 0 0 false)
(impl_FormatTerm N a0 0 0 fun r8 =>
(cond ((!(r8.toList == a1.toList)))
(k 0 0 false)
(k 0 0 true))))))
/-! loop.example/g03403/impl.areTerms$1 -/
def impl_areTerms_1 {β : Type} (N : Nat) (a0 : Int) (a1 : Int) (c0 : Int) (k : Bool → Option β) : Option β :=
impl_IsTerm N c0 a0 a1 fun r3 =>
k (!r3)
/-! slices.IndexFunc[[]loop.example/g03403/impl.Term,loop.example/g03403/impl.Term] -/
def slices_IndexFunc_Simpl_Term_impl_Term_l0b {β : Type} (N : Nat) (a1 : (Int → Int → (Bool → Option β) → Option β)) (v0 : List (Int × Int)) (v1 : Int) (v2 : Int) (rec_ : List (Int × Int) → Int → Int → Option β) (k0 : Int → Option β) (k1 : Option β) : Option β :=
(cond ((decide (v2 < v1)))
((gd ((decide (0 ≤ v2)))
((gd ((decide (v2 < (v0.length : Int))))
(a1 ((rd (0, 0) v0 v2).1) ((rd (0, 0) v0 v2).2) fun r3 =>
(cond r3
(k0 v2)
(rec_ v0 v1 ((w64 (v2 + 1))))))))))
(k1 ))
def slices_IndexFunc_Simpl_Term_impl_Term_l0 {β : Type} (N : Nat) (a1 : (Int → Int → (Bool → Option β) → Option β)) : Nat → List (Int × Int) → Int → Int → (Int → Option β) → (Option β) → Option β
  | 0, _, _, _, _, _ => none
  | F + 1, v0, v1, v2, k0, k1 => slices_IndexFunc_Simpl_Term_impl_Term_l0b N a1 v0 v1 v2 (fun v0 v1 v2 => slices_IndexFunc_Simpl_Term_impl_Term_l0 N a1 F v0 v1 v2 k0 k1) k0 k1
def slices_IndexFunc_Simpl_Term_impl_Term {β : Type} (N : Nat) (a0 : List (Int × Int)) (a1 : (Int → Int → (Bool → Option β) → Option β)) (k : Int → Option β) : Option β :=
slices_IndexFunc_Simpl_Term_impl_Term_l0 N a1 N a0 ((a0.length : Int)) 0 (fun e4_0 =>
k e4_0) (k (-1))
/-! slices.ContainsFunc[[]loop.example/g03403/impl.Term,loop.example/g03403/impl.Term] -/
def slices_ContainsFunc_Simpl_Term_impl_Term {β : Type} (N : Nat) (a0 : List (Int × Int)) (a1 : (Int → Int → (Bool → Option β) → Option β)) (k : Bool → Option β) : Option β :=
slices_IndexFunc_Simpl_Term_impl_Term N a0 a1 fun r3 =>
k ((decide (r3 ≥ 0)))
/-! loop.example/g03403/impl.areTerms -/
def impl_areTerms {β : Type} (N : Nat) (a0 : Int) (a1 : List (Int × Int)) (k : Bool → Option β) : Option β :=
impl_isBits N a0 fun r3 =>
(cond r3
(slices_ContainsFunc_Simpl_Term_impl_Term N a1 (fun x0 x1 k => impl_areTerms_1 N x0 x1 a0 k) fun r4 =>
k (!r4))
(k false))
/-! loop.example/g03403/impl.areValid -/
def impl_areValid {β : Type} (N : Nat) (a0 : Int) (a1 : List (Int × Int)) (k : Bool → Option β) : Option β :=
impl_areTerms N a0 a1 fun r3 =>
(cond r3
(k ((decide ((a1.length : Int) ≤ 40))))
(k false))
/-! loop.example/g03403/impl.ParseSum -/
def impl_ParseSum_l0b {β : Type} (N : Nat)  (v0 : Int) (v1 : Int) (v2 : Int) (v3 : List (Int × Int)) (v4 : List ByteArray) (rec_ : Int → Int → Int → List (Int × Int) → List ByteArray → Option β) (k0 : Bool → List (Int × Int) → Option β) (k1 : Int → List (Int × Int) → Option β) : Option β :=
(cond ((decide (v2 < v1)))
((gd ((decide (0 ≤ v2)))
((gd ((decide (v2 < (v4.length : Int))))
(impl_ParseTerm N v0 ((rd ByteArray.empty v4 v2)) fun r6 r7 r8 =>
(cond (!r8)
(k0 false (([] : List (Int × Int))))
((gd ((decide ((v3.length + ((([] : List (Int × Int)) ++ [(r6, r7)])).length) * 16 ≤ 140737488355328)))
(rec_ v0 v1 ((w64 (v2 + 1))) ((v3 ++ (([] : List (Int × Int)) ++ [(r6, r7)]))) v4)))))))))
(k1 v0 v3))
def impl_ParseSum_l0 {β : Type} (N : Nat)  : Nat → Int → Int → Int → List (Int × Int) → List ByteArray → (Bool → List (Int × Int) → Option β) → (Int → List (Int × Int) → Option β) → Option β
  | 0, _, _, _, _, _, _, _ => none
  | F + 1, v0, v1, v2, v3, v4, k0, k1 => impl_ParseSum_l0b N  v0 v1 v2 v3 v4 (fun v0 v1 v2 v3 v4 => impl_ParseSum_l0 N  F v0 v1 v2 v3 v4 k0 k1) k0 k1
def impl_ParseSum {β : Type} (N : Nat) (a0 : Int) (a1 : ByteArray) (k : List (Int × Int) → Bool → Option β) : Option β :=
impl_isBits N a0 fun r4 =>
(cond (!r4)
(k (([] : List (Int × Int))) false)
((cond ((decide ((a1.size : Int) > 200)))
(k (([] : List (Int × Int))) false)
((cond ((a1.toList == ((strOf [48])).toList))
(k (([] : List (Int × Int))) true)
(strings_Split N a1 ((strOf [124])) fun r5 =>
impl_ParseSum_l0 N  N a0 ((r5.length : Int)) 0 (([] : List (Int × Int))) r5 (fun e9_0 e9_1 =>
k e9_1 e9_0) (fun e10_0 e10_1 =>
impl_areValid N e10_0 e10_1 fun r11 =>
(cond (!r11)
(k (([] : List (Int × Int))) false)
(k e10_1 true)))))))))
/-! loop.example/g03403/laws.eqTerm -/
def laws_eqTerm {β : Type} (N : Nat) (a0 : Int) (a1 : Int) (a2 : Int) (a3 : Int) (k : Bool → Option β) : Option β :=
(cond ((a0 != a2))
(k false)
((cond ((a1 != a3))
(k false)
(k true))))
/-! loop.example/g03403/laws.eqTermS -/
def laws_eqTermS_l0b {β : Type} (N : Nat)  (v0 : List (Int × Int)) (v1 : List (Int × Int)) (v2 : Int) (rec_ : List (Int × Int) → List (Int × Int) → Int → Option β) (k0 : Bool → Option β) (k1 : Option β) : Option β :=
(cond ((decide (v2 < (v0.length : Int))))
((gd ((decide (0 ≤ v2)))
((gd ((decide (v2 < (v0.length : Int))))
((gd ((decide (0 ≤ v2)))
((gd ((decide (v2 < (v1.length : Int))))
(laws_eqTerm N ((rd (0, 0) v0 v2).1) ((rd (0, 0) v0 v2).2) ((rd (0, 0) v1 v2).1) ((rd (0, 0) v1 v2).2) fun r3 =>
(cond (!r3)
(k0 false)
(rec_ v0 v1 ((w64 (v2 + 1))))))))))))))
(k1 ))
def laws_eqTermS_l0 {β : Type} (N : Nat)  : Nat → List (Int × Int) → List (Int × Int) → Int → (Bool → Option β) → (Option β) → Option β
  | 0, _, _, _, _, _ => none
  | F + 1, v0, v1, v2, k0, k1 => laws_eqTermS_l0b N  v0 v1 v2 (fun v0 v1 v2 => laws_eqTermS_l0 N  F v0 v1 v2 k0 k1) k0 k1
def laws_eqTermS {β : Type} (N : Nat) (a0 : List (Int × Int)) (a1 : List (Int × Int)) (k : Bool → Option β) : Option β :=
(cond (((a0.length : Int) != (a1.length : Int)))
(k false)
(laws_eqTermS_l0 N  N a0 a1 0 (fun e4_0 =>
k e4_0) (k true)))
/-! loop.example/g03403/laws.heldTermS -/
def laws_heldTermS_l0b {β : Type} (N : Nat)  (v0 : List (Int × Int)) (v1 : Int) (v2 : Int) (rec_ : List (Int × Int) → Int → Int → Option β) (k0 : Int → Option β) (k1 : Int → Option β) : Option β :=
(cond ((decide (v2 < (v0.length : Int))))
((gd ((decide (0 ≤ v2)))
((gd ((decide (v2 < (v0.length : Int))))
((cond (((rd (0, 0) v0 v2).1 != v1))
(k0 (-1))
((gd ((decide (0 ≤ v2)))
((gd ((decide (v2 < (v0.length : Int))))
((cond (((rd (0, 0) v0 v2).2 != (w64 (v1 + 1))))
(k0 (-1))
(rec_ v0 ((w64 ((w64 (v1 + 1)) + 1))) ((w64 (v2 + 1))))))))))))))))
(k1 v1))
def laws_heldTermS_l0 {β : Type} (N : Nat)  : Nat → List (Int × Int) → Int → Int → (Int → Option β) → (Int → Option β) → Option β
  | 0, _, _, _, _, _ => none
  | F + 1, v0, v1, v2, k0, k1 => laws_heldTermS_l0b N  v0 v1 v2 (fun v0 v1 v2 => laws_heldTermS_l0 N  F v0 v1 v2 k0 k1) k0 k1
def laws_heldTermS {β : Type} (N : Nat) (a0 : List (Int × Int)) (a1 : Int) (k : Int → Option β) : Option β :=
laws_heldTermS_l0 N  N a0 a1 0 (fun e3_0 =>
k e3_0) (fun e4_0 =>
k e4_0)
/-! loop.example/g03403/laws.markTermS -/
def laws_markTermS_l0b {β : Type} (N : Nat)  (v0 : Int) (v1 : Int) (v2 : List (Int × Int)) (rec_ : Int → Int → List (Int × Int) → Option β) (k0 : Int → List (Int × Int) → Option β) : Option β :=
(cond ((decide (v1 < (v2.length : Int))))
((gd ((decide (0 ≤ v1)))
((gd ((decide (v1 < (v2.length : Int))))
((gd ((decide (0 ≤ v1)))
((gd ((decide (v1 < (((wr v2 v1 (v0, (rd (0, 0) v2 v1).2))).length : Int))))
(rec_ ((w64 ((w64 (v0 + 1)) + 1))) ((w64 (v1 + 1))) ((wr ((wr v2 v1 (v0, (rd (0, 0) v2 v1).2))) v1 ((rd (0, 0) ((wr v2 v1 (v0, (rd (0, 0) v2 v1).2))) v1).1, (w64 (v0 + 1))))))))))))))
(k0 v0 v2))
def laws_markTermS_l0 {β : Type} (N : Nat)  : Nat → Int → Int → List (Int × Int) → (Int → List (Int × Int) → Option β) → Option β
  | 0, _, _, _, _ => none
  | F + 1, v0, v1, v2, k0 => laws_markTermS_l0b N  v0 v1 v2 (fun v0 v1 v2 => laws_markTermS_l0 N  F v0 v1 v2 k0) k0
def laws_markTermS {β : Type} (N : Nat) (a0 : List (Int × Int)) (a1 : Int) (k : Int → List (Int × Int) → Option β) : Option β :=
laws_markTermS_l0 N  N a1 0 a0 (fun e3_0 e3_1 =>
k e3_0 e3_1)
/-! loop.example/g03403/laws.FnExactParseSum -/
def laws_FnExactParseSum {β : Type} (N : Nat) (a0 : Int) (a1 : ByteArray) (k : Bool → Option β) : Option β :=
(cond ((decide ((a1.size : Int) > 1048576)))
(k true)
(spec_ParseSum N a0 a1 fun r3 r4 =>
impl_ParseSum N a0 a1 fun r5 r6 =>
laws_eqTermS N r5 r3 fun r7 =>
(cond (!r7)
(k false)
((cond ((!(r6 == r4)))
(k false)
(laws_markTermS N r5 1 fun r8 m9 =>
laws_heldTermS N m9 1 fun r10 =>
(cond ((decide (r10 < 0)))
(k false)
((cond ((r10 != r8))
(k false)
(impl_ParseSum N a0 a1 fun r11 r12 =>
laws_eqTermS N r11 r3 fun r13 =>
(cond (!r13)
(k false)
((cond ((!(r12 == r4)))
(k false)
(laws_heldTermS N m9 1 fun r14 =>
(cond ((decide (r14 < 0)))
(k false)
((cond ((r14 != r8))
(k false)
(k true))))))))))))))))))
end Go.Proofs.YtfdggelojmofmaaDoor
