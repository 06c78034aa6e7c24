/- The texts of the functions that the claims reach: plain Lean, no program. -/
import Derived.Test.YtddflpokemgnmaaGreatDoorRvLib
namespace Go.Proofs.YtddflpokemgnmaaGreatDoor
open Go.Rv
set_option linter.unusedVariables false
set_option maxRecDepth 100000
abbrev O := Option
variable {β : Type}
def zj0 (N : Nat) (a0 : List Int) (k : Bool → Option β) : Option β :=
k ((decide ((a0.length : Int) > 1048576)))
def zj1 (N : Nat)  (v0 : List Int) (v1 : Int) (v2 : Int) (rec_ : List Int → Int → Int → Option β) (k0 : List Int → Int → Option β) : Option β :=
(cond ((decide (v2 < (v0.length : Int))))
((cond ((decide (v2 < 4000)))
((gd ((decide (0 ≤ v2)))
((gd ((decide (v2 < (v0.length : Int))))
(rec_ v0 ((bits .and .i64 (w64 ((w64 ((w64 (v1 * 131)) + (w64 ((rd 0 v0 v2))))) + 7)) 1073741823)) ((w64 (v2 + 1))))))))
(k0 v0 v1)))
(k0 v0 v1))
def zj2 (N : Nat)  : Nat → List Int → Int → Int → (List Int → Int → Option β) → Option β
  | 0, _, _, _, _ => none
  | F + 1, v0, v1, v2, k0 => zj1 N  v0 v1 v2 (fun v0 v1 v2 => zj2 N  F v0 v1 v2 k0) k0
def zj3 (N : Nat) (a0 : List Int) (k0 : List Int → Int → Int → Option β) : Option β :=
zj2 N  N a0 ((w64 (10101 + (a0.length : Int)))) 0 (fun e3_0 e3_1 =>
k0 e3_0 0 e3_1)
def zj4 (N : Nat) (a0 : Int) (a1 : Int) (a2 : Int) (k : Bool → Option β) : Option β :=
(cond ((decide (a0 ≥ a1)))
(k ((decide (a0 ≤ a2))))
(k false))
def zj5 (N : Nat) (a0 : Int) (a1 : Int) (k : Bool → Option β) : Option β :=
zj4 N a0 0 5 fun r3 =>
(cond r3
((gd ((decide (0 ≤ a0)))
((gd ((decide (0 ≤ (shlI .u64 1 a0))))
(zj4 N a1 0 ((w64 ((shlI .i64 1 (shlI .u64 1 a0)) - 1))) fun r4 =>
k r4)))))
(k false))
def zj6 (N : Nat)  (v0 : Int) (v1 : Int) (v2 : Int) (v3 : Int) (v4 : Int) (rec_ : Int → Int → Int → Int → Int → Option β) (k0 : Int → Option β) : Option β :=
(gd ((decide (0 ≤ v0)))
((cond ((decide (v2 < (shlI .i64 1 v0))))
((cond (((bits .and .i64 v2 v3) == v4))
((gd ((decide (0 ≤ v2)))
(rec_ v0 ((bits .or .i64 v1 (shlI .i64 1 v2))) ((w64 (v2 + 1))) v3 v4)))
(rec_ v0 v1 ((w64 (v2 + 1))) v3 v4)))
(k0 v1))))
def zj7 (N : Nat)  : Nat → Int → Int → Int → Int → Int → (Int → Option β) → Option β
  | 0, _, _, _, _, _, _ => none
  | F + 1, v0, v1, v2, v3, v4, k0 => zj6 N  v0 v1 v2 v3 v4 (fun v0 v1 v2 v3 v4 => zj7 N  F v0 v1 v2 v3 v4 k0) k0
def zj8 (N : Nat) (a0 : Int) (a1 : Int) (a2 : Int) (k : Int → Option β) : Option β :=
zj7 N  N a0 0 0 a1 a2 (fun e4_0 =>
k e4_0)
def zj9 (N : Nat) (a0 : Int) (a1 : Int) (a2 : Int) (a3 : Int) (k : Bool → Option β) : Option β :=
zj8 N a0 a2 a3 fun r5 =>
k (((bits .and .i64 r5 a1) == r5))
def zj10 (N : Nat)  (v0 : Int) (v1 : Int) (v2 : Int) (v3 : Int) (v4 : Int) (rec_ : Int → Int → Int → Int → Int → Option β) (k0 : Bool → Option β) (k1 : Option β) : Option β :=
(cond ((decide (v0 < v1)))
((gd ((decide (0 ≤ v0)))
((cond (((bits .and .i64 v3 (shlI .i64 1 v0)) != 0))
(zj9 N v1 v2 ((w64 (v3 - (shlI .i64 1 v0)))) ((w64 (v4 - (bits .and .i64 v4 (shlI .i64 1 v0))))) fun r6 =>
(cond r6
(k0 false)
(rec_ ((w64 (v0 + 1))) v1 v2 v3 v4)))
(rec_ ((w64 (v0 + 1))) v1 v2 v3 v4)))))
(k1 ))
def zj11 (N : Nat)  : Nat → Int → Int → Int → Int → Int → (Bool → Option β) → (Option β) → Option β
  | 0, _, _, _, _, _, _, _ => none
  | F + 1, v0, v1, v2, v3, v4, k0, k1 => zj10 N  v0 v1 v2 v3 v4 (fun v0 v1 v2 v3 v4 => zj11 N  F v0 v1 v2 v3 v4 k0 k1) k0 k1
def zj12 (N : Nat) (a0 : Int) (a1 : Int) (a2 : Int) (a3 : Int) (k : Bool → Option β) : Option β :=
zj9 N a0 a1 a2 a3 fun r5 =>
(cond (!r5)
(k false)
(zj11 N  N 0 a0 a1 a2 a3 (fun e7_0 =>
k e7_0) (k true)))
def zj13 (N : Nat)  (v0 : Int) (v1 : Int) (v2 : Int) (v3 : Int) (v4 : List (Int × Int)) (rec_ : Int → Int → Int → Int → List (Int × Int) → Option β) (k0 : Int → Int → Int → List (Int × Int) → Option β) : Option β :=
(cond ((decide (v1 ≤ v0)))
((cond (((bits .and .i64 v1 v0) == v1))
(zj12 N v2 v3 v0 v1 fun r3 =>
(cond r3
((gd ((decide ((v4.length + ((([] : List (Int × Int)) ++ [(v0, v1)])).length) * 16 ≤ 140737488355328)))
(rec_ v0 ((w64 (v1 + 1))) v2 v3 ((v4 ++ (([] : List (Int × Int)) ++ [(v0, v1)]))))))
(rec_ v0 ((w64 (v1 + 1))) v2 v3 v4)))
(rec_ v0 ((w64 (v1 + 1))) v2 v3 v4)))
(k0 v0 v2 v3 v4))
def zj14 (N : Nat)  : Nat → Int → Int → Int → Int → List (Int × Int) → (Int → Int → Int → List (Int × Int) → Option β) → Option β
  | 0, _, _, _, _, _, _ => none
  | F + 1, v0, v1, v2, v3, v4, k0 => zj13 N  v0 v1 v2 v3 v4 (fun v0 v1 v2 v3 v4 => zj14 N  F v0 v1 v2 v3 v4 k0) k0
def zj15 (N : Nat)  (v0 : Int) (v1 : Int) (v2 : Int) (v3 : List (Int × Int)) (rec_ : Int → Int → Int → List (Int × Int) → Option β) (k0 : List (Int × Int) → Option β) : Option β :=
(gd ((decide (0 ≤ v1)))
((cond ((decide (v0 < (shlI .i64 1 v1))))
(zj14 N  N v0 0 v1 v2 v3 (fun e4_0 e4_1 e4_2 e4_3 =>
rec_ ((w64 (e4_0 + 1))) e4_1 e4_2 e4_3))
(k0 v3))))
def zj16 (N : Nat)  : Nat → Int → Int → Int → List (Int × Int) → (List (Int × Int) → Option β) → Option β
  | 0, _, _, _, _, _ => none
  | F + 1, v0, v1, v2, v3, k0 => zj15 N  v0 v1 v2 v3 (fun v0 v1 v2 v3 => zj16 N  F v0 v1 v2 v3 k0) k0
def zj17 (N : Nat) (a0 : Int) (a1 : Int) (k : List (Int × Int) → Option β) : Option β :=
zj16 N  N 0 a0 a1 (([] : List (Int × Int))) (fun e5_0 =>
k e5_0)
def zj18 (N : Nat) (self : Int → Int → List (Int × Int) → Int → Int → Int → (List (Int × Int) → Bool → Option β) → Option β)  (v0 : List (Int × Int)) (v1 : Int) (v2 : Int) (v3 : Int) (v4 : Int) (v5 : Int) (rec_ : List (Int × Int) → Int → Int → Int → Int → Int → Option β) (k0 : Bool → List (Int × Int) → Option β) (k1 : Option β) : Option β :=
(cond ((decide (v3 < (v0.length : Int))))
((gd ((decide (0 ≤ v3)))
((gd ((decide (v3 < (v0.length : Int))))
(zj8 N v4 ((rd (0, 0) v0 v3).1) ((rd (0, 0) v0 v3).2) fun r8 =>
(cond (((bits .and .i64 r8 v1) == 0))
(rec_ v0 v1 v2 ((w64 (v3 + 1))) v4 v5)
(self v4 v5 v0 ((w64 (v3 + 1))) ((w64 (v1 - (bits .and .i64 v1 r8)))) ((w64 (v2 - 1))) fun r9 r10 =>
(cond r10
((gd ((decide (0 ≤ v3)))
((gd ((decide (v3 < (v0.length : Int))))
((gd ((decide ((((([] : List (Int × Int)) ++ [((rd (0, 0) v0 v3).1, (rd (0, 0) v0 v3).2)])).length + r9.length) * 16 ≤ 140737488355328)))
(k0 true (((([] : List (Int × Int)) ++ [((rd (0, 0) v0 v3).1, (rd (0, 0) v0 v3).2)]) ++ r9)))))))))
(rec_ v0 v1 v2 ((w64 (v3 + 1))) v4 v5)))))))))
(k1 ))
def zj19 (N : Nat) (self : Int → Int → List (Int × Int) → Int → Int → Int → (List (Int × Int) → Bool → Option β) → Option β)  : Nat → List (Int × Int) → Int → Int → Int → Int → Int → (Bool → List (Int × Int) → Option β) → (Option β) → Option β
  | 0, _, _, _, _, _, _, _, _ => none
  | F + 1, v0, v1, v2, v3, v4, v5, k0, k1 => zj18 N self  v0 v1 v2 v3 v4 v5 (fun v0 v1 v2 v3 v4 v5 => zj19 N self  F v0 v1 v2 v3 v4 v5 k0 k1) k0 k1
def zj20 (N : Nat) (self : Int → Int → List (Int × Int) → Int → Int → Int → (List (Int × Int) → Bool → Option β) → Option β) (a0 : Int) (a1 : Int) (a2 : List (Int × Int)) (a3 : Int) (a4 : Int) (a5 : Int) (k : List (Int × Int) → Bool → Option β) : Option β :=
(cond ((a4 == 0))
(k (([] : List (Int × Int))) true)
((cond ((a5 == 0))
(k (([] : List (Int × Int))) false)
(zj19 N self  N a2 a4 a5 a3 a0 a1 (fun e11_0 e11_1 =>
k e11_1 e11_0) (k (([] : List (Int × Int))) false)))))
def zj21 (N : Nat) : Nat → Int → Int → List (Int × Int) → Int → Int → Int → (List (Int × Int) → Bool → Option β) → Option β
  | 0, _, _, _, _, _, _, _ => none
  | F + 1, a0, a1, a2, a3, a4, a5, k => zj20 N (zj21 N F) a0 a1 a2 a3 a4 a5 k
def zj22 (N : Nat) (a0 : Int) (a1 : Int) (a2 : List (Int × Int)) (a3 : Int) (a4 : Int) (a5 : Int) (k : List (Int × Int) → Bool → Option β) : Option β := zj21 N N a0 a1 a2 a3 a4 a5 k
def zj23 (N : Nat)  (v0 : Int) (v1 : Int) (v2 : Int) (v3 : List (Int × Int)) (rec_ : Int → Int → Int → List (Int × Int) → Option β) (k0 : Bool → List (Int × Int) → Option β) (k1 : Option β) : Option β :=
(cond ((decide (v0 ≤ 8)))
(zj22 N v1 v2 v3 0 v2 v0 fun r6 r7 =>
(cond r7
(k0 true r6)
(rec_ ((w64 (v0 + 1))) v1 v2 v3)))
(k1 ))
def zj24 (N : Nat)  : Nat → Int → Int → Int → List (Int × Int) → (Bool → List (Int × Int) → Option β) → (Option β) → Option β
  | 0, _, _, _, _, _, _ => none
  | F + 1, v0, v1, v2, v3, k0, k1 => zj23 N  v0 v1 v2 v3 (fun v0 v1 v2 v3 => zj24 N  F v0 v1 v2 v3 k0 k1) k0 k1
def zj25 (N : Nat) (a0 : Int) (a1 : Int) (k : List (Int × Int) → Bool → Option β) : Option β :=
zj5 N a0 a1 fun r4 =>
(cond (!r4)
(k (([] : List (Int × Int))) false)
((cond ((decide (a0 > 4)))
(k (([] : List (Int × Int))) false)
(zj17 N a0 a1 fun r5 =>
zj24 N  N 0 a0 a1 r5 (fun e8_0 e8_1 =>
k e8_1 e8_0) (k (([] : List (Int × Int))) false)))))
def zj26 (N : Nat) (a0 : List Int) (a1 : Int) (a2 : Int) (k0 : Int → List Int → Int → Int → Option β) : Option β :=
(cond ((decide (a1 < (a0.length : Int))))
((gd ((decide (0 ≤ a1)))
((gd ((decide (a1 < (a0.length : Int))))
(k0 ((bits .and .i64 (w64 ((bits .and .i64 (bits .xor .i64 (shrI .i64 (w64 ((w64 (a2 * 6364136223846793005)) + 1442695040888963407)) 33) (shrI .i64 (w64 ((w64 (a2 * 6364136223846793005)) + 1442695040888963407)) 45)) 255) + (w64 ((rd 0 a0 a1))))) 255)) a0 ((w64 (a1 + 1))) ((w64 ((w64 (a2 * 6364136223846793005)) + 1442695040888963407))))))))
(k0 ((bits .and .i64 (bits .xor .i64 (shrI .i64 (w64 ((w64 (a2 * 6364136223846793005)) + 1442695040888963407)) 33) (shrI .i64 (w64 ((w64 (a2 * 6364136223846793005)) + 1442695040888963407)) 45)) 255)) a0 a1 ((w64 ((w64 (a2 * 6364136223846793005)) + 1442695040888963407)))))
def zj27 (N : Nat) (a0 : Int) (a1 : List Int) (a2 : Int) (a3 : Int) (k0 : Int → List Int → Int → Int → Option β) : Option β :=
(cond ((decide (a0 ≤ 0)))
(k0 0 a1 a2 a3)
((cond ((decide (a0 ≤ 256)))
(zj26 N a1 a2 a3 (fun r5_0 r5_1 r5_2 r5_3 =>
(gd ((a0 != 0))
(k0 ((remI r5_0 a0)) r5_1 r5_2 r5_3))))
(zj26 N a1 a2 a3 (fun r6_0 r6_1 r6_2 r6_3 =>
zj26 N r6_1 r6_2 r6_3 (fun r7_0 r7_1 r7_2 r7_3 =>
zj26 N r7_1 r7_2 r7_3 (fun r8_0 r8_1 r8_2 r8_3 =>
zj26 N r8_1 r8_2 r8_3 (fun r9_0 r9_1 r9_2 r9_3 =>
(gd ((a0 != 0))
(k0 ((remI (w64 ((w64 ((w64 ((w64 (r6_0 * 16777216)) + (w64 (r7_0 * 65536)))) + (w64 (r8_0 * 256)))) + r9_0)) a0)) r9_1 r9_2 r9_3))))))))))
def zj28 (N : Nat)  (v0 : Int) (v1 : Int) (v2 : Int) (v3 : Int) (rec_ : Int → Int → Int → Int → Option β) (k0 : Int → Option β) : Option β :=
(gd ((decide (0 ≤ v0)))
((cond ((decide (v3 < (shlI .i64 1 v0))))
((gd ((decide (0 ≤ v1)))
((cond (((bits .and .i64 (shrI .i64 v3 v1) 1) == 1))
((gd ((decide (0 ≤ v3)))
(rec_ v0 v1 ((bits .or .i64 v2 (shlI .i64 1 v3))) ((w64 (v3 + 1))))))
(rec_ v0 v1 v2 ((w64 (v3 + 1))))))))
(k0 v2))))
def zj29 (N : Nat)  : Nat → Int → Int → Int → Int → (Int → Option β) → Option β
  | 0, _, _, _, _, _ => none
  | F + 1, v0, v1, v2, v3, k0 => zj28 N  v0 v1 v2 v3 (fun v0 v1 v2 v3 => zj29 N  F v0 v1 v2 v3 k0) k0
def zj30 (N : Nat) (a0 : Int) (a1 : Int) (k : Int → Option β) : Option β :=
zj29 N  N a0 a1 0 0 (fun e3_0 =>
k e3_0)
def zj31 (N : Nat) (a0 : Int) (k : Int → Option β) : Option β :=
(gd ((decide (0 ≤ a0)))
((gd ((decide (0 ≤ (shlI .u64 1 a0))))
(k ((w64 ((shlI .i64 1 (shlI .u64 1 a0)) - 1)))))))
def zj32 (N : Nat)  (v0 : Int) (v1 : Int) (rec_ : Int → Int → Option β) (k0 : Int → Option β) : Option β :=
(cond ((decide (v1 > 0)))
(rec_ ((w64 (v0 + (bits .and .i64 v1 1)))) ((shrI .i64 v1 1)))
(k0 v0))
def zj33 (N : Nat)  : Nat → Int → Int → (Int → Option β) → Option β
  | 0, _, _, _ => none
  | F + 1, v0, v1, k0 => zj32 N  v0 v1 (fun v0 v1 => zj33 N  F v0 v1 k0) k0
def zj34 (N : Nat) (a0 : Int) (k : Int → Option β) : Option β :=
zj33 N  N 0 a0 (fun e2_0 =>
k e2_0)
def zj35 (N : Nat)  (v0 : Int) (v1 : Int) (v2 : Int) (v3 : List Int) (v4 : Int) (v5 : Int) (v6 : Int) (v7 : Int) (rec_ : Int → Int → Int → List Int → Int → Int → Int → Int → Option β) (k0 : Int → Int → List Int → Int → Int → Int → Int → Option β) : Option β :=
(gd ((decide (0 ≤ v0)))
((cond ((decide (v2 < (shlI .i64 1 v0))))
(zj34 N v2 fun r16 =>
(cond ((decide ((w64 (2 * r16)) > v0)))
((gd ((decide (0 ≤ v2)))
(rec_ v0 ((bits .or .i64 v1 (shlI .i64 1 v2))) ((w64 (v2 + 1))) v3 v4 v5 v6 v7)))
(rec_ v0 v1 ((w64 (v2 + 1))) v3 v4 v5 v6 v7)))
(k0 v0 v1 v3 v4 v5 v6 v7))))
def zj36 (N : Nat)  : Nat → Int → Int → Int → List Int → Int → Int → Int → Int → (Int → Int → List Int → Int → Int → Int → Int → Option β) → Option β
  | 0, _, _, _, _, _, _, _, _, _ => none
  | F + 1, v0, v1, v2, v3, v4, v5, v6, v7, k0 => zj35 N  v0 v1 v2 v3 v4 v5 v6 v7 (fun v0 v1 v2 v3 v4 v5 v6 v7 => zj36 N  F v0 v1 v2 v3 v4 v5 v6 v7 k0) k0
def zj37 (N : Nat)  (v0 : Int) (v1 : Int) (v2 : Int) (v3 : List Int) (v4 : Int) (v5 : Int) (v6 : Int) (v7 : Int) (rec_ : Int → Int → Int → List Int → Int → Int → Int → Int → Option β) (k0 : Int → Int → List Int → Int → Int → Int → Int → Option β) : Option β :=
(gd ((decide (0 ≤ v0)))
((cond ((decide (v2 < (shlI .i64 1 v0))))
(zj34 N v2 fun r20 =>
(cond (((remI r20 2) == 1))
((gd ((decide (0 ≤ v2)))
(rec_ v0 ((bits .or .i64 v1 (shlI .i64 1 v2))) ((w64 (v2 + 1))) v3 v4 v5 v6 v7)))
(rec_ v0 v1 ((w64 (v2 + 1))) v3 v4 v5 v6 v7)))
(k0 v0 v1 v3 v4 v5 v6 v7))))
def zj38 (N : Nat)  : Nat → Int → Int → Int → List Int → Int → Int → Int → Int → (Int → Int → List Int → Int → Int → Int → Int → Option β) → Option β
  | 0, _, _, _, _, _, _, _, _, _ => none
  | F + 1, v0, v1, v2, v3, v4, v5, v6, v7, k0 => zj37 N  v0 v1 v2 v3 v4 v5 v6 v7 (fun v0 v1 v2 v3 v4 v5 v6 v7 => zj38 N  F v0 v1 v2 v3 v4 v5 v6 v7 k0) k0
def zj39 (N : Nat)  (v0 : Int) (v1 : Int) (v2 : Int) (v3 : Int) (v4 : List Int) (v5 : Int) (v6 : Int) (v7 : Int) (v8 : Int) (rec_ : Int → Int → Int → Int → List Int → Int → Int → Int → Int → Option β) (k0 : Int → Int → List Int → Int → Int → Int → Int → Option β) : Option β :=
(gd ((decide (0 ≤ v0)))
((cond ((decide (v3 < (shlI .i64 1 v0))))
((cond (((bits .and .i64 v3 v2) == v2))
((gd ((decide (0 ≤ v3)))
(rec_ v0 ((bits .or .i64 v1 (shlI .i64 1 v3))) v2 ((w64 (v3 + 1))) v4 v5 v6 v7 v8)))
(rec_ v0 v1 v2 ((w64 (v3 + 1))) v4 v5 v6 v7 v8)))
(k0 v0 v1 v4 v5 v6 v7 v8))))
def zj40 (N : Nat)  : Nat → Int → Int → Int → Int → List Int → Int → Int → Int → Int → (Int → Int → List Int → Int → Int → Int → Int → Option β) → Option β
  | 0, _, _, _, _, _, _, _, _, _, _ => none
  | F + 1, v0, v1, v2, v3, v4, v5, v6, v7, v8, k0 => zj39 N  v0 v1 v2 v3 v4 v5 v6 v7 v8 (fun v0 v1 v2 v3 v4 v5 v6 v7 v8 => zj40 N  F v0 v1 v2 v3 v4 v5 v6 v7 v8 k0) k0
def zj41 (N : Nat)  (v0 : Int) (v1 : Int) (v2 : Int) (v3 : List Int) (v4 : Int) (v5 : Int) (v6 : Int) (v7 : Int) (rec_ : Int → Int → Int → List Int → Int → Int → Int → Int → Option β) (k0 : Int → Int → List Int → Int → Int → Int → Int → Option β) : Option β :=
(gd ((decide (0 ≤ v0)))
((cond ((decide (v2 < (shlI .i64 1 v0))))
(zj27 N 2 v3 v4 v5 (fun r28_0 r28_1 r28_2 r28_3 =>
(gd ((decide (0 ≤ v2)))
(rec_ v0 ((bits .or .i64 v1 (shlI .i64 r28_0 v2))) ((w64 (v2 + 1))) r28_1 r28_2 r28_3 v6 v7))))
(k0 v0 v1 v3 v4 v5 v6 v7))))
def zj42 (N : Nat)  : Nat → Int → Int → Int → List Int → Int → Int → Int → Int → (Int → Int → List Int → Int → Int → Int → Int → Option β) → Option β
  | 0, _, _, _, _, _, _, _, _, _ => none
  | F + 1, v0, v1, v2, v3, v4, v5, v6, v7, k0 => zj41 N  v0 v1 v2 v3 v4 v5 v6 v7 (fun v0 v1 v2 v3 v4 v5 v6 v7 => zj42 N  F v0 v1 v2 v3 v4 v5 v6 v7 k0) k0
def zj43 (N : Nat) (a0 : Int) (a1 : List Int) (a2 : Int) (a3 : Int) (k0 : Int → Int → List Int → Int → Int → Option β) : Option β :=
zj27 N 6 a1 a2 a3 (fun r11_0 r11_1 r11_2 r11_3 =>
(cond ((r11_0 == 0))
(zj27 N ((mxI 1 a0)) r11_1 r11_2 r11_3 (fun r12_0 r12_1 r12_2 r12_3 =>
zj30 N a0 r12_0 fun r13 =>
(cond ((a0 == 0))
(zj31 N a0 fun r14 =>
k0 a0 ((bits .and .i64 (bits .and .i64 r13 1) r14)) r12_1 r12_2 r12_3)
(zj31 N a0 fun r15 =>
k0 a0 ((bits .and .i64 r13 r15)) r12_1 r12_2 r12_3))))
((cond ((r11_0 == 1))
(zj36 N  N a0 0 0 r11_1 r11_2 r11_3 0 0 (fun e17_0 e17_1 e17_2 e17_3 e17_4 e17_5 e17_6 =>
(cond ((e17_0 == 0))
(zj31 N e17_0 fun r18 =>
k0 e17_0 ((bits .and .i64 (bits .and .i64 e17_1 1) r18)) e17_2 e17_3 e17_4)
(zj31 N e17_0 fun r19 =>
k0 e17_0 ((bits .and .i64 e17_1 r19)) e17_2 e17_3 e17_4))))
((cond ((r11_0 == 2))
(zj38 N  N a0 0 0 r11_1 r11_2 r11_3 0 0 (fun e21_0 e21_1 e21_2 e21_3 e21_4 e21_5 e21_6 =>
(cond ((e21_0 == 0))
(zj31 N e21_0 fun r22 =>
k0 e21_0 ((bits .and .i64 (bits .and .i64 e21_1 1) r22)) e21_2 e21_3 e21_4)
(zj31 N e21_0 fun r23 =>
k0 e21_0 ((bits .and .i64 e21_1 r23)) e21_2 e21_3 e21_4))))
((cond ((r11_0 == 3))
((gd ((decide (0 ≤ a0)))
(zj27 N ((shlI .i64 1 a0)) r11_1 r11_2 r11_3 (fun r24_0 r24_1 r24_2 r24_3 =>
zj40 N  N a0 0 r24_0 0 r24_1 r24_2 r24_3 0 0 (fun e25_0 e25_1 e25_2 e25_3 e25_4 e25_5 e25_6 =>
(cond ((e25_0 == 0))
(zj31 N e25_0 fun r26 =>
k0 e25_0 ((bits .and .i64 (bits .and .i64 e25_1 1) r26)) e25_2 e25_3 e25_4)
(zj31 N e25_0 fun r27 =>
k0 e25_0 ((bits .and .i64 e25_1 r27)) e25_2 e25_3 e25_4)))))))
(zj42 N  N a0 0 0 r11_1 r11_2 r11_3 0 0 (fun e29_0 e29_1 e29_2 e29_3 e29_4 e29_5 e29_6 =>
(cond ((e29_0 == 0))
(zj31 N e29_0 fun r30 =>
k0 e29_0 ((bits .and .i64 (bits .and .i64 e29_1 1) r30)) e29_2 e29_3 e29_4)
(zj31 N e29_0 fun r31 =>
k0 e29_0 ((bits .and .i64 e29_1 r31)) e29_2 e29_3 e29_4))))))))))))
def zj44 (N : Nat) (a0 : List Int) (a1 : Int) (a2 : Int) (a3 : List Int) (k0 : Int → List Int → Int → Int → List Int → Option β) : Option β :=
zj27 N ((a3.length : Int)) a0 a1 a2 (fun r34_0 r34_1 r34_2 r34_3 =>
(gd ((decide (0 ≤ r34_0)))
((gd ((decide (r34_0 < (a3.length : Int))))
(k0 ((rd 0 a3 r34_0)) r34_1 r34_2 r34_3 a3)))))
def zj45 (N : Nat) (a0 : List Int) (a1 : Int) (a2 : Int) (k0 : Int → Int → List Int → Int → Int → Option β) : Option β :=
zj27 N 5 a0 a1 a2 (fun r10_0 r10_1 r10_2 r10_3 =>
zj43 N r10_0 r10_1 r10_2 r10_3 (fun r32_0 r32_1 r32_2 r32_3 r32_4 =>
zj27 N 14 r32_2 r32_3 r32_4 (fun r33_0 r33_1 r33_2 r33_3 =>
(cond ((r33_0 == 0))
(zj44 N r33_1 r33_2 r33_3 ((((((([] : List Int) ++ [(-1)]) ++ [6]) ++ [5]) ++ [0]) ++ [9223372036854775807])) (fun r35_0 r35_1 r35_2 r35_3 r35_4 =>
k0 r35_0 r32_1 r35_1 r35_2 r35_3))
((cond ((r33_0 == 1))
(zj44 N r33_1 r33_2 r33_3 ((((((([] : List Int) ++ [(-1)]) ++ [0]) ++ [1]) ++ [65536]) ++ [9223372036854775807])) (fun r36_0 r36_1 r36_2 r36_3 r36_4 =>
k0 r32_0 r36_0 r36_1 r36_2 r36_3))
(k0 r32_0 r32_1 r33_1 r33_2 r33_3)))))))
def zj46 (N : Nat) (a0 : Int) (a1 : List Int) (a2 : Int) (a3 : Int) (k0 : Bool → List Int → Int → Int → Option β) : Option β :=
zj27 N a0 a1 a2 a3 (fun r43_0 r43_1 r43_2 r43_3 =>
k0 ((r43_0 == 0)) r43_1 r43_2 r43_3)
def zj47 (N : Nat) (a0 : Int) (a1 : List Int) (a2 : Int) (a3 : Int) (k0 : Int → Int → List Int → Int → Int → Option β) : Option β :=
(gd ((decide (0 ≤ a0)))
(zj27 N ((shlI .i64 1 a0)) a1 a2 a3 (fun r41_0 r41_1 r41_2 r41_3 =>
(gd ((decide (0 ≤ a0)))
(zj27 N ((shlI .i64 1 a0)) r41_1 r41_2 r41_3 (fun r42_0 r42_1 r42_2 r42_3 =>
zj46 N 12 r42_1 r42_2 r42_3 (fun r44_0 r44_1 r44_2 r44_3 =>
(cond r44_0
(zj44 N r44_1 r44_2 r44_3 (((((([] : List Int) ++ [(-1)]) ++ [1]) ++ [32]) ++ [9223372036854775807])) (fun r45_0 r45_1 r45_2 r45_3 r45_4 =>
k0 r41_0 r45_0 r45_1 r45_2 r45_3))
(k0 r41_0 ((bits .and .i64 r41_0 r42_0)) r44_1 r44_2 r44_3)))))))))
def zj48 (N : Nat)  (v0 : Int) (v1 : List Int) (v2 : Int) (v3 : Int) (v4 : List (Int × Int)) (rec_ : Int → List Int → Int → Int → List (Int × Int) → Option β) (k0 : List Int → Int → Int → List (Int × Int) → Option β) : Option β :=
(cond ((decide (v0 > 0)))
(zj47 N 4 v1 v2 v3 (fun r46_0 r46_1 r46_2 r46_3 r46_4 =>
(gd ((decide ((v4.length + ((([] : List (Int × Int)) ++ [(r46_0, r46_1)])).length) * 16 ≤ 140737488355328)))
(rec_ ((w64 (v0 - 1))) r46_2 r46_3 r46_4 ((v4 ++ (([] : List (Int × Int)) ++ [(r46_0, r46_1)])))))))
(k0 v1 v2 v3 v4))
def zj49 (N : Nat)  : Nat → Int → List Int → Int → Int → List (Int × Int) → (List Int → Int → Int → List (Int × Int) → Option β) → Option β
  | 0, _, _, _, _, _, _ => none
  | F + 1, v0, v1, v2, v3, v4, k0 => zj48 N  v0 v1 v2 v3 v4 (fun v0 v1 v2 v3 v4 => zj49 N  F v0 v1 v2 v3 v4 k0) k0
def zj50 (N : Nat) (a0 : List Int) (a1 : Int) (a2 : Int) (k0 : Int → List Int → Int → Int → List (Int × Int) → Option β) : Option β :=
zj45 N a0 a1 a2 (fun r37_0 r37_1 r37_2 r37_3 r37_4 =>
zj25 N r37_0 r37_1 fun r38 r39 =>
(cond (!r39)
(zj27 N 4 r37_2 r37_3 r37_4 (fun r40_0 r40_1 r40_2 r40_3 =>
zj49 N  N r40_0 r40_1 r40_2 r40_3 (([] : List (Int × Int))) (fun e47_0 e47_1 e47_2 e47_3 =>
k0 4 e47_0 e47_1 e47_2 e47_3)))
(zj46 N 4 r37_2 r37_3 r37_4 (fun r48_0 r48_1 r48_2 r48_3 =>
(cond r48_0
(zj27 N 4 r48_1 r48_2 r48_3 (fun r49_0 r49_1 r49_2 r49_3 =>
zj49 N  N r49_0 r49_1 r49_2 r49_3 (([] : List (Int × Int))) (fun e50_0 e50_1 e50_2 e50_3 =>
k0 4 e50_0 e50_1 e50_2 e50_3)))
(k0 ((mnI 6 r37_0)) r48_1 r48_2 r48_3 r38))))))
def zj51 (N : Nat) (a0 : List Int) (k : Int → List (Int × Int) → Option β) : Option β :=
zj3 N a0 (fun r3_0 r3_1 r3_2 =>
zj50 N r3_0 r3_1 r3_2 (fun r4_0 r4_1 r4_2 r4_3 r4_4 =>
k r4_0 r4_4))
def zj52 (N : Nat) (a0 : List Int) (k : Int → List (Int × Int) → Option β) : Option β :=
zj51 N a0 fun r3 r4 =>
k r3 r4
def zj53 (N : Nat) (a0 : Int) (k : Bool → Option β) : Option β :=
(cond ((decide (a0 ≥ 0)))
(k ((decide (a0 ≤ 5))))
(k false))
def zj54 (N : Nat) (a0 : Int) (a1 : Int) (k : Bool → Option β) : Option β :=
(cond ((decide (a1 ≥ 0)))
((gd ((decide (0 ≤ a0)))
(k ((decide (a1 < (shlI .i64 1 a0)))))))
(k false))
def zj55 (N : Nat) (a0 : Int) (a1 : Int) (a2 : Int) (k : Bool → Option β) : Option β :=
zj53 N a0 fun r4 =>
(cond r4
(zj54 N a0 a1 fun r5 =>
(cond r5
((cond ((decide (a2 ≥ 0)))
(k (((bits .andNot .i64 a2 a1) == 0)))
(k false)))
(k false)))
(k false))
def zj56 (N : Nat) (a0 : Int) (a1 : Int) (c0 : Int) (k : Bool → Option β) : Option β :=
zj55 N c0 a0 a1 fun r3 =>
k (!r3)
def zj57 (N : Nat) (a0 : Int) (a1 : Int) (a2 : Int) (k : Bool → Option β) : Option β :=
k (((bits .and .i64 a2 a0) == a1))
def zj58 (N : Nat) (a0 : Int) (a1 : Int) (c0 : Int) (k : Bool → Option β) : Option β :=
zj57 N a0 a1 c0 fun r3 =>
k r3
def zj59 (N : Nat) (a1 : (Int → Int → (Bool → Option β) → Option β)) (v0 : List (Int × Int)) (v1 : Int) (v2 : Int) (rec_ : List (Int × Int) → Int → Int → Option β) (k0 : Int → Option β) (k1 : Option β) : Option β :=
(cond ((decide (v2 < v1)))
((gd ((decide (0 ≤ v2)))
((gd ((decide (v2 < (v0.length : Int))))
(a1 ((rd (0, 0) v0 v2).1) ((rd (0, 0) v0 v2).2) fun r3 =>
(cond r3
(k0 v2)
(rec_ v0 v1 ((w64 (v2 + 1))))))))))
(k1 ))
def zj60 (N : Nat) (a1 : (Int → Int → (Bool → Option β) → Option β)) : Nat → List (Int × Int) → Int → Int → (Int → Option β) → (Option β) → Option β
  | 0, _, _, _, _, _ => none
  | F + 1, v0, v1, v2, k0, k1 => zj59 N a1 v0 v1 v2 (fun v0 v1 v2 => zj60 N a1 F v0 v1 v2 k0 k1) k0 k1
def zj61 (N : Nat) (a0 : List (Int × Int)) (a1 : (Int → Int → (Bool → Option β) → Option β)) (k : Int → Option β) : Option β :=
zj60 N a1 N a0 ((a0.length : Int)) 0 (fun e4_0 =>
k e4_0) (k (-1))
def zj62 (N : Nat) (a0 : List (Int × Int)) (a1 : (Int → Int → (Bool → Option β) → Option β)) (k : Bool → Option β) : Option β :=
zj61 N a0 a1 fun r3 =>
k ((decide (r3 ≥ 0)))
def zj63 (N : Nat) (a0 : Int) (a1 : List (Int × Int)) (k : Bool → Option β) : Option β :=
zj53 N a0 fun r3 =>
(cond r3
(zj62 N a1 (fun x0 x1 k => zj56 N x0 x1 a0 k) fun r4 =>
k (!r4))
(k false))
def zj64 (N : Nat) (a0 : Int) (a1 : List (Int × Int)) (k : Bool → Option β) : Option β :=
zj63 N a0 a1 fun r3 =>
(cond r3
(k ((decide ((a1.length : Int) ≤ 40))))
(k false))
def zj65 (N : Nat)  (v0 : Int) (v1 : Int) (v2 : Bool) (v3 : Bool) (v4 : List (Int × Int)) (v5 : Int) (v6 : Int) (rec_ : Int → Int → Bool → Bool → List (Int × Int) → Int → Int → Option β) (k0 : Bool → Option β) (k1 : Bool → Bool → Option β) : Option β :=
(cond ((decide (v6 < v5)))
((gd ((decide (0 ≤ v6)))
((gd ((decide (v6 < (v4.length : Int))))
(zj57 N ((rd (0, 0) v4 v6).1) ((rd (0, 0) v4 v6).2) v0 fun r4 =>
zj57 N ((rd (0, 0) v4 v6).1) ((rd (0, 0) v4 v6).2) v1 fun r5 =>
(cond r4
((cond r5
(k0 false)
((cond v2
((cond v3
(rec_ v0 v1 true true v4 v5 ((w64 (v6 + 1))))
(rec_ v0 v1 true r5 v4 v5 ((w64 (v6 + 1))))))
((cond v3
(rec_ v0 v1 r4 true v4 v5 ((w64 (v6 + 1))))
(rec_ v0 v1 r4 r5 v4 v5 ((w64 (v6 + 1))))))))))
((cond v2
((cond v3
(rec_ v0 v1 true true v4 v5 ((w64 (v6 + 1))))
(rec_ v0 v1 true r5 v4 v5 ((w64 (v6 + 1))))))
((cond v3
(rec_ v0 v1 r4 true v4 v5 ((w64 (v6 + 1))))
(rec_ v0 v1 r4 r5 v4 v5 ((w64 (v6 + 1))))))))))))))
(k1 v2 v3))
def zj66 (N : Nat)  : Nat → Int → Int → Bool → Bool → List (Int × Int) → Int → Int → (Bool → Option β) → (Bool → Bool → Option β) → Option β
  | 0, _, _, _, _, _, _, _, _, _ => none
  | F + 1, v0, v1, v2, v3, v4, v5, v6, k0, k1 => zj65 N  v0 v1 v2 v3 v4 v5 v6 (fun v0 v1 v2 v3 v4 v5 v6 => zj66 N  F v0 v1 v2 v3 v4 v5 v6 k0 k1) k0 k1
def zj67 (N : Nat) (a0 : List (Int × Int)) (a1 : Int) (a2 : Int) (k : Bool → Option β) : Option β :=
zj66 N  N a1 a2 false false a0 ((a0.length : Int)) 0 (fun e6_0 =>
k e6_0) (fun e7_0 e7_1 =>
(cond e7_0
(k e7_1)
(k false)))
def zj68 (N : Nat)  (v0 : Int) (v1 : List (Int × Int)) (v2 : Int) (v3 : Int) (v4 : Int) (v5 : Int) (v6 : Int) (v7 : List (List Int)) (rec_ : Int → List (Int × Int) → Int → Int → Int → Int → Int → List (List Int) → Option β) (k0 : Int → List (Int × Int) → Int → Int → List (List Int) → Option β) : Option β :=
(cond ((decide (v6 < v5)))
((gd ((decide (0 ≤ v6)))
((cond ((decide (v2 < (bits .xor .i64 v2 (shlI .i64 1 v6)))))
(zj67 N v1 v2 ((bits .xor .i64 v2 (shlI .i64 1 v6))) fun r3 =>
(cond r3
((gd ((decide ((v7.length + ((([] : List (List Int)) ++ [((([] : List Int) ++ [v2]) ++ [(bits .xor .i64 v2 (shlI .i64 1 v6))])])).length) * 24 ≤ 140737488355328)))
(rec_ v0 v1 v2 v3 v4 v5 ((w64 (v6 + 1))) ((v7 ++ (([] : List (List Int)) ++ [((([] : List Int) ++ [v2]) ++ [(bits .xor .i64 v2 (shlI .i64 1 v6))])]))))))
(rec_ v0 v1 v2 v3 v4 v5 ((w64 (v6 + 1))) v7)))
(rec_ v0 v1 v2 v3 v4 v5 ((w64 (v6 + 1))) v7)))))
(k0 v0 v1 v3 v4 v7))
def zj69 (N : Nat)  : Nat → Int → List (Int × Int) → Int → Int → Int → Int → Int → List (List Int) → (Int → List (Int × Int) → Int → Int → List (List Int) → Option β) → Option β
  | 0, _, _, _, _, _, _, _, _, _ => none
  | F + 1, v0, v1, v2, v3, v4, v5, v6, v7, k0 => zj68 N  v0 v1 v2 v3 v4 v5 v6 v7 (fun v0 v1 v2 v3 v4 v5 v6 v7 => zj69 N  F v0 v1 v2 v3 v4 v5 v6 v7 k0) k0
def zj70 (N : Nat)  (v0 : Int) (v1 : List (Int × Int)) (v2 : Int) (v3 : Int) (v4 : List (List Int)) (rec_ : Int → List (Int × Int) → Int → Int → List (List Int) → Option β) (k0 : List (List Int) → Option β) : Option β :=
(cond ((decide (v3 < v2)))
(zj69 N  N v0 v1 v3 v2 v3 v0 0 v4 (fun e4_0 e4_1 e4_2 e4_3 e4_4 =>
rec_ e4_0 e4_1 e4_2 ((w64 (e4_3 + 1))) e4_4))
(k0 v4))
def zj71 (N : Nat)  : Nat → Int → List (Int × Int) → Int → Int → List (List Int) → (List (List Int) → Option β) → Option β
  | 0, _, _, _, _, _, _ => none
  | F + 1, v0, v1, v2, v3, v4, k0 => zj70 N  v0 v1 v2 v3 v4 (fun v0 v1 v2 v3 v4 => zj71 N  F v0 v1 v2 v3 v4 k0) k0
def zj72 (N : Nat) (a0 : Int) (a1 : List (Int × Int)) (k : List (List Int) → Option β) : Option β :=
(gd ((decide (0 ≤ a0)))
(zj71 N  N a0 a1 ((shlI .i64 1 a0)) 0 (([] : List (List Int))) (fun e5_0 =>
k e5_0)))
def zj73 (N : Nat)  (v0 : Int) (v1 : Int) (v2 : Int) (v3 : List (Int × Int)) (v4 : List (List Int)) (rec_ : Int → Int → Int → List (Int × Int) → List (List Int) → Option β) (k0 : List (Int × Int) → Option β) : Option β :=
(cond ((decide (v2 < v1)))
((gd ((decide (0 ≤ v2)))
((gd ((decide (v2 < (v4.length : Int))))
((gd ((decide (0 < (((rd [] v4 v2)).length : Int))))
((gd ((decide (1 < (((rd [] v4 v2)).length : Int))))
(zj67 N v3 ((rd 0 ((rd [] v4 v2)) 0)) ((rd 0 ((rd [] v4 v2)) 1)) fun r7 =>
(cond r7
((gd ((decide (0 ≤ v0)))
((gd ((decide (0 < (((rd [] v4 v2)).length : Int))))
((gd ((decide (1 < (((rd [] v4 v2)).length : Int))))
((gd ((decide (0 < (((rd [] v4 v2)).length : Int))))
((gd ((decide ((v3.length + ((([] : List (Int × Int)) ++ [((bits .andNot .i64 (w64 ((shlI .i64 1 v0) - 1)) (bits .xor .i64 (rd 0 ((rd [] v4 v2)) 0) (rd 0 ((rd [] v4 v2)) 1))), (rd 0 ((rd [] v4 v2)) 0))])).length) * 16 ≤ 140737488355328)))
(rec_ v0 v1 ((w64 (v2 + 1))) ((v3 ++ (([] : List (Int × Int)) ++ [((bits .andNot .i64 (w64 ((shlI .i64 1 v0) - 1)) (bits .xor .i64 (rd 0 ((rd [] v4 v2)) 0) (rd 0 ((rd [] v4 v2)) 1))), (rd 0 ((rd [] v4 v2)) 0))]))) v4)))))))))))
(rec_ v0 v1 ((w64 (v2 + 1))) v3 v4)))))))))))
(k0 v3))
def zj74 (N : Nat)  : Nat → Int → Int → Int → List (Int × Int) → List (List Int) → (List (Int × Int) → Option β) → Option β
  | 0, _, _, _, _, _, _ => none
  | F + 1, v0, v1, v2, v3, v4, k0 => zj73 N  v0 v1 v2 v3 v4 (fun v0 v1 v2 v3 v4 => zj74 N  F v0 v1 v2 v3 v4 k0) k0
def zj75 (N : Nat) (a0 : Int) (a1 : List (Int × Int)) (k : List (Int × Int) → Bool → Option β) : Option β :=
zj64 N a0 a1 fun r4 =>
(cond (!r4)
(k (([] : List (Int × Int))) false)
(slices_Clone_Simpl_Term_impl_Term N a1 fun r5 =>
zj72 N a0 a1 fun r6 =>
zj74 N  N a0 ((r6.length : Int)) 0 r5 r6 (fun e8_0 =>
k e8_0 true)))
def zj76 (N : Nat) (a0 : Int) (a1 : Int) (a2 : Int) (k : Bool → Option β) : Option β :=
zj4 N a0 0 5 fun r4 =>
(cond r4
((gd ((decide (0 ≤ a0)))
(zj4 N a1 0 ((w64 ((shlI .i64 1 a0) - 1))) fun r5 =>
(cond r5
(zj4 N a2 0 a1 fun r6 =>
(cond r6
(k (((bits .and .i64 a2 a1) == a2)))
(k false)))
(k false)))))
(k false))
def zj77 (N : Nat)  (v0 : Int) (v1 : List (Int × Int)) (v2 : Int) (rec_ : Int → List (Int × Int) → Int → Option β) (k0 : Bool → Option β) (k1 : Int → List (Int × Int) → Option β) : Option β :=
(cond ((decide (v2 < (v1.length : Int))))
((gd ((decide (0 ≤ v2)))
((gd ((decide (v2 < (v1.length : Int))))
(zj76 N v0 ((rd (0, 0) v1 v2).1) ((rd (0, 0) v1 v2).2) fun r3 =>
(cond (!r3)
(k0 false)
(rec_ v0 v1 ((w64 (v2 + 1))))))))))
(k1 v0 v1))
def zj78 (N : Nat)  : Nat → Int → List (Int × Int) → Int → (Bool → Option β) → (Int → List (Int × Int) → Option β) → Option β
  | 0, _, _, _, _, _ => none
  | F + 1, v0, v1, v2, k0, k1 => zj77 N  v0 v1 v2 (fun v0 v1 v2 => zj78 N  F v0 v1 v2 k0 k1) k0 k1
def zj79 (N : Nat) (a0 : Int) (a1 : List (Int × Int)) (k : Bool → Option β) : Option β :=
zj78 N  N a0 a1 0 (fun e4_0 =>
k e4_0) (fun e5_0 e5_1 =>
zj4 N e5_0 0 5 fun r6 =>
(cond r6
(k ((decide ((e5_1.length : Int) ≤ 40))))
(k false)))
def zj80 (N : Nat)  (v0 : List (Int × Int)) (v1 : Int) (v2 : Int) (v3 : Bool) (v4 : Bool) (v5 : Int) (rec_ : List (Int × Int) → Int → Int → Bool → Bool → Int → Option β) (k0 : Bool → Option β) (k1 : Bool → Bool → Option β) : Option β :=
(cond ((decide (v5 < (v0.length : Int))))
((gd ((decide (0 ≤ v5)))
((gd ((decide (v5 < (v0.length : Int))))
((gd ((decide (0 ≤ v5)))
((gd ((decide (v5 < (v0.length : Int))))
((gd ((decide (0 ≤ v5)))
((gd ((decide (v5 < (v0.length : Int))))
((gd ((decide (0 ≤ v5)))
((gd ((decide (v5 < (v0.length : Int))))
((cond (((bits .and .i64 v1 (rd (0, 0) v0 v5).1) == (rd (0, 0) v0 v5).2))
((cond (((bits .and .i64 v2 (rd (0, 0) v0 v5).1) == (rd (0, 0) v0 v5).2))
(k0 false)
((cond v3
((cond v4
(rec_ v0 v1 v2 true true ((w64 (v5 + 1))))
(rec_ v0 v1 v2 true (((bits .and .i64 v2 (rd (0, 0) v0 v5).1) == (rd (0, 0) v0 v5).2)) ((w64 (v5 + 1))))))
((cond v4
(rec_ v0 v1 v2 (((bits .and .i64 v1 (rd (0, 0) v0 v5).1) == (rd (0, 0) v0 v5).2)) true ((w64 (v5 + 1))))
(rec_ v0 v1 v2 (((bits .and .i64 v1 (rd (0, 0) v0 v5).1) == (rd (0, 0) v0 v5).2)) (((bits .and .i64 v2 (rd (0, 0) v0 v5).1) == (rd (0, 0) v0 v5).2)) ((w64 (v5 + 1))))))))))
((cond v3
((cond v4
(rec_ v0 v1 v2 true true ((w64 (v5 + 1))))
(rec_ v0 v1 v2 true (((bits .and .i64 v2 (rd (0, 0) v0 v5).1) == (rd (0, 0) v0 v5).2)) ((w64 (v5 + 1))))))
((cond v4
(rec_ v0 v1 v2 (((bits .and .i64 v1 (rd (0, 0) v0 v5).1) == (rd (0, 0) v0 v5).2)) true ((w64 (v5 + 1))))
(rec_ v0 v1 v2 (((bits .and .i64 v1 (rd (0, 0) v0 v5).1) == (rd (0, 0) v0 v5).2)) (((bits .and .i64 v2 (rd (0, 0) v0 v5).1) == (rd (0, 0) v0 v5).2)) ((w64 (v5 + 1))))))))))))))))))))))))))
(k1 v3 v4))
def zj81 (N : Nat)  : Nat → List (Int × Int) → Int → Int → Bool → Bool → Int → (Bool → Option β) → (Bool → Bool → Option β) → Option β
  | 0, _, _, _, _, _, _, _, _ => none
  | F + 1, v0, v1, v2, v3, v4, v5, k0, k1 => zj80 N  v0 v1 v2 v3 v4 v5 (fun v0 v1 v2 v3 v4 v5 => zj81 N  F v0 v1 v2 v3 v4 v5 k0 k1) k0 k1
def zj82 (N : Nat) (a0 : List (Int × Int)) (a1 : Int) (a2 : Int) (k : Bool → Option β) : Option β :=
zj81 N  N a0 a1 a2 false false 0 (fun e4_0 =>
k e4_0) (fun e5_0 e5_1 =>
(cond e5_0
(k e5_1)
(k false)))
def zj83 (N : Nat)  (v0 : Int) (v1 : List (Int × Int)) (v2 : Int) (v3 : Int) (v4 : List (List Int)) (rec_ : Int → List (Int × Int) → Int → Int → List (List Int) → Option β) (k0 : Int → List (Int × Int) → Int → List (List Int) → Option β) : Option β :=
(cond ((decide (v3 < v0)))
((gd ((decide (0 ≤ v3)))
((cond (((bits .and .i64 (shrI .i64 v2 v3) 1) == 0))
((gd ((decide (0 ≤ v3)))
(zj82 N v1 v2 ((bits .or .i64 v2 (shlI .i64 1 v3))) fun r5 =>
(cond r5
((gd ((decide (0 ≤ v3)))
((gd ((decide ((v4.length + ((([] : List (List Int)) ++ [((([] : List Int) ++ [v2]) ++ [(bits .or .i64 v2 (shlI .i64 1 v3))])])).length) * 24 ≤ 140737488355328)))
(rec_ v0 v1 v2 ((w64 (v3 + 1))) ((v4 ++ (([] : List (List Int)) ++ [((([] : List Int) ++ [v2]) ++ [(bits .or .i64 v2 (shlI .i64 1 v3))])]))))))))
(rec_ v0 v1 v2 ((w64 (v3 + 1))) v4)))))
(rec_ v0 v1 v2 ((w64 (v3 + 1))) v4)))))
(k0 v0 v1 v2 v4))
def zj84 (N : Nat)  : Nat → Int → List (Int × Int) → Int → Int → List (List Int) → (Int → List (Int × Int) → Int → List (List Int) → Option β) → Option β
  | 0, _, _, _, _, _, _ => none
  | F + 1, v0, v1, v2, v3, v4, k0 => zj83 N  v0 v1 v2 v3 v4 (fun v0 v1 v2 v3 v4 => zj84 N  F v0 v1 v2 v3 v4 k0) k0
def zj85 (N : Nat)  (v0 : Int) (v1 : List (Int × Int)) (v2 : Int) (v3 : List (List Int)) (rec_ : Int → List (Int × Int) → Int → List (List Int) → Option β) (k0 : List (List Int) → Option β) : Option β :=
(gd ((decide (0 ≤ v0)))
((cond ((decide (v2 < (shlI .i64 1 v0))))
(zj84 N  N v0 v1 v2 0 v3 (fun e6_0 e6_1 e6_2 e6_3 =>
rec_ e6_0 e6_1 ((w64 (e6_2 + 1))) e6_3))
(k0 v3))))
def zj86 (N : Nat)  : Nat → Int → List (Int × Int) → Int → List (List Int) → (List (List Int) → Option β) → Option β
  | 0, _, _, _, _, _ => none
  | F + 1, v0, v1, v2, v3, k0 => zj85 N  v0 v1 v2 v3 (fun v0 v1 v2 v3 => zj86 N  F v0 v1 v2 v3 k0) k0
def zj87 (N : Nat) (a0 : Int) (a1 : List (Int × Int)) (k : List (List Int) → Bool → Option β) : Option β :=
zj79 N a0 a1 fun r4 =>
(cond (!r4)
(k (([] : List (List Int))) false)
(zj86 N  N a0 a1 0 (([] : List (List Int))) (fun e7_0 =>
k e7_0 true)))
def zj88 (N : Nat)  (v0 : Int) (v1 : Int) (v2 : List (List Int)) (v3 : List (Int × Int)) (rec_ : Int → Int → List (List Int) → List (Int × Int) → Option β) (k0 : List (Int × Int) → Option β) : Option β :=
(cond ((decide (v1 < (v2.length : Int))))
((gd ((decide (0 ≤ v1)))
((gd ((decide (v1 < (v2.length : Int))))
((gd ((decide (0 < (((rd [] v2 v1)).length : Int))))
((gd ((decide (0 ≤ v1)))
((gd ((decide (v1 < (v2.length : Int))))
((gd ((decide (1 < (((rd [] v2 v1)).length : Int))))
(zj82 N v3 ((rd 0 ((rd [] v2 v1)) 0)) ((rd 0 ((rd [] v2 v1)) 1)) fun r6 =>
(cond r6
((gd ((decide (0 ≤ v0)))
((gd ((decide (0 ≤ v1)))
((gd ((decide (v1 < (v2.length : Int))))
((gd ((decide (1 < (((rd [] v2 v1)).length : Int))))
((gd ((decide (0 ≤ v1)))
((gd ((decide (v1 < (v2.length : Int))))
((gd ((decide (0 < (((rd [] v2 v1)).length : Int))))
((gd ((decide (0 ≤ v1)))
((gd ((decide (v1 < (v2.length : Int))))
((gd ((decide (0 < (((rd [] v2 v1)).length : Int))))
((gd ((decide ((v3.length + ((([] : List (Int × Int)) ++ [((w64 ((w64 ((shlI .i64 1 v0) - 1)) - (w64 ((rd 0 ((rd [] v2 v1)) 1) - (rd 0 ((rd [] v2 v1)) 0))))), (bits .and .i64 (rd 0 ((rd [] v2 v1)) 0) (w64 ((w64 ((shlI .i64 1 v0) - 1)) - (w64 ((rd 0 ((rd [] v2 v1)) 1) - (rd 0 ((rd [] v2 v1)) 0)))))))])).length) * 16 ≤ 140737488355328)))
(rec_ v0 ((w64 (v1 + 1))) v2 ((v3 ++ (([] : List (Int × Int)) ++ [((w64 ((w64 ((shlI .i64 1 v0) - 1)) - (w64 ((rd 0 ((rd [] v2 v1)) 1) - (rd 0 ((rd [] v2 v1)) 0))))), (bits .and .i64 (rd 0 ((rd [] v2 v1)) 0) (w64 ((w64 ((shlI .i64 1 v0) - 1)) - (w64 ((rd 0 ((rd [] v2 v1)) 1) - (rd 0 ((rd [] v2 v1)) 0)))))))]))))))))))))))))))))))))))
(rec_ v0 ((w64 (v1 + 1))) v2 v3)))))))))))))))
(k0 v3))
def zj89 (N : Nat)  : Nat → Int → Int → List (List Int) → List (Int × Int) → (List (Int × Int) → Option β) → Option β
  | 0, _, _, _, _, _ => none
  | F + 1, v0, v1, v2, v3, k0 => zj88 N  v0 v1 v2 v3 (fun v0 v1 v2 v3 => zj89 N  F v0 v1 v2 v3 k0) k0
def zj90 (N : Nat) (a0 : Int) (a1 : List (Int × Int)) (k : List (Int × Int) → Bool → Option β) : Option β :=
zj87 N a0 a1 fun r4 r5 =>
(cond (!r5)
(k (([] : List (Int × Int))) false)
((gd ((decide (((([] : List (Int × Int))).length + a1.length) * 16 ≤ 140737488355328)))
(zj89 N  N a0 0 r4 ((([] : List (Int × Int)) ++ a1)) (fun e7_0 =>
k e7_0 true)))))
def zj91 (N : Nat) (a0 : Int) (a1 : List (Int × Int)) (k : List (List Int) → Bool → Option β) : Option β :=
zj64 N a0 a1 fun r4 =>
(cond (!r4)
(k (([] : List (List Int))) false)
(zj72 N a0 a1 fun r5 =>
k r5 true))
def zj92 (N : Nat)  (v0 : List (Int × Int)) (v1 : List (Int × Int)) (v2 : Int) (rec_ : List (Int × Int) → List (Int × Int) → Int → Option β) (k0 : Bool → Option β) (k1 : Option β) : Option β :=
(cond ((decide (v2 < (v0.length : Int))))
((gd ((decide (0 ≤ v2)))
((gd ((decide (v2 < (v0.length : Int))))
((gd ((decide (0 ≤ v2)))
((gd ((decide (v2 < (v1.length : Int))))
((cond ((!(((rd (0, 0) v0 v2).1 == (rd (0, 0) v1 v2).1) && ((rd (0, 0) v0 v2).2 == (rd (0, 0) v1 v2).2))))
(k0 false)
(rec_ v0 v1 ((w64 (v2 + 1))))))))))))))
(k1 ))
def zj93 (N : Nat)  : Nat → List (Int × Int) → List (Int × Int) → Int → (Bool → Option β) → (Option β) → Option β
  | 0, _, _, _, _, _ => none
  | F + 1, v0, v1, v2, k0, k1 => zj92 N  v0 v1 v2 (fun v0 v1 v2 => zj93 N  F v0 v1 v2 k0 k1) k0 k1
def zj94 (N : Nat) (a0 : List (Int × Int)) (a1 : List (Int × Int)) (k : Bool → Option β) : Option β :=
(cond (((a0.length : Int) != (a1.length : Int)))
(k false)
(zj93 N  N a0 a1 0 (fun e3_0 =>
k e3_0) (k true)))
def zj95 (N : Nat)  (v0 : List Int) (v1 : List Int) (v2 : Int) (rec_ : List Int → List Int → Int → Option β) (k0 : Bool → Option β) (k1 : Option β) : Option β :=
(cond ((decide (v2 < (v0.length : Int))))
((gd ((decide (0 ≤ v2)))
((gd ((decide (v2 < (v0.length : Int))))
((gd ((decide (0 ≤ v2)))
((gd ((decide (v2 < (v1.length : Int))))
((cond (((rd 0 v0 v2) != (rd 0 v1 v2)))
(k0 false)
(rec_ v0 v1 ((w64 (v2 + 1))))))))))))))
(k1 ))
def zj96 (N : Nat)  : Nat → List Int → List Int → Int → (Bool → Option β) → (Option β) → Option β
  | 0, _, _, _, _, _ => none
  | F + 1, v0, v1, v2, k0, k1 => zj95 N  v0 v1 v2 (fun v0 v1 v2 => zj96 N  F v0 v1 v2 k0 k1) k0 k1
def zj97 (N : Nat) (a0 : List Int) (a1 : List Int) (k : Bool → Option β) : Option β :=
(cond (((a0.length : Int) != (a1.length : Int)))
(k false)
(zj96 N  N a0 a1 0 (fun e3_0 =>
k e3_0) (k true)))
def zj98 (N : Nat)  (v0 : List (List Int)) (v1 : List (List Int)) (v2 : Int) (rec_ : List (List Int) → List (List Int) → Int → Option β) (k0 : Bool → Option β) (k1 : Option β) : Option β :=
(cond ((decide (v2 < (v0.length : Int))))
((gd ((decide (0 ≤ v2)))
((gd ((decide (v2 < (v0.length : Int))))
((gd ((decide (0 ≤ v2)))
((gd ((decide (v2 < (v1.length : Int))))
(zj97 N ((rd [] v0 v2)) ((rd [] v1 v2)) fun r3 =>
(cond (!r3)
(k0 false)
(rec_ v0 v1 ((w64 (v2 + 1))))))))))))))
(k1 ))
def zj99 (N : Nat)  : Nat → List (List Int) → List (List Int) → Int → (Bool → Option β) → (Option β) → Option β
  | 0, _, _, _, _, _ => none
  | F + 1, v0, v1, v2, k0, k1 => zj98 N  v0 v1 v2 (fun v0 v1 v2 => zj99 N  F v0 v1 v2 k0 k1) k0 k1
def zj100 (N : Nat) (a0 : List (List Int)) (a1 : List (List Int)) (k : Bool → Option β) : Option β :=
(cond (((a0.length : Int) != (a1.length : Int)))
(k false)
(zj99 N  N a0 a1 0 (fun e4_0 =>
k e4_0) (k true)))
def zj101 (N : Nat) (a0 : Int) (a1 : List (Int × Int)) (k : Bool → Option β) : Option β :=
zj64 N a0 a1 fun r3 =>
(cond r3
(zj72 N a0 a1 fun r4 =>
k (((r4.length : Int) == 0)))
(k false))
def zj102 (N : Nat) (a0 : Int) (c0 : List (Int × Int)) (k : Bool → Option β) : Option β :=
zj62 N c0 (fun x0 x1 k => zj58 N x0 x1 a0 k) fun r2 =>
k r2
def zj103 (N : Nat) (a1 : (Int → (Bool → Option β) → Option β)) (v0 : Int) (v1 : Int) (v2 : Int) (v3 : Int) (v4 : Int) (v5 : Int) (rec_ : Int → Int → Int → Int → Int → Int → Option β) (k0 : Int → Int → Int → Int → Option β) : Option β :=
(cond ((decide (v1 < v0)))
(a1 v1 fun r4 =>
(cond r4
((gd ((decide (0 ≤ v1)))
(rec_ v0 ((w64 (v1 + 1))) v2 v3 v4 ((bits .or .i64 v5 (shlI .i64 1 v1))))))
(rec_ v0 ((w64 (v1 + 1))) v2 v3 v4 v5)))
(k0 v2 v3 v4 v5))
def zj104 (N : Nat) (a1 : (Int → (Bool → Option β) → Option β)) : Nat → Int → Int → Int → Int → Int → Int → (Int → Int → Int → Int → Option β) → Option β
  | 0, _, _, _, _, _, _, _ => none
  | F + 1, v0, v1, v2, v3, v4, v5, k0 => zj103 N a1 v0 v1 v2 v3 v4 v5 (fun v0 v1 v2 v3 v4 v5 => zj104 N a1 F v0 v1 v2 v3 v4 v5 k0) k0
def zj105 (N : Nat) (a0 : Int) (a1 : (Int → (Bool → Option β) → Option β)) (k : Int → Int → Option β) : Option β :=
(gd ((decide (0 ≤ a0)))
(zj104 N a1 N ((shlI .i64 1 a0)) 0 0 0 a0 0 (fun e5_0 e5_1 e5_2 e5_3 =>
k e5_2 e5_3)))
def zj106 (N : Nat) (a0 : Int) (a1 : List (Int × Int)) (k : Int → Int → Option β) : Option β :=
zj105 N a0 (fun x0 k => zj102 N x0 a1 k) fun r4 r5 =>
k r4 r5
def zj107 (N : Nat) (a0 : Int) (a1 : List (Int × Int)) (k : Int → Int → Bool → Option β) : Option β :=
zj63 N a0 a1 fun r5 =>
(cond (!r5)
(k 0 0 false)
(zj106 N a0 a1 fun r6 r7 =>
k r6 r7 true))
def zj108 (N : Nat) (a0 : Int) (a1 : Int) (k : Int → Option β) : Option β :=
(gd ((decide (0 ≤ a0)))
(k ((shlI .i64 1 a0))))
def zj109 (N : Nat) (a0 : Int) (a1 : Int) (k : Bool → Option β) : Option β :=
zj53 N a0 fun r3 =>
(cond r3
((cond ((decide (a1 ≥ 0)))
(zj108 N a0 a1 fun r4 =>
(gd ((decide (0 ≤ r4)))
(k (((shrI .i64 a1 r4) == 0)))))
(k false)))
(k false))
def zj110 (N : Nat) (a0 : Int) (a1 : Int) (a2 : Int) (k : Int → Option β) : Option β :=
(gd ((decide (0 ≤ a2)))
(k ((bits .and .i64 (shrI .i64 a1 a2) 1))))
def zj111 (N : Nat)  (v0 : Int) (v1 : Int) (v2 : Int) (v3 : Int) (v4 : Int) (v5 : Int) (v6 : Bool) (v7 : Bool) (rec_ : Int → Int → Int → Int → Int → Int → Bool → Bool → Option β) (k0 : Bool → Bool → Option β) : Option β :=
(cond ((decide (v3 < v2)))
((cond (((bits .and .i64 v3 v0) == v1))
(zj110 N v4 v5 v3 fun r6 =>
(gd ((decide (0 ≤ r6)))
((gd ((decide (r6 < 2)))
((cond ((r6 == 0))
(rec_ v0 v1 v2 ((w64 (v3 + 1))) v4 v5 true v7)
(rec_ v0 v1 v2 ((w64 (v3 + 1))) v4 v5 v6 true)))))))
(rec_ v0 v1 v2 ((w64 (v3 + 1))) v4 v5 v6 v7)))
(k0 v6 v7))
def zj112 (N : Nat)  : Nat → Int → Int → Int → Int → Int → Int → Bool → Bool → (Bool → Bool → Option β) → Option β
  | 0, _, _, _, _, _, _, _, _, _ => none
  | F + 1, v0, v1, v2, v3, v4, v5, v6, v7, k0 => zj111 N  v0 v1 v2 v3 v4 v5 v6 v7 (fun v0 v1 v2 v3 v4 v5 v6 v7 => zj112 N  F v0 v1 v2 v3 v4 v5 v6 v7 k0) k0
def zj113 (N : Nat) (a0 : Int) (a1 : Int) (a2 : Int) (a3 : Int) (k : Int → Option β) : Option β :=
zj108 N a0 a1 fun r5 =>
zj112 N  N a2 a3 r5 0 a0 a1 false false (fun e7_0 e7_1 =>
(cond e7_0
((cond e7_1
(k 2)
((cond e7_1
(k 1)
(k 0)))))
((cond e7_1
(k 1)
(k 0)))))
def zj114 (N : Nat) (a0 : Int) (a1 : Int) (a2 : Int) (a3 : Int) (k : Bool → Option β) : Option β :=
zj113 N a0 a1 a2 a3 fun r5 =>
k ((r5 == 1))
def zj115 (N : Nat)  (v0 : Int) (v1 : Int) (v2 : Int) (v3 : Int) (v4 : Int) (v5 : Int) (rec_ : Int → Int → Int → Int → Int → Int → Option β) (k0 : Bool → Option β) (k1 : Option β) : Option β :=
(cond ((decide (v1 < v0)))
((gd ((decide (0 ≤ v1)))
((cond (((bits .and .i64 v4 (shlI .i64 1 v1)) != 0))
(zj114 N v2 v3 ((bits .andNot .i64 v4 (shlI .i64 1 v1))) ((bits .andNot .i64 v5 (shlI .i64 1 v1))) fun r6 =>
(cond r6
(k0 false)
(rec_ v0 ((w64 (v1 + 1))) v2 v3 v4 v5)))
(rec_ v0 ((w64 (v1 + 1))) v2 v3 v4 v5)))))
(k1 ))
def zj116 (N : Nat)  : Nat → Int → Int → Int → Int → Int → Int → (Bool → Option β) → (Option β) → Option β
  | 0, _, _, _, _, _, _, _, _ => none
  | F + 1, v0, v1, v2, v3, v4, v5, k0, k1 => zj115 N  v0 v1 v2 v3 v4 v5 (fun v0 v1 v2 v3 v4 v5 => zj116 N  F v0 v1 v2 v3 v4 v5 k0 k1) k0 k1
def zj117 (N : Nat) (a0 : Int) (a1 : Int) (a2 : Int) (a3 : Int) (k : Bool → Option β) : Option β :=
zj114 N a0 a1 a2 a3 fun r5 =>
(cond (!r5)
(k false)
(zj116 N  N a0 0 a0 a1 a2 a3 (fun e7_0 =>
k e7_0) (k true)))
def zj118 (N : Nat)  (v0 : Int) (v1 : Int) (v2 : Int) (v3 : Int) (v4 : Int) (v5 : Int) (v6 : Int) (v7 : List (Int × Int)) (rec_ : Int → Int → Int → Int → Int → Int → Int → List (Int × Int) → Option β) (k0 : Int → Int → Int → Int → List (Int × Int) → Option β) : Option β :=
(cond ((decide (v4 < v3)))
((cond (((bits .andNot .i64 v4 v0) == 0))
(zj117 N v5 v6 v0 v4 fun r4 =>
(cond r4
((gd ((decide ((v7.length + ((([] : List (Int × Int)) ++ [(v0, v4)])).length) * 16 ≤ 140737488355328)))
(rec_ v0 v1 v2 v3 ((w64 (v4 + 1))) v5 v6 ((v7 ++ (([] : List (Int × Int)) ++ [(v0, v4)]))))))
(rec_ v0 v1 v2 v3 ((w64 (v4 + 1))) v5 v6 v7)))
(rec_ v0 v1 v2 v3 ((w64 (v4 + 1))) v5 v6 v7)))
(k0 v1 v2 v5 v6 v7))
def zj119 (N : Nat)  : Nat → Int → Int → Int → Int → Int → Int → Int → List (Int × Int) → (Int → Int → Int → Int → List (Int × Int) → Option β) → Option β
  | 0, _, _, _, _, _, _, _, _, _ => none
  | F + 1, v0, v1, v2, v3, v4, v5, v6, v7, k0 => zj118 N  v0 v1 v2 v3 v4 v5 v6 v7 (fun v0 v1 v2 v3 v4 v5 v6 v7 => zj119 N  F v0 v1 v2 v3 v4 v5 v6 v7 k0) k0
def zj120 (N : Nat)  (v0 : Int) (v1 : Int) (v2 : Int) (v3 : Int) (v4 : List (Int × Int)) (rec_ : Int → Int → Int → Int → List (Int × Int) → Option β) (k0 : List (Int × Int) → Option β) : Option β :=
(cond ((decide (v1 < v0)))
(zj119 N  N v1 v0 v1 ((w64 (v1 + 1))) 0 v2 v3 v4 (fun e5_0 e5_1 e5_2 e5_3 e5_4 =>
rec_ e5_0 ((w64 (e5_1 + 1))) e5_2 e5_3 e5_4))
(k0 v4))
def zj121 (N : Nat)  : Nat → Int → Int → Int → Int → List (Int × Int) → (List (Int × Int) → Option β) → Option β
  | 0, _, _, _, _, _, _ => none
  | F + 1, v0, v1, v2, v3, v4, k0 => zj120 N  v0 v1 v2 v3 v4 (fun v0 v1 v2 v3 v4 => zj121 N  F v0 v1 v2 v3 v4 k0) k0
def zj122 (N : Nat) (a0 : Int) (a1 : Int) (k : List (Int × Int) → Option β) : Option β :=
zj108 N a0 a1 fun r3 =>
zj121 N  N r3 0 a0 a1 (([] : List (Int × Int))) (fun e6_0 =>
k e6_0)
def zj123 (N : Nat) (a0 : Int) (a1 : Int) (k : List (Int × Int) → Bool → Option β) : Option β :=
zj109 N a0 a1 fun r4 =>
(cond (!r4)
(k (([] : List (Int × Int))) false)
(zj122 N a0 a1 fun r5 =>
k r5 true))
def zj124 (N : Nat) (a0 : Int) (a1 : List (Int × Int)) (a2 : Int) (a3 : Int) (k : Bool → Option β) : Option β :=
zj64 N a0 a1 fun r5 =>
(cond r5
(zj54 N a0 a2 fun r6 =>
(cond r6
((cond ((decide (a3 ≥ 0)))
((cond ((decide (a3 < a0)))
((gd ((decide (0 ≤ a3)))
(zj67 N a1 a2 ((bits .xor .i64 a2 (shlI .i64 1 a3))) fun r7 =>
k r7)))
(k false)))
(k false)))
(k false)))
(k false))
def zj125 (N : Nat)  (v0 : Int) (v1 : Int) (v2 : Int) (v3 : Int) (v4 : List Int) (rec_ : Int → Int → Int → Int → List Int → Option β) (k0 : List Int → Option β) : Option β :=
(cond ((decide (v1 < v0)))
((gd ((decide (0 ≤ v1)))
((cond (((bits .and .i64 (shrI .i64 v2 v1) 1) == 0))
(rec_ v0 ((w64 (v1 + 1))) v2 v3 v4)
((gd ((decide (0 ≤ v1)))
((cond (((bits .and .i64 (shrI .i64 v3 v1) 1) == 0))
((gd ((decide ((v4.length + ((([] : List Int) ++ [33])).length) * 1 ≤ 140737488355328)))
((gd ((decide ((((v4 ++ (([] : List Int) ++ [33]))).length + ((([] : List Int) ++ [(w8 (97 + (w8 (v1))))])).length) * 1 ≤ 140737488355328)))
(rec_ v0 ((w64 (v1 + 1))) v2 v3 (((v4 ++ (([] : List Int) ++ [33])) ++ (([] : List Int) ++ [(w8 (97 + (w8 (v1))))]))))))))
((gd ((decide ((v4.length + ((([] : List Int) ++ [(w8 (97 + (w8 (v1))))])).length) * 1 ≤ 140737488355328)))
(rec_ v0 ((w64 (v1 + 1))) v2 v3 ((v4 ++ (([] : List Int) ++ [(w8 (97 + (w8 (v1))))]))))))))))))))
(k0 v4))
def zj126 (N : Nat)  : Nat → Int → Int → Int → Int → List Int → (List Int → Option β) → Option β
  | 0, _, _, _, _, _, _ => none
  | F + 1, v0, v1, v2, v3, v4, k0 => zj125 N  v0 v1 v2 v3 v4 (fun v0 v1 v2 v3 v4 => zj126 N  F v0 v1 v2 v3 v4 k0) k0
def zj127 (N : Nat) (a0 : Int) (a1 : Int) (a2 : Int) (k : ByteArray → Option β) : Option β :=
zj55 N a0 a1 a2 fun r4 =>
(cond (!r4)
(k ByteArray.empty)
(zj126 N  N a0 0 a1 a2 (([] : List Int)) (fun e5_0 =>
(cond (((e5_0.length : Int) == 0))
(k ((strOf [49])))
(k ((strOf e5_0)))))))
def zj128 (N : Nat)  (v0 : Int) (v1 : ByteArray) (v2 : List (Int × Int)) (v3 : Int) (v4 : Int) (v5 : List ByteArray) (rec_ : Int → ByteArray → List (Int × Int) → Int → Int → List ByteArray → Option β) (k0 : ByteArray → List ByteArray → Option β) : Option β :=
(cond ((decide (v4 < v3)))
((gd ((decide (0 ≤ v4)))
((gd ((decide (v4 < (v2.length : Int))))
(zj127 N v0 ((rd (0, 0) v2 v4).1) ((rd (0, 0) v2 v4).2) fun r4 =>
(gd ((decide (0 ≤ v4)))
((gd ((decide (v4 < (v5.length : Int))))
(rec_ v0 v1 v2 v3 ((w64 (v4 + 1))) ((wr v5 v4 r4)))))))))))
(k0 v1 v5))
def zj129 (N : Nat)  : Nat → Int → ByteArray → List (Int × Int) → Int → Int → List ByteArray → (ByteArray → List ByteArray → Option β) → Option β
  | 0, _, _, _, _, _, _, _ => none
  | F + 1, v0, v1, v2, v3, v4, v5, k0 => zj128 N  v0 v1 v2 v3 v4 v5 (fun v0 v1 v2 v3 v4 v5 => zj129 N  F v0 v1 v2 v3 v4 v5 k0) k0
def zj130 (N : Nat) (a0 : Int) (a1 : List (Int × Int)) (a2 : ByteArray) (k : ByteArray → Option β) : Option β :=
(gd ((decide (0 ≤ (a1.length : Int))))
((gd ((decide ((a1.length : Int) ≤ (a1.length : Int))))
((gd ((decide (16 * (a1.length : Int) ≤ 281474976710656)))
(zj129 N  N a0 a2 a1 ((a1.length : Int)) 0 ((List.replicate (Int.toNat (a1.length : Int)) ByteArray.empty)) (fun e5_0 e5_1 =>
strings_Join N e5_1 e5_0 fun r6 =>
k r6)))))))
def zj131 (N : Nat) (a0 : Int) (a1 : List (Int × Int)) (k : ByteArray → Option β) : Option β :=
(cond (((a1.length : Int) == 0))
(k ((strOf [48])))
(zj130 N a0 a1 ((strOf [124])) fun r3 =>
k r3))
def zj132 (N : Nat) (a0 : Int) (a1 : List (Int × Int)) (k : ByteArray → Option β) : Option β :=
zj64 N a0 a1 fun r3 =>
(cond (!r3)
(k ByteArray.empty)
(zj131 N a0 a1 fun r4 =>
k r4))
def zj133 (N : Nat) (a0 : Int) (k : Bool → Option β) : Option β :=
(cond ((decide (a0 ≥ 97)))
(k ((decide (a0 < 102))))
(k false))
def zj134 (N : Nat)  (v0 : Int) (v1 : ByteArray) (v2 : Int) (v3 : Int) (v4 : Int) (v5 : Int) (v6 : Int) (v7 : Int) (v8 : Int) (rec_ : Int → ByteArray → Int → Int → Int → Int → Int → Int → Int → Option β) (k0 : Int → ByteArray → Int → Int → Int → Int → Option β) : Option β :=
(cond ((decide (v4 < v3)))
((gd ((decide (0 ≤ v4)))
((gd ((decide (v4 < (v1.size : Int))))
((cond (((bt v1 v4) == 33))
(rec_ v0 v1 0 v3 ((w64 (v4 + 1))) v5 v6 v7 v8)
((gd ((decide (0 ≤ v4)))
((gd ((decide (v4 < (v1.size : Int))))
(zj133 N ((bt v1 v4)) fun r5 =>
(cond r5
((gd ((decide (0 ≤ v4)))
((gd ((decide (v4 < (v1.size : Int))))
((gd ((decide (0 ≤ (w8 ((bt v1 v4) - 97)))))
((gd ((decide (0 ≤ v4)))
((gd ((decide (v4 < (v1.size : Int))))
((gd ((decide (0 ≤ (w8 ((bt v1 v4) - 97)))))
(rec_ v0 v1 1 v3 ((w64 (v4 + 1))) v5 v6 ((bits .or .i64 v7 (shlI .i64 1 (w8 ((bt v1 v4) - 97))))) ((bits .or .i64 v8 (shlI .i64 v2 (w8 ((bt v1 v4) - 97))))))))))))))))))
(rec_ v0 v1 v2 v3 ((w64 (v4 + 1))) v5 v6 v7 v8)))))))))))))
(k0 v0 v1 v5 v6 v7 v8))
def zj135 (N : Nat)  : Nat → Int → ByteArray → Int → Int → Int → Int → Int → Int → Int → (Int → ByteArray → Int → Int → Int → Int → Option β) → Option β
  | 0, _, _, _, _, _, _, _, _, _, _ => none
  | F + 1, v0, v1, v2, v3, v4, v5, v6, v7, v8, k0 => zj134 N  v0 v1 v2 v3 v4 v5 v6 v7 v8 (fun v0 v1 v2 v3 v4 v5 v6 v7 v8 => zj135 N  F v0 v1 v2 v3 v4 v5 v6 v7 v8 k0) k0
def zj136 (N : Nat) (a0 : Int) (a1 : ByteArray) (k : Int → Int → Bool → Option β) : Option β :=
(cond ((!(a1.toList == ((strOf [49])).toList)))
(zj135 N  N a0 a1 1 ((a1.size : Int)) 0 0 0 0 0 (fun e6_0 e6_1 e6_2 e6_3 e6_4 e6_5 =>
(cond ((e6_1.toList == ByteArray.empty.toList))
(k 0 0 false)
(zj127 N e6_0 e6_4 e6_5 fun r7 =>
(cond ((!(r7.toList == e6_1.toList)))
(k 0 0 false)
(k e6_4 e6_5 true))))))
((cond ((a1.toList == ByteArray.empty.toList))
(k 0 0 false)
(zj127 N a0 0 0 fun r8 =>
(cond ((!(r8.toList == a1.toList)))
(k 0 0 false)
(k 0 0 true))))))
def zj137 (N : Nat)  (v0 : Int) (v1 : Int) (v2 : Int) (v3 : List (Int × Int)) (v4 : List ByteArray) (rec_ : Int → Int → Int → List (Int × Int) → List ByteArray → Option β) (k0 : Bool → List (Int × Int) → Option β) (k1 : Int → List (Int × Int) → Option β) : Option β :=
(cond ((decide (v2 < v1)))
((gd ((decide (0 ≤ v2)))
((gd ((decide (v2 < (v4.length : Int))))
(zj136 N v0 ((rd ByteArray.empty v4 v2)) fun r6 r7 r8 =>
(cond (!r8)
(k0 false (([] : List (Int × Int))))
((gd ((decide ((v3.length + ((([] : List (Int × Int)) ++ [(r6, r7)])).length) * 16 ≤ 140737488355328)))
(rec_ v0 v1 ((w64 (v2 + 1))) ((v3 ++ (([] : List (Int × Int)) ++ [(r6, r7)]))) v4)))))))))
(k1 v0 v3))
def zj138 (N : Nat)  : Nat → Int → Int → Int → List (Int × Int) → List ByteArray → (Bool → List (Int × Int) → Option β) → (Int → List (Int × Int) → Option β) → Option β
  | 0, _, _, _, _, _, _, _ => none
  | F + 1, v0, v1, v2, v3, v4, k0, k1 => zj137 N  v0 v1 v2 v3 v4 (fun v0 v1 v2 v3 v4 => zj138 N  F v0 v1 v2 v3 v4 k0 k1) k0 k1
def zj139 (N : Nat) (a0 : Int) (a1 : ByteArray) (k : List (Int × Int) → Bool → Option β) : Option β :=
zj53 N a0 fun r4 =>
(cond (!r4)
(k (([] : List (Int × Int))) false)
((cond ((decide ((a1.size : Int) > 200)))
(k (([] : List (Int × Int))) false)
((cond ((a1.toList == ((strOf [48])).toList))
(k (([] : List (Int × Int))) true)
(strings_Split N a1 ((strOf [124])) fun r5 =>
zj138 N  N a0 ((r5.length : Int)) 0 (([] : List (Int × Int))) r5 (fun e9_0 e9_1 =>
k e9_1 e9_0) (fun e10_0 e10_1 =>
zj64 N e10_0 e10_1 fun r11 =>
(cond (!r11)
(k (([] : List (Int × Int))) false)
(k e10_1 true)))))))))
def zj140 (N : Nat) (a0 : List Int) (k : Int → List (Int × Int) → Option β) : Option β :=
zj51 N a0 fun r3 r4 =>
k r3 r4
def zj141 (N : Nat)  (v0 : Int) (v1 : ByteArray) (v2 : Int) (v3 : Int) (v4 : Int) (rec_ : Int → ByteArray → Int → Int → Int → Option β) (k0 : Int → ByteArray → Int → Int → Option β) : Option β :=
zj76 N v0 v3 v4 fun r4 =>
(cond r4
((cond ((decide (v2 < v0)))
((gd ((decide (0 ≤ v2)))
((cond (((bits .and .i64 (shrI .i64 v3 v2) 1) == 0))
(rec_ v0 v1 ((w64 (v2 + 1))) v3 v4)
((gd ((decide (0 ≤ v2)))
((cond (((bits .and .i64 (shrI .i64 v4 v2) 1) == 0))
((gd ((decide (v1.size + ((strOf [33])).size ≤ 9223372036854775807)))
((gd ((decide (0 ≤ (w64 (v2 + 1)))))
((gd ((decide ((w64 (v2 + 1)) ≤ (((strOf [97, 98, 99, 100, 101])).size : Int))))
((gd ((decide (0 ≤ v2)))
((gd ((decide (v2 ≤ (w64 (v2 + 1)))))
((gd ((decide (((v1 ++ (strOf [33]))).size + ((((strOf [97, 98, 99, 100, 101])).extract (Int.toNat v2) (Int.toNat (w64 (v2 + 1))))).size ≤ 9223372036854775807)))
(rec_ v0 (((v1 ++ (strOf [33])) ++ (((strOf [97, 98, 99, 100, 101])).extract (Int.toNat v2) (Int.toNat (w64 (v2 + 1)))))) ((w64 (v2 + 1))) v3 v4)))))))))))))
((gd ((decide (0 ≤ (w64 (v2 + 1)))))
((gd ((decide ((w64 (v2 + 1)) ≤ (((strOf [97, 98, 99, 100, 101])).size : Int))))
((gd ((decide (0 ≤ v2)))
((gd ((decide (v2 ≤ (w64 (v2 + 1)))))
((gd ((decide (v1.size + ((((strOf [97, 98, 99, 100, 101])).extract (Int.toNat v2) (Int.toNat (w64 (v2 + 1))))).size ≤ 9223372036854775807)))
(rec_ v0 ((v1 ++ (((strOf [97, 98, 99, 100, 101])).extract (Int.toNat v2) (Int.toNat (w64 (v2 + 1)))))) ((w64 (v2 + 1))) v3 v4)))))))))))))))))))
(k0 v0 v1 v3 v4)))
(k0 v0 v1 v3 v4))
def zj142 (N : Nat)  : Nat → Int → ByteArray → Int → Int → Int → (Int → ByteArray → Int → Int → Option β) → Option β
  | 0, _, _, _, _, _, _ => none
  | F + 1, v0, v1, v2, v3, v4, k0 => zj141 N  v0 v1 v2 v3 v4 (fun v0 v1 v2 v3 v4 => zj142 N  F v0 v1 v2 v3 v4 k0) k0
def zj143 (N : Nat) (a0 : Int) (a1 : Int) (a2 : Int) (k : ByteArray → Option β) : Option β :=
zj142 N  N a0 ByteArray.empty 0 a1 a2 (fun e5_0 e5_1 e5_2 e5_3 =>
(cond ((e5_1.toList == ByteArray.empty.toList))
(zj76 N e5_0 e5_2 e5_3 fun r6 =>
(cond r6
(k ((strOf [49])))
(k e5_1)))
(k e5_1)))
def zj144 (N : Nat)  (v0 : Int) (v1 : List (Int × Int)) (v2 : ByteArray) (v3 : Int) (rec_ : Int → List (Int × Int) → ByteArray → Int → Option β) (k0 : Int → List (Int × Int) → ByteArray → Option β) : Option β :=
(cond ((decide (v3 < (v1.length : Int))))
(zj79 N v0 v1 fun r3 =>
(cond r3
((cond ((decide (v3 > 0)))
((gd ((decide (v2.size + ((strOf [124])).size ≤ 9223372036854775807)))
((gd ((decide (0 ≤ v3)))
((gd ((decide (v3 < (v1.length : Int))))
(zj143 N v0 ((rd (0, 0) v1 v3).1) ((rd (0, 0) v1 v3).2) fun r4 =>
(gd ((decide (((v2 ++ (strOf [124]))).size + r4.size ≤ 9223372036854775807)))
(rec_ v0 v1 (((v2 ++ (strOf [124])) ++ r4)) ((w64 (v3 + 1))))))))))))
((gd ((decide (0 ≤ v3)))
((gd ((decide (v3 < (v1.length : Int))))
(zj143 N v0 ((rd (0, 0) v1 v3).1) ((rd (0, 0) v1 v3).2) fun r5 =>
(gd ((decide (v2.size + r5.size ≤ 9223372036854775807)))
(rec_ v0 v1 ((v2 ++ r5)) ((w64 (v3 + 1))))))))))))
(k0 v0 v1 v2)))
(k0 v0 v1 v2))
def zj145 (N : Nat)  : Nat → Int → List (Int × Int) → ByteArray → Int → (Int → List (Int × Int) → ByteArray → Option β) → Option β
  | 0, _, _, _, _, _ => none
  | F + 1, v0, v1, v2, v3, k0 => zj144 N  v0 v1 v2 v3 (fun v0 v1 v2 v3 => zj145 N  F v0 v1 v2 v3 k0) k0
def zj146 (N : Nat) (a0 : Int) (a1 : List (Int × Int)) (k : ByteArray → Option β) : Option β :=
zj145 N  N a0 a1 ByteArray.empty 0 (fun e6_0 e6_1 e6_2 =>
(cond ((e6_2.toList == ByteArray.empty.toList))
(zj79 N e6_0 e6_1 fun r7 =>
(cond r7
(k ((strOf [48])))
(k e6_2)))
(k e6_2)))
def zj147 (N : Nat)  (v0 : Int) (v1 : Int) (v2 : List Int) (v3 : Int) (v4 : Int) (v5 : List Int) (rec_ : Int → Int → List Int → Int → Int → List Int → Option β) (k0 : List Int → Int → Int → List Int → Option β) : Option β :=
(cond ((decide (v1 > 0)))
(zj26 N v2 v3 v4 (fun r9_0 r9_1 r9_2 r9_3 =>
(cond ((v0 == 1))
((cond ((v0 == 2))
((gd ((decide ((v5.length + ((([] : List Int) ++ [(w8 ((w64 (97 + (remI (remI r9_0 2) 4)))))])).length) * 1 ≤ 140737488355328)))
(rec_ v0 ((w64 (v1 - 1))) r9_1 r9_2 r9_3 ((v5 ++ (([] : List Int) ++ [(w8 ((w64 (97 + (remI (remI r9_0 2) 4)))))]))))))
((gd ((decide ((v5.length + ((([] : List Int) ++ [(w8 ((remI r9_0 2)))])).length) * 1 ≤ 140737488355328)))
(rec_ v0 ((w64 (v1 - 1))) r9_1 r9_2 r9_3 ((v5 ++ (([] : List Int) ++ [(w8 ((remI r9_0 2)))]))))))))
((cond ((v0 == 2))
((gd ((decide ((v5.length + ((([] : List Int) ++ [(w8 ((w64 (97 + (remI r9_0 4)))))])).length) * 1 ≤ 140737488355328)))
(rec_ v0 ((w64 (v1 - 1))) r9_1 r9_2 r9_3 ((v5 ++ (([] : List Int) ++ [(w8 ((w64 (97 + (remI r9_0 4)))))]))))))
((gd ((decide ((v5.length + ((([] : List Int) ++ [(w8 (r9_0))])).length) * 1 ≤ 140737488355328)))
(rec_ v0 ((w64 (v1 - 1))) r9_1 r9_2 r9_3 ((v5 ++ (([] : List Int) ++ [(w8 (r9_0))])))))))))))
(k0 v2 v3 v4 v5))
def zj148 (N : Nat)  : Nat → Int → Int → List Int → Int → Int → List Int → (List Int → Int → Int → List Int → Option β) → Option β
  | 0, _, _, _, _, _, _, _ => none
  | F + 1, v0, v1, v2, v3, v4, v5, k0 => zj147 N  v0 v1 v2 v3 v4 v5 (fun v0 v1 v2 v3 v4 v5 => zj148 N  F v0 v1 v2 v3 v4 v5 k0) k0
def zj149 (N : Nat) (a0 : Int) (a1 : List Int) (a2 : Int) (a3 : Int) (k0 : ByteArray → List Int → Int → Int → Option β) : Option β :=
zj27 N 4 a1 a2 a3 (fun r7_0 r7_1 r7_2 r7_3 =>
zj27 N ((w64 (a0 + 1))) r7_1 r7_2 r7_3 (fun r8_0 r8_1 r8_2 r8_3 =>
zj148 N  N r7_0 r8_0 r8_1 r8_2 r8_3 (([] : List Int)) (fun e10_0 e10_1 e10_2 e10_3 =>
k0 ((strOf e10_3)) e10_0 e10_1 e10_2)))
def zj150 (N : Nat) (a0 : ByteArray) (a1 : List Int) (a2 : Int) (a3 : Int) (k0 : ByteArray → List Int → Int → Int → Option β) : Option β :=
(cond (((a0.size : Int) == 0))
(zj149 N 3 a1 a2 a3 (fun r11_0 r11_1 r11_2 r11_3 =>
k0 r11_0 r11_1 r11_2 r11_3))
(zj27 N ((a0.size : Int)) a1 a2 a3 (fun r12_0 r12_1 r12_2 r12_3 =>
zj27 N 4 r12_1 r12_2 r12_3 (fun r13_0 r13_1 r13_2 r13_3 =>
(cond ((r13_0 == 0))
((gd ((decide (0 ≤ r12_0)))
((gd ((decide (r12_0 ≤ (a0.size : Int))))
((gd ((decide (0 ≤ (w64 (r12_0 + 1)))))
((gd ((decide ((w64 (r12_0 + 1)) ≤ (a0.size : Int))))
((gd ((decide (((a0.extract 0 (Int.toNat r12_0))).size + ((a0.extract (Int.toNat (w64 (r12_0 + 1))) a0.size)).size ≤ 9223372036854775807)))
(k0 (((a0.extract 0 (Int.toNat r12_0)) ++ (a0.extract (Int.toNat (w64 (r12_0 + 1))) a0.size))) r13_1 r13_2 r13_3)))))))))))
((cond ((r13_0 == 1))
((gd ((decide (0 ≤ r12_0)))
((gd ((decide (r12_0 ≤ (a0.size : Int))))
((gd ((decide (0 ≤ r12_0)))
((gd ((decide (r12_0 ≤ (a0.size : Int))))
(zj26 N r13_1 r13_2 r13_3 (fun r14_0 r14_1 r14_2 r14_3 =>
(gd ((decide (((a0.extract 0 (Int.toNat r12_0))).size + ((strOf ((([] : List Int) ++ [(w8 (r14_0))])))).size ≤ 9223372036854775807)))
((gd ((decide ((((a0.extract 0 (Int.toNat r12_0)) ++ (strOf ((([] : List Int) ++ [(w8 (r14_0))]))))).size + ((a0.extract (Int.toNat r12_0) a0.size)).size ≤ 9223372036854775807)))
(k0 ((((a0.extract 0 (Int.toNat r12_0)) ++ (strOf ((([] : List Int) ++ [(w8 (r14_0))])))) ++ (a0.extract (Int.toNat r12_0) a0.size))) r14_1 r14_2 r14_3))))))))))))))
((cond ((r13_0 == 2))
((gd ((decide (0 ≤ r12_0)))
((gd ((decide (r12_0 ≤ (a0.size : Int))))
(k0 ((a0.extract 0 (Int.toNat r12_0))) r13_1 r13_2 r13_3)))))
((gd ((decide (0 ≤ r12_0)))
((gd ((decide (r12_0 ≤ (a0.size : Int))))
((gd ((decide (0 ≤ r12_0)))
((gd ((decide (r12_0 < (a0.size : Int))))
((gd ((decide (0 ≤ (w64 (r12_0 + 1)))))
((gd ((decide ((w64 (r12_0 + 1)) ≤ (a0.size : Int))))
(zj27 N 255 r13_1 r13_2 r13_3 (fun r15_0 r15_1 r15_2 r15_3 =>
(gd ((decide (((a0.extract 0 (Int.toNat r12_0))).size + ((strOf ((([] : List Int) ++ [(w8 ((bits .xor .i64 (w64 ((bt a0 r12_0))) (w64 (1 + r15_0)))))])))).size ≤ 9223372036854775807)))
((gd ((decide ((((a0.extract 0 (Int.toNat r12_0)) ++ (strOf ((([] : List Int) ++ [(w8 ((bits .xor .i64 (w64 ((bt a0 r12_0))) (w64 (1 + r15_0)))))]))))).size + ((a0.extract (Int.toNat (w64 (r12_0 + 1))) a0.size)).size ≤ 9223372036854775807)))
(k0 ((((a0.extract 0 (Int.toNat r12_0)) ++ (strOf ((([] : List Int) ++ [(w8 ((bits .xor .i64 (w64 ((bt a0 r12_0))) (w64 (1 + r15_0)))))])))) ++ (a0.extract (Int.toNat (w64 (r12_0 + 1))) a0.size))) r15_1 r15_2 r15_3)))))))))))))))))))))))))))
def zj151 (N : Nat) (a0 : List Int) (a1 : Int) (a2 : Int) (a3 : List ByteArray) (k0 : ByteArray → List Int → Int → Int → List ByteArray → Option β) : Option β :=
zj27 N ((a3.length : Int)) a0 a1 a2 (fun r17_0 r17_1 r17_2 r17_3 =>
(gd ((decide (0 ≤ r17_0)))
((gd ((decide (r17_0 < (a3.length : Int))))
(k0 ((rd ByteArray.empty a3 r17_0)) r17_1 r17_2 r17_3 a3)))))
def zj152 (N : Nat) (a0 : List Int) (k : Int → ByteArray → Option β) : Option β :=
zj3 N a0 (fun r3_0 r3_1 r3_2 =>
zj50 N r3_0 r3_1 r3_2 (fun r4_0 r4_1 r4_2 r4_3 r4_4 =>
zj146 N r4_0 r4_4 fun r5 =>
zj27 N 4 r4_1 r4_2 r4_3 (fun r6_0 r6_1 r6_2 r6_3 =>
(cond ((r6_0 == 0))
(zj150 N r5 r6_1 r6_2 r6_3 (fun r7_0 r7_1 r7_2 r7_3 =>
k r4_0 r7_0))
((cond ((r6_0 == 1))
(zj151 N r6_1 r6_2 r6_3 ((((((((((([] : List ByteArray) ++ [ByteArray.empty]) ++ [(strOf [48])]) ++ [(strOf [49])]) ++ [(strOf [97, 124])]) ++ [(strOf [124, 97])]) ++ [(strOf [97, 124, 97])]) ++ [(strOf [97, 98, 124, 33, 97])]) ++ [(strOf [97, 124, 124, 98])]) ++ [(strOf [97, 124, 48])])) (fun r8_0 r8_1 r8_2 r8_3 r8_4 =>
k r4_0 r8_0))
(k r4_0 r5)))))))
def zj153 (N : Nat)  (v0 : Int) (v1 : ByteArray) (v2 : Bool) (v3 : Int) (v4 : Int) (v5 : Int) (v6 : Int) (v7 : Int) (rec_ : Int → ByteArray → Bool → Int → Int → Int → Int → Int → Option β) (k0 : Bool → Int → Int → Option β) (k1 : Int → ByteArray → Int → Int → Int → Int → Option β) : Option β :=
(cond ((decide (v3 < (v1.size : Int))))
((cond ((!(v1.toList == ((strOf [49])).toList)))
((gd ((decide (0 ≤ v3)))
((gd ((decide (v3 < (v1.size : Int))))
((cond (((bt v1 v3) == 33))
(rec_ v0 v1 true ((w64 (v3 + 1))) v4 v5 v6 v7)
((gd ((decide (0 ≤ v3)))
((gd ((decide (v3 < (v1.size : Int))))
(zj4 N v0 0 5 fun r5 =>
(cond (!r5)
(k0 false 0 0)
(zj4 N ((w64 ((w64 ((bt v1 v3))) - 97))) 0 ((w64 (v0 - 1))) fun r6 =>
(cond (!r6)
(k0 false 0 0)
((gd ((decide (0 ≤ (w64 ((w64 ((bt v1 v3))) - 97)))))
((cond (!v2)
((gd ((decide (0 ≤ (w64 ((w64 ((bt v1 v3))) - 97)))))
(rec_ v0 v1 false ((w64 (v3 + 1))) v4 v5 ((bits .or .i64 v6 (shlI .i64 1 (w64 ((w64 ((bt v1 v3))) - 97))))) ((bits .or .i64 v7 (shlI .i64 1 (w64 ((w64 ((bt v1 v3))) - 97))))))))
(rec_ v0 v1 false ((w64 (v3 + 1))) v4 v5 ((bits .or .i64 v6 (shlI .i64 1 (w64 ((w64 ((bt v1 v3))) - 97))))) v7)))))))))))))))))))
(k1 v0 v1 v4 v5 v6 v7)))
(k1 v0 v1 v4 v5 v6 v7))
def zj154 (N : Nat)  : Nat → Int → ByteArray → Bool → Int → Int → Int → Int → Int → (Bool → Int → Int → Option β) → (Int → ByteArray → Int → Int → Int → Int → Option β) → Option β
  | 0, _, _, _, _, _, _, _, _, _, _ => none
  | F + 1, v0, v1, v2, v3, v4, v5, v6, v7, k0, k1 => zj153 N  v0 v1 v2 v3 v4 v5 v6 v7 (fun v0 v1 v2 v3 v4 v5 v6 v7 => zj154 N  F v0 v1 v2 v3 v4 v5 v6 v7 k0 k1) k0 k1
def zj155 (N : Nat) (a0 : Int) (a1 : ByteArray) (k : Int → Int → Bool → Option β) : Option β :=
zj154 N  N a0 a1 false 0 0 0 0 0 (fun e7_0 e7_1 e7_2 =>
k e7_1 e7_2 e7_0) (fun e8_0 e8_1 e8_2 e8_3 e8_4 e8_5 =>
(cond ((e8_1.toList == ByteArray.empty.toList))
(k 0 0 false)
(zj143 N e8_0 e8_4 e8_5 fun r9 =>
(cond ((!(r9.toList == e8_1.toList)))
(k 0 0 false)
(k e8_4 e8_5 true)))))
def zj156 (N : Nat)  (v0 : Int) (v1 : ByteArray) (v2 : ByteArray) (v3 : Int) (v4 : List (Int × Int)) (rec_ : Int → ByteArray → ByteArray → Int → List (Int × Int) → Option β) (k0 : Bool → List (Int × Int) → Option β) (k1 : Int → ByteArray → List (Int × Int) → Option β) : Option β :=
(cond ((decide (v3 ≤ (v1.size : Int))))
((cond ((decide ((v1.size : Int) ≤ 200)))
((cond ((decide (v3 < (v1.size : Int))))
((gd ((decide (0 ≤ v3)))
((gd ((decide (v3 < (v1.size : Int))))
((cond (((bt v1 v3) != 124))
((gd ((decide (0 ≤ (w64 (v3 + 1)))))
((gd ((decide ((w64 (v3 + 1)) ≤ (v1.size : Int))))
((gd ((decide (0 ≤ v3)))
((gd ((decide (v3 ≤ (w64 (v3 + 1)))))
((gd ((decide (v2.size + ((v1.extract (Int.toNat v3) (Int.toNat (w64 (v3 + 1))))).size ≤ 9223372036854775807)))
(rec_ v0 v1 ((v2 ++ (v1.extract (Int.toNat v3) (Int.toNat (w64 (v3 + 1)))))) ((w64 (v3 + 1))) v4)))))))))))
(zj155 N v0 v2 fun r5 r6 r7 =>
(cond (!r7)
(k0 false (([] : List (Int × Int))))
((gd ((decide ((v4.length + ((([] : List (Int × Int)) ++ [(r5, r6)])).length) * 16 ≤ 140737488355328)))
(rec_ v0 v1 ByteArray.empty ((w64 (v3 + 1))) ((v4 ++ (([] : List (Int × Int)) ++ [(r5, r6)]))))))))))))))
(zj155 N v0 v2 fun r8 r9 r10 =>
(cond (!r10)
(k0 false (([] : List (Int × Int))))
((gd ((decide ((v4.length + ((([] : List (Int × Int)) ++ [(r8, r9)])).length) * 16 ≤ 140737488355328)))
(rec_ v0 v1 ByteArray.empty ((w64 (v3 + 1))) ((v4 ++ (([] : List (Int × Int)) ++ [(r8, r9)]))))))))))
(k1 v0 v1 v4)))
(k1 v0 v1 v4))
def zj157 (N : Nat)  : Nat → Int → ByteArray → ByteArray → Int → List (Int × Int) → (Bool → List (Int × Int) → Option β) → (Int → ByteArray → List (Int × Int) → Option β) → Option β
  | 0, _, _, _, _, _, _, _ => none
  | F + 1, v0, v1, v2, v3, v4, k0, k1 => zj156 N  v0 v1 v2 v3 v4 (fun v0 v1 v2 v3 v4 => zj157 N  F v0 v1 v2 v3 v4 k0 k1) k0 k1
def zj158 (N : Nat) (a0 : Int) (a1 : ByteArray) (k : List (Int × Int) → Bool → Option β) : Option β :=
(cond ((a1.toList == ((strOf [48])).toList))
(zj4 N a0 0 5 fun r4 =>
k (([] : List (Int × Int))) r4)
(zj157 N  N a0 a1 ByteArray.empty 0 (([] : List (Int × Int))) (fun e11_0 e11_1 =>
k e11_1 e11_0) (fun e12_0 e12_1 e12_2 =>
(cond ((decide ((e12_1.size : Int) > 200)))
(k (([] : List (Int × Int))) false)
(zj79 N e12_0 e12_2 fun r13 =>
(cond (!r13)
(k (([] : List (Int × Int))) false)
(k e12_2 true)))))))
def zj159 (N : Nat)  (v0 : List Int) (v1 : Int) (v2 : Int) (v3 : List (Int × Int)) (v4 : List (List Int)) (rec_ : List Int → Int → Int → List (Int × Int) → List (List Int) → Option β) (k0 : Int → Int → Int → List (Int × Int) → Option β) (k1 : List Int → Int → List (Int × Int) → Option β) : Option β :=
(cond ((decide (v2 < v1)))
((cond ((decide ((v4.length : Int) > 0)))
((cond (((remI (v0.length : Int) 2) == 0))
((gd (((v4.length : Int) != 0))
((gd ((decide (0 ≤ (remI (quoI .i64 (v0.length : Int) 2) (v4.length : Int)))))
((gd ((decide ((remI (quoI .i64 (v0.length : Int) 2) (v4.length : Int)) < (v4.length : Int))))
((gd ((decide (0 < (((rd [] v4 (remI (quoI .i64 (v0.length : Int) 2) (v4.length : Int)))).length : Int))))
((gd ((decide (1 < (((rd [] v4 (remI (quoI .i64 (v0.length : Int) 2) (v4.length : Int)))).length : Int))))
((gd ((decide (0 ≤ v2)))
((cond (((bits .xor .i64 (rd 0 ((rd [] v4 (remI (quoI .i64 (v0.length : Int) 2) (v4.length : Int)))) 0) (rd 0 ((rd [] v4 (remI (quoI .i64 (v0.length : Int) 2) (v4.length : Int)))) 1)) == (shlI .i64 1 v2)))
((gd ((decide (0 ≤ (remI (quoI .i64 (v0.length : Int) 4) 2))))
((gd ((decide ((remI (quoI .i64 (v0.length : Int) 4) 2) < (((rd [] v4 (remI (quoI .i64 (v0.length : Int) 2) (v4.length : Int)))).length : Int))))
(k0 v1 ((rd 0 ((rd [] v4 (remI (quoI .i64 (v0.length : Int) 2) (v4.length : Int)))) (remI (quoI .i64 (v0.length : Int) 4) 2))) v2 v3)))))
(rec_ v0 v1 ((w64 (v2 + 1))) v3 v4)))))))))))))))
(k1 v0 v1 v3)))
(k1 v0 v1 v3)))
(k1 v0 v1 v3))
def zj160 (N : Nat)  : Nat → List Int → Int → Int → List (Int × Int) → List (List Int) → (Int → Int → Int → List (Int × Int) → Option β) → (List Int → Int → List (Int × Int) → Option β) → Option β
  | 0, _, _, _, _, _, _, _ => none
  | F + 1, v0, v1, v2, v3, v4, k0, k1 => zj159 N  v0 v1 v2 v3 v4 (fun v0 v1 v2 v3 v4 => zj160 N  F v0 v1 v2 v3 v4 k0 k1) k0 k1
def zj161 (N : Nat) (a0 : List Int) (k : Int → List (Int × Int) → Int → Int → Option β) : Option β :=
zj51 N a0 fun r5 r6 =>
zj87 N r5 r6 fun r7 r8 =>
zj160 N  N a0 r5 0 r6 r7 (fun e9_0 e9_1 e9_2 e9_3 =>
k e9_0 e9_3 e9_1 e9_2) (fun e10_0 e10_1 e10_2 =>
k e10_1 e10_2 ((w64 ((remI (e10_0.length : Int) 17) - 1))) ((w64 ((remI (e10_0.length : Int) 6) - 1))))
def zj162 (N : Nat) (a0 : Int) (a1 : List (Int × Int)) (a2 : Int) (a3 : Int) (k : Bool → Option β) : Option β :=
zj79 N a0 a1 fun r5 =>
(cond r5
((gd ((decide (0 ≤ a0)))
(zj4 N a2 0 ((w64 ((shlI .i64 1 a0) - 1))) fun r6 =>
(cond r6
(zj4 N a3 0 ((w64 (a0 - 1))) fun r7 =>
(cond r7
((gd ((decide (0 ≤ a3)))
(zj82 N a1 a2 ((bits .xor .i64 a2 (shlI .i64 1 a3))) fun r8 =>
k r8)))
(k false)))
(k false)))))
(k false))
def zj163 (N : Nat)  (v0 : List Int) (v1 : Int) (v2 : Int) (v3 : Int) (v4 : List (Int × Int)) (v5 : List (List Int)) (rec_ : List Int → Int → Int → Int → List (Int × Int) → List (List Int) → Option β) (k0 : List Int → Int → Int → Int → List (Int × Int) → List (List Int) → Option β) : Option β :=
(gd ((decide (0 ≤ v2)))
((gd ((decide (v2 < (v5.length : Int))))
((gd ((decide (0 < (((rd [] v5 v2)).length : Int))))
((gd ((decide (0 ≤ v2)))
((gd ((decide (v2 < (v5.length : Int))))
((gd ((decide (1 < (((rd [] v5 v2)).length : Int))))
((gd ((decide (0 ≤ v3)))
((cond (((bits .xor .i64 (rd 0 ((rd [] v5 v2)) 0) (rd 0 ((rd [] v5 v2)) 1)) != (shlI .i64 1 v3)))
(rec_ v0 v1 v2 ((w64 (v3 + 1))) v4 v5)
(k0 v0 v1 v2 v3 v4 v5))))))))))))))))
def zj164 (N : Nat)  : Nat → List Int → Int → Int → Int → List (Int × Int) → List (List Int) → (List Int → Int → Int → Int → List (Int × Int) → List (List Int) → Option β) → Option β
  | 0, _, _, _, _, _, _, _ => none
  | F + 1, v0, v1, v2, v3, v4, v5, k0 => zj163 N  v0 v1 v2 v3 v4 v5 (fun v0 v1 v2 v3 v4 v5 => zj164 N  F v0 v1 v2 v3 v4 v5 k0) k0
def zj165 (N : Nat)  (v0 : List Int) (v1 : Int) (v2 : Int) (v3 : List (Int × Int)) (v4 : List (List Int)) (rec_ : List Int → Int → Int → List (Int × Int) → List (List Int) → Option β) (k0 : Bool → Option β) (k1 : List Int → Int → List (Int × Int) → Option β) : Option β :=
(cond ((decide (v2 < (v4.length : Int))))
(zj164 N  N v0 v1 v2 0 v3 v4 (fun e26_0 e26_1 e26_2 e26_3 e26_4 e26_5 =>
(gd ((decide (0 ≤ e26_2)))
((gd ((decide (e26_2 < (e26_5.length : Int))))
((gd ((decide (0 < (((rd [] e26_5 e26_2)).length : Int))))
(zj124 N e26_1 e26_4 ((rd 0 ((rd [] e26_5 e26_2)) 0)) e26_3 fun r27 =>
(cond (!r27)
(k0 false)
((gd ((decide (0 ≤ e26_2)))
((gd ((decide (e26_2 < (e26_5.length : Int))))
((gd ((decide (1 < (((rd [] e26_5 e26_2)).length : Int))))
(zj124 N e26_1 e26_4 ((rd 0 ((rd [] e26_5 e26_2)) 1)) e26_3 fun r28 =>
(cond (!r28)
(k0 false)
(rec_ e26_0 e26_1 ((w64 (e26_2 + 1))) e26_4 e26_5))))))))))))))))))
(k1 v0 v1 v3))
def zj166 (N : Nat)  : Nat → List Int → Int → Int → List (Int × Int) → List (List Int) → (Bool → Option β) → (List Int → Int → List (Int × Int) → Option β) → Option β
  | 0, _, _, _, _, _, _, _ => none
  | F + 1, v0, v1, v2, v3, v4, k0, k1 => zj165 N  v0 v1 v2 v3 v4 (fun v0 v1 v2 v3 v4 => zj166 N  F v0 v1 v2 v3 v4 k0 k1) k0 k1
def zj167 (N : Nat) (a0 : List Int) (k : Bool → Option β) : Option β :=
zj0 N a0 fun r2 =>
(cond r2
(k true)
(zj52 N a0 fun r3 r4 =>
zj75 N r3 r4 fun r5 r6 =>
zj90 N r3 r4 fun r7 r8 =>
zj91 N r3 r4 fun r9 r10 =>
zj87 N r3 r4 fun r11 r12 =>
(cond ((!(r6 == r8)))
(k false)
(zj94 N r5 r7 fun r13 =>
(cond (!r13)
(k false)
((cond ((!(r10 == r12)))
(k false)
(zj100 N r9 r11 fun r14 =>
(cond (!r14)
(k false)
(zj101 N r3 r4 fun r15 =>
(cond r12
((cond ((!(r15 == ((r11.length : Int) == 0))))
(k false)
((cond r6
(zj107 N r3 r4 fun r16 r17 r18 =>
zj107 N r3 r7 fun r19 r20 r21 =>
zj123 N r16 r17 fun r22 r23 =>
(cond ((!((r16 == r19) && (r17 == r20))))
(k false)
(zj101 N r3 r7 fun r24 =>
(cond (!r24)
(k false)
((cond ((decide ((r22.length : Int) ≤ 40)))
(zj101 N r3 r22 fun r25 =>
(cond (!r25)
(k false)
(zj166 N  N a0 r3 0 r4 r11 (fun e29_0 =>
k e29_0) (fun e30_0 e30_1 e30_2 =>
zj132 N e30_1 e30_2 fun r31 =>
zj139 N e30_1 r31 fun r32 r33 =>
(cond (!r33)
(k false)
(zj94 N r32 e30_2 fun r34 =>
(cond (!r34)
(k false)
(zj140 N e30_0 fun r35 r36 =>
zj152 N e30_0 fun r37 r38 =>
zj139 N r37 r38 fun r39 r40 =>
zj158 N r37 r38 fun r41 r42 =>
zj161 N e30_0 fun r43 r44 r45 r46 =>
zj132 N r35 r36 fun r47 =>
zj146 N r35 r36 fun r48 =>
(cond ((r47.toList == r48.toList))
((cond ((r40 == r42))
(zj94 N r39 r41 fun r49 =>
(cond r49
(zj124 N r43 r44 r45 r46 fun r50 =>
zj162 N r43 r44 r45 r46 fun r51 =>
k ((r50 == r51)))
(k false)))
(k false)))
(k false))))))))))
(zj166 N  N a0 r3 0 r4 r11 (fun e52_0 =>
k e52_0) (fun e53_0 e53_1 e53_2 =>
zj132 N e53_1 e53_2 fun r54 =>
zj139 N e53_1 r54 fun r55 r56 =>
(cond (!r56)
(k false)
(zj94 N r55 e53_2 fun r57 =>
(cond (!r57)
(k false)
(zj140 N e53_0 fun r58 r59 =>
zj152 N e53_0 fun r60 r61 =>
zj139 N r60 r61 fun r62 r63 =>
zj158 N r60 r61 fun r64 r65 =>
zj161 N e53_0 fun r66 r67 r68 r69 =>
zj132 N r58 r59 fun r70 =>
zj146 N r58 r59 fun r71 =>
(cond ((r70.toList == r71.toList))
((cond ((r63 == r65))
(zj94 N r62 r64 fun r72 =>
(cond r72
(zj124 N r66 r67 r68 r69 fun r73 =>
zj162 N r66 r67 r68 r69 fun r74 =>
k ((r73 == r74)))
(k false)))
(k false)))
(k false))))))))))))))
(zj140 N a0 fun r75 r76 =>
zj152 N a0 fun r77 r78 =>
zj139 N r77 r78 fun r79 r80 =>
zj158 N r77 r78 fun r81 r82 =>
zj161 N a0 fun r83 r84 r85 r86 =>
zj132 N r75 r76 fun r87 =>
zj146 N r75 r76 fun r88 =>
(cond ((r87.toList == r88.toList))
((cond ((r80 == r82))
(zj94 N r79 r81 fun r89 =>
(cond r89
(zj124 N r83 r84 r85 r86 fun r90 =>
zj162 N r83 r84 r85 r86 fun r91 =>
k ((r90 == r91)))
(k false)))
(k false)))
(k false)))))))
((cond ((!(r15 == false)))
(k false)
((cond r6
(zj107 N r3 r4 fun r92 r93 r94 =>
zj107 N r3 r7 fun r95 r96 r97 =>
zj123 N r92 r93 fun r98 r99 =>
(cond ((!((r92 == r95) && (r93 == r96))))
(k false)
(zj101 N r3 r7 fun r100 =>
(cond (!r100)
(k false)
((cond ((decide ((r98.length : Int) ≤ 40)))
(zj101 N r3 r98 fun r101 =>
(cond (!r101)
(k false)
(zj166 N  N a0 r3 0 r4 r11 (fun e102_0 =>
k e102_0) (fun e103_0 e103_1 e103_2 =>
zj132 N e103_1 e103_2 fun r104 =>
zj139 N e103_1 r104 fun r105 r106 =>
(cond (!r106)
(k false)
(zj94 N r105 e103_2 fun r107 =>
(cond (!r107)
(k false)
(zj140 N e103_0 fun r108 r109 =>
zj152 N e103_0 fun r110 r111 =>
zj139 N r110 r111 fun r112 r113 =>
zj158 N r110 r111 fun r114 r115 =>
zj161 N e103_0 fun r116 r117 r118 r119 =>
zj132 N r108 r109 fun r120 =>
zj146 N r108 r109 fun r121 =>
(cond ((r120.toList == r121.toList))
((cond ((r113 == r115))
(zj94 N r112 r114 fun r122 =>
(cond r122
(zj124 N r116 r117 r118 r119 fun r123 =>
zj162 N r116 r117 r118 r119 fun r124 =>
k ((r123 == r124)))
(k false)))
(k false)))
(k false))))))))))
(zj166 N  N a0 r3 0 r4 r11 (fun e125_0 =>
k e125_0) (fun e126_0 e126_1 e126_2 =>
zj132 N e126_1 e126_2 fun r127 =>
zj139 N e126_1 r127 fun r128 r129 =>
(cond (!r129)
(k false)
(zj94 N r128 e126_2 fun r130 =>
(cond (!r130)
(k false)
(zj140 N e126_0 fun r131 r132 =>
zj152 N e126_0 fun r133 r134 =>
zj139 N r133 r134 fun r135 r136 =>
zj158 N r133 r134 fun r137 r138 =>
zj161 N e126_0 fun r139 r140 r141 r142 =>
zj132 N r131 r132 fun r143 =>
zj146 N r131 r132 fun r144 =>
(cond ((r143.toList == r144.toList))
((cond ((r136 == r138))
(zj94 N r135 r137 fun r145 =>
(cond r145
(zj124 N r139 r140 r141 r142 fun r146 =>
zj162 N r139 r140 r141 r142 fun r147 =>
k ((r146 == r147)))
(k false)))
(k false)))
(k false))))))))))))))
(zj140 N a0 fun r148 r149 =>
zj152 N a0 fun r150 r151 =>
zj139 N r150 r151 fun r152 r153 =>
zj158 N r150 r151 fun r154 r155 =>
zj161 N a0 fun r156 r157 r158 r159 =>
zj132 N r148 r149 fun r160 =>
zj146 N r148 r149 fun r161 =>
(cond ((r160.toList == r161.toList))
((cond ((r153 == r155))
(zj94 N r152 r154 fun r162 =>
(cond r162
(zj124 N r156 r157 r158 r159 fun r163 =>
zj162 N r156 r157 r158 r159 fun r164 =>
k ((r163 == r164)))
(k false)))
(k false)))
(k false))))))))))))))))))
end Go.Proofs.YtddflpokemgnmaaGreatDoor
