/- The texts of the functions that the claims reach: plain Lean, no program. -/
import Derived.Test.YtmhlcbibbhelkaaDoorSizT
namespace Go.Proofs.YtmhlcbibbhelkaaDoor
open Go.Rv
set_option linter.unusedVariables false
set_option maxRecDepth 100000
abbrev O := Option
variable {β : Type}
def zj0 (N : Nat) (a0 : Int) (c0 : Int) (k : Bool → Option β) : Option β :=
(gd ((decide (0 ≤ c0)))
(k (((bits .and .i64 (shrI .i64 a0 c0) 1) == 1))))
def zj1 (N : Nat) (a1 : (Int → (Bool → Option β) → Option β)) (v0 : Int) (v1 : Int) (v2 : Int) (v3 : Int) (v4 : Int) (v5 : Int) (rec_ : Int → Int → Int → Int → Int → Int → Option β) (k0 : Int → Int → Int → Int → Option β) : Option β :=
(cond ((decide (v1 < v0)))
(a1 v1 fun r4 =>
(cond r4
((gd ((decide (0 ≤ v1)))
(rec_ v0 ((w64 (v1 + 1))) v2 v3 v4 ((bits .or .i64 v5 (shlI .i64 1 v1))))))
(rec_ v0 ((w64 (v1 + 1))) v2 v3 v4 v5)))
(k0 v2 v3 v4 v5))
def zj2 (N : Nat) (a1 : (Int → (Bool → Option β) → Option β)) : Nat → Int → Int → Int → Int → Int → Int → (Int → Int → Int → Int → Option β) → Option β
  | 0, _, _, _, _, _, _, _ => none
  | F + 1, v0, v1, v2, v3, v4, v5, k0 => zj1 N a1 v0 v1 v2 v3 v4 v5 (fun v0 v1 v2 v3 v4 v5 => zj2 N a1 F v0 v1 v2 v3 v4 v5 k0) k0
def zj3 (N : Nat) (a0 : Int) (a1 : (Int → (Bool → Option β) → Option β)) (k : Int → Int → Option β) : Option β :=
(gd ((decide (0 ≤ a0)))
(zj2 N a1 N ((shlI .i64 1 a0)) 0 0 0 a0 0 (fun e5_0 e5_1 e5_2 e5_3 =>
k e5_2 e5_3)))
def zj4 (N : Nat) (a0 : Int) (a1 : Int) (k : Int → Int → Option β) : Option β :=
zj3 N a0 (fun x0 k => zj0 N x0 a1 k) fun r4 r5 =>
k r4 r5
def zj5 (N : Nat)  (v0 : Int) (v1 : Int) (v2 : Int) (v3 : Int) (rec_ : Int → Int → Int → Int → Option β) (k0 : Int → Option β) : Option β :=
(gd ((decide (0 ≤ v0)))
((cond ((decide (v3 < (shlI .i64 1 v0))))
((gd ((decide (0 ≤ v1)))
((cond (((bits .and .i64 (shrI .i64 v3 v1) 1) == 1))
((gd ((decide (0 ≤ v3)))
(rec_ v0 v1 ((bits .or .i64 v2 (shlI .i64 1 v3))) ((w64 (v3 + 1))))))
(rec_ v0 v1 v2 ((w64 (v3 + 1))))))))
(k0 v2))))
def zj6 (N : Nat)  : Nat → Int → Int → Int → Int → (Int → Option β) → Option β
  | 0, _, _, _, _, _ => none
  | F + 1, v0, v1, v2, v3, k0 => zj5 N  v0 v1 v2 v3 (fun v0 v1 v2 v3 => zj6 N  F v0 v1 v2 v3 k0) k0
def zj7 (N : Nat) (a0 : Int) (a1 : Int) (k : Int → Option β) : Option β :=
zj6 N  N a0 a1 0 0 (fun e3_0 =>
k e3_0)
def zj8 (N : Nat)  (v0 : List Int) (v1 : Int) (v2 : Int) (v3 : Int) (rec_ : List Int → Int → Int → Int → Option β) (k0 : Int → Option β) (k1 : Option β) : Option β :=
(cond ((decide (v3 < v2)))
((gd ((decide (0 ≤ v3)))
((gd ((decide (v3 < (v0.length : Int))))
((cond ((v1 == (rd 0 v0 v3)))
(k0 v3)
(rec_ v0 v1 v2 ((w64 (v3 + 1))))))))))
(k1 ))
def zj9 (N : Nat)  : Nat → List Int → Int → Int → Int → (Int → Option β) → (Option β) → Option β
  | 0, _, _, _, _, _, _ => none
  | F + 1, v0, v1, v2, v3, k0, k1 => zj8 N  v0 v1 v2 v3 (fun v0 v1 v2 v3 => zj9 N  F v0 v1 v2 v3 k0 k1) k0 k1
def zj10 (N : Nat) (a0 : List Int) (a1 : Int) (k : Int → Option β) : Option β :=
zj9 N  N a0 a1 ((a0.length : Int)) 0 (fun e3_0 =>
k e3_0) (k (-1))
def zj11 (N : Nat) (a0 : List Int) (a1 : Int) (k : Bool → Option β) : Option β :=
zj10 N a0 a1 fun r3 =>
k ((decide (r3 ≥ 0)))
def zj12 (N : Nat) (a0 : Int) (a1 : Int) (k : Int → Int → Option β) : Option β :=
k a0 a1
def zj13 (N : Nat) (a0 : Int) (a1 : Int) (a2 : Int) (k : Bool → Option β) : Option β :=
(cond ((decide (a0 ≥ a1)))
(k ((decide (a0 ≤ a2))))
(k false))
def zj14 (N : Nat) (a0 : Int) (a1 : Int) (k : Bool → Option β) : Option β :=
zj13 N a0 0 5 fun r3 =>
(cond r3
((gd ((decide (0 ≤ a0)))
((gd ((decide (0 ≤ (shlI .u64 1 a0))))
(zj13 N a1 0 ((w64 ((shlI .i64 1 (shlI .u64 1 a0)) - 1))) fun r4 =>
k r4)))))
(k false))
def zj15 (N : Nat) (a0 : Int) (k : Int → Option β) : Option β :=
(gd ((decide (0 ≤ a0)))
((gd ((decide (0 ≤ (shlI .u64 1 a0))))
(k ((w64 ((shlI .i64 1 (shlI .u64 1 a0)) - 1)))))))
def zj16 (N : Nat)  (v0 : List Int) (v1 : Int) (v2 : Int) (v3 : Int) (rec_ : List Int → Int → Int → Int → Option β) (k0 : ByteArray → Option β) (k1 : List Int → Int → Int → Option β) : Option β :=
(cond ((decide (v3 < v1)))
((gd ((decide (0 ≤ v2)))
((gd ((decide (v2 < (v0.length : Int))))
((cond (((rd 0 v0 v2) == 1))
(zj7 N v1 v3 fun r5 =>
(cond ((v2 == r5))
((gd ((decide (0 ≤ (w64 (v3 + 1)))))
((gd ((decide ((w64 (v3 + 1)) ≤ (((strOf [97, 98, 99, 100, 101])).size : Int))))
((gd ((decide (0 ≤ v3)))
((gd ((decide (v3 ≤ (w64 (v3 + 1)))))
(k0 ((((strOf [97, 98, 99, 100, 101])).extract (Int.toNat v3) (Int.toNat (w64 (v3 + 1))))))))))))))
(zj15 N v1 fun r6 =>
zj7 N v1 v3 fun r7 =>
(cond ((v2 == (w64 (r6 - r7))))
((gd ((decide (0 ≤ (w64 (v3 + 1)))))
((gd ((decide ((w64 (v3 + 1)) ≤ (((strOf [97, 98, 99, 100, 101])).size : Int))))
((gd ((decide (0 ≤ v3)))
((gd ((decide (v3 ≤ (w64 (v3 + 1)))))
((gd ((decide (((strOf [33])).size + ((((strOf [97, 98, 99, 100, 101])).extract (Int.toNat v3) (Int.toNat (w64 (v3 + 1))))).size ≤ 9223372036854775807)))
(k0 (((strOf [33]) ++ (((strOf [97, 98, 99, 100, 101])).extract (Int.toNat v3) (Int.toNat (w64 (v3 + 1)))))))))))))))))
(rec_ v0 v1 v2 ((w64 (v3 + 1))))))))
(k1 v0 v1 v2)))))))
(k1 v0 v1 v2))
def zj17 (N : Nat)  : Nat → List Int → Int → Int → Int → (ByteArray → Option β) → (List Int → Int → Int → Option β) → Option β
  | 0, _, _, _, _, _, _ => none
  | F + 1, v0, v1, v2, v3, k0, k1 => zj16 N  v0 v1 v2 v3 (fun v0 v1 v2 v3 => zj17 N  F v0 v1 v2 v3 k0 k1) k0 k1
def zj18 (N : Nat) (self : List Int → Int → Int → (ByteArray → Option β) → Option β)  (v0 : List Int) (v1 : Int) (v2 : Int) (v3 : Int) (v4 : Int) (v5 : Int) (rec_ : List Int → Int → Int → Int → Int → Int → Option β) (k0 : ByteArray → Option β) (k1 : List Int → Int → Int → Int → Int → Option β) : Option β :=
zj15 N v1 fun r11 =>
(cond ((decide (v5 < r11)))
((gd ((decide (0 ≤ v4)))
((gd ((decide (v4 < (v0.length : Int))))
((gd ((decide (0 ≤ v5)))
((gd ((decide (v5 < (v0.length : Int))))
((gd ((decide (0 ≤ v2)))
((gd ((decide (v2 < (v0.length : Int))))
((cond (((w64 ((rd 0 v0 v4) + (rd 0 v0 v5))) != (rd 0 v0 v2)))
(rec_ v0 v1 v2 v3 v4 ((w64 (v5 + 1))))
((cond ((v3 == 0))
((cond (((bits .and .i64 v4 v5) == v2))
(self v0 v1 v4 fun r12 =>
(gd ((decide (((strOf [38])).size + r12.size ≤ 9223372036854775807)))
(self v0 v1 v5 fun r13 =>
(gd ((decide ((((strOf [38]) ++ r12)).size + r13.size ≤ 9223372036854775807)))
(k0 ((((strOf [38]) ++ r12) ++ r13)))))))
((cond ((v3 == 1))
((cond (((bits .or .i64 v4 v5) == v2))
(self v0 v1 v4 fun r14 =>
(gd ((decide (((strOf [124])).size + r14.size ≤ 9223372036854775807)))
(self v0 v1 v5 fun r15 =>
(gd ((decide ((((strOf [124]) ++ r14)).size + r15.size ≤ 9223372036854775807)))
(k0 ((((strOf [124]) ++ r14) ++ r15)))))))
(rec_ v0 v1 v2 v3 v4 ((w64 (v5 + 1))))))
(rec_ v0 v1 v2 v3 v4 ((w64 (v5 + 1))))))))
((cond ((v3 == 1))
((cond (((bits .or .i64 v4 v5) == v2))
(self v0 v1 v4 fun r16 =>
(gd ((decide (((strOf [124])).size + r16.size ≤ 9223372036854775807)))
(self v0 v1 v5 fun r17 =>
(gd ((decide ((((strOf [124]) ++ r16)).size + r17.size ≤ 9223372036854775807)))
(k0 ((((strOf [124]) ++ r16) ++ r17)))))))
(rec_ v0 v1 v2 v3 v4 ((w64 (v5 + 1))))))
(rec_ v0 v1 v2 v3 v4 ((w64 (v5 + 1))))))))))))))))))))))
(k1 v0 v1 v2 v3 v4))
def zj19 (N : Nat) (self : List Int → Int → Int → (ByteArray → Option β) → Option β)  : Nat → List Int → Int → Int → Int → Int → Int → (ByteArray → Option β) → (List Int → Int → Int → Int → Int → Option β) → Option β
  | 0, _, _, _, _, _, _, _, _ => none
  | F + 1, v0, v1, v2, v3, v4, v5, k0, k1 => zj18 N self  v0 v1 v2 v3 v4 v5 (fun v0 v1 v2 v3 v4 v5 => zj19 N self  F v0 v1 v2 v3 v4 v5 k0 k1) k0 k1
def zj20 (N : Nat) (self : List Int → Int → Int → (ByteArray → Option β) → Option β)  (v0 : List Int) (v1 : Int) (v2 : Int) (v3 : Int) (v4 : Int) (rec_ : List Int → Int → Int → Int → Int → Option β) (k0 : ByteArray → Option β) (k1 : List Int → Int → Int → Int → Option β) : Option β :=
zj15 N v1 fun r10 =>
(cond ((decide (v4 < r10)))
((gd ((decide (0 ≤ v4)))
((gd ((decide (v4 < (v0.length : Int))))
((gd ((decide (0 ≤ v2)))
((gd ((decide (v2 < (v0.length : Int))))
((cond ((decide ((rd 0 v0 v4) ≥ (rd 0 v0 v2))))
(rec_ v0 v1 v2 v3 ((w64 (v4 + 1))))
(zj19 N self  N v0 v1 v2 v3 v4 1 (fun e18_0 =>
k0 e18_0) (fun e19_0 e19_1 e19_2 e19_3 e19_4 =>
rec_ e19_0 e19_1 e19_2 e19_3 ((w64 (e19_4 + 1)))))))))))))))
(k1 v0 v1 v2 v3))
def zj21 (N : Nat) (self : List Int → Int → Int → (ByteArray → Option β) → Option β)  : Nat → List Int → Int → Int → Int → Int → (ByteArray → Option β) → (List Int → Int → Int → Int → Option β) → Option β
  | 0, _, _, _, _, _, _, _ => none
  | F + 1, v0, v1, v2, v3, v4, k0, k1 => zj20 N self  v0 v1 v2 v3 v4 (fun v0 v1 v2 v3 v4 => zj21 N self  F v0 v1 v2 v3 v4 k0 k1) k0 k1
def zj22 (N : Nat) (self : List Int → Int → Int → (ByteArray → Option β) → Option β)  (v0 : List Int) (v1 : Int) (v2 : Int) (v3 : Int) (rec_ : List Int → Int → Int → Int → Option β) (k0 : ByteArray → Option β) (k1 : Option β) : Option β :=
(cond ((decide (v3 < 2)))
(zj21 N self  N v0 v1 v2 v3 1 (fun e20_0 =>
k0 e20_0) (fun e21_0 e21_1 e21_2 e21_3 =>
rec_ e21_0 e21_1 e21_2 ((w64 (e21_3 + 1)))))
(k1 ))
def zj23 (N : Nat) (self : List Int → Int → Int → (ByteArray → Option β) → Option β)  : Nat → List Int → Int → Int → Int → (ByteArray → Option β) → (Option β) → Option β
  | 0, _, _, _, _, _, _ => none
  | F + 1, v0, v1, v2, v3, k0, k1 => zj22 N self  v0 v1 v2 v3 (fun v0 v1 v2 v3 => zj23 N self  F v0 v1 v2 v3 k0 k1) k0 k1
def zj24 (N : Nat) (self : List Int → Int → Int → (ByteArray → Option β) → Option β) (a0 : List Int) (a1 : Int) (a2 : Int) (k : ByteArray → Option β) : Option β :=
(cond ((a2 == 0))
(k ((strOf [48])))
(zj15 N a1 fun r4 =>
(cond ((a2 == r4))
(k ((strOf [49])))
(zj17 N  N a0 a1 a2 0 (fun e8_0 =>
k e8_0) (fun e9_0 e9_1 e9_2 =>
zj23 N self  N e9_0 e9_1 e9_2 0 (fun e22_0 =>
k e22_0) (k ByteArray.empty))))))
def zj25 (N : Nat) : Nat → List Int → Int → Int → (ByteArray → Option β) → Option β
  | 0, _, _, _, _ => none
  | F + 1, a0, a1, a2, k => zj24 N (zj25 N F) a0 a1 a2 k
def zj26 (N : Nat) (a0 : List Int) (a1 : Int) (a2 : Int) (k : ByteArray → Option β) : Option β := zj25 N N a0 a1 a2 k
def zj27 (N : Nat) (a0 : Int) (a1 : Int) (k : ByteArray → Bool → Option β) : Option β :=
zj14 N a0 a1 fun r4 =>
(cond (!r4)
(k ByteArray.empty false)
((cond ((decide (a0 > 3)))
(k ByteArray.empty false)
(spec_l22Sizes N a0 fun r5 =>
zj26 N r5 a0 a1 fun r6 =>
k r6 true))))
def zj28 (N : Nat) (a0 : Int) (a1 : Int) (k : Int → Option β) : Option β :=
zj14 N a0 a1 fun r3 =>
(cond (!r3)
(k (-1))
((cond ((decide (a0 > 3)))
(k (-1))
(spec_l22Sizes N a0 fun r4 =>
(gd ((decide (0 ≤ a1)))
((gd ((decide (a1 < (r4.length : Int))))
(k ((rd 0 r4 a1))))))))))
def zj29 (N : Nat) (a0 : Int) (a1 : Int) (k : Int → Int → Int → Int → Int → ByteArray → List Int → Bool → Option β) : Option β :=
zj27 N a0 a1 fun r10 r11 =>
(cond (!r11)
(k 0 0 0 0 0 ByteArray.empty (([] : List Int)) false)
(zj28 N a0 a1 fun r12 =>
k 4 a0 a1 r12 0 r10 (([] : List Int)) true))
def zj30 (N : Nat) (a0 : Int) (k : Bool → Option β) : Option β :=
(cond ((decide (a0 ≥ 0)))
(k ((decide (a0 ≤ 5))))
(k false))
def zj31 (N : Nat) (a0 : Int) (a1 : Int) (k : Int → Option β) : Option β :=
(gd ((decide (0 ≤ a0)))
(k ((shlI .i64 1 a0))))
def zj32 (N : Nat) (a0 : Int) (a1 : Int) (k : Bool → Option β) : Option β :=
zj30 N a0 fun r3 =>
(cond r3
((cond ((decide (a1 ≥ 0)))
(zj31 N a0 a1 fun r4 =>
(gd ((decide (0 ≤ r4)))
(k (((shrI .i64 a1 r4) == 0)))))
(k false)))
(k false))
def zj33 (N : Nat) (a0 : Int) (a1 : Int) (a2 : Int) (k : Bool → Option β) : Option β :=
zj32 N a0 a1 fun r4 =>
(cond r4
(k ((decide (a0 ≤ a2))))
(k false))
def zj34 (N : Nat) (a0 : Int) (a1 : Int) (k : Int → Int → Option β) : Option β :=
zj31 N a0 a1 fun r4 =>
(gd ((decide (0 ≤ r4)))
(k a0 ((bits .xor .i64 a1 (w64 ((shlI .i64 1 r4) - 1))))))
def zj35 (N : Nat) (a0 : Int) (a1 : Int) (k : Bool → Option β) : Option β :=
(cond ((a1 == 0))
(k true)
(zj34 N a0 a1 fun r3 r4 =>
k ((r4 == 0))))
def zj36 (N : Nat) (a0 : Int) (a1 : Int) (a2 : Int) (k : Int → Option β) : Option β :=
(gd ((decide (0 ≤ a2)))
(k ((bits .and .i64 (shrI .i64 a1 a2) 1))))
def zj37 (N : Nat) (a0 : Int) (k : ByteArray → Option β) : Option β :=
strconv_Itoa N a0 fun r2 =>
k r2
def zj38 (N : Nat)  (v0 : List Int) (v1 : Int) (v2 : Int) (v3 : Int) (v4 : Int) (rec_ : List Int → Int → Int → Int → Int → Option β) (k0 : ByteArray → Option β) (k1 : List Int → Int → Int → Option β) : Option β :=
(cond ((decide (v2 < v1)))
(zj4 N v3 v2 fun r7 r8 =>
(cond (((v3 == r7) && (v4 == r8)))
(k0 ((strOf ((([] : List Int) ++ [(w8 (97 + (w8 (v2))))])))))
(zj34 N r7 r8 fun r9 r10 =>
(cond (((v3 == r9) && (v4 == r10)))
((gd ((decide (((strOf [33])).size + ((strOf ((([] : List Int) ++ [(w8 (97 + (w8 (v2))))])))).size ≤ 9223372036854775807)))
(k0 (((strOf [33]) ++ (strOf ((([] : List Int) ++ [(w8 (97 + (w8 (v2))))]))))))))
(rec_ v0 v1 ((w64 (v2 + 1))) v3 v4)))))
(k1 v0 v3 v4))
def zj39 (N : Nat)  : Nat → List Int → Int → Int → Int → Int → (ByteArray → Option β) → (List Int → Int → Int → Option β) → Option β
  | 0, _, _, _, _, _, _, _ => none
  | F + 1, v0, v1, v2, v3, v4, k0, k1 => zj38 N  v0 v1 v2 v3 v4 (fun v0 v1 v2 v3 v4 => zj39 N  F v0 v1 v2 v3 v4 k0 k1) k0 k1
def zj40 (N : Nat) (self : Int → Int → List Int → (ByteArray → Option β) → Option β)  (v0 : List Int) (v1 : Int) (v2 : Int) (v3 : Int) (v4 : Int) (v5 : Int) (v6 : List Int) (v7 : Int) (v8 : Int) (v9 : List Int) (v10 : Int) (v11 : Int) (v12 : Int) (v13 : Int) (v14 : List Int) (rec_ : List Int → Int → Int → Int → Int → Int → List Int → Int → Int → List Int → Int → Int → Int → Int → List Int → Option β) (k0 : ByteArray → Option β) (k1 : List Int → Int → Int → Int → List Int → Int → Int → Int → Int → List Int → Option β) : Option β :=
(cond ((decide (v11 < v10)))
((gd ((decide (0 ≤ v11)))
((gd ((decide (v11 < (v9.length : Int))))
((cond ((v1 == 124))
((cond ((decide ((rd 0 v9 v11) ≥ 1)))
((gd ((decide (0 ≤ v13)))
((gd ((decide (v13 < (v0.length : Int))))
((cond (((w64 (v3 + (rd 0 v9 v11))) == (rd 0 v0 v13)))
((cond (((bits .or .i64 v2 v11) == v13))
(self v12 v2 v0 fun r13 =>
self v12 v11 v0 fun r14 =>
(gd ((decide (((strOf ((([] : List Int) ++ [v1])))).size + r13.size ≤ 9223372036854775807)))
((gd ((decide ((((strOf ((([] : List Int) ++ [v1]))) ++ r13)).size + r14.size ≤ 9223372036854775807)))
(k0 ((((strOf ((([] : List Int) ++ [v1]))) ++ r13) ++ r14)))))))
(rec_ v0 v1 v2 v3 v4 v5 v6 v7 v8 v9 v10 ((w64 (v11 + 1))) v12 v13 v14)))
(rec_ v0 v1 v2 v3 v4 v5 v6 v7 v8 v9 v10 ((w64 (v11 + 1))) v12 v13 v14)))))))
(rec_ v0 v1 v2 v3 v4 v5 v6 v7 v8 v9 v10 ((w64 (v11 + 1))) v12 v13 v14)))
((cond ((decide ((rd 0 v9 v11) ≥ 1)))
((gd ((decide (0 ≤ v13)))
((gd ((decide (v13 < (v0.length : Int))))
((cond (((w64 (v3 + (rd 0 v9 v11))) == (rd 0 v0 v13)))
((cond (((bits .and .i64 v2 v11) == v13))
(self v12 v2 v0 fun r15 =>
self v12 v11 v0 fun r16 =>
(gd ((decide (((strOf ((([] : List Int) ++ [v1])))).size + r15.size ≤ 9223372036854775807)))
((gd ((decide ((((strOf ((([] : List Int) ++ [v1]))) ++ r15)).size + r16.size ≤ 9223372036854775807)))
(k0 ((((strOf ((([] : List Int) ++ [v1]))) ++ r15) ++ r16)))))))
(rec_ v0 v1 v2 v3 v4 v5 v6 v7 v8 v9 v10 ((w64 (v11 + 1))) v12 v13 v14)))
(rec_ v0 v1 v2 v3 v4 v5 v6 v7 v8 v9 v10 ((w64 (v11 + 1))) v12 v13 v14)))))))
(rec_ v0 v1 v2 v3 v4 v5 v6 v7 v8 v9 v10 ((w64 (v11 + 1))) v12 v13 v14)))))))))
(k1 v0 v1 v4 v5 v6 v7 v8 v12 v13 v14))
def zj41 (N : Nat) (self : Int → Int → List Int → (ByteArray → Option β) → Option β)  : Nat → List Int → Int → Int → Int → Int → Int → List Int → Int → Int → List Int → Int → Int → Int → Int → List Int → (ByteArray → Option β) → (List Int → Int → Int → Int → List Int → Int → Int → Int → Int → List Int → Option β) → Option β
  | 0, _, _, _, _, _, _, _, _, _, _, _, _, _, _, _, _, _ => none
  | F + 1, v0, v1, v2, v3, v4, v5, v6, v7, v8, v9, v10, v11, v12, v13, v14, k0, k1 => zj40 N self  v0 v1 v2 v3 v4 v5 v6 v7 v8 v9 v10 v11 v12 v13 v14 (fun v0 v1 v2 v3 v4 v5 v6 v7 v8 v9 v10 v11 v12 v13 v14 => zj41 N self  F v0 v1 v2 v3 v4 v5 v6 v7 v8 v9 v10 v11 v12 v13 v14 k0 k1) k0 k1
def zj42 (N : Nat) (self : Int → Int → List Int → (ByteArray → Option β) → Option β)  (v0 : List Int) (v1 : Int) (v2 : Int) (v3 : Int) (v4 : List Int) (v5 : Int) (v6 : Int) (v7 : Int) (v8 : Int) (v9 : List Int) (rec_ : List Int → Int → Int → Int → List Int → Int → Int → Int → Int → List Int → Option β) (k0 : ByteArray → Option β) (k1 : List Int → Int → Int → Int → Int → List Int → Option β) : Option β :=
(cond ((decide (v6 < v5)))
((gd ((decide (0 ≤ v6)))
((gd ((decide (v6 < (v4.length : Int))))
((cond ((decide ((rd 0 v4 v6) < 1)))
(rec_ v0 v1 v2 v3 v4 v5 ((w64 (v6 + 1))) v7 v8 v9)
((gd ((decide (0 ≤ v8)))
((gd ((decide (v8 < (v0.length : Int))))
((cond ((decide ((rd 0 v4 v6) ≥ (rd 0 v0 v8))))
(rec_ v0 v1 v2 v3 v4 v5 ((w64 (v6 + 1))) v7 v8 v9)
(zj41 N self  N v0 v1 v6 ((rd 0 v4 v6)) v2 v3 v4 v5 v6 v0 ((v0.length : Int)) 0 v7 v8 v9 (fun e17_0 =>
k0 e17_0) (fun e18_0 e18_1 e18_2 e18_3 e18_4 e18_5 e18_6 e18_7 e18_8 e18_9 =>
rec_ e18_0 e18_1 e18_2 e18_3 e18_4 e18_5 ((w64 (e18_6 + 1))) e18_7 e18_8 e18_9))))))))))))))
(k1 v0 v2 v3 v7 v8 v9))
def zj43 (N : Nat) (self : Int → Int → List Int → (ByteArray → Option β) → Option β)  : Nat → List Int → Int → Int → Int → List Int → Int → Int → Int → Int → List Int → (ByteArray → Option β) → (List Int → Int → Int → Int → Int → List Int → Option β) → Option β
  | 0, _, _, _, _, _, _, _, _, _, _, _, _ => none
  | F + 1, v0, v1, v2, v3, v4, v5, v6, v7, v8, v9, k0, k1 => zj42 N self  v0 v1 v2 v3 v4 v5 v6 v7 v8 v9 (fun v0 v1 v2 v3 v4 v5 v6 v7 v8 v9 => zj43 N self  F v0 v1 v2 v3 v4 v5 v6 v7 v8 v9 k0 k1) k0 k1
def zj44 (N : Nat) (self : Int → Int → List Int → (ByteArray → Option β) → Option β)  (v0 : List Int) (v1 : Int) (v2 : Int) (v3 : Int) (v4 : Int) (v5 : List Int) (rec_ : List Int → Int → Int → Int → Int → List Int → Option β) (k0 : ByteArray → Option β) (k1 : Option β) : Option β :=
(cond ((decide (v2 < v1)))
((gd ((decide (0 ≤ v2)))
((gd ((decide (v2 < (v5.length : Int))))
(zj43 N self  N v0 ((rd 0 v5 v2)) v1 v2 v0 ((v0.length : Int)) 0 v3 v4 v5 (fun e19_0 =>
k0 e19_0) (fun e20_0 e20_1 e20_2 e20_3 e20_4 e20_5 =>
rec_ e20_0 e20_1 ((w64 (e20_2 + 1))) e20_3 e20_4 e20_5))))))
(k1 ))
def zj45 (N : Nat) (self : Int → Int → List Int → (ByteArray → Option β) → Option β)  : Nat → List Int → Int → Int → Int → Int → List Int → (ByteArray → Option β) → (Option β) → Option β
  | 0, _, _, _, _, _, _, _, _ => none
  | F + 1, v0, v1, v2, v3, v4, v5, k0, k1 => zj44 N self  v0 v1 v2 v3 v4 v5 (fun v0 v1 v2 v3 v4 v5 => zj45 N self  F v0 v1 v2 v3 v4 v5 k0 k1) k0 k1
def zj46 (N : Nat) (self : Int → Int → List Int → (ByteArray → Option β) → Option β) (a0 : Int) (a1 : Int) (a2 : List Int) (k : ByteArray → Option β) : Option β :=
zj35 N a0 a1 fun r4 =>
(cond r4
(zj36 N a0 a1 0 fun r5 =>
zj37 N r5 fun r6 =>
k r6)
((gd ((decide (0 ≤ a1)))
((gd ((decide (a1 < (a2.length : Int))))
((cond (((rd 0 a2 a1) == 1))
(zj39 N  N a2 a0 0 a0 a1 (fun e11_0 =>
k e11_0) (fun e12_0 e12_1 e12_2 =>
zj45 N self  N e12_0 (((((([] : List Int) ++ [38]) ++ [124])).length : Int)) 0 e12_1 e12_2 (((([] : List Int) ++ [38]) ++ [124])) (fun e21_0 =>
k e21_0) (k ByteArray.empty)))
(zj45 N self  N a2 (((((([] : List Int) ++ [38]) ++ [124])).length : Int)) 0 a0 a1 (((([] : List Int) ++ [38]) ++ [124])) (fun e23_0 =>
k e23_0) (k ByteArray.empty)))))))))
def zj47 (N : Nat) : Nat → Int → Int → List Int → (ByteArray → Option β) → Option β
  | 0, _, _, _, _ => none
  | F + 1, a0, a1, a2, k => zj46 N (zj47 N F) a0 a1 a2 k
def zj48 (N : Nat) (a0 : Int) (a1 : Int) (a2 : List Int) (k : ByteArray → Option β) : Option β := zj47 N N a0 a1 a2 k
def zj49 (N : Nat) (a0 : Int) (a1 : Int) (k : ByteArray → Bool → Option β) : Option β :=
zj33 N a0 a1 3 fun r4 =>
(cond (!r4)
(k ByteArray.empty false)
(impl_sizes N a0 fun r5 =>
zj48 N a0 a1 r5 fun r6 =>
k r6 true))
def zj50 (N : Nat) (a0 : Int) (a1 : Int) (k : Int → Option β) : Option β :=
zj33 N a0 a1 3 fun r3 =>
(cond (!r3)
(k (-1))
(impl_sizes N a0 fun r4 =>
(gd ((decide (0 ≤ a1)))
((gd ((decide (a1 < (r4.length : Int))))
(k ((rd 0 r4 a1))))))))
def zj51 (N : Nat) (a0 : Int) (a1 : Int) (k : Int → Int → Int → Int → Int → ByteArray → List Int → Bool → Option β) : Option β :=
zj49 N a0 a1 fun r10 r11 =>
(cond (!r11)
(k 0 0 0 0 0 ByteArray.empty (([] : List Int)) false)
(zj50 N a0 a1 fun r12 =>
k 4 a0 a1 r12 0 r10 (([] : List Int)) true))
def zj52 (N : Nat) (a0 : Int) (a1 : Int) (a2 : Int) (a3 : Int) (k : Bool → Option β) : Option β :=
(cond ((a0 != a2))
(k false)
((cond ((a1 != a3))
(k false)
(k true))))
def zj53 (N : Nat)  (v0 : List Int) (v1 : List Int) (v2 : Int) (rec_ : List Int → List Int → Int → Option β) (k0 : Bool → Option β) (k1 : Option β) : Option β :=
(cond ((decide (v2 < (v0.length : Int))))
((gd ((decide (0 ≤ v2)))
((gd ((decide (v2 < (v0.length : Int))))
((gd ((decide (0 ≤ v2)))
((gd ((decide (v2 < (v1.length : Int))))
((cond (((rd 0 v0 v2) != (rd 0 v1 v2)))
(k0 false)
(rec_ v0 v1 ((w64 (v2 + 1))))))))))))))
(k1 ))
def zj54 (N : Nat)  : Nat → List Int → List Int → Int → (Bool → Option β) → (Option β) → Option β
  | 0, _, _, _, _, _ => none
  | F + 1, v0, v1, v2, k0, k1 => zj53 N  v0 v1 v2 (fun v0 v1 v2 => zj54 N  F v0 v1 v2 k0 k1) k0 k1
def zj55 (N : Nat) (a0 : List Int) (a1 : List Int) (k : Bool → Option β) : Option β :=
(cond (((a0.length : Int) != (a1.length : Int)))
(k false)
(zj54 N  N a0 a1 0 (fun e3_0 =>
k e3_0) (k true)))
def zj56 (N : Nat) (a0 : Int) (a1 : Int) (a2 : Int) (a3 : Int) (a4 : Int) (a5 : ByteArray) (a6 : List Int) (a7 : Int) (a8 : Int) (a9 : Int) (a10 : Int) (a11 : Int) (a12 : ByteArray) (a13 : List Int) (k : Bool → Option β) : Option β :=
(cond ((a0 != a7))
(k false)
(zj52 N a1 a2 a8 a9 fun r15 =>
(cond (!r15)
(k false)
((cond ((a3 != a10))
(k false)
((cond ((a4 != a11))
(k false)
((cond ((!(a5.toList == a12.toList)))
(k false)
(zj55 N a6 a13 fun r16 =>
(cond (!r16)
(k false)
(k true))))))))))))
def zj57 (N : Nat)  (v0 : List Int) (v1 : Int) (v2 : Int) (rec_ : List Int → Int → Int → Option β) (k0 : Int → Option β) (k1 : Int → Option β) : Option β :=
(cond ((decide (v2 < (v0.length : Int))))
((gd ((decide (0 ≤ v2)))
((gd ((decide (v2 < (v0.length : Int))))
((cond (((rd 0 v0 v2) != v1))
(k0 (-1))
(rec_ v0 ((w64 (v1 + 1))) ((w64 (v2 + 1))))))))))
(k1 v1))
def zj58 (N : Nat)  : Nat → List Int → Int → Int → (Int → Option β) → (Int → Option β) → Option β
  | 0, _, _, _, _, _ => none
  | F + 1, v0, v1, v2, k0, k1 => zj57 N  v0 v1 v2 (fun v0 v1 v2 => zj58 N  F v0 v1 v2 k0 k1) k0 k1
def zj59 (N : Nat) (a0 : List Int) (a1 : Int) (k : Int → Option β) : Option β :=
zj58 N  N a0 a1 0 (fun e3_0 =>
k e3_0) (fun e4_0 =>
k e4_0)
def zj60 (N : Nat) (a0 : Int) (a1 : Int) (a2 : Int) (a3 : Int) (a4 : Int) (a5 : ByteArray) (a6 : List Int) (a7 : Int) (k : Int → Option β) : Option β :=
zj59 N a6 a7 fun r9 =>
(cond ((decide (r9 < 0)))
(k (-1))
(k r9))
def zj61 (N : Nat)  (v0 : Int) (v1 : Int) (v2 : List Int) (rec_ : Int → Int → List Int → Option β) (k0 : Int → List Int → Option β) : Option β :=
(cond ((decide (v1 < (v2.length : Int))))
((gd ((decide (0 ≤ v1)))
((gd ((decide (v1 < (v2.length : Int))))
(rec_ ((w64 (v0 + 1))) ((w64 (v1 + 1))) ((wr v2 v1 v0)))))))
(k0 v0 v2))
def zj62 (N : Nat)  : Nat → Int → Int → List Int → (Int → List Int → Option β) → Option β
  | 0, _, _, _, _ => none
  | F + 1, v0, v1, v2, k0 => zj61 N  v0 v1 v2 (fun v0 v1 v2 => zj62 N  F v0 v1 v2 k0) k0
def zj63 (N : Nat) (a0 : List Int) (a1 : Int) (k : Int → List Int → Option β) : Option β :=
zj62 N  N a1 0 a0 (fun e3_0 e3_1 =>
k e3_0 e3_1)
def zj64 (N : Nat) (a0 : Int) (a1 : Int) (a2 : Int) (a3 : Int) (a4 : Int) (a5 : ByteArray) (a6 : List Int) (a7 : Int) (k : Int → List Int → Option β) : Option β :=
zj63 N a6 a7 fun r9 m10 =>
k r9 m10
def laws_FnExactClaimOfFormula (N : Nat) (a0 : Int) (a1 : Int) (k : Bool → Option β) : Option β :=
zj12 N a0 a1 fun r3 r4 =>
zj29 N r3 r4 fun r5 r6 r7 r8 r9 r10 r11 r12 =>
zj12 N a0 a1 fun r13 r14 =>
zj51 N r13 r14 fun r15 r16 r17 r18 r19 r20 r21 r22 =>
zj56 N r15 r16 r17 r18 r19 r20 r21 r5 r6 r7 r8 r9 r10 r11 fun r23 =>
(cond (!r23)
(k false)
((cond ((!(r22 == r12)))
(k false)
(zj64 N r15 r16 r17 r18 r19 r20 r21 1 fun r24 m25 =>
zj60 N r15 r16 r17 r18 r19 r20 m25 1 fun r26 =>
(cond ((decide (r26 < 0)))
(k false)
((cond ((r26 != r24))
(k false)
(zj12 N a0 a1 fun r27 r28 =>
zj51 N r27 r28 fun r29 r30 r31 r32 r33 r34 r35 r36 =>
zj56 N r29 r30 r31 r32 r33 r34 r35 r5 r6 r7 r8 r9 r10 r11 fun r37 =>
(cond (!r37)
(k false)
((cond ((!(r36 == r12)))
(k false)
(zj60 N r15 r16 r17 r18 r19 r20 m25 1 fun r38 =>
(cond ((decide (r38 < 0)))
(k false)
((cond ((r38 != r24))
(k false)
(k true))))))))))))))))
end Go.Proofs.YtmhlcbibbhelkaaDoor
