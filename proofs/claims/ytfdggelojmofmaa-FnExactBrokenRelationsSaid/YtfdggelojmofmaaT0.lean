/- The texts of the functions that the claims reach: plain Lean, no program. -/
import Derived.Test.YtfdggelojmofmaaRvShape
namespace Go.Proofs.Ytfdggelojmofmaa
open Go.Rv
set_option linter.unusedVariables false
set_option maxRecDepth 100000
/-! loop.example/g03403/laws.toTable -/
def zj0 {β : Type} (N : Nat) (a0 : Int) (a1 : Int) (k : Int → Int → Option β) : Option β :=
k a0 a1
/-! loop.example/g03403/spec.l1In -/
def zj1 {β : Type} (N : Nat) (a0 : Int) (a1 : Int) (a2 : Int) (k : Bool → Option β) : Option β :=
(cond ((decide (a0 ≥ a1)))
(k ((decide (a0 ≤ a2))))
(k false))
/-! loop.example/g03403/spec.IsTable -/
def zj2 {β : Type} (N : Nat) (a0 : Int) (a1 : Int) (k : Bool → Option β) : Option β :=
zj1 N a0 0 5 fun r3 =>
(cond r3
((gd ((decide (0 ≤ a0)))
((gd ((decide (0 ≤ (shlI .u64 1 a0))))
(zj1 N a1 0 ((w64 ((shlI .i64 1 (shlI .u64 1 a0)) - 1))) fun r4 =>
k r4)))))
(k false))
/-! loop.example/g03403/spec.RelationNames -/
def zj3 {β : Type} (N : Nat)  (k : List ByteArray → Option β) : Option β :=
k (((((((([] : List ByteArray) ++ [(strOf [111, 114, 100, 101, 114])]) ++ [(strOf [112, 114, 111, 100, 117, 99, 116])]) ++ [(strOf [104, 117, 97, 110, 103])]) ++ [(strOf [98, 108, 111, 99, 107, 115])]) ++ [(strOf [100, 101, 103, 114, 101, 101, 115])]) ++ [(strOf [118, 97, 114, 105, 97, 98, 108, 101, 115])]))
/-! loop.example/g03403/spec.l10At -/
def zj4 {β : Type} (N : Nat)  (v0 : Int) (v1 : Int) (v2 : Int) (v3 : Int) (v4 : Int) (rec_ : Int → Int → Int → Int → Int → Option β) (k0 : Int → Option β) : Option β :=
(cond ((decide (v2 < v3)))
((gd ((decide (0 ≤ v0)))
((gd ((decide (0 ≤ v2)))
((gd ((decide (0 ≤ (bits .xor .i64 v0 (shlI .i64 1 v2)))))
(rec_ v0 ((w64 (v1 + (bits .and .i64 (bits .xor .i64 (shrI .i64 v4 v0) (shrI .i64 v4 (bits .xor .i64 v0 (shlI .i64 1 v2)))) 1)))) ((w64 (v2 + 1))) v3 v4)))))))
(k0 v1))
def zj5 {β : Type} (N : Nat)  : Nat → Int → Int → Int → Int → Int → (Int → Option β) → Option β
  | 0, _, _, _, _, _, _ => none
  | F + 1, v0, v1, v2, v3, v4, k0 => zj4 N  v0 v1 v2 v3 v4 (fun v0 v1 v2 v3 v4 => zj5 N  F v0 v1 v2 v3 v4 k0) k0
def zj6 {β : Type} (N : Nat) (a0 : Int) (a1 : Int) (a2 : Int) (k : Int → Option β) : Option β :=
zj5 N  N a2 0 0 a0 a1 (fun e4_0 =>
k e4_0)
/-! loop.example/g03403/spec.SensitivityOf -/
def zj7 {β : Type} (N : Nat)  (v0 : Int) (v1 : Int) (v2 : Int) (v3 : Int) (rec_ : Int → Int → Int → Int → Option β) (k0 : Int → Option β) : Option β :=
(gd ((decide (0 ≤ v2)))
((cond ((decide (v1 < (shlI .i64 1 v2))))
(zj6 N v2 v3 v1 fun r4 =>
rec_ ((mxI v0 r4)) ((w64 (v1 + 1))) v2 v3)
(k0 v0))))
def zj8 {β : Type} (N : Nat)  : Nat → Int → Int → Int → Int → (Int → Option β) → Option β
  | 0, _, _, _, _, _ => none
  | F + 1, v0, v1, v2, v3, k0 => zj7 N  v0 v1 v2 v3 (fun v0 v1 v2 v3 => zj8 N  F v0 v1 v2 v3 k0) k0
def zj9 {β : Type} (N : Nat) (a0 : Int) (a1 : Int) (k : Int → Option β) : Option β :=
zj2 N a0 a1 fun r3 =>
(cond (!r3)
(k (-1))
(zj8 N  N 0 0 a0 a1 (fun e5_0 =>
k e5_0)))
/-! loop.example/g03403/spec.l9In -/
def zj10 {β : Type} (N : Nat) (a0 : Int) (a1 : Int) (a2 : Int) (k : Bool → Option β) : Option β :=
zj2 N a0 a1 fun r4 =>
(cond r4
((gd ((decide (0 ≤ a0)))
(zj1 N a2 0 ((w64 ((shlI .i64 1 a0) - 1))) fun r5 =>
k r5)))
(k false))
/-! loop.example/g03403/spec.l10Blocks -/
def zj11 {β : Type} (N : Nat)  (v0 : Int) (v1 : Int) (v2 : Bool) (v3 : Int) (v4 : Int) (v5 : Int) (v6 : List Int) (rec_ : Int → Int → Bool → Int → Int → Int → List Int → Option β) (k0 : Int → Int → Bool → Int → Int → List Int → Option β) : Option β :=
(cond ((decide (v3 < (v6.length : Int))))
((cond v2
((gd ((decide (0 ≤ v3)))
((gd ((decide (v3 < (v6.length : Int))))
((gd ((decide (0 ≤ v3)))
((gd ((decide (v3 < (v6.length : Int))))
(rec_ v0 v1 (((bits .and .i64 (rd 0 v6 v3) v1) != (rd 0 v6 v3))) ((w64 (v3 + 1))) v4 v5 v6)))))))))
(rec_ v0 v1 false ((w64 (v3 + 1))) v4 v5 v6)))
(k0 v0 v1 v2 v4 v5 v6))
def zj12 {β : Type} (N : Nat)  : Nat → Int → Int → Bool → Int → Int → Int → List Int → (Int → Int → Bool → Int → Int → List Int → Option β) → Option β
  | 0, _, _, _, _, _, _, _, _ => none
  | F + 1, v0, v1, v2, v3, v4, v5, v6, k0 => zj11 N  v0 v1 v2 v3 v4 v5 v6 (fun v0 v1 v2 v3 v4 v5 v6 => zj12 N  F v0 v1 v2 v3 v4 v5 v6 k0) k0
def zj13 {β : Type} (N : Nat)  (v0 : Int) (v1 : Int) (v2 : Int) (v3 : Int) (v4 : List Int) (rec_ : Int → Int → Int → Int → List Int → Option β) (k0 : List Int → Option β) : Option β :=
(gd ((decide (0 ≤ v2)))
((cond ((decide (v1 < (shlI .i64 1 v2))))
((gd ((decide (0 ≤ v0)))
((gd ((decide (0 ≤ (bits .xor .i64 v0 v1))))
((cond (((bits .and .i64 (shrI .i64 v3 v0) 1) == (bits .and .i64 (shrI .i64 v3 (bits .xor .i64 v0 v1)) 1)))
(rec_ v0 ((w64 (v1 + 1))) v2 v3 v4)
(zj12 N  N v0 v1 true 0 v2 v3 v4 (fun e4_0 e4_1 e4_2 e4_3 e4_4 e4_5 =>
(cond e4_2
((gd ((decide ((e4_5.length + ((([] : List Int) ++ [e4_1])).length) * 8 ≤ 140737488355328)))
(rec_ e4_0 ((w64 (e4_1 + 1))) e4_3 e4_4 ((e4_5 ++ (([] : List Int) ++ [e4_1]))))))
(rec_ e4_0 ((w64 (e4_1 + 1))) e4_3 e4_4 e4_5))))))))))
(k0 v4))))
def zj14 {β : Type} (N : Nat)  : Nat → Int → Int → Int → Int → List Int → (List Int → Option β) → Option β
  | 0, _, _, _, _, _, _ => none
  | F + 1, v0, v1, v2, v3, v4, k0 => zj13 N  v0 v1 v2 v3 v4 (fun v0 v1 v2 v3 v4 => zj14 N  F v0 v1 v2 v3 v4 k0) k0
def zj15 {β : Type} (N : Nat) (a0 : Int) (a1 : Int) (a2 : Int) (k : List Int → Option β) : Option β :=
zj14 N  N a2 1 a0 a1 (([] : List Int)) (fun e5_0 =>
k e5_0)
/-! loop.example/g03403/spec.l10Pack -/
def zj16 {β : Type} (N : Nat) (self : List Int → Int → Int → (Int → Option β) → Option β)  (v0 : List Int) (v1 : Int) (v2 : Int) (v3 : Int) (rec_ : List Int → Int → Int → Int → Option β) (k0 : Int → Option β) : Option β :=
(cond ((decide (v3 < (v0.length : Int))))
((gd ((decide (0 ≤ v3)))
((gd ((decide (v3 < (v0.length : Int))))
((cond (((bits .and .i64 (rd 0 v0 v3) v1) == 0))
((gd ((decide (0 ≤ v3)))
((gd ((decide (v3 < (v0.length : Int))))
(self v0 ((w64 (v3 + 1))) ((bits .or .i64 v1 (rd 0 v0 v3))) fun r4 =>
rec_ v0 v1 ((mxI v2 (w64 (1 + r4)))) ((w64 (v3 + 1))))))))
(rec_ v0 v1 v2 ((w64 (v3 + 1))))))))))
(k0 v2))
def zj17 {β : Type} (N : Nat) (self : List Int → Int → Int → (Int → Option β) → Option β)  : Nat → List Int → Int → Int → Int → (Int → Option β) → Option β
  | 0, _, _, _, _, _ => none
  | F + 1, v0, v1, v2, v3, k0 => zj16 N self  v0 v1 v2 v3 (fun v0 v1 v2 v3 => zj17 N self  F v0 v1 v2 v3 k0) k0
def zj18 {β : Type} (N : Nat) (self : List Int → Int → Int → (Int → Option β) → Option β) (a0 : List Int) (a1 : Int) (a2 : Int) (k : Int → Option β) : Option β :=
zj17 N self  N a0 a2 0 a1 (fun e5_0 =>
k e5_0)
def zj19 {β : Type} (N : Nat) : Nat → List Int → Int → Int → (Int → Option β) → Option β
  | 0, _, _, _, _ => none
  | F + 1, a0, a1, a2, k => zj18 N (zj19 N F) a0 a1 a2 k
def zj20 {β : Type} (N : Nat) (a0 : List Int) (a1 : Int) (a2 : Int) (k : Int → Option β) : Option β := zj19 N N a0 a1 a2 k
/-! loop.example/g03403/spec.BlockSensitivityAt -/
def zj21 {β : Type} (N : Nat) (a0 : Int) (a1 : Int) (a2 : Int) (k : Int → Option β) : Option β :=
zj10 N a0 a1 a2 fun r4 =>
(cond (!r4)
(k (-1))
(zj15 N a0 a1 a2 fun r5 =>
zj20 N r5 0 0 fun r6 =>
k r6))
/-! loop.example/g03403/spec.BlockSensitivityOf -/
def zj22 {β : Type} (N : Nat)  (v0 : Int) (v1 : Int) (v2 : Int) (v3 : Int) (rec_ : Int → Int → Int → Int → Option β) (k0 : Int → Option β) : Option β :=
(gd ((decide (0 ≤ v2)))
((cond ((decide (v1 < (shlI .i64 1 v2))))
(zj21 N v2 v3 v1 fun r4 =>
rec_ ((mxI v0 r4)) ((w64 (v1 + 1))) v2 v3)
(k0 v0))))
def zj23 {β : Type} (N : Nat)  : Nat → Int → Int → Int → Int → (Int → Option β) → Option β
  | 0, _, _, _, _, _ => none
  | F + 1, v0, v1, v2, v3, k0 => zj22 N  v0 v1 v2 v3 (fun v0 v1 v2 v3 => zj23 N  F v0 v1 v2 v3 k0) k0
def zj24 {β : Type} (N : Nat) (a0 : Int) (a1 : Int) (k : Int → Option β) : Option β :=
zj2 N a0 a1 fun r3 =>
(cond (!r3)
(k (-1))
(zj23 N  N 0 0 a0 a1 (fun e5_0 =>
k e5_0)))
/-! loop.example/g03403/spec.l2Count -/
def zj25 {β : Type} (N : Nat)  (v0 : Int) (v1 : Int) (rec_ : Int → Int → Option β) (k0 : Int → Option β) : Option β :=
(cond ((decide (v1 > 0)))
(rec_ ((w64 (v0 + (bits .and .i64 v1 1)))) ((shrI .i64 v1 1)))
(k0 v0))
def zj26 {β : Type} (N : Nat)  : Nat → Int → Int → (Int → Option β) → Option β
  | 0, _, _, _ => none
  | F + 1, v0, v1, k0 => zj25 N  v0 v1 (fun v0 v1 => zj26 N  F v0 v1 k0) k0
def zj27 {β : Type} (N : Nat) (a0 : Int) (k : Int → Option β) : Option β :=
zj26 N  N 0 a0 (fun e2_0 =>
k e2_0)
/-! loop.example/g03403/spec.l3Cube -/
def zj28 {β : Type} (N : Nat)  (v0 : Int) (v1 : Int) (v2 : Int) (v3 : Int) (v4 : Int) (v5 : Int) (rec_ : Int → Int → Int → Int → Int → Int → Option β) (k0 : Int → Option β) (k1 : Int → Option β) : Option β :=
(gd ((decide (0 ≤ v4)))
((cond ((decide (v3 < (shlI .i64 1 v4))))
((cond (((bits .and .i64 v3 v0) != v1))
(rec_ v0 v1 v2 ((w64 (v3 + 1))) v4 v5)
((gd ((decide (0 ≤ v3)))
((cond ((decide (v2 ≥ 0)))
((cond ((v2 != (bits .and .i64 (shrI .i64 v5 v3) 1)))
(k0 2)
(rec_ v0 v1 ((bits .and .i64 (shrI .i64 v5 v3) 1)) ((w64 (v3 + 1))) v4 v5)))
(rec_ v0 v1 ((bits .and .i64 (shrI .i64 v5 v3) 1)) ((w64 (v3 + 1))) v4 v5)))))))
(k1 v2))))
def zj29 {β : Type} (N : Nat)  : Nat → Int → Int → Int → Int → Int → Int → (Int → Option β) → (Int → Option β) → Option β
  | 0, _, _, _, _, _, _, _, _ => none
  | F + 1, v0, v1, v2, v3, v4, v5, k0, k1 => zj28 N  v0 v1 v2 v3 v4 v5 (fun v0 v1 v2 v3 v4 v5 => zj29 N  F v0 v1 v2 v3 v4 v5 k0 k1) k0 k1
def zj30 {β : Type} (N : Nat) (a0 : Int) (a1 : Int) (a2 : Int) (a3 : Int) (k : Int → Option β) : Option β :=
zj29 N  N a2 a3 (-1) 0 a0 a1 (fun e5_0 =>
k e5_0) (fun e6_0 =>
k e6_0)
/-! loop.example/g03403/spec.l9Set -/
def zj31 {β : Type} (N : Nat)  (v0 : Int) (v1 : Int) (v2 : Int) (v3 : Int) (v4 : Int) (rec_ : Int → Int → Int → Int → Int → Option β) (k0 : Int → Option β) : Option β :=
(gd ((decide (0 ≤ v3)))
((cond ((decide (v2 < (shlI .i64 1 v3))))
(zj27 N v2 fun r4 =>
zj27 N v1 fun r5 =>
(cond ((decide (r4 < r5)))
(zj30 N v3 v4 v2 ((bits .and .i64 v0 v2)) fun r6 =>
(cond ((decide (r6 < 2)))
(rec_ v0 v2 ((w64 (v2 + 1))) v3 v4)
(rec_ v0 v1 ((w64 (v2 + 1))) v3 v4)))
(rec_ v0 v1 ((w64 (v2 + 1))) v3 v4)))
(k0 v1))))
def zj32 {β : Type} (N : Nat)  : Nat → Int → Int → Int → Int → Int → (Int → Option β) → Option β
  | 0, _, _, _, _, _, _ => none
  | F + 1, v0, v1, v2, v3, v4, k0 => zj31 N  v0 v1 v2 v3 v4 (fun v0 v1 v2 v3 v4 => zj32 N  F v0 v1 v2 v3 v4 k0) k0
def zj33 {β : Type} (N : Nat) (a0 : Int) (a1 : Int) (a2 : Int) (k : Int → Option β) : Option β :=
(gd ((decide (0 ≤ a0)))
(zj32 N  N a2 ((w64 ((shlI .i64 1 a0) - 1))) 0 a0 a1 (fun e7_0 =>
k e7_0)))
/-! loop.example/g03403/spec.CertificateAt -/
def zj34 {β : Type} (N : Nat) (a0 : Int) (a1 : Int) (a2 : Int) (k : Int → Option β) : Option β :=
zj10 N a0 a1 a2 fun r4 =>
(cond (!r4)
(k (-1))
(zj33 N a0 a1 a2 fun r5 =>
zj27 N r5 fun r6 =>
k r6))
/-! loop.example/g03403/spec.CertificateOf -/
def zj35 {β : Type} (N : Nat)  (v0 : Int) (v1 : Int) (v2 : Int) (v3 : Int) (v4 : Int) (rec_ : Int → Int → Int → Int → Int → Option β) (k0 : Int → Option β) : Option β :=
(gd ((decide (0 ≤ v3)))
((cond ((decide (v2 < (shlI .i64 1 v3))))
((gd ((decide (0 ≤ v2)))
((cond (((bits .and .i64 (shrI .i64 v4 v2) 1) == v0))
(zj34 N v3 v4 v2 fun r6 =>
rec_ v0 ((mxI v1 r6)) ((w64 (v2 + 1))) v3 v4)
(rec_ v0 v1 ((w64 (v2 + 1))) v3 v4)))))
(k0 v1))))
def zj36 {β : Type} (N : Nat)  : Nat → Int → Int → Int → Int → Int → (Int → Option β) → Option β
  | 0, _, _, _, _, _, _ => none
  | F + 1, v0, v1, v2, v3, v4, k0 => zj35 N  v0 v1 v2 v3 v4 (fun v0 v1 v2 v3 v4 => zj36 N  F v0 v1 v2 v3 v4 k0) k0
def zj37 {β : Type} (N : Nat) (a0 : Int) (a1 : Int) (a2 : Int) (k : Int → Option β) : Option β :=
zj2 N a0 a1 fun r4 =>
(cond (!r4)
(k (-1))
(zj1 N a2 0 1 fun r5 =>
(cond (!r5)
(k (-1))
(zj36 N  N a2 0 0 a0 a1 (fun e7_0 =>
k e7_0)))))
/-! loop.example/g03403/spec.l7Least -/
def zj38 {β : Type} (N : Nat) (self : Int → Int → Int → Int → (Int → Option β) → Option β)  (v0 : Int) (v1 : Int) (v2 : Int) (v3 : Int) (v4 : Int) (v5 : Int) (rec_ : Int → Int → Int → Int → Int → Int → Option β) (k0 : Int → Option β) : Option β :=
(cond ((decide (v3 < v4)))
((gd ((decide (0 ≤ v3)))
((cond (((bits .and .i64 v0 (shlI .i64 1 v3)) == 0))
(self v4 v5 ((bits .or .i64 v0 (shlI .i64 1 v3))) v1 fun r6 =>
self v4 v5 ((bits .or .i64 v0 (shlI .i64 1 v3))) ((bits .or .i64 v1 (shlI .i64 1 v3))) fun r7 =>
rec_ v0 v1 ((mnI v2 (w64 (1 + (mxI r6 r7))))) ((w64 (v3 + 1))) v4 v5)
(rec_ v0 v1 v2 ((w64 (v3 + 1))) v4 v5)))))
(k0 v2))
def zj39 {β : Type} (N : Nat) (self : Int → Int → Int → Int → (Int → Option β) → Option β)  : Nat → Int → Int → Int → Int → Int → Int → (Int → Option β) → Option β
  | 0, _, _, _, _, _, _, _ => none
  | F + 1, v0, v1, v2, v3, v4, v5, k0 => zj38 N self  v0 v1 v2 v3 v4 v5 (fun v0 v1 v2 v3 v4 v5 => zj39 N self  F v0 v1 v2 v3 v4 v5 k0) k0
def zj40 {β : Type} (N : Nat) (self : Int → Int → Int → Int → (Int → Option β) → Option β) (a0 : Int) (a1 : Int) (a2 : Int) (a3 : Int) (k : Int → Option β) : Option β :=
zj30 N a0 a1 a2 a3 fun r5 =>
(cond ((decide (r5 < 2)))
(k 0)
(zj39 N self  N a2 a3 10 0 a0 a1 (fun e8_0 =>
k e8_0)))
def zj41 {β : Type} (N : Nat) : Nat → Int → Int → Int → Int → (Int → Option β) → Option β
  | 0, _, _, _, _, _ => none
  | F + 1, a0, a1, a2, a3, k => zj40 N (zj41 N F) a0 a1 a2 a3 k
def zj42 {β : Type} (N : Nat) (a0 : Int) (a1 : Int) (a2 : Int) (a3 : Int) (k : Int → Option β) : Option β := zj41 N N a0 a1 a2 a3 k
/-! loop.example/g03403/spec.LeastDepth -/
def zj43 {β : Type} (N : Nat) (a0 : Int) (a1 : Int) (k : Int → Option β) : Option β :=
zj2 N a0 a1 fun r3 =>
(cond (!r3)
(k (-1))
((cond ((decide (a0 > 4)))
(k (-1))
(zj42 N a0 a1 0 0 fun r4 =>
k r4))))
/-! loop.example/g03403/spec.RealCoefficients -/
def zj44 {β : Type} (N : Nat)  (v0 : Int) (v1 : Int) (v2 : Int) (v3 : Int) (v4 : Int) (v5 : List Int) (rec_ : Int → Int → Int → Int → Int → List Int → Option β) (k0 : Int → Int → Int → Int → List Int → Option β) : Option β :=
(cond ((decide (v2 ≤ v0)))
((cond (((bits .and .i64 v2 v0) != v2))
(rec_ v0 v1 ((w64 (v2 + 1))) v3 v4 v5)
(zj27 N ((bits .xor .i64 v0 v2)) fun r4 =>
(cond (((remI r4 2) == 1))
((gd ((decide (0 ≤ v2)))
(rec_ v0 ((w64 (v1 - (bits .and .i64 (shrI .i64 v4 v2) 1)))) ((w64 (v2 + 1))) v3 v4 v5)))
((gd ((decide (0 ≤ v2)))
(rec_ v0 ((w64 (v1 + (bits .and .i64 (shrI .i64 v4 v2) 1)))) ((w64 (v2 + 1))) v3 v4 v5)))))))
(k0 v0 v1 v3 v4 v5))
def zj45 {β : Type} (N : Nat)  : Nat → Int → Int → Int → Int → Int → List Int → (Int → Int → Int → Int → List Int → Option β) → Option β
  | 0, _, _, _, _, _, _, _ => none
  | F + 1, v0, v1, v2, v3, v4, v5, k0 => zj44 N  v0 v1 v2 v3 v4 v5 (fun v0 v1 v2 v3 v4 v5 => zj45 N  F v0 v1 v2 v3 v4 v5 k0) k0
def zj46 {β : Type} (N : Nat)  (v0 : Int) (v1 : Int) (v2 : Int) (v3 : List Int) (rec_ : Int → Int → Int → List Int → Option β) (k0 : List Int → Option β) : Option β :=
zj2 N v1 v2 fun r3 =>
(cond r3
((gd ((decide (0 ≤ v1)))
((cond ((decide (v0 < (shlI .i64 1 v1))))
(zj45 N  N v0 0 0 v1 v2 v3 (fun e5_0 e5_1 e5_2 e5_3 e5_4 =>
(gd ((decide ((e5_4.length + ((([] : List Int) ++ [e5_1])).length) * 8 ≤ 140737488355328)))
(rec_ ((w64 (e5_0 + 1))) e5_2 e5_3 ((e5_4 ++ (([] : List Int) ++ [e5_1])))))))
(k0 v3)))))
(k0 v3))
def zj47 {β : Type} (N : Nat)  : Nat → Int → Int → Int → List Int → (List Int → Option β) → Option β
  | 0, _, _, _, _, _ => none
  | F + 1, v0, v1, v2, v3, k0 => zj46 N  v0 v1 v2 v3 (fun v0 v1 v2 v3 => zj47 N  F v0 v1 v2 v3 k0) k0
def zj48 {β : Type} (N : Nat) (a0 : Int) (a1 : Int) (k : List Int → Option β) : Option β :=
zj47 N  N 0 a0 a1 (([] : List Int)) (fun e6_0 =>
k e6_0)
/-! loop.example/g03403/spec.RealDegree -/
def zj49 {β : Type} (N : Nat)  (v0 : Int) (v1 : Int) (v2 : List Int) (rec_ : Int → Int → List Int → Option β) (k0 : Int → Option β) : Option β :=
(cond ((decide (v1 < (v2.length : Int))))
((gd ((decide (0 ≤ v1)))
((gd ((decide (v1 < (v2.length : Int))))
((cond (((rd 0 v2 v1) != 0))
(zj27 N v1 fun r5 =>
rec_ ((mxI v0 r5)) ((w64 (v1 + 1))) v2)
(rec_ v0 ((w64 (v1 + 1))) v2)))))))
(k0 v0))
def zj50 {β : Type} (N : Nat)  : Nat → Int → Int → List Int → (Int → Option β) → Option β
  | 0, _, _, _, _ => none
  | F + 1, v0, v1, v2, k0 => zj49 N  v0 v1 v2 (fun v0 v1 v2 => zj50 N  F v0 v1 v2 k0) k0
def zj51 {β : Type} (N : Nat) (a0 : Int) (a1 : Int) (k : Int → Option β) : Option β :=
zj2 N a0 a1 fun r3 =>
(cond (!r3)
(k (-2))
(zj48 N a0 a1 fun r4 =>
zj50 N  N (-1) 0 r4 (fun e6_0 =>
k e6_0)))
/-! loop.example/g03403/spec.l11Anf -/
def zj52 {β : Type} (N : Nat)  (v0 : Int) (v1 : Int) (v2 : Int) (v3 : Int) (v4 : Int) (v5 : Int) (rec_ : Int → Int → Int → Int → Int → Int → Option β) (k0 : Int → Int → Int → Int → Int → Option β) : Option β :=
(cond ((decide (v3 ≤ v1)))
((cond (((bits .and .i64 v3 v1) == v3))
((gd ((decide (0 ≤ v3)))
(rec_ v0 v1 ((w64 (v2 + (bits .and .i64 (shrI .i64 v5 v3) 1)))) ((w64 (v3 + 1))) v4 v5)))
(rec_ v0 v1 v2 ((w64 (v3 + 1))) v4 v5)))
(k0 v0 v1 v2 v4 v5))
def zj53 {β : Type} (N : Nat)  : Nat → Int → Int → Int → Int → Int → Int → (Int → Int → Int → Int → Int → Option β) → Option β
  | 0, _, _, _, _, _, _, _ => none
  | F + 1, v0, v1, v2, v3, v4, v5, k0 => zj52 N  v0 v1 v2 v3 v4 v5 (fun v0 v1 v2 v3 v4 v5 => zj53 N  F v0 v1 v2 v3 v4 v5 k0) k0
def zj54 {β : Type} (N : Nat)  (v0 : Int) (v1 : Int) (v2 : Int) (v3 : Int) (rec_ : Int → Int → Int → Int → Option β) (k0 : Int → Option β) : Option β :=
(gd ((decide (0 ≤ v2)))
((cond ((decide (v1 < (shlI .i64 1 v2))))
(zj53 N  N v0 v1 0 0 v2 v3 (fun e3_0 e3_1 e3_2 e3_3 e3_4 =>
(gd ((decide (0 ≤ e3_1)))
(rec_ ((bits .or .i64 e3_0 (shlI .i64 (remI e3_2 2) e3_1))) ((w64 (e3_1 + 1))) e3_3 e3_4))))
(k0 v0))))
def zj55 {β : Type} (N : Nat)  : Nat → Int → Int → Int → Int → (Int → Option β) → Option β
  | 0, _, _, _, _, _ => none
  | F + 1, v0, v1, v2, v3, k0 => zj54 N  v0 v1 v2 v3 (fun v0 v1 v2 v3 => zj55 N  F v0 v1 v2 v3 k0) k0
def zj56 {β : Type} (N : Nat) (a0 : Int) (a1 : Int) (k : Int → Option β) : Option β :=
zj55 N  N 0 0 a0 a1 (fun e4_0 =>
k e4_0)
/-! loop.example/g03403/spec.DegreeMod2 -/
def zj57 {β : Type} (N : Nat)  (v0 : Int) (v1 : Int) (v2 : Int) (v3 : Int) (v4 : Int) (rec_ : Int → Int → Int → Int → Int → Option β) (k0 : Int → Option β) : Option β :=
(gd ((decide (0 ≤ v3)))
((cond ((decide (v2 < (shlI .i64 1 v3))))
((gd ((decide (0 ≤ v2)))
((cond (((bits .and .i64 (shrI .i64 v0 v2) 1) == 1))
(zj27 N v2 fun r5 =>
rec_ v0 ((mxI v1 r5)) ((w64 (v2 + 1))) v3 v4)
(rec_ v0 v1 ((w64 (v2 + 1))) v3 v4)))))
(k0 v1))))
def zj58 {β : Type} (N : Nat)  : Nat → Int → Int → Int → Int → Int → (Int → Option β) → Option β
  | 0, _, _, _, _, _, _ => none
  | F + 1, v0, v1, v2, v3, v4, k0 => zj57 N  v0 v1 v2 v3 v4 (fun v0 v1 v2 v3 v4 => zj58 N  F v0 v1 v2 v3 v4 k0) k0
def zj59 {β : Type} (N : Nat) (a0 : Int) (a1 : Int) (k : Int → Option β) : Option β :=
zj2 N a0 a1 fun r3 =>
(cond (!r3)
(k (-2))
(zj56 N a0 a1 fun r4 =>
zj58 N  N r4 (-1) 0 a0 a1 (fun e6_0 =>
k e6_0)))
/-! loop.example/g03403/spec.CountOnes -/
def zj60 {β : Type} (N : Nat) (a0 : Int) (a1 : Int) (k : Int → Option β) : Option β :=
zj2 N a0 a1 fun r3 =>
(cond (!r3)
(k (-1))
(zj27 N a1 fun r4 =>
k r4))
/-! loop.example/g03403/spec.SensitiveEdges -/
def zj61 {β : Type} (N : Nat)  (v0 : Int) (v1 : Int) (v2 : Int) (v3 : Int) (rec_ : Int → Int → Int → Int → Option β) (k0 : Int → Option β) : Option β :=
(gd ((decide (0 ≤ v2)))
((cond ((decide (v1 < (shlI .i64 1 v2))))
(zj6 N v2 v3 v1 fun r4 =>
rec_ ((w64 (v0 + r4))) ((w64 (v1 + 1))) v2 v3)
(k0 v0))))
def zj62 {β : Type} (N : Nat)  : Nat → Int → Int → Int → Int → (Int → Option β) → Option β
  | 0, _, _, _, _, _ => none
  | F + 1, v0, v1, v2, v3, k0 => zj61 N  v0 v1 v2 v3 (fun v0 v1 v2 v3 => zj62 N  F v0 v1 v2 v3 k0) k0
def zj63 {β : Type} (N : Nat) (a0 : Int) (a1 : Int) (k : Int → Option β) : Option β :=
zj2 N a0 a1 fun r3 =>
(cond (!r3)
(k (-1))
(zj62 N  N 0 0 a0 a1 (fun e5_0 =>
k ((quoI .i64 e5_0 2)))))
/-! loop.example/g03403/spec.TotalInfluence -/
def zj64 {β : Type} (N : Nat) (a0 : Int) (a1 : Int) (k : Int → Option β) : Option β :=
zj2 N a0 a1 fun r3 =>
(cond (!r3)
(k (-1))
(zj63 N a0 a1 fun r4 =>
k ((w64 (2 * r4)))))
/-! loop.example/g03403/spec.MeasureOf -/
def zj65 {β : Type} (N : Nat) (a0 : ByteArray) (a1 : Int) (a2 : Int) (k : Int → Option β) : Option β :=
zj2 N a1 a2 fun r4 =>
(cond (!r4)
(k (-1))
((cond ((decide (a1 > 4)))
(k (-1))
((cond ((a0.toList == ((strOf [115, 101, 110, 115, 105, 116, 105, 118, 105, 116, 121])).toList))
(zj9 N a1 a2 fun r5 =>
k r5)
((cond ((a0.toList == ((strOf [98, 108, 111, 99, 107, 115])).toList))
(zj24 N a1 a2 fun r6 =>
k r6)
((cond ((a0.toList == ((strOf [99, 101, 114, 116, 105, 102, 105, 99, 97, 116, 101])).toList))
(zj37 N a1 a2 0 fun r7 =>
zj37 N a1 a2 1 fun r8 =>
k ((mxI r7 r8)))
((cond ((a0.toList == ((strOf [100, 101, 112, 116, 104])).toList))
(zj43 N a1 a2 fun r9 =>
k r9)
((cond ((a0.toList == ((strOf [100, 101, 103, 114, 101, 101])).toList))
(zj51 N a1 a2 fun r10 =>
k ((mxI 0 r10)))
((cond ((a0.toList == ((strOf [100, 101, 103, 114, 101, 101, 50])).toList))
(zj59 N a1 a2 fun r11 =>
k ((mxI 0 r11)))
((cond ((a0.toList == ((strOf [111, 110, 101, 115])).toList))
(zj60 N a1 a2 fun r12 =>
k r12)
((cond ((a0.toList == ((strOf [105, 110, 102, 108, 117, 101, 110, 99, 101])).toList))
(zj64 N a1 a2 fun r13 =>
k r13)
(k (-1)))))))))))))))))))))
/-! loop.example/g03403/spec.l3Insert -/
def zj66 {β : Type} (N : Nat) (a0 : Int) (a1 : Int) (a2 : Int) (k : Int → Option β) : Option β :=
(gd ((decide (0 ≤ a1)))
((gd ((decide (0 ≤ a1)))
((gd ((decide (0 ≤ (w64 (a1 + 1)))))
((gd ((decide (0 ≤ a1)))
(k ((bits .or .i64 (bits .or .i64 (shlI .i64 (shrI .i64 a0 a1) (w64 (a1 + 1))) (shlI .i64 a2 a1)) (bits .and .i64 a0 (w64 ((shlI .i64 1 a1) - 1)))))))))))))
/-! loop.example/g03403/spec.l3Restrict -/
def zj67 {β : Type} (N : Nat)  (v0 : Int) (v1 : Int) (v2 : Int) (v3 : Int) (v4 : Int) (v5 : Int) (v6 : Int) (v7 : Int) (rec_ : Int → Int → Int → Int → Int → Int → Int → Int → Option β) (k0 : Int → Int → Int → Int → Int → Option β) : Option β :=
(gd ((decide (0 ≤ (w64 (v4 - 1)))))
((cond ((decide (v3 < (shlI .i64 1 (w64 (v4 - 1))))))
(zj66 N v3 v0 v1 fun r6 =>
(gd ((decide (0 ≤ r6)))
((gd ((decide (0 ≤ v3)))
(rec_ v0 v1 ((bits .or .i64 v2 (shlI .i64 (bits .and .i64 (shrI .i64 v5 r6) 1) v3))) ((w64 (v3 + 1))) v4 v5 v6 v7)))))
(k0 v2 v4 v5 v6 v7))))
def zj68 {β : Type} (N : Nat)  : Nat → Int → Int → Int → Int → Int → Int → Int → Int → (Int → Int → Int → Int → Int → Option β) → Option β
  | 0, _, _, _, _, _, _, _, _, _ => none
  | F + 1, v0, v1, v2, v3, v4, v5, v6, v7, k0 => zj67 N  v0 v1 v2 v3 v4 v5 v6 v7 (fun v0 v1 v2 v3 v4 v5 v6 v7 => zj68 N  F v0 v1 v2 v3 v4 v5 v6 v7 k0) k0
def zj69 {β : Type} (N : Nat) (a0 : Int) (a1 : Int) (a2 : Int) (a3 : Int) (k : Int → Int → Option β) : Option β :=
zj68 N  N a2 a3 0 0 a0 a1 0 0 (fun e7_0 e7_1 e7_2 e7_3 e7_4 =>
k ((w64 (e7_1 - 1))) e7_0)
/-! loop.example/g03403/spec.l3Depends -/
def zj70 {β : Type} (N : Nat) (a0 : Int) (a1 : Int) (a2 : Int) (k : Bool → Option β) : Option β :=
zj69 N a0 a1 a2 0 fun r4 r5 =>
zj69 N a0 a1 a2 1 fun r6 r7 =>
k ((r5 != r7))
/-! loop.example/g03403/spec.VariablesOf -/
def zj71 {β : Type} (N : Nat)  (v0 : Int) (v1 : Int) (v2 : Int) (v3 : List Int) (rec_ : Int → Int → Int → List Int → Option β) (k0 : List Int → Option β) : Option β :=
zj2 N v1 v2 fun r3 =>
(cond r3
((cond ((decide (v0 < v1)))
(zj70 N v1 v2 v0 fun r4 =>
(cond r4
((gd ((decide ((v3.length + ((([] : List Int) ++ [v0])).length) * 8 ≤ 140737488355328)))
(rec_ ((w64 (v0 + 1))) v1 v2 ((v3 ++ (([] : List Int) ++ [v0]))))))
(rec_ ((w64 (v0 + 1))) v1 v2 v3)))
(k0 v3)))
(k0 v3))
def zj72 {β : Type} (N : Nat)  : Nat → Int → Int → Int → List Int → (List Int → Option β) → Option β
  | 0, _, _, _, _, _ => none
  | F + 1, v0, v1, v2, v3, k0 => zj71 N  v0 v1 v2 v3 (fun v0 v1 v2 v3 => zj72 N  F v0 v1 v2 v3 k0) k0
def zj73 {β : Type} (N : Nat) (a0 : Int) (a1 : Int) (k : List Int → Option β) : Option β :=
zj72 N  N 0 a0 a1 (([] : List Int)) (fun e5_0 =>
k e5_0)
/-! loop.example/g03403/spec.RelationHolds -/
def zj74 {β : Type} (N : Nat) (a0 : ByteArray) (a1 : Int) (a2 : Int) (k : Bool → Option β) : Option β :=
zj65 N ((strOf [115, 101, 110, 115, 105, 116, 105, 118, 105, 116, 121])) a1 a2 fun r4 =>
zj65 N ((strOf [98, 108, 111, 99, 107, 115])) a1 a2 fun r5 =>
zj65 N ((strOf [99, 101, 114, 116, 105, 102, 105, 99, 97, 116, 101])) a1 a2 fun r6 =>
zj65 N ((strOf [100, 101, 112, 116, 104])) a1 a2 fun r7 =>
zj65 N ((strOf [100, 101, 103, 114, 101, 101])) a1 a2 fun r8 =>
(cond ((decide (r4 < 0)))
(k false)
((cond ((a0.toList == ((strOf [111, 114, 100, 101, 114])).toList))
((cond ((decide (r4 ≤ r5)))
((cond ((decide (r5 ≤ r6)))
((cond ((decide (r6 ≤ r7)))
(k ((decide (r8 ≤ r7))))
(k false)))
(k false)))
(k false)))
((cond ((a0.toList == ((strOf [112, 114, 111, 100, 117, 99, 116])).toList))
(zj37 N a1 a2 0 fun r9 =>
zj37 N a1 a2 1 fun r10 =>
k ((decide (r7 ≤ (w64 (r9 * r10))))))
((cond ((a0.toList == ((strOf [104, 117, 97, 110, 103])).toList))
(k ((decide (r8 ≤ (w64 (r4 * r4))))))
((cond ((a0.toList == ((strOf [98, 108, 111, 99, 107, 115])).toList))
((cond ((decide (r6 ≤ (w64 (r4 * r5)))))
(k ((decide (r7 ≤ (w64 ((w64 (r5 * r5)) * r5))))))
(k false)))
((cond ((a0.toList == ((strOf [100, 101, 103, 114, 101, 101, 115])).toList))
(zj65 N ((strOf [100, 101, 103, 114, 101, 101, 50])) a1 a2 fun r11 =>
k ((decide (r11 ≤ r8))))
((cond ((a0.toList == ((strOf [118, 97, 114, 105, 97, 98, 108, 101, 115])).toList))
(zj73 N a1 a2 fun r12 =>
(cond ((decide (r7 ≤ (r12.length : Int))))
((cond (((r12.length : Int) == 0))
((gd ((decide (0 ≤ a1)))
(zj65 N ((strOf [105, 110, 102, 108, 117, 101, 110, 99, 101])) a1 a2 fun r13 =>
k ((decide (r13 ≤ (shlI .i64 r4 a1)))))))
((cond ((decide (r4 ≥ 1)))
((gd ((decide (0 ≤ a1)))
(zj65 N ((strOf [105, 110, 102, 108, 117, 101, 110, 99, 101])) a1 a2 fun r14 =>
k ((decide (r14 ≤ (shlI .i64 r4 a1)))))))
(k false)))))
(k false)))
(k false))))))))))))))
/-! loop.example/g03403/spec.BrokenRelations -/
def zj75 {β : Type} (N : Nat)  (v0 : Int) (v1 : Int) (v2 : Int) (v3 : List ByteArray) (v4 : List ByteArray) (rec_ : Int → Int → Int → List ByteArray → List ByteArray → Option β) (k0 : List ByteArray → Option β) : Option β :=
(cond ((decide (v0 < (v4.length : Int))))
((gd ((decide (0 ≤ v0)))
((gd ((decide (v0 < (v4.length : Int))))
(zj74 N ((rd ByteArray.empty v4 v0)) v1 v2 fun r6 =>
(cond (!r6)
((gd ((decide (0 ≤ v0)))
((gd ((decide (v0 < (v4.length : Int))))
((gd ((decide ((v3.length + ((([] : List ByteArray) ++ [(rd ByteArray.empty v4 v0)])).length) * 16 ≤ 140737488355328)))
(rec_ ((w64 (v0 + 1))) v1 v2 ((v3 ++ (([] : List ByteArray) ++ [(rd ByteArray.empty v4 v0)]))) v4)))))))
(rec_ ((w64 (v0 + 1))) v1 v2 v3 v4)))))))
(k0 v3))
def zj76 {β : Type} (N : Nat)  : Nat → Int → Int → Int → List ByteArray → List ByteArray → (List ByteArray → Option β) → Option β
  | 0, _, _, _, _, _, _ => none
  | F + 1, v0, v1, v2, v3, v4, k0 => zj75 N  v0 v1 v2 v3 v4 (fun v0 v1 v2 v3 v4 => zj76 N  F v0 v1 v2 v3 v4 k0) k0
def zj77 {β : Type} (N : Nat) (a0 : Int) (a1 : Int) (k : List ByteArray → Bool → Option β) : Option β :=
zj2 N a0 a1 fun r4 =>
(cond (!r4)
(k (([] : List ByteArray)) false)
((cond ((decide (a0 > 4)))
(k (([] : List ByteArray)) false)
(zj3 N  fun r5 =>
zj76 N  N 0 a0 a1 (([] : List ByteArray)) r5 (fun e7_0 =>
k e7_0 true)))))
/-! loop.example/g03403/impl.isBits -/
def zj78 {β : Type} (N : Nat) (a0 : Int) (k : Bool → Option β) : Option β :=
(cond ((decide (a0 ≥ 0)))
(k ((decide (a0 ≤ 5))))
(k false))
/-! (loop.example/g03403/impl.Table).size -/
def zj79 {β : Type} (N : Nat) (a0 : Int) (a1 : Int) (k : Int → Option β) : Option β :=
(gd ((decide (0 ≤ a0)))
(k ((shlI .i64 1 a0))))
/-! loop.example/g03403/impl.IsTable -/
def zj80 {β : Type} (N : Nat) (a0 : Int) (a1 : Int) (k : Bool → Option β) : Option β :=
zj78 N a0 fun r3 =>
(cond r3
((cond ((decide (a1 ≥ 0)))
(zj79 N a0 a1 fun r4 =>
(gd ((decide (0 ≤ r4)))
(k (((shrI .i64 a1 r4) == 0)))))
(k false)))
(k false))
/-! loop.example/g03403/impl.isSmall -/
def zj81 {β : Type} (N : Nat) (a0 : Int) (a1 : Int) (a2 : Int) (k : Bool → Option β) : Option β :=
zj80 N a0 a1 fun r4 =>
(cond r4
(k ((decide (a0 ≤ a2))))
(k false))
/-! loop.example/g03403/impl.RelationNames -/
def zj82 {β : Type} (N : Nat)  (k : List ByteArray → Option β) : Option β :=
k (((((((([] : List ByteArray) ++ [(strOf [111, 114, 100, 101, 114])]) ++ [(strOf [112, 114, 111, 100, 117, 99, 116])]) ++ [(strOf [104, 117, 97, 110, 103])]) ++ [(strOf [98, 108, 111, 99, 107, 115])]) ++ [(strOf [100, 101, 103, 114, 101, 101, 115])]) ++ [(strOf [118, 97, 114, 105, 97, 98, 108, 101, 115])]))
/-! (loop.example/g03403/impl.Table).at -/
def zj83 {β : Type} (N : Nat) (a0 : Int) (a1 : Int) (a2 : Int) (k : Int → Option β) : Option β :=
(gd ((decide (0 ≤ a2)))
(k ((bits .and .i64 (shrI .i64 a1 a2) 1))))
/-! (loop.example/g03403/impl.Table).changes -/
def zj84 {β : Type} (N : Nat) (a0 : Int) (a1 : Int) (a2 : Int) (a3 : Int) (k : Bool → Option β) : Option β :=
zj83 N a0 a1 a2 fun r5 =>
zj83 N a0 a1 ((bits .xor .i64 a2 a3)) fun r6 =>
k ((r5 != r6))
/-! (loop.example/g03403/impl.Table).sensitivity -/
def zj85 {β : Type} (N : Nat)  (v0 : Int) (v1 : Int) (v2 : Int) (v3 : Int) (v4 : Int) (v5 : Int) (rec_ : Int → Int → Int → Int → Int → Int → Option β) (k0 : Int → Option β) : Option β :=
(cond ((decide (v3 < v2)))
((gd ((decide (0 ≤ v3)))
(zj84 N v4 v5 v0 ((shlI .i64 1 v3)) fun r4 =>
(cond r4
(rec_ v0 ((w64 (v1 + 1))) v2 ((w64 (v3 + 1))) v4 v5)
(rec_ v0 v1 v2 ((w64 (v3 + 1))) v4 v5)))))
(k0 v1))
def zj86 {β : Type} (N : Nat)  : Nat → Int → Int → Int → Int → Int → Int → (Int → Option β) → Option β
  | 0, _, _, _, _, _, _, _ => none
  | F + 1, v0, v1, v2, v3, v4, v5, k0 => zj85 N  v0 v1 v2 v3 v4 v5 (fun v0 v1 v2 v3 v4 v5 => zj86 N  F v0 v1 v2 v3 v4 v5 k0) k0
def zj87 {β : Type} (N : Nat) (a0 : Int) (a1 : Int) (a2 : Int) (k : Int → Option β) : Option β :=
zj86 N  N a2 0 a0 0 a0 a1 (fun e5_0 =>
k e5_0)
/-! loop.example/g03403/impl.SensitivityOf -/
def zj88 {β : Type} (N : Nat)  (v0 : Int) (v1 : Int) (v2 : Int) (v3 : Int) (v4 : Int) (rec_ : Int → Int → Int → Int → Int → Option β) (k0 : Int → Option β) : Option β :=
(cond ((decide (v2 < v1)))
(zj87 N v3 v4 v2 fun r5 =>
rec_ ((mxI v0 r5)) v1 ((w64 (v2 + 1))) v3 v4)
(k0 v0))
def zj89 {β : Type} (N : Nat)  : Nat → Int → Int → Int → Int → Int → (Int → Option β) → Option β
  | 0, _, _, _, _, _, _ => none
  | F + 1, v0, v1, v2, v3, v4, k0 => zj88 N  v0 v1 v2 v3 v4 (fun v0 v1 v2 v3 v4 => zj89 N  F v0 v1 v2 v3 v4 k0) k0
def zj90 {β : Type} (N : Nat) (a0 : Int) (a1 : Int) (k : Int → Option β) : Option β :=
zj80 N a0 a1 fun r3 =>
(cond (!r3)
(k (-1))
(zj79 N a0 a1 fun r4 =>
zj89 N  N 0 r4 0 a0 a1 (fun e6_0 =>
k e6_0)))
/-! (loop.example/g03403/impl.Table).blocks -/
def zj91 {β : Type} (N : Nat)  (v0 : Int) (v1 : Int) (v2 : Bool) (v3 : Int) (v4 : Int) (v5 : Int) (v6 : Int) (v7 : Int) (v8 : List Int) (rec_ : Int → Int → Bool → Int → Int → Int → Int → Int → List Int → Option β) (k0 : Int → Int → Bool → Int → Int → Int → Int → List Int → Option β) : Option β :=
(cond v2
((cond ((decide (v3 > 0)))
(zj84 N v6 v7 v0 v3 fun r6 =>
rec_ v0 v1 (!r6) ((bits .and .i64 (w64 (v3 - 1)) v1)) v4 v5 v6 v7 v8)
(k0 v0 v1 v2 v4 v5 v6 v7 v8)))
(k0 v0 v1 v2 v4 v5 v6 v7 v8))
def zj92 {β : Type} (N : Nat)  : Nat → Int → Int → Bool → Int → Int → Int → Int → Int → List Int → (Int → Int → Bool → Int → Int → Int → Int → List Int → Option β) → Option β
  | 0, _, _, _, _, _, _, _, _, _, _ => none
  | F + 1, v0, v1, v2, v3, v4, v5, v6, v7, v8, k0 => zj91 N  v0 v1 v2 v3 v4 v5 v6 v7 v8 (fun v0 v1 v2 v3 v4 v5 v6 v7 v8 => zj92 N  F v0 v1 v2 v3 v4 v5 v6 v7 v8 k0) k0
def zj93 {β : Type} (N : Nat)  (v0 : Int) (v1 : Int) (v2 : Int) (v3 : Int) (v4 : Int) (v5 : List Int) (rec_ : Int → Int → Int → Int → Int → List Int → Option β) (k0 : List Int → Option β) : Option β :=
(cond ((decide (v2 < v1)))
(zj84 N v3 v4 v0 v2 fun r5 =>
zj92 N  N v0 v2 r5 ((bits .and .i64 (w64 (v2 - 1)) v2)) v1 v2 v3 v4 v5 (fun e7_0 e7_1 e7_2 e7_3 e7_4 e7_5 e7_6 e7_7 =>
(cond e7_2
((gd ((decide ((e7_7.length + ((([] : List Int) ++ [e7_1])).length) * 8 ≤ 140737488355328)))
(rec_ e7_0 e7_3 ((w64 (e7_4 + 1))) e7_5 e7_6 ((e7_7 ++ (([] : List Int) ++ [e7_1]))))))
(rec_ e7_0 e7_3 ((w64 (e7_4 + 1))) e7_5 e7_6 e7_7))))
(k0 v5))
def zj94 {β : Type} (N : Nat)  : Nat → Int → Int → Int → Int → Int → List Int → (List Int → Option β) → Option β
  | 0, _, _, _, _, _, _, _ => none
  | F + 1, v0, v1, v2, v3, v4, v5, k0 => zj93 N  v0 v1 v2 v3 v4 v5 (fun v0 v1 v2 v3 v4 v5 => zj94 N  F v0 v1 v2 v3 v4 v5 k0) k0
def zj95 {β : Type} (N : Nat) (a0 : Int) (a1 : Int) (a2 : Int) (k : List Int → Option β) : Option β :=
zj79 N a0 a1 fun r4 =>
zj94 N  N a2 r4 0 a0 a1 (([] : List Int)) (fun e8_0 =>
k e8_0)
/-! (loop.example/g03403/impl.Table).apart -/
def zj96 {β : Type} (N : Nat)  (v0 : Int) (v1 : Int) (v2 : Int) (v3 : Int) (v4 : Int) (v5 : Int) (v6 : Int) (v7 : List Int) (v8 : List Int) (rec_ : Int → Int → Int → Int → Int → Int → Int → List Int → List Int → Option β) (k0 : Int → Int → Int → Int → List Int → List Int → Option β) : Option β :=
(cond ((decide (v4 < v3)))
((gd ((decide (0 ≤ v4)))
((gd ((decide (v4 < (v7.length : Int))))
((cond (((bits .andNot .i64 (rd 0 v7 v4) v0) == 0))
((gd ((decide (0 ≤ v0)))
((gd ((decide (v0 < (v8.length : Int))))
((gd ((decide (0 ≤ (bits .andNot .i64 v0 (rd 0 v7 v4)))))
((gd ((decide ((bits .andNot .i64 v0 (rd 0 v7 v4)) < (v8.length : Int))))
((gd ((decide (0 ≤ v0)))
((gd ((decide (v0 < (v8.length : Int))))
(rec_ v0 v1 v2 v3 ((w64 (v4 + 1))) v5 v6 v7 ((wr v8 v0 (mxI (rd 0 v8 v0) (w64 (1 + (rd 0 v8 (bits .andNot .i64 v0 (rd 0 v7 v4)))))))))))))))))))))
(rec_ v0 v1 v2 v3 ((w64 (v4 + 1))) v5 v6 v7 v8)))))))
(k0 v1 v2 v5 v6 v7 v8))
def zj97 {β : Type} (N : Nat)  : Nat → Int → Int → Int → Int → Int → Int → Int → List Int → List Int → (Int → Int → Int → Int → List Int → List Int → Option β) → Option β
  | 0, _, _, _, _, _, _, _, _, _, _ => none
  | F + 1, v0, v1, v2, v3, v4, v5, v6, v7, v8, k0 => zj96 N  v0 v1 v2 v3 v4 v5 v6 v7 v8 (fun v0 v1 v2 v3 v4 v5 v6 v7 v8 => zj97 N  F v0 v1 v2 v3 v4 v5 v6 v7 v8 k0) k0
def zj98 {β : Type} (N : Nat)  (v0 : Int) (v1 : Int) (v2 : Int) (v3 : Int) (v4 : List Int) (v5 : List Int) (rec_ : Int → Int → Int → Int → List Int → List Int → Option β) (k0 : Int → Int → List Int → Option β) : Option β :=
(cond ((decide (v1 < v0)))
(zj97 N  N v1 v0 v1 ((v4.length : Int)) 0 v2 v3 v4 v5 (fun e6_0 e6_1 e6_2 e6_3 e6_4 e6_5 =>
rec_ e6_0 ((w64 (e6_1 + 1))) e6_2 e6_3 e6_4 e6_5))
(k0 v2 v3 v5))
def zj99 {β : Type} (N : Nat)  : Nat → Int → Int → Int → Int → List Int → List Int → (Int → Int → List Int → Option β) → Option β
  | 0, _, _, _, _, _, _, _ => none
  | F + 1, v0, v1, v2, v3, v4, v5, k0 => zj98 N  v0 v1 v2 v3 v4 v5 (fun v0 v1 v2 v3 v4 v5 => zj99 N  F v0 v1 v2 v3 v4 v5 k0) k0
def zj100 {β : Type} (N : Nat) (a0 : Int) (a1 : Int) (a2 : Int) (k : Int → Option β) : Option β :=
zj95 N a0 a1 a2 fun r4 =>
zj79 N a0 a1 fun r5 =>
(gd ((decide (0 ≤ r5)))
((gd ((decide (r5 ≤ r5)))
((gd ((decide (8 * r5 ≤ 281474976710656)))
(zj99 N  N ((((List.replicate (Int.toNat r5) (0 : Int))).length : Int)) 0 a0 a1 r4 ((List.replicate (Int.toNat r5) (0 : Int))) (fun e7_0 e7_1 e7_2 =>
zj79 N e7_0 e7_1 fun r8 =>
(gd ((decide (0 ≤ (w64 (r8 - 1)))))
((gd ((decide ((w64 (r8 - 1)) < (e7_2.length : Int))))
(k ((rd 0 e7_2 (w64 (r8 - 1)))))))))))))))
/-! loop.example/g03403/impl.BlockSensitivityOf -/
def zj101 {β : Type} (N : Nat)  (v0 : Int) (v1 : Int) (v2 : Int) (v3 : Int) (v4 : Int) (rec_ : Int → Int → Int → Int → Int → Option β) (k0 : Int → Option β) : Option β :=
(cond ((decide (v2 < v1)))
(zj100 N v3 v4 v2 fun r5 =>
rec_ ((mxI v0 r5)) v1 ((w64 (v2 + 1))) v3 v4)
(k0 v0))
def zj102 {β : Type} (N : Nat)  : Nat → Int → Int → Int → Int → Int → (Int → Option β) → Option β
  | 0, _, _, _, _, _, _ => none
  | F + 1, v0, v1, v2, v3, v4, k0 => zj101 N  v0 v1 v2 v3 v4 (fun v0 v1 v2 v3 v4 => zj102 N  F v0 v1 v2 v3 v4 k0) k0
def zj103 {β : Type} (N : Nat) (a0 : Int) (a1 : Int) (k : Int → Option β) : Option β :=
zj80 N a0 a1 fun r3 =>
(cond (!r3)
(k (-1))
(zj79 N a0 a1 fun r4 =>
zj102 N  N 0 r4 0 a0 a1 (fun e6_0 =>
k e6_0)))
/-! loop.example/g03403/impl.isBit -/
def zj104 {β : Type} (N : Nat) (a0 : Int) (k : Bool → Option β) : Option β :=
(cond ((a0 == 0))
(k true)
(k ((a0 == 1))))
/-! math/bits.OnesCount64 -/
def zj105 {β : Type} (N : Nat) (a0 : Int) (k : Int → Option β) : Option β :=
k ((bits .and .i64 (w64 ((wu64 ((wu64 ((wu64 ((bits .and .u64 (wu64 ((shrI .u64 (wu64 ((bits .and .u64 (shrI .u64 (wu64 ((bits .and .u64 (shrI .u64 a0 1) 6148914691236517205) + (bits .and .u64 a0 6148914691236517205))) 2) 3689348814741910323) + (bits .and .u64 (wu64 ((bits .and .u64 (shrI .u64 a0 1) 6148914691236517205) + (bits .and .u64 a0 6148914691236517205))) 3689348814741910323))) 4) + (wu64 ((bits .and .u64 (shrI .u64 (wu64 ((bits .and .u64 (shrI .u64 a0 1) 6148914691236517205) + (bits .and .u64 a0 6148914691236517205))) 2) 3689348814741910323) + (bits .and .u64 (wu64 ((bits .and .u64 (shrI .u64 a0 1) 6148914691236517205) + (bits .and .u64 a0 6148914691236517205))) 3689348814741910323))))) 1085102592571150095) + (shrI .u64 (bits .and .u64 (wu64 ((shrI .u64 (wu64 ((bits .and .u64 (shrI .u64 (wu64 ((bits .and .u64 (shrI .u64 a0 1) 6148914691236517205) + (bits .and .u64 a0 6148914691236517205))) 2) 3689348814741910323) + (bits .and .u64 (wu64 ((bits .and .u64 (shrI .u64 a0 1) 6148914691236517205) + (bits .and .u64 a0 6148914691236517205))) 3689348814741910323))) 4) + (wu64 ((bits .and .u64 (shrI .u64 (wu64 ((bits .and .u64 (shrI .u64 a0 1) 6148914691236517205) + (bits .and .u64 a0 6148914691236517205))) 2) 3689348814741910323) + (bits .and .u64 (wu64 ((bits .and .u64 (shrI .u64 a0 1) 6148914691236517205) + (bits .and .u64 a0 6148914691236517205))) 3689348814741910323))))) 1085102592571150095) 8))) + (shrI .u64 (wu64 ((bits .and .u64 (wu64 ((shrI .u64 (wu64 ((bits .and .u64 (shrI .u64 (wu64 ((bits .and .u64 (shrI .u64 a0 1) 6148914691236517205) + (bits .and .u64 a0 6148914691236517205))) 2) 3689348814741910323) + (bits .and .u64 (wu64 ((bits .and .u64 (shrI .u64 a0 1) 6148914691236517205) + (bits .and .u64 a0 6148914691236517205))) 3689348814741910323))) 4) + (wu64 ((bits .and .u64 (shrI .u64 (wu64 ((bits .and .u64 (shrI .u64 a0 1) 6148914691236517205) + (bits .and .u64 a0 6148914691236517205))) 2) 3689348814741910323) + (bits .and .u64 (wu64 ((bits .and .u64 (shrI .u64 a0 1) 6148914691236517205) + (bits .and .u64 a0 6148914691236517205))) 3689348814741910323))))) 1085102592571150095) + (shrI .u64 (bits .and .u64 (wu64 ((shrI .u64 (wu64 ((bits .and .u64 (shrI .u64 (wu64 ((bits .and .u64 (shrI .u64 a0 1) 6148914691236517205) + (bits .and .u64 a0 6148914691236517205))) 2) 3689348814741910323) + (bits .and .u64 (wu64 ((bits .and .u64 (shrI .u64 a0 1) 6148914691236517205) + (bits .and .u64 a0 6148914691236517205))) 3689348814741910323))) 4) + (wu64 ((bits .and .u64 (shrI .u64 (wu64 ((bits .and .u64 (shrI .u64 a0 1) 6148914691236517205) + (bits .and .u64 a0 6148914691236517205))) 2) 3689348814741910323) + (bits .and .u64 (wu64 ((bits .and .u64 (shrI .u64 a0 1) 6148914691236517205) + (bits .and .u64 a0 6148914691236517205))) 3689348814741910323))))) 1085102592571150095) 8))) 16))) + (shrI .u64 (wu64 ((wu64 ((bits .and .u64 (wu64 ((shrI .u64 (wu64 ((bits .and .u64 (shrI .u64 (wu64 ((bits .and .u64 (shrI .u64 a0 1) 6148914691236517205) + (bits .and .u64 a0 6148914691236517205))) 2) 3689348814741910323) + (bits .and .u64 (wu64 ((bits .and .u64 (shrI .u64 a0 1) 6148914691236517205) + (bits .and .u64 a0 6148914691236517205))) 3689348814741910323))) 4) + (wu64 ((bits .and .u64 (shrI .u64 (wu64 ((bits .and .u64 (shrI .u64 a0 1) 6148914691236517205) + (bits .and .u64 a0 6148914691236517205))) 2) 3689348814741910323) + (bits .and .u64 (wu64 ((bits .and .u64 (shrI .u64 a0 1) 6148914691236517205) + (bits .and .u64 a0 6148914691236517205))) 3689348814741910323))))) 1085102592571150095) + (shrI .u64 (bits .and .u64 (wu64 ((shrI .u64 (wu64 ((bits .and .u64 (shrI .u64 (wu64 ((bits .and .u64 (shrI .u64 a0 1) 6148914691236517205) + (bits .and .u64 a0 6148914691236517205))) 2) 3689348814741910323) + (bits .and .u64 (wu64 ((bits .and .u64 (shrI .u64 a0 1) 6148914691236517205) + (bits .and .u64 a0 6148914691236517205))) 3689348814741910323))) 4) + (wu64 ((bits .and .u64 (shrI .u64 (wu64 ((bits .and .u64 (shrI .u64 a0 1) 6148914691236517205) + (bits .and .u64 a0 6148914691236517205))) 2) 3689348814741910323) + (bits .and .u64 (wu64 ((bits .and .u64 (shrI .u64 a0 1) 6148914691236517205) + (bits .and .u64 a0 6148914691236517205))) 3689348814741910323))))) 1085102592571150095) 8))) + (shrI .u64 (wu64 ((bits .and .u64 (wu64 ((shrI .u64 (wu64 ((bits .and .u64 (shrI .u64 (wu64 ((bits .and .u64 (shrI .u64 a0 1) 6148914691236517205) + (bits .and .u64 a0 6148914691236517205))) 2) 3689348814741910323) + (bits .and .u64 (wu64 ((bits .and .u64 (shrI .u64 a0 1) 6148914691236517205) + (bits .and .u64 a0 6148914691236517205))) 3689348814741910323))) 4) + (wu64 ((bits .and .u64 (shrI .u64 (wu64 ((bits .and .u64 (shrI .u64 a0 1) 6148914691236517205) + (bits .and .u64 a0 6148914691236517205))) 2) 3689348814741910323) + (bits .and .u64 (wu64 ((bits .and .u64 (shrI .u64 a0 1) 6148914691236517205) + (bits .and .u64 a0 6148914691236517205))) 3689348814741910323))))) 1085102592571150095) + (shrI .u64 (bits .and .u64 (wu64 ((shrI .u64 (wu64 ((bits .and .u64 (shrI .u64 (wu64 ((bits .and .u64 (shrI .u64 a0 1) 6148914691236517205) + (bits .and .u64 a0 6148914691236517205))) 2) 3689348814741910323) + (bits .and .u64 (wu64 ((bits .and .u64 (shrI .u64 a0 1) 6148914691236517205) + (bits .and .u64 a0 6148914691236517205))) 3689348814741910323))) 4) + (wu64 ((bits .and .u64 (shrI .u64 (wu64 ((bits .and .u64 (shrI .u64 a0 1) 6148914691236517205) + (bits .and .u64 a0 6148914691236517205))) 2) 3689348814741910323) + (bits .and .u64 (wu64 ((bits .and .u64 (shrI .u64 a0 1) 6148914691236517205) + (bits .and .u64 a0 6148914691236517205))) 3689348814741910323))))) 1085102592571150095) 8))) 16))) 32))))) 127))
/-! loop.example/g03403/impl.ones -/
def zj106 {β : Type} (N : Nat) (a0 : Int) (k : Int → Option β) : Option β :=
zj105 N ((wu64 (a0))) fun r2 =>
k r2
/-! (loop.example/g03403/impl.Table).cube -/
def zj107 {β : Type} (N : Nat)  (v0 : Int) (v1 : Int) (v2 : Int) (v3 : Int) (v4 : Int) (v5 : Int) (v6 : Bool) (v7 : Bool) (rec_ : Int → Int → Int → Int → Int → Int → Bool → Bool → Option β) (k0 : Bool → Bool → Option β) : Option β :=
(cond ((decide (v3 < v2)))
((cond (((bits .and .i64 v3 v0) == v1))
(zj83 N v4 v5 v3 fun r6 =>
(gd ((decide (0 ≤ r6)))
((gd ((decide (r6 < 2)))
((cond ((r6 == 0))
(rec_ v0 v1 v2 ((w64 (v3 + 1))) v4 v5 true v7)
(rec_ v0 v1 v2 ((w64 (v3 + 1))) v4 v5 v6 true)))))))
(rec_ v0 v1 v2 ((w64 (v3 + 1))) v4 v5 v6 v7)))
(k0 v6 v7))
def zj108 {β : Type} (N : Nat)  : Nat → Int → Int → Int → Int → Int → Int → Bool → Bool → (Bool → Bool → Option β) → Option β
  | 0, _, _, _, _, _, _, _, _, _ => none
  | F + 1, v0, v1, v2, v3, v4, v5, v6, v7, k0 => zj107 N  v0 v1 v2 v3 v4 v5 v6 v7 (fun v0 v1 v2 v3 v4 v5 v6 v7 => zj108 N  F v0 v1 v2 v3 v4 v5 v6 v7 k0) k0
def zj109 {β : Type} (N : Nat) (a0 : Int) (a1 : Int) (a2 : Int) (a3 : Int) (k : Int → Option β) : Option β :=
zj79 N a0 a1 fun r5 =>
zj108 N  N a2 a3 r5 0 a0 a1 false false (fun e7_0 e7_1 =>
(cond e7_0
((cond e7_1
(k 2)
((cond e7_1
(k 1)
(k 0)))))
((cond e7_1
(k 1)
(k 0)))))
/-! (loop.example/g03403/impl.Table).certifies -/
def zj110 {β : Type} (N : Nat) (a0 : Int) (a1 : Int) (a2 : Int) (a3 : Int) (k : Bool → Option β) : Option β :=
zj109 N a0 a1 a3 ((bits .and .i64 a2 a3)) fun r5 =>
k ((r5 != 2))
/-! (loop.example/g03403/impl.Table).certificate -/
def zj111 {β : Type} (N : Nat)  (v0 : Int) (v1 : Int) (v2 : Int) (v3 : Int) (v4 : Int) (v5 : Int) (rec_ : Int → Int → Int → Int → Int → Int → Option β) (k0 : Int → Option β) : Option β :=
(cond ((decide (v3 < v2)))
(zj106 N v3 fun r6 =>
zj106 N v1 fun r7 =>
(cond ((decide (r6 < r7)))
(zj110 N v4 v5 v0 v3 fun r8 =>
(cond r8
(rec_ v0 v3 v2 ((w64 (v3 + 1))) v4 v5)
(rec_ v0 v1 v2 ((w64 (v3 + 1))) v4 v5)))
(rec_ v0 v1 v2 ((w64 (v3 + 1))) v4 v5)))
(k0 v1))
def zj112 {β : Type} (N : Nat)  : Nat → Int → Int → Int → Int → Int → Int → (Int → Option β) → Option β
  | 0, _, _, _, _, _, _, _ => none
  | F + 1, v0, v1, v2, v3, v4, v5, k0 => zj111 N  v0 v1 v2 v3 v4 v5 (fun v0 v1 v2 v3 v4 v5 => zj112 N  F v0 v1 v2 v3 v4 v5 k0) k0
def zj113 {β : Type} (N : Nat) (a0 : Int) (a1 : Int) (a2 : Int) (k : Int → Option β) : Option β :=
zj79 N a0 a1 fun r4 =>
zj79 N a0 a1 fun r5 =>
zj112 N  N a2 ((w64 (r4 - 1))) r5 0 a0 a1 (fun e9_0 =>
k e9_0)
/-! loop.example/g03403/impl.CertificateOf -/
def zj114 {β : Type} (N : Nat)  (v0 : Int) (v1 : Int) (v2 : Int) (v3 : Int) (v4 : Int) (v5 : Int) (rec_ : Int → Int → Int → Int → Int → Int → Option β) (k0 : Int → Option β) : Option β :=
(cond ((decide (v3 < v2)))
(zj83 N v4 v5 v3 fun r7 =>
(cond ((r7 == v0))
(zj113 N v4 v5 v3 fun r8 =>
zj106 N r8 fun r9 =>
rec_ v0 ((mxI v1 r9)) v2 ((w64 (v3 + 1))) v4 v5)
(rec_ v0 v1 v2 ((w64 (v3 + 1))) v4 v5)))
(k0 v1))
def zj115 {β : Type} (N : Nat)  : Nat → Int → Int → Int → Int → Int → Int → (Int → Option β) → Option β
  | 0, _, _, _, _, _, _, _ => none
  | F + 1, v0, v1, v2, v3, v4, v5, k0 => zj114 N  v0 v1 v2 v3 v4 v5 (fun v0 v1 v2 v3 v4 v5 => zj115 N  F v0 v1 v2 v3 v4 v5 k0) k0
def zj116 {β : Type} (N : Nat) (a0 : Int) (a1 : Int) (a2 : Int) (k : Int → Option β) : Option β :=
zj80 N a0 a1 fun r4 =>
(cond (!r4)
(k (-1))
(zj104 N a2 fun r5 =>
(cond (!r5)
(k (-1))
(zj79 N a0 a1 fun r6 =>
zj115 N  N a2 0 r6 0 a0 a1 (fun e10_0 =>
k e10_0)))))
/-! (loop.example/g03403/impl.Table).asking -/
def zj117 {β : Type} (N : Nat) (a0 : Int) (a1 : Int) (k0 : Int → Int → Mp → Mp → Option β) : Option β :=
k0 a0 a1 (([] : Mp)) (([] : Mp))
/-! (loop.example/g03403/impl.known).with -/
def zj118 {β : Type} (N : Nat) (a0 : Int) (a1 : Int) (a2 : Int) (a3 : Int) (k : Int → Int → Option β) : Option β :=
(gd ((decide (0 ≤ a2)))
((gd ((decide (0 ≤ a2)))
(k ((bits .or .i64 a0 (shlI .i64 1 a2))) ((bits .or .i64 a1 (shlI .i64 a3 a2)))))))
/-! (*loop.example/g03403/impl.asker).left -/
def zj119 {β : Type} (N : Nat) (self : Int → Int → Int → Int → Mp → Mp → (Int → Int → Int → Mp → Mp → Option β) → Option β)  (v0 : Int) (v1 : Int) (v2 : Int) (v3 : Int) (v4 : Int) (v5 : Mp) (v6 : Mp) (v7 : Int) (v8 : Int) (rec_ : Int → Int → Int → Int → Int → Mp → Mp → Int → Int → Option β) (k0 : Int → Int → Int → Mp → Mp → Int → Int → Option β) : Option β :=
(cond ((decide (v2 < v1)))
((gd ((decide (0 ≤ v2)))
((cond (((bits .and .i64 (shrI .i64 v7 v2) 1) == 0))
(zj118 N v7 v8 v2 0 fun r6 r7 =>
self r6 r7 v3 v4 v5 v6 (fun r8_0 r8_1 r8_2 r8_3 r8_4 =>
zj118 N v7 v8 v2 1 fun r9 r10 =>
self r9 r10 r8_1 r8_2 r8_3 r8_4 (fun r11_0 r11_1 r11_2 r11_3 r11_4 =>
rec_ ((mnI v0 (w64 (1 + (mxI r8_0 r11_0))))) v1 ((w64 (v2 + 1))) r11_1 r11_2 r11_3 r11_4 v7 v8)))
(rec_ v0 v1 ((w64 (v2 + 1))) v3 v4 v5 v6 v7 v8)))))
(k0 v0 v3 v4 v5 v6 v7 v8))
def zj120 {β : Type} (N : Nat) (self : Int → Int → Int → Int → Mp → Mp → (Int → Int → Int → Mp → Mp → Option β) → Option β)  : Nat → Int → Int → Int → Int → Int → Mp → Mp → Int → Int → (Int → Int → Int → Mp → Mp → Int → Int → Option β) → Option β
  | 0, _, _, _, _, _, _, _, _, _, _ => none
  | F + 1, v0, v1, v2, v3, v4, v5, v6, v7, v8, k0 => zj119 N self  v0 v1 v2 v3 v4 v5 v6 v7 v8 (fun v0 v1 v2 v3 v4 v5 v6 v7 v8 => zj120 N self  F v0 v1 v2 v3 v4 v5 v6 v7 v8 k0) k0
def zj121 {β : Type} (N : Nat) (self : Int → Int → Int → Int → Mp → Mp → (Int → Int → Int → Mp → Mp → Option β) → Option β) (a0 : Int) (a1 : Int) (a2 : Int) (a3 : Int) (a4 : Mp) (a5 : Mp) (k0 : Int → Int → Int → Mp → Mp → Option β) : Option β :=
(cond ((hasM ⟨true, false⟩ a4 a0 a1))
(k0 ((getM ⟨true, false⟩ a4 a0 a1)) a2 a3 a4 a5)
(zj109 N a2 a3 a0 a1 fun r5 =>
(cond ((r5 == 2))
(zj120 N self  N a2 a2 0 a2 a3 a4 a5 a0 a1 (fun e12_0 e12_1 e12_2 e12_3 e12_4 e12_5 e12_6 =>
k0 e12_0 e12_1 e12_2 ((putM ⟨true, false⟩ e12_3 e12_5 e12_6 e12_0)) e12_4))
(k0 0 a2 a3 ((putM ⟨true, false⟩ a4 a0 a1 0)) a5))))
def zj122 {β : Type} (N : Nat) : Nat → Int → Int → Int → Int → Mp → Mp → (Int → Int → Int → Mp → Mp → Option β) → Option β
  | 0, _, _, _, _, _, _, _ => none
  | F + 1, a0, a1, a2, a3, a4, a5, k0 => zj121 N (zj122 N F) a0 a1 a2 a3 a4 a5 k0
def zj123 {β : Type} (N : Nat) (a0 : Int) (a1 : Int) (a2 : Int) (a3 : Int) (a4 : Mp) (a5 : Mp) (k0 : Int → Int → Int → Mp → Mp → Option β) : Option β := zj122 N N a0 a1 a2 a3 a4 a5 k0
/-! loop.example/g03403/impl.LeastDepth -/
def zj124 {β : Type} (N : Nat) (a0 : Int) (a1 : Int) (k : Int → Option β) : Option β :=
zj81 N a0 a1 4 fun r3 =>
(cond (!r3)
(k (-1))
(zj117 N a0 a1 (fun r4_0 r4_1 r4_2 r4_3 =>
zj123 N 0 0 r4_0 r4_1 r4_2 r4_3 (fun r5_0 r5_1 r5_2 r5_3 r5_4 =>
k r5_0))))
/-! (loop.example/g03403/impl.Table).coefficients -/
def zj125 {β : Type} (N : Nat)  (v0 : Int) (v1 : Int) (v2 : Int) (v3 : Int) (v4 : Int) (v5 : Int) (v6 : Int) (v7 : List Int) (rec_ : Int → Int → Int → Int → Int → Int → Int → List Int → Option β) (k0 : Int → Int → Int → Int → List Int → Option β) : Option β :=
(cond ((decide (v4 < v3)))
((cond (((bits .andNot .i64 v4 v0) != 0))
(rec_ v0 v1 v2 v3 ((w64 (v4 + 1))) v5 v6 v7)
(zj106 N ((bits .xor .i64 v0 v4)) fun r5 =>
(cond (((remI r5 2) == 0))
((gd ((decide (0 ≤ v0)))
((gd ((decide (v0 < (v7.length : Int))))
(zj83 N v5 v6 v4 fun r6 =>
(gd ((decide (0 ≤ v0)))
((gd ((decide (v0 < (v7.length : Int))))
(rec_ v0 v1 v2 v3 ((w64 (v4 + 1))) v5 v6 ((wr v7 v0 (w64 ((rd 0 v7 v0) + r6)))))))))))))
((gd ((decide (0 ≤ v0)))
((gd ((decide (v0 < (v7.length : Int))))
(zj83 N v5 v6 v4 fun r7 =>
(gd ((decide (0 ≤ v0)))
((gd ((decide (v0 < (v7.length : Int))))
(rec_ v0 v1 v2 v3 ((w64 (v4 + 1))) v5 v6 ((wr v7 v0 (w64 ((rd 0 v7 v0) - r7)))))))))))))))))
(k0 v1 v2 v5 v6 v7))
def zj126 {β : Type} (N : Nat)  : Nat → Int → Int → Int → Int → Int → Int → Int → List Int → (Int → Int → Int → Int → List Int → Option β) → Option β
  | 0, _, _, _, _, _, _, _, _, _ => none
  | F + 1, v0, v1, v2, v3, v4, v5, v6, v7, k0 => zj125 N  v0 v1 v2 v3 v4 v5 v6 v7 (fun v0 v1 v2 v3 v4 v5 v6 v7 => zj126 N  F v0 v1 v2 v3 v4 v5 v6 v7 k0) k0
def zj127 {β : Type} (N : Nat)  (v0 : Int) (v1 : Int) (v2 : Int) (v3 : Int) (v4 : List Int) (rec_ : Int → Int → Int → Int → List Int → Option β) (k0 : List Int → Option β) : Option β :=
(cond ((decide (v1 < v0)))
(zj79 N v2 v3 fun r4 =>
zj126 N  N v1 v0 v1 r4 0 v2 v3 v4 (fun e8_0 e8_1 e8_2 e8_3 e8_4 =>
rec_ e8_0 ((w64 (e8_1 + 1))) e8_2 e8_3 e8_4))
(k0 v4))
def zj128 {β : Type} (N : Nat)  : Nat → Int → Int → Int → Int → List Int → (List Int → Option β) → Option β
  | 0, _, _, _, _, _, _ => none
  | F + 1, v0, v1, v2, v3, v4, k0 => zj127 N  v0 v1 v2 v3 v4 (fun v0 v1 v2 v3 v4 => zj128 N  F v0 v1 v2 v3 v4 k0) k0
def zj129 {β : Type} (N : Nat) (a0 : Int) (a1 : Int) (k : List Int → Option β) : Option β :=
zj79 N a0 a1 fun r3 =>
(gd ((decide (0 ≤ r3)))
((gd ((decide (r3 ≤ r3)))
((gd ((decide (8 * r3 ≤ 281474976710656)))
(zj128 N  N ((((List.replicate (Int.toNat r3) (0 : Int))).length : Int)) 0 a0 a1 ((List.replicate (Int.toNat r3) (0 : Int))) (fun e9_0 =>
k e9_0)))))))
/-! loop.example/g03403/impl.RealDegree$1 -/
def zj130 {β : Type} (N : Nat) (a0 : Int) (c0 : List Int) (k : Bool → Option β) : Option β :=
(gd ((decide (0 ≤ a0)))
((gd ((decide (a0 < (c0.length : Int))))
(k (((rd 0 c0 a0) != 0))))))
/-! loop.example/g03403/impl.DegreeMod2$1 -/
def zj131 {β : Type} (N : Nat) (a0 : Int) (c0 : Int) (c1 : Int) (k : Bool → Option β) : Option β :=
zj83 N c0 c1 a0 fun r2 =>
k ((r2 == 1))
/-! loop.example/g03403/impl.degree -/
def zj132 {β : Type} (N : Nat) (a1 : (Int → (Bool → Option β) → Option β)) (v0 : Int) (v1 : Int) (v2 : Int) (rec_ : Int → Int → Int → Option β) (k0 : Int → Option β) : Option β :=
(cond ((decide (v2 < v1)))
(a1 v2 fun r3 =>
(cond r3
(zj106 N v2 fun r4 =>
rec_ ((mxI v0 r4)) v1 ((w64 (v2 + 1))))
(rec_ v0 v1 ((w64 (v2 + 1))))))
(k0 v0))
def zj133 {β : Type} (N : Nat) (a1 : (Int → (Bool → Option β) → Option β)) : Nat → Int → Int → Int → (Int → Option β) → Option β
  | 0, _, _, _, _ => none
  | F + 1, v0, v1, v2, k0 => zj132 N a1 v0 v1 v2 (fun v0 v1 v2 => zj133 N a1 F v0 v1 v2 k0) k0
def zj134 {β : Type} (N : Nat) (a0 : Int) (a1 : (Int → (Bool → Option β) → Option β)) (k : Int → Option β) : Option β :=
(gd ((decide (0 ≤ a0)))
(zj133 N a1 N (-1) ((shlI .i64 1 a0)) 0 (fun e5_0 =>
k e5_0)))
/-! loop.example/g03403/impl.RealDegree -/
def zj135 {β : Type} (N : Nat) (a0 : Int) (a1 : Int) (k : Int → Option β) : Option β :=
zj80 N a0 a1 fun r3 =>
(cond (!r3)
(k (-2))
(zj129 N a0 a1 fun r4 =>
zj134 N a0 (fun x0 k => zj130 N x0 r4 k) fun r5 =>
k r5))
/-! (loop.example/g03403/impl.Table).anf$1 -/
def zj136 {β : Type} (N : Nat)  (v0 : Int) (v1 : Int) (v2 : Int) (v3 : Int) (v4 : Int) (v5 : Int) (rec_ : Int → Int → Int → Int → Int → Int → Option β) (k0 : Int → Option β) : Option β :=
(cond ((decide (v5 < v4)))
((cond (((bits .andNot .i64 v5 v0) == 0))
(zj83 N v1 v2 v5 fun r3 =>
rec_ v0 v1 v2 ((bits .xor .i64 v3 r3)) v4 ((w64 (v5 + 1))))
(rec_ v0 v1 v2 v3 v4 ((w64 (v5 + 1))))))
(k0 v3))
def zj137 {β : Type} (N : Nat)  : Nat → Int → Int → Int → Int → Int → Int → (Int → Option β) → Option β
  | 0, _, _, _, _, _, _, _ => none
  | F + 1, v0, v1, v2, v3, v4, v5, k0 => zj136 N  v0 v1 v2 v3 v4 v5 (fun v0 v1 v2 v3 v4 v5 => zj137 N  F v0 v1 v2 v3 v4 v5 k0) k0
def zj138 {β : Type} (N : Nat) (a0 : Int) (c0 : Int) (c1 : Int) (k : Bool → Option β) : Option β :=
zj79 N c0 c1 fun r2 =>
zj137 N  N a0 c0 c1 0 r2 0 (fun e4_0 =>
k ((e4_0 == 1)))
/-! loop.example/g03403/impl.spread -/
def zj139 {β : Type} (N : Nat) (a0 : Int) (a1 : Int) (a2 : Int) (k : Int → Option β) : Option β :=
(gd ((decide (0 ≤ a1)))
((gd ((decide (0 ≤ a1)))
(k ((bits .or .i64 (bits .or .i64 (shlI .i64 (w64 (a0 - (bits .and .i64 a0 (w64 ((shlI .i64 1 a1) - 1))))) 1) (shlI .i64 a2 a1)) (bits .and .i64 a0 (w64 ((shlI .i64 1 a1) - 1)))))))))
/-! (loop.example/g03403/impl.Table).restrict$1 -/
def zj140 {β : Type} (N : Nat) (a0 : Int) (c0 : Int) (c1 : Int) (c2 : Int) (c3 : Int) (k : Bool → Option β) : Option β :=
zj139 N a0 c2 c3 fun r2 =>
zj83 N c0 c1 r2 fun r3 =>
k ((r3 == 1))
/-! loop.example/g03403/impl.makeTable -/
def zj141 {β : Type} (N : Nat) (a1 : (Int → (Bool → Option β) → Option β)) (v0 : Int) (v1 : Int) (v2 : Int) (v3 : Int) (v4 : Int) (v5 : Int) (rec_ : Int → Int → Int → Int → Int → Int → Option β) (k0 : Int → Int → Int → Int → Option β) : Option β :=
(cond ((decide (v1 < v0)))
(a1 v1 fun r4 =>
(cond r4
((gd ((decide (0 ≤ v1)))
(rec_ v0 ((w64 (v1 + 1))) v2 v3 v4 ((bits .or .i64 v5 (shlI .i64 1 v1))))))
(rec_ v0 ((w64 (v1 + 1))) v2 v3 v4 v5)))
(k0 v2 v3 v4 v5))
def zj142 {β : Type} (N : Nat) (a1 : (Int → (Bool → Option β) → Option β)) : Nat → Int → Int → Int → Int → Int → Int → (Int → Int → Int → Int → Option β) → Option β
  | 0, _, _, _, _, _, _, _ => none
  | F + 1, v0, v1, v2, v3, v4, v5, k0 => zj141 N a1 v0 v1 v2 v3 v4 v5 (fun v0 v1 v2 v3 v4 v5 => zj142 N a1 F v0 v1 v2 v3 v4 v5 k0) k0
def zj143 {β : Type} (N : Nat) (a0 : Int) (a1 : (Int → (Bool → Option β) → Option β)) (k : Int → Int → Option β) : Option β :=
(gd ((decide (0 ≤ a0)))
(zj142 N a1 N ((shlI .i64 1 a0)) 0 0 0 a0 0 (fun e5_0 e5_1 e5_2 e5_3 =>
k e5_2 e5_3)))
/-! (loop.example/g03403/impl.Table).anf -/
def zj144 {β : Type} (N : Nat) (a0 : Int) (a1 : Int) (k : Int → Int → Option β) : Option β :=
zj143 N a0 (fun x0 k => zj138 N x0 a0 a1 k) fun r4 r5 =>
k r4 r5
/-! loop.example/g03403/impl.DegreeMod2 -/
def zj145 {β : Type} (N : Nat) (a0 : Int) (a1 : Int) (k : Int → Option β) : Option β :=
zj80 N a0 a1 fun r3 =>
(cond (!r3)
(k (-2))
(zj144 N a0 a1 fun r4 r5 =>
zj134 N a0 (fun x0 k => zj131 N x0 r4 r5 k) fun r6 =>
k r6))
/-! loop.example/g03403/impl.CountOnes -/
def zj146 {β : Type} (N : Nat) (a0 : Int) (a1 : Int) (k : Int → Option β) : Option β :=
zj80 N a0 a1 fun r3 =>
(cond (!r3)
(k (-1))
(zj106 N a1 fun r4 =>
k r4))
/-! (loop.example/g03403/impl.Table).influence -/
def zj147 {β : Type} (N : Nat)  (v0 : Int) (v1 : Int) (v2 : Int) (v3 : Int) (v4 : Int) (v5 : Int) (rec_ : Int → Int → Int → Int → Int → Int → Option β) (k0 : Int → Option β) : Option β :=
(cond ((decide (v3 < v2)))
((gd ((decide (0 ≤ v0)))
(zj84 N v4 v5 v3 ((shlI .i64 1 v0)) fun r5 =>
(cond r5
(rec_ v0 ((w64 (v1 + 1))) v2 ((w64 (v3 + 1))) v4 v5)
(rec_ v0 v1 v2 ((w64 (v3 + 1))) v4 v5)))))
(k0 v1))
def zj148 {β : Type} (N : Nat)  : Nat → Int → Int → Int → Int → Int → Int → (Int → Option β) → Option β
  | 0, _, _, _, _, _, _, _ => none
  | F + 1, v0, v1, v2, v3, v4, v5, k0 => zj147 N  v0 v1 v2 v3 v4 v5 (fun v0 v1 v2 v3 v4 v5 => zj148 N  F v0 v1 v2 v3 v4 v5 k0) k0
def zj149 {β : Type} (N : Nat) (a0 : Int) (a1 : Int) (a2 : Int) (k : Int → Option β) : Option β :=
zj79 N a0 a1 fun r4 =>
zj148 N  N a2 0 r4 0 a0 a1 (fun e6_0 =>
k e6_0)
/-! (loop.example/g03403/impl.Table).influences -/
def zj150 {β : Type} (N : Nat)  (v0 : Int) (v1 : Int) (v2 : Int) (v3 : Int) (v4 : List Int) (rec_ : Int → Int → Int → Int → List Int → Option β) (k0 : List Int → Option β) : Option β :=
(cond ((decide (v1 < v0)))
(zj149 N v2 v3 v1 fun r3 =>
(gd ((decide (0 ≤ v1)))
((gd ((decide (v1 < (v4.length : Int))))
(rec_ v0 ((w64 (v1 + 1))) v2 v3 ((wr v4 v1 r3)))))))
(k0 v4))
def zj151 {β : Type} (N : Nat)  : Nat → Int → Int → Int → Int → List Int → (List Int → Option β) → Option β
  | 0, _, _, _, _, _, _ => none
  | F + 1, v0, v1, v2, v3, v4, k0 => zj150 N  v0 v1 v2 v3 v4 (fun v0 v1 v2 v3 v4 => zj151 N  F v0 v1 v2 v3 v4 k0) k0
def zj152 {β : Type} (N : Nat) (a0 : Int) (a1 : Int) (k : List Int → Option β) : Option β :=
(gd ((decide (0 ≤ a0)))
((gd ((decide (a0 ≤ a0)))
((gd ((decide (8 * a0 ≤ 281474976710656)))
(zj151 N  N ((((List.replicate (Int.toNat a0) (0 : Int))).length : Int)) 0 a0 a1 ((List.replicate (Int.toNat a0) (0 : Int))) (fun e4_0 =>
k e4_0)))))))
/-! loop.example/g03403/impl.TotalInfluence -/
def zj153 {β : Type} (N : Nat)  (v0 : Int) (v1 : Int) (v2 : Int) (v3 : List Int) (rec_ : Int → Int → Int → List Int → Option β) (k0 : Int → Option β) : Option β :=
(cond ((decide (v2 < v1)))
((gd ((decide (0 ≤ v2)))
((gd ((decide (v2 < (v3.length : Int))))
(rec_ ((w64 (v0 + (rd 0 v3 v2)))) v1 ((w64 (v2 + 1))) v3)))))
(k0 v0))
def zj154 {β : Type} (N : Nat)  : Nat → Int → Int → Int → List Int → (Int → Option β) → Option β
  | 0, _, _, _, _, _ => none
  | F + 1, v0, v1, v2, v3, k0 => zj153 N  v0 v1 v2 v3 (fun v0 v1 v2 v3 => zj154 N  F v0 v1 v2 v3 k0) k0
def zj155 {β : Type} (N : Nat) (a0 : Int) (a1 : Int) (k : Int → Option β) : Option β :=
zj80 N a0 a1 fun r3 =>
(cond (!r3)
(k (-1))
(zj152 N a0 a1 fun r4 =>
zj154 N  N 0 ((r4.length : Int)) 0 r4 (fun e5_0 =>
k e5_0)))
/-! loop.example/g03403/impl.measure -/
def zj156 {β : Type} (N : Nat) (a0 : ByteArray) (a1 : Int) (a2 : Int) (k : Int → Option β) : Option β :=
(cond ((a0.toList == ((strOf [115, 101, 110, 115, 105, 116, 105, 118, 105, 116, 121])).toList))
(zj90 N a1 a2 fun r4 =>
k r4)
((cond ((a0.toList == ((strOf [98, 108, 111, 99, 107, 115])).toList))
(zj103 N a1 a2 fun r5 =>
k r5)
((cond ((a0.toList == ((strOf [99, 101, 114, 116, 105, 102, 105, 99, 97, 116, 101])).toList))
(zj116 N a1 a2 0 fun r6 =>
zj116 N a1 a2 1 fun r7 =>
k ((mxI r6 r7)))
((cond ((a0.toList == ((strOf [100, 101, 112, 116, 104])).toList))
(zj124 N a1 a2 fun r8 =>
k r8)
((cond ((a0.toList == ((strOf [100, 101, 103, 114, 101, 101])).toList))
(zj135 N a1 a2 fun r9 =>
k ((mxI r9 0)))
((cond ((a0.toList == ((strOf [100, 101, 103, 114, 101, 101, 50])).toList))
(zj145 N a1 a2 fun r10 =>
k ((mxI r10 0)))
((cond ((a0.toList == ((strOf [111, 110, 101, 115])).toList))
(zj146 N a1 a2 fun r11 =>
k r11)
((cond ((a0.toList == ((strOf [105, 110, 102, 108, 117, 101, 110, 99, 101])).toList))
(zj155 N a1 a2 fun r12 =>
k r12)
(k (-1)))))))))))))))))
/-! loop.example/g03403/impl.RelationHolds$1 -/
def zj157 {β : Type} (N : Nat) (a0 : ByteArray) (c0 : Int) (c1 : Int) (k : Int → Option β) : Option β :=
zj156 N a0 c0 c1 fun r2 =>
k r2
/-! (loop.example/g03403/impl.Table).restrict -/
def zj158 {β : Type} (N : Nat) (a0 : Int) (a1 : Int) (a2 : Int) (a3 : Int) (k : Int → Int → Option β) : Option β :=
zj143 N ((w64 (a0 - 1))) (fun x0 k => zj140 N x0 a0 a1 a2 a3 k) fun r6 r7 =>
k r6 r7
/-! (loop.example/g03403/impl.Table).depends -/
def zj159 {β : Type} (N : Nat) (a0 : Int) (a1 : Int) (a2 : Int) (k : Bool → Option β) : Option β :=
zj158 N a0 a1 a2 0 fun r4 r5 =>
zj158 N a0 a1 a2 1 fun r6 r7 =>
k ((!((r4 == r6) && (r5 == r7))))
/-! loop.example/g03403/impl.VariablesOf -/
def zj160 {β : Type} (N : Nat)  (v0 : Int) (v1 : Int) (v2 : Int) (v3 : Int) (v4 : List Int) (rec_ : Int → Int → Int → Int → List Int → Option β) (k0 : List Int → Option β) : Option β :=
(cond ((decide (v1 < v0)))
(zj159 N v2 v3 v1 fun r4 =>
(cond r4
((gd ((decide ((v4.length + ((([] : List Int) ++ [v1])).length) * 8 ≤ 140737488355328)))
(rec_ v0 ((w64 (v1 + 1))) v2 v3 ((v4 ++ (([] : List Int) ++ [v1]))))))
(rec_ v0 ((w64 (v1 + 1))) v2 v3 v4)))
(k0 v4))
def zj161 {β : Type} (N : Nat)  : Nat → Int → Int → Int → Int → List Int → (List Int → Option β) → Option β
  | 0, _, _, _, _, _, _ => none
  | F + 1, v0, v1, v2, v3, v4, k0 => zj160 N  v0 v1 v2 v3 v4 (fun v0 v1 v2 v3 v4 => zj161 N  F v0 v1 v2 v3 v4 k0) k0
def zj162 {β : Type} (N : Nat) (a0 : Int) (a1 : Int) (k : List Int → Option β) : Option β :=
zj80 N a0 a1 fun r3 =>
(cond (!r3)
(k (([] : List Int)))
(zj161 N  N a0 0 a0 a1 (([] : List Int)) (fun e5_0 =>
k e5_0)))
/-! loop.example/g03403/impl.RelationHolds -/
def zj163 {β : Type} (N : Nat) (a0 : ByteArray) (a1 : Int) (a2 : Int) (k : Bool → Option β) : Option β :=
zj81 N a1 a2 4 fun r4 =>
(cond (!r4)
(k false)
(zj157 N ((strOf [115, 101, 110, 115, 105, 116, 105, 118, 105, 116, 121])) a1 a2 fun r5 =>
zj157 N ((strOf [98, 108, 111, 99, 107, 115])) a1 a2 fun r6 =>
zj157 N ((strOf [99, 101, 114, 116, 105, 102, 105, 99, 97, 116, 101])) a1 a2 fun r7 =>
zj157 N ((strOf [100, 101, 112, 116, 104])) a1 a2 fun r8 =>
(cond ((a0.toList == ((strOf [111, 114, 100, 101, 114])).toList))
((cond ((decide (r5 ≤ r6)))
((cond ((decide (r6 ≤ r7)))
((cond ((decide (r7 ≤ r8)))
(zj157 N ((strOf [100, 101, 103, 114, 101, 101])) a1 a2 fun r9 =>
k ((decide (r9 ≤ r8))))
(k false)))
(k false)))
(k false)))
((cond ((a0.toList == ((strOf [112, 114, 111, 100, 117, 99, 116])).toList))
(zj116 N a1 a2 0 fun r10 =>
zj116 N a1 a2 1 fun r11 =>
k ((decide (r8 ≤ (w64 (r10 * r11))))))
((cond ((a0.toList == ((strOf [104, 117, 97, 110, 103])).toList))
(zj157 N ((strOf [100, 101, 103, 114, 101, 101])) a1 a2 fun r12 =>
k ((decide (r12 ≤ (w64 (r5 * r5))))))
((cond ((a0.toList == ((strOf [98, 108, 111, 99, 107, 115])).toList))
((cond ((decide (r7 ≤ (w64 (r5 * r6)))))
(k ((decide (r8 ≤ (w64 ((w64 (r6 * r6)) * r6))))))
(k false)))
((cond ((a0.toList == ((strOf [100, 101, 103, 114, 101, 101, 115])).toList))
(zj157 N ((strOf [100, 101, 103, 114, 101, 101, 50])) a1 a2 fun r13 =>
zj157 N ((strOf [100, 101, 103, 114, 101, 101])) a1 a2 fun r14 =>
k ((decide (r13 ≤ r14))))
((cond ((a0.toList == ((strOf [118, 97, 114, 105, 97, 98, 108, 101, 115])).toList))
(zj162 N a1 a2 fun r15 =>
(cond ((decide (r8 ≤ (r15.length : Int))))
((cond (((r15.length : Int) == 0))
(zj157 N ((strOf [105, 110, 102, 108, 117, 101, 110, 99, 101])) a1 a2 fun r16 =>
zj79 N a1 a2 fun r17 =>
k ((decide (r16 ≤ (w64 (r5 * r17))))))
((cond ((decide (r5 > 0)))
(zj157 N ((strOf [105, 110, 102, 108, 117, 101, 110, 99, 101])) a1 a2 fun r18 =>
zj79 N a1 a2 fun r19 =>
k ((decide (r18 ≤ (w64 (r5 * r19))))))
(k false)))))
(k false)))
(k false))))))))))))))
/-! loop.example/g03403/impl.BrokenRelations$1 -/
def zj164 {β : Type} (N : Nat) (a0 : ByteArray) (c0 : Int) (c1 : Int) (k : Bool → Option β) : Option β :=
zj163 N a0 c0 c1 fun r2 =>
k r2
/-! slices.IndexFunc[[]string,string] -/
def zj165 {β : Type} (N : Nat) (a1 : (ByteArray → (Bool → Option β) → Option β)) (v0 : List ByteArray) (v1 : Int) (v2 : Int) (rec_ : List ByteArray → Int → Int → Option β) (k0 : Int → Option β) (k1 : Option β) : Option β :=
(cond ((decide (v2 < v1)))
((gd ((decide (0 ≤ v2)))
((gd ((decide (v2 < (v0.length : Int))))
(a1 ((rd ByteArray.empty v0 v2)) fun r3 =>
(cond r3
(k0 v2)
(rec_ v0 v1 ((w64 (v2 + 1))))))))))
(k1 ))
def zj166 {β : Type} (N : Nat) (a1 : (ByteArray → (Bool → Option β) → Option β)) : Nat → List ByteArray → Int → Int → (Int → Option β) → (Option β) → Option β
  | 0, _, _, _, _, _ => none
  | F + 1, v0, v1, v2, k0, k1 => zj165 N a1 v0 v1 v2 (fun v0 v1 v2 => zj166 N a1 F v0 v1 v2 k0 k1) k0 k1
def zj167 {β : Type} (N : Nat) (a0 : List ByteArray) (a1 : (ByteArray → (Bool → Option β) → Option β)) (k : Int → Option β) : Option β :=
zj166 N a1 N a0 ((a0.length : Int)) 0 (fun e4_0 =>
k e4_0) (k (-1))
/-! slices.DeleteFunc[[]string,string] -/
def zj168 {β : Type} (N : Nat)  (v0 : Int) (v1 : Int) (v2 : Int) (v3 : Int) (v4 : List ByteArray) (rec_ : Int → Int → Int → Int → List ByteArray → Option β) (k0 : Int → Int → Int → List ByteArray → Option β) : Option β :=
(cond ((decide (v1 < (v4.length : Int))))
((gd ((decide (0 ≤ v1)))
((gd ((decide (v1 < (v4.length : Int))))
(zj164 N ((rd ByteArray.empty v4 v1)) v2 v3 fun r7 =>
(cond (!r7)
((gd ((decide (0 ≤ v0)))
((gd ((decide (v0 < (v4.length : Int))))
(rec_ ((w64 (v0 + 1))) ((w64 (v1 + 1))) v2 v3 ((wr v4 v0 ((rd ByteArray.empty v4 v1)))))))))
(rec_ v0 ((w64 (v1 + 1))) v2 v3 v4)))))))
(k0 v0 v2 v3 v4))
def zj169 {β : Type} (N : Nat)  : Nat → Int → Int → Int → Int → List ByteArray → (Int → Int → Int → List ByteArray → Option β) → Option β
  | 0, _, _, _, _, _, _ => none
  | F + 1, v0, v1, v2, v3, v4, k0 => zj168 N  v0 v1 v2 v3 v4 (fun v0 v1 v2 v3 v4 => zj169 N  F v0 v1 v2 v3 v4 k0) k0
def zj170 {β : Type} (N : Nat) (a0 : List ByteArray) (a1 : Int) (a2 : Int) (k0 : Int → Int → List ByteArray → Option β) : Option β :=
zj167 N a0 (fun x0 k => zj164 N x0 a1 a2 k) fun r6 =>
(cond ((r6 == (-1)))
(k0 a1 a2 a0)
(zj169 N  N r6 ((w64 (r6 + 1))) a1 a2 a0 (fun e8_0 e8_1 e8_2 e8_3 =>
(gd ((decide (0 ≤ e8_0)))
((gd ((decide (e8_0 < (e8_3.length : Int))))
((gd ((decide (0 ≤ e8_0)))
((gd ((decide (e8_0 ≤ (((clearF e8_3 e8_0)).length : Int))))
(k0 e8_1 e8_2 ((List.drop 0 (List.take (Int.toNat e8_0) ((clearF e8_3 e8_0))))))))))))))))
/-! loop.example/g03403/impl.BrokenRelations -/
def zj171 {β : Type} (N : Nat) (a0 : Int) (a1 : Int) (k : List ByteArray → Bool → Option β) : Option β :=
zj81 N a0 a1 4 fun r4 =>
(cond (!r4)
(k (([] : List ByteArray)) false)
(zj82 N  fun r5 =>
zj170 N r5 a0 a1 (fun r6_0 r6_1 r6_2 =>
k r6_2 true)))
/-! loop.example/g03403/laws.eqStringS -/
def zj172 {β : Type} (N : Nat)  (v0 : List ByteArray) (v1 : List ByteArray) (v2 : Int) (rec_ : List ByteArray → List ByteArray → Int → Option β) (k0 : Bool → Option β) (k1 : Option β) : Option β :=
(cond ((decide (v2 < (v0.length : Int))))
((gd ((decide (0 ≤ v2)))
((gd ((decide (v2 < (v0.length : Int))))
((gd ((decide (0 ≤ v2)))
((gd ((decide (v2 < (v1.length : Int))))
((cond ((!(((rd ByteArray.empty v0 v2)).toList == ((rd ByteArray.empty v1 v2)).toList)))
(k0 false)
(rec_ v0 v1 ((w64 (v2 + 1))))))))))))))
(k1 ))
def zj173 {β : Type} (N : Nat)  : Nat → List ByteArray → List ByteArray → Int → (Bool → Option β) → (Option β) → Option β
  | 0, _, _, _, _, _ => none
  | F + 1, v0, v1, v2, k0, k1 => zj172 N  v0 v1 v2 (fun v0 v1 v2 => zj173 N  F v0 v1 v2 k0 k1) k0 k1
def zj174 {β : Type} (N : Nat) (a0 : List ByteArray) (a1 : List ByteArray) (k : Bool → Option β) : Option β :=
(cond (((a0.length : Int) != (a1.length : Int)))
(k false)
(zj173 N  N a0 a1 0 (fun e3_0 =>
k e3_0) (k true)))
/-! loop.example/g03403/laws.markText -/
def zj175 {β : Type} (N : Nat)  (v0 : Int) (v1 : ByteArray) (rec_ : Int → ByteArray → Option β) (k0 : ByteArray → Option β) : Option β :=
(cond ((decide (v0 > 0)))
((gd ((decide (((strOf ((([] : List Int) ++ [(w8 ((w64 (48 + (remI v0 10)))))])))).size + v1.size ≤ 9223372036854775807)))
(rec_ ((quoI .i64 v0 10)) (((strOf ((([] : List Int) ++ [(w8 ((w64 (48 + (remI v0 10)))))]))) ++ v1)))))
(k0 v1))
def zj176 {β : Type} (N : Nat)  : Nat → Int → ByteArray → (ByteArray → Option β) → Option β
  | 0, _, _, _ => none
  | F + 1, v0, v1, k0 => zj175 N  v0 v1 (fun v0 v1 => zj176 N  F v0 v1 k0) k0
def zj177 {β : Type} (N : Nat) (a0 : Int) (k : ByteArray → Option β) : Option β :=
(cond ((decide (a0 ≤ 0)))
(k ((strOf [109, 48])))
(zj176 N  N a0 ByteArray.empty (fun e2_0 =>
(gd ((decide (((strOf [109])).size + e2_0.size ≤ 9223372036854775807)))
(k (((strOf [109]) ++ e2_0)))))))
/-! loop.example/g03403/laws.heldStringS -/
def zj178 {β : Type} (N : Nat)  (v0 : List ByteArray) (v1 : Int) (v2 : Int) (rec_ : List ByteArray → Int → Int → Option β) (k0 : Int → Option β) (k1 : Int → Option β) : Option β :=
(cond ((decide (v2 < (v0.length : Int))))
((gd ((decide (0 ≤ v2)))
((gd ((decide (v2 < (v0.length : Int))))
(zj177 N v1 fun r3 =>
(cond ((!(((rd ByteArray.empty v0 v2)).toList == r3.toList)))
(k0 (-1))
(rec_ v0 ((w64 (v1 + 1))) ((w64 (v2 + 1))))))))))
(k1 v1))
def zj179 {β : Type} (N : Nat)  : Nat → List ByteArray → Int → Int → (Int → Option β) → (Int → Option β) → Option β
  | 0, _, _, _, _, _ => none
  | F + 1, v0, v1, v2, k0, k1 => zj178 N  v0 v1 v2 (fun v0 v1 v2 => zj179 N  F v0 v1 v2 k0 k1) k0 k1
def zj180 {β : Type} (N : Nat) (a0 : List ByteArray) (a1 : Int) (k : Int → Option β) : Option β :=
zj179 N  N a0 a1 0 (fun e4_0 =>
k e4_0) (fun e5_0 =>
k e5_0)
/-! loop.example/g03403/laws.markStringS -/
def zj181 {β : Type} (N : Nat)  (v0 : Int) (v1 : Int) (v2 : List ByteArray) (rec_ : Int → Int → List ByteArray → Option β) (k0 : Int → List ByteArray → Option β) : Option β :=
(cond ((decide (v1 < (v2.length : Int))))
(zj177 N v0 fun r3 =>
(gd ((decide (0 ≤ v1)))
((gd ((decide (v1 < (v2.length : Int))))
(rec_ ((w64 (v0 + 1))) ((w64 (v1 + 1))) ((wr v2 v1 r3)))))))
(k0 v0 v2))
def zj182 {β : Type} (N : Nat)  : Nat → Int → Int → List ByteArray → (Int → List ByteArray → Option β) → Option β
  | 0, _, _, _, _ => none
  | F + 1, v0, v1, v2, k0 => zj181 N  v0 v1 v2 (fun v0 v1 v2 => zj182 N  F v0 v1 v2 k0) k0
def zj183 {β : Type} (N : Nat) (a0 : List ByteArray) (a1 : Int) (k : Int → List ByteArray → Option β) : Option β :=
zj182 N  N a1 0 a0 (fun e4_0 e4_1 =>
k e4_0 e4_1)
/-! loop.example/g03403/laws.FnExactBrokenRelations -/
def laws_FnExactBrokenRelations {β : Type} (N : Nat) (a0 : Int) (a1 : Int) (k : Bool → Option β) : Option β :=
zj0 N a0 a1 fun r3 r4 =>
zj77 N r3 r4 fun r5 r6 =>
zj0 N a0 a1 fun r7 r8 =>
zj171 N r7 r8 fun r9 r10 =>
zj174 N r9 r5 fun r11 =>
(cond (!r11)
(k false)
((cond ((!(r10 == r6)))
(k false)
(zj183 N r9 1 fun r12 m13 =>
zj180 N m13 1 fun r14 =>
(cond ((decide (r14 < 0)))
(k false)
((cond ((r14 != r12))
(k false)
(zj0 N a0 a1 fun r15 r16 =>
zj171 N r15 r16 fun r17 r18 =>
zj174 N r17 r5 fun r19 =>
(cond (!r19)
(k false)
((cond ((!(r18 == r6)))
(k false)
(zj180 N m13 1 fun r20 =>
(cond ((decide (r20 < 0)))
(k false)
((cond ((r20 != r12))
(k false)
(k true))))))))))))))))
end Go.Proofs.Ytfdggelojmofmaa
