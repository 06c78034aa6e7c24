/- The texts of the functions that the claims reach: plain Lean, no program. -/
import Derived.Test.YtemihnclhcobnaaGreatDoorSizT
namespace Go.Proofs.YtemihnclhcobnaaGreatDoor
open Go.Rv
set_option linter.unusedVariables false
set_option maxRecDepth 100000
abbrev O := Option
abbrev Y0 (β : Type) := Int → Int → (Bool → O β) → O β
abbrev Y1 (β : Type) := Int → Int → (Int → O β) → O β
abbrev Y2 (β : Type) := Int → Int → Int → (Int → O β) → O β
abbrev Y3 (β : Type) := Int → Int → Int → (Bool → O β) → O β
abbrev Y4 (β : Type) := Nat → Int → Int → Int → Int → Int → Int → (Int → O β) → O β
abbrev Y5 (β : Type) := (List (Int × Int)) → (Int → Int → (Bool → O β) → O β) → (Int → O β) → O β
abbrev Y6 (β : Type) := (Int → Int → (Bool → O β) → O β) → Nat → List (Int × Int) → Int → Int → (Int → O β) → O β → O β
abbrev Y7 (β : Type) := (List (Int × Int)) → (Int → Int → (Bool → O β) → O β) → (Bool → O β) → O β
abbrev Y8 (β : Type) := Int → (List (Int × Int)) → (Bool → O β) → O β
abbrev Y9 (β : Type) := Int → (Int → (Bool → O β) → O β) → (Int → Int → O β) → O β
abbrev Y10 (β : Type) := (Int → (Bool → O β) → O β) → Nat → Int → Int → Int → Int → Int → Int → (Int → Int → Int → Int → O β) → O β
abbrev Y11 (β : Type) := Int → Int → (Int → Int → O β) → O β
abbrev Y12 (β : Type) := Nat → Int → Int → Int → Int → (Int → O β) → O β
abbrev Y13 (β : Type) := List Int → Int → (Int → O β) → O β
abbrev Y14 (β : Type) := Nat → List Int → Int → Int → Int → (Int → O β) → O β → O β
abbrev Y15 (β : Type) := List Int → Int → (Bool → O β) → O β
abbrev Y16 (β : Type) := Int → Int → (ByteArray → O β) → O β
abbrev Y17 (β : Type) := Nat → ByteArray → Int → Int → Int → (ByteArray → O β) → O β
abbrev Y18 (β : Type) := Nat → Int → Int → Int → Int → Int → Int → (Int → Int → Int → Int → Int → O β) → O β
abbrev Y19 (β : Type) := Int → Int → Int → (ByteArray → O β) → O β
abbrev Y20 (β : Type) := Nat → Int → ByteArray → Int → Int → Int → (Int → ByteArray → Int → Int → O β) → O β
abbrev Y21 (β : Type) := Nat → ByteArray → Int → Int → Int → Int → (ByteArray → O β) → O β
abbrev Y22 (β : Type) := Nat → Int → Int → Int → Int → Int → (Int → O β) → O β
abbrev Y23 (β : Type) := Int → Int → Int → Int → (Bool → O β) → O β
abbrev Y24 (β : Type) := Nat → Int → Int → Int → Int → Int → (Bool → O β) → O β → O β
abbrev Y25 (β : Type) := Int → Int → (List (Int × Int) → O β) → O β
abbrev Y26 (β : Type) := Nat → Int → Int → Int → List (Int × Int) → (List (Int × Int) → O β) → O β
abbrev Y27 (β : Type) := Nat → Int → Int → Int → Int → List (Int × Int) → (Int → Int → Int → List (Int × Int) → O β) → O β
abbrev Y28 (β : Type) := Nat → Int → Int → List (Int × Int) → Int → Int → Int → (List (Int × Int) → Bool → O β) → O β
abbrev Y29 (β : Type) := (Int → Int → List (Int × Int) → Int → Int → Int → (List (Int × Int) → Bool → O β) → O β) → Nat → List (Int × Int) → Int → Int → Int → Int → Int → (Bool → List (Int × Int) → O β) → O β → O β
abbrev Y30 (β : Type) := Int → Int → (List (Int × Int) → Bool → O β) → O β
abbrev Y31 (β : Type) := Nat → Int → Int → Int → List (Int × Int) → (Bool → List (Int × Int) → O β) → O β → O β
abbrev Y32 (β : Type) := Int → Int → List (Int × Int) → Int → Int → Int → (List (Int × Int) → Bool → O β) → O β
abbrev Y33 (β : Type) := Nat → Int → List (Int × Int) → Int → (Bool → O β) → (Int → List (Int × Int) → O β) → O β
abbrev Y34 (β : Type) := Int → (List (Int × Int)) → (ByteArray → O β) → O β
abbrev Y35 (β : Type) := Nat → Int → List (Int × Int) → ByteArray → Int → (Int → List (Int × Int) → ByteArray → O β) → O β
abbrev Y36 (β : Type) := Int → Int → Int → Int → (Int → O β) → O β
abbrev Y37 (β : Type) := Nat → Int → Int → Int → Int → Int → Int → (Int → O β) → (Int → O β) → O β
abbrev Y38 (β : Type) := (Int → Int → Int → Int → (Int → O β) → O β) → Nat → Int → Int → Int → Int → Int → Int → (Int → O β) → O β
abbrev Y39 (β : Type) := Nat → Int → Int → Int → Int → (ByteArray → O β) → O β
abbrev Y40 (β : Type) := (Int → Int → Int → Int → (ByteArray → O β) → O β) → Nat → Int → Int → Int → Int → Int → Int → (ByteArray → O β) → O β → O β
abbrev Y41 (β : Type) := Int → Int → (ByteArray → Bool → O β) → O β
abbrev Y42 (β : Type) := Int → Int → Int → Int → (ByteArray → O β) → O β
abbrev Y43 (β : Type) := Int → (Int → O β) → O β
abbrev Y44 (β : Type) := Nat → List Int → Int → Int → (ByteArray → O β) → O β
abbrev Y45 (β : Type) := Nat → List Int → Int → Int → Int → (ByteArray → O β) → (List Int → Int → Int → O β) → O β
abbrev Y46 (β : Type) := (List Int → Int → Int → (ByteArray → O β) → O β) → Nat → List Int → Int → Int → Int → (ByteArray → O β) → O β → O β
abbrev Y47 (β : Type) := (List Int → Int → Int → (ByteArray → O β) → O β) → Nat → List Int → Int → Int → Int → Int → (ByteArray → O β) → (List Int → Int → Int → Int → O β) → O β
abbrev Y48 (β : Type) := (List Int → Int → Int → (ByteArray → O β) → O β) → Nat → List Int → Int → Int → Int → Int → Int → (ByteArray → O β) → (List Int → Int → Int → Int → Int → O β) → O β
abbrev Y49 (β : Type) := List Int → Int → Int → (ByteArray → O β) → O β
abbrev Y50 (β : Type) := ByteArray → Int → Int → (ByteArray → Bool → O β) → O β
abbrev Y51 (β : Type) := Int → (Bool → O β) → O β
abbrev Y52 (β : Type) := Nat → Int → Int → Int → Int → List Int → (List Int → O β) → O β
abbrev Y53 (β : Type) := Int → (List (Int × Int)) → ByteArray → (ByteArray → O β) → O β
abbrev Y54 (β : Type) := Nat → Int → ByteArray → List (Int × Int) → Int → Int → List ByteArray → (ByteArray → List ByteArray → O β) → O β
abbrev Y55 (β : Type) := Nat → Int → Int → Int → Int → Int → Int → List (Int × Int) → (Int → Int → List (Int × Int) → O β) → O β
abbrev Y56 (β : Type) := Nat → Int → Int → Int → Int → Int → Int → Bool → Bool → (Bool → Bool → O β) → O β
abbrev Y57 (β : Type) := Nat → Int → Int → Int → Int → Int → Int → (Bool → O β) → O β → O β
abbrev Y58 (β : Type) := Nat → Int → Int → Int → Int → List (Int × Int) → (List (Int × Int) → O β) → O β
abbrev Y59 (β : Type) := Nat → Int → Int → Int → Int → Int → Int → Int → List (Int × Int) → (Int → Int → Int → Int → List (Int × Int) → O β) → O β
abbrev Y60 (β : Type) := Int → (List (Int × Int)) → (Int → Int → O β) → O β
abbrev Y61 (β : Type) := Nat → List Int → Int → Int → Int → Int → (List Int → Bool → O β) → O β
abbrev Y62 (β : Type) := (List Int → Int → Int → Int → Int → (List Int → Bool → O β) → O β) → Nat → List Int → Int → Int → Int → Int → (Bool → List Int → O β) → O β → O β
abbrev Y63 (β : Type) := Nat → Int → Int → Int → Int → List (Int × Int) → List Int → (Int → Int → List (Int × Int) → List Int → O β) → O β
abbrev Y64 (β : Type) := Nat → Int → Int → Int → Int → List (Int × Int) → List Int → (List (Int × Int) → O β) → O β → O β
abbrev Y65 (β : Type) := Nat → Int → Int → List (Int × Int) → List (Int × Int) → List Int → (List (Int × Int) → O β) → O β
abbrev Y66 (β : Type) := List Int → Int → Int → Int → Int → (List Int → Bool → O β) → O β
abbrev Y67 (β : Type) := Int → Int → (Int → Int → Mp → Mp → O β) → O β
abbrev Y68 (β : Type) := Int → (ByteArray → O β) → O β
abbrev Y69 (β : Type) := Int → Int → Int → Int → (Int → Int → O β) → O β
abbrev Y70 (β : Type) := Nat → Int → Int → Int → Int → Mp → Mp → (Int → Int → Int → Mp → Mp → O β) → O β
abbrev Y71 (β : Type) := (Int → Int → Int → Int → Mp → Mp → (Int → Int → Int → Mp → Mp → O β) → O β) → Nat → Int → Int → Int → Int → Int → Mp → Mp → Int → Int → (Int → Int → Int → Mp → Mp → Int → Int → O β) → O β
abbrev Y72 (β : Type) := Int → Int → Int → Int → Mp → Mp → (Int → Int → Int → Mp → Mp → O β) → O β
abbrev Y73 (β : Type) := Nat → Int → Int → Int → Int → Int → Mp → Mp → Int → Int → (Int → Int → Int → Mp → Mp → O β) → (Int → Int → Mp → Mp → O β) → O β
abbrev Y74 (β : Type) := Nat → Int → Int → Int → Int → Mp → Mp → (ByteArray → Int → Int → Mp → Mp → O β) → O β
abbrev Y75 (β : Type) := Int → Int → Int → Int → Mp → Mp → (ByteArray → Int → Int → Mp → Mp → O β) → O β
abbrev Y76 (β : Type) := Nat → Int → Int → List Int → (ByteArray → O β) → O β
abbrev Y77 (β : Type) := Nat → List Int → Int → Int → Int → Int → (ByteArray → O β) → (List Int → Int → Int → O β) → O β
abbrev Y78 (β : Type) := (Int → Int → List Int → (ByteArray → O β) → O β) → Nat → List Int → Int → Int → Int → Int → List Int → (ByteArray → O β) → O β → O β
abbrev Y79 (β : Type) := (Int → Int → List Int → (ByteArray → O β) → O β) → Nat → List Int → Int → Int → Int → List Int → Int → Int → Int → Int → List Int → (ByteArray → O β) → (List Int → Int → Int → Int → Int → List Int → O β) → O β
abbrev Y80 (β : Type) := (Int → Int → List Int → (ByteArray → O β) → O β) → Nat → List Int → Int → Int → Int → Int → Int → List Int → Int → Int → List Int → Int → Int → Int → Int → List Int → (ByteArray → O β) → (List Int → Int → Int → Int → List Int → Int → Int → Int → Int → List Int → O β) → O β
abbrev Y81 (β : Type) := Int → Int → List Int → (ByteArray → O β) → O β
abbrev Y82 (β : Type) := ByteArray → Int → Int → (Bool → O β) → O β
def tn : Nat → List TV → List TV
  | 0, l => l
  | n + 1, l => tund :: tn n l
variable {β : Type}
abbrev stB (L : Lay) (E : Env β) (f : Func) (i : Nat) (s : St) (rec_ : St → O β) (K : Exit → St → O β) : O β := ev L E (retMask f) (lp f i).body (lp f i).ex ((lp f i).lv (retMask f)) s (nextR (fun s' => rec_ (s'.tidy ((lp f i).lv (retMask f)))) K)
variable (zq0 : Y0 β) (zq1 : Y1 β) (zq2 : Y2 β) (zq4 : Y4 β) (zq5 : Y3 β) (zq6 : Y3 β) (zq7 : Y3 β) (zq9 : Y6 β) (zq10 : Y5 β) (zq11 : Y7 β) (zq12 : Y8 β) (zq14 : Y10 β) (zq15 : Y9 β) (zq16 : Y11 β) (zq18 : Y12 β) (zq19 : Y1 β) (zq21 : Y14 β) (zq22 : Y13 β) (zq24 : Y11 β) (zq25 : Y3 β) (zq26 : Y0 β) (zq28 : Y17 β) (zq29 : Y16 β) (zq31 : Y18 β) (zq33 : Y12 β) (zq34 : Y1 β) (zq35 : Y3 β) (zq37 : Y20 β) (zq38 : Y19 β) (zq40 : Y21 β) (zq41 : Y16 β) (zq43 : Y22 β) (zq44 : Y2 β) (zq45 : Y23 β) (zq47 : Y24 β) (zq48 : Y23 β) (zq50 : Y27 β) (zq52 : Y26 β) (zq53 : Y25 β) (zq55 : Y29 β) (zq58 : Y32 β) (zq60 : Y31 β) (zq61 : Y30 β) (zq63 : Y33 β) (zq64 : Y8 β) (zq66 : Y35 β) (zq67 : Y34 β) (zq69 : Y37 β) (zq70 : Y36 β) (zq72 : Y38 β) (zq75 : Y36 β) (zq77 : Y40 β) (zq80 : Y42 β) (zq81 : Y41 β) (zq82 : Y43 β) (zq84 : Y45 β) (zq86 : Y48 β) (zq88 : Y47 β) (zq90 : Y46 β) (zq93 : Y49 β) (zq94 : Y41 β) (zq95 : Y50 β) (zq96 : Y51 β) (zq97 : Y0 β) (zq98 : Y3 β) (zq100 : Y52 β) (zq101 : Y16 β) (zq102 : Y11 β) (zq103 : Y0 β) (zq104 : Y3 β) (zq106 : Y52 β) (zq107 : Y19 β) (zq109 : Y54 β) (zq110 : Y53 β) (zq112 : Y55 β) (zq113 : Y16 β) (zq115 : Y56 β) (zq116 : Y36 β) (zq117 : Y23 β) (zq119 : Y57 β) (zq120 : Y23 β) (zq122 : Y59 β) (zq124 : Y58 β) (zq125 : Y25 β) (zq126 : Y60 β) (zq128 : Y62 β) (zq131 : Y66 β) (zq133 : Y63 β) (zq135 : Y65 β) (zq137 : Y64 β) (zq138 : Y25 β) (zq139 : Y34 β) (zq140 : Y67 β) (zq141 : Y68 β) (zq142 : Y69 β) (zq144 : Y71 β) (zq147 : Y72 β) (zq149 : Y73 β) (zq150 : Y72 β) (zq154 : Y75 β) (zq155 : Y41 β) (zq156 : Y11 β) (zq157 : Y0 β) (zq159 : Y77 β) (zq161 : Y80 β) (zq163 : Y79 β) (zq165 : Y78 β) (zq168 : Y81 β) (zq169 : Y41 β) (zq170 : Y50 β)
def zb0 (N : Nat) (a0 : Int) (c0 : Int) (k : Bool → O β) : O β :=
(gd ((decide (0 ≤ c0)))
(k (((bits .and .i64 (shrI .i64 a0 c0) 1) == 1))))
def zj0 (N : Nat) (a0 : Int) (c0 : Int) (k : Bool → O β) : O β := zb0 N a0 c0 k
def zb1 (N : Nat) (a0 : Int) (a1 : Int) (k : Int → O β) : O β :=
(gd ((decide (0 ≤ a0)))
(k ((shlI .i64 1 a0))))
def zj1 (N : Nat) (a0 : Int) (a1 : Int) (k : Int → O β) : O β := zb1 N a0 a1 k
def zb2 (N : Nat) (a0 : Int) (a1 : Int) (a2 : Int) (k : Int → O β) : O β :=
(gd ((decide (0 ≤ a2)))
(k ((bits .and .i64 (shrI .i64 a1 a2) 1))))
def zj2 (N : Nat) (a0 : Int) (a1 : Int) (a2 : Int) (k : Int → O β) : O β := zb2 N a0 a1 a2 k
def zb3 (N : Nat) (v0 : Int) (v1 : Int) (v2 : Int) (v3 : Int) (v4 : Int) (v5 : Int) (rec_ : Int → Int → Int → Int → Int → Int → O β) (k0 : Int → O β) : O β :=
(cond ((decide (v5 < v4)))
((cond (((bits .andNot .i64 v5 v0) == 0))
(zq2 v1 v2 v5 fun r3 =>
rec_ v0 v1 v2 ((bits .xor .i64 v3 r3)) v4 ((w64 (v5 + 1))))
(rec_ v0 v1 v2 v3 v4 ((w64 (v5 + 1))))))
(k0 v3))
def zj3 (N : Nat) (v0 : Int) (v1 : Int) (v2 : Int) (v3 : Int) (v4 : Int) (v5 : Int) (rec_ : Int → Int → Int → Int → Int → Int → O β) (k0 : Int → O β) : O β := zb3 (zj2 N) N v0 v1 v2 v3 v4 v5 rec_ k0
def zj4 (N : Nat) : Nat → Int → Int → Int → Int → Int → Int → (Int → O β) → O β
  | 0, _, _, _, _, _, _, _ => none
  | F + 1, v0, v1, v2, v3, v4, v5, k0 => zj3 N v0 v1 v2 v3 v4 v5 (fun v0 v1 v2 v3 v4 v5 => zj4 N F v0 v1 v2 v3 v4 v5 k0) k0
def zb5 (N : Nat) (a0 : Int) (c0 : Int) (c1 : Int) (k : Bool → O β) : O β :=
zq1 c0 c1 fun r2 =>
zq4 N a0 c0 c1 0 r2 0 (fun e4_0 =>
k ((e4_0 == 1)))
def zj5 (N : Nat) (a0 : Int) (c0 : Int) (c1 : Int) (k : Bool → O β) : O β := zb5 (zj1 N) (zj4 N) N a0 c0 c1 k
def zb6 (N : Nat) (a0 : Int) (a1 : Int) (a2 : Int) (k : Bool → O β) : O β :=
k (((bits .and .i64 a2 a0) == a1))
def zj6 (N : Nat) (a0 : Int) (a1 : Int) (a2 : Int) (k : Bool → O β) : O β := zb6 N a0 a1 a2 k
def zb7 (N : Nat) (a0 : Int) (a1 : Int) (c0 : Int) (k : Bool → O β) : O β :=
zq6 a0 a1 c0 fun r3 =>
k r3
def zj7 (N : Nat) (a0 : Int) (a1 : Int) (c0 : Int) (k : Bool → O β) : O β := zb7 (zj6 N) N a0 a1 c0 k
def zb8 (N : Nat) (a1 : (Int → Int → (Bool → O β) → O β)) (v0 : List (Int × Int)) (v1 : Int) (v2 : Int) (rec_ : List (Int × Int) → Int → Int → O β) (k0 : Int → O β) (k1 : O β) : O β :=
(cond ((decide (v2 < v1)))
((gd ((decide (0 ≤ v2)))
((gd ((decide (v2 < (v0.length : Int))))
(a1 ((rd (0, 0) v0 v2).1) ((rd (0, 0) v0 v2).2) fun r3 =>
(cond r3
(k0 v2)
(rec_ v0 v1 ((w64 (v2 + 1))))))))))
(k1 ))
def zj8 (N : Nat) (a1 : (Int → Int → (Bool → O β) → O β)) (v0 : List (Int × Int)) (v1 : Int) (v2 : Int) (rec_ : List (Int × Int) → Int → Int → O β) (k0 : Int → O β) (k1 : O β) : O β := zb8 N a1 v0 v1 v2 rec_ k0 k1
def zj9 (N : Nat) (a1 : (Int → Int → (Bool → O β) → O β)) : Nat → List (Int × Int) → Int → Int → (Int → O β) → (O β) → O β
  | 0, _, _, _, _, _ => none
  | F + 1, v0, v1, v2, k0, k1 => zj8 N a1 v0 v1 v2 (fun v0 v1 v2 => zj9 N a1 F v0 v1 v2 k0 k1) k0 k1
def zb10 (N : Nat) (a0 : List (Int × Int)) (a1 : (Int → Int → (Bool → O β) → O β)) (k : Int → O β) : O β :=
zq9 a1 N a0 ((a0.length : Int)) 0 (fun e4_0 =>
k e4_0) (k (-1))
def zj10 (N : Nat) (a0 : List (Int × Int)) (a1 : (Int → Int → (Bool → O β) → O β)) (k : Int → O β) : O β := zb10 (zj9 N) N a0 a1 k
def zb11 (N : Nat) (a0 : List (Int × Int)) (a1 : (Int → Int → (Bool → O β) → O β)) (k : Bool → O β) : O β :=
zq10 a0 a1 fun r3 =>
k ((decide (r3 ≥ 0)))
def zj11 (N : Nat) (a0 : List (Int × Int)) (a1 : (Int → Int → (Bool → O β) → O β)) (k : Bool → O β) : O β := zb11 (zj10 N) N a0 a1 k
def zb12 (N : Nat) (a0 : Int) (c0 : List (Int × Int)) (k : Bool → O β) : O β :=
zq11 c0 (fun x0 x1 k => zq7 x0 x1 a0 k) fun r2 =>
k r2
def zj12 (N : Nat) (a0 : Int) (c0 : List (Int × Int)) (k : Bool → O β) : O β := zb12 (zj7 N) (zj11 N) N a0 c0 k
def zb13 (N : Nat) (a1 : (Int → (Bool → O β) → O β)) (v0 : Int) (v1 : Int) (v2 : Int) (v3 : Int) (v4 : Int) (v5 : Int) (rec_ : Int → Int → Int → Int → Int → Int → O β) (k0 : Int → Int → Int → Int → O β) : O β :=
(cond ((decide (v1 < v0)))
(a1 v1 fun r4 =>
(cond r4
((gd ((decide (0 ≤ v1)))
(rec_ v0 ((w64 (v1 + 1))) v2 v3 v4 ((bits .or .i64 v5 (shlI .i64 1 v1))))))
(rec_ v0 ((w64 (v1 + 1))) v2 v3 v4 v5)))
(k0 v2 v3 v4 v5))
def zj13 (N : Nat) (a1 : (Int → (Bool → O β) → O β)) (v0 : Int) (v1 : Int) (v2 : Int) (v3 : Int) (v4 : Int) (v5 : Int) (rec_ : Int → Int → Int → Int → Int → Int → O β) (k0 : Int → Int → Int → Int → O β) : O β := zb13 N a1 v0 v1 v2 v3 v4 v5 rec_ k0
def zj14 (N : Nat) (a1 : (Int → (Bool → O β) → O β)) : Nat → Int → Int → Int → Int → Int → Int → (Int → Int → Int → Int → O β) → O β
  | 0, _, _, _, _, _, _, _ => none
  | F + 1, v0, v1, v2, v3, v4, v5, k0 => zj13 N a1 v0 v1 v2 v3 v4 v5 (fun v0 v1 v2 v3 v4 v5 => zj14 N a1 F v0 v1 v2 v3 v4 v5 k0) k0
def zb15 (N : Nat) (a0 : Int) (a1 : (Int → (Bool → O β) → O β)) (k : Int → Int → O β) : O β :=
(gd ((decide (0 ≤ a0)))
(zq14 a1 N ((shlI .i64 1 a0)) 0 0 0 a0 0 (fun e5_0 e5_1 e5_2 e5_3 =>
k e5_2 e5_3)))
def zj15 (N : Nat) (a0 : Int) (a1 : (Int → (Bool → O β) → O β)) (k : Int → Int → O β) : O β := zb15 (zj14 N) N a0 a1 k
def zb16 (N : Nat) (a0 : Int) (a1 : Int) (k : Int → Int → O β) : O β :=
zq15 a0 (fun x0 k => zq0 x0 a1 k) fun r4 r5 =>
k r4 r5
def zj16 (N : Nat) (a0 : Int) (a1 : Int) (k : Int → Int → O β) : O β := zb16 (zj0 N) (zj15 N) N a0 a1 k
def zb17 (N : Nat) (v0 : Int) (v1 : Int) (v2 : Int) (v3 : Int) (rec_ : Int → Int → Int → Int → O β) (k0 : Int → O β) : O β :=
(gd ((decide (0 ≤ v0)))
((cond ((decide (v3 < (shlI .i64 1 v0))))
((gd ((decide (0 ≤ v1)))
((cond (((bits .and .i64 (shrI .i64 v3 v1) 1) == 1))
((gd ((decide (0 ≤ v3)))
(rec_ v0 v1 ((bits .or .i64 v2 (shlI .i64 1 v3))) ((w64 (v3 + 1))))))
(rec_ v0 v1 v2 ((w64 (v3 + 1))))))))
(k0 v2))))
def zj17 (N : Nat) (v0 : Int) (v1 : Int) (v2 : Int) (v3 : Int) (rec_ : Int → Int → Int → Int → O β) (k0 : Int → O β) : O β := zb17 N v0 v1 v2 v3 rec_ k0
def zj18 (N : Nat) : Nat → Int → Int → Int → Int → (Int → O β) → O β
  | 0, _, _, _, _, _ => none
  | F + 1, v0, v1, v2, v3, k0 => zj17 N v0 v1 v2 v3 (fun v0 v1 v2 v3 => zj18 N F v0 v1 v2 v3 k0) k0
def zb19 (N : Nat) (a0 : Int) (a1 : Int) (k : Int → O β) : O β :=
zq18 N a0 a1 0 0 (fun e3_0 =>
k e3_0)
def zj19 (N : Nat) (a0 : Int) (a1 : Int) (k : Int → O β) : O β := zb19 (zj18 N) N a0 a1 k
def zb20 (N : Nat) (v0 : List Int) (v1 : Int) (v2 : Int) (v3 : Int) (rec_ : List Int → Int → Int → Int → O β) (k0 : Int → O β) (k1 : O β) : O β :=
(cond ((decide (v3 < v2)))
((gd ((decide (0 ≤ v3)))
((gd ((decide (v3 < (v0.length : Int))))
((cond ((v1 == (rd 0 v0 v3)))
(k0 v3)
(rec_ v0 v1 v2 ((w64 (v3 + 1))))))))))
(k1 ))
def zj20 (N : Nat) (v0 : List Int) (v1 : Int) (v2 : Int) (v3 : Int) (rec_ : List Int → Int → Int → Int → O β) (k0 : Int → O β) (k1 : O β) : O β := zb20 N v0 v1 v2 v3 rec_ k0 k1
def zj21 (N : Nat) : Nat → List Int → Int → Int → Int → (Int → O β) → (O β) → O β
  | 0, _, _, _, _, _, _ => none
  | F + 1, v0, v1, v2, v3, k0, k1 => zj20 N v0 v1 v2 v3 (fun v0 v1 v2 v3 => zj21 N F v0 v1 v2 v3 k0 k1) k0 k1
def zb22 (N : Nat) (a0 : List Int) (a1 : Int) (k : Int → O β) : O β :=
zq21 N a0 a1 ((a0.length : Int)) 0 (fun e3_0 =>
k e3_0) (k (-1))
def zj22 (N : Nat) (a0 : List Int) (a1 : Int) (k : Int → O β) : O β := zb22 (zj21 N) N a0 a1 k
def zb23 (N : Nat) (a0 : List Int) (a1 : Int) (k : Bool → O β) : O β :=
zq22 a0 a1 fun r3 =>
k ((decide (r3 ≥ 0)))
def zj23 (N : Nat) (a0 : List Int) (a1 : Int) (k : Bool → O β) : O β := zb23 (zj22 N) N a0 a1 k
def zb24 (N : Nat) (a0 : Int) (a1 : Int) (k : Int → Int → O β) : O β :=
k a0 a1
def zj24 (N : Nat) (a0 : Int) (a1 : Int) (k : Int → Int → O β) : O β := zb24 N a0 a1 k
def zb25 (N : Nat) (a0 : Int) (a1 : Int) (a2 : Int) (k : Bool → O β) : O β :=
(cond ((decide (a0 ≥ a1)))
(k ((decide (a0 ≤ a2))))
(k false))
def zj25 (N : Nat) (a0 : Int) (a1 : Int) (a2 : Int) (k : Bool → O β) : O β := zb25 N a0 a1 a2 k
def zb26 (N : Nat) (a0 : Int) (a1 : Int) (k : Bool → O β) : O β :=
zq25 a0 0 5 fun r3 =>
(cond r3
((gd ((decide (0 ≤ a0)))
((gd ((decide (0 ≤ (shlI .u64 1 a0))))
(zq25 a1 0 ((w64 ((shlI .i64 1 (shlI .u64 1 a0)) - 1))) fun r4 =>
k r4)))))
(k false))
def zj26 (N : Nat) (a0 : Int) (a1 : Int) (k : Bool → O β) : O β := zb26 (zj25 N) N a0 a1 k
def zb27 (N : Nat) (v0 : ByteArray) (v1 : Int) (v2 : Int) (v3 : Int) (rec_ : ByteArray → Int → Int → Int → O β) (k0 : ByteArray → O β) : O β :=
zq26 v2 v3 fun r3 =>
(cond r3
((gd ((decide (0 ≤ v2)))
((cond ((decide (v1 < (shlI .i64 1 v2))))
((gd ((decide (0 ≤ v1)))
((cond (((bits .and .i64 (shrI .i64 v3 v1) 1) == 1))
((gd ((decide (v0.size + ((strOf [49])).size ≤ 9223372036854775807)))
(rec_ ((v0 ++ (strOf [49]))) ((w64 (v1 + 1))) v2 v3)))
((gd ((decide (v0.size + ((strOf [48])).size ≤ 9223372036854775807)))
(rec_ ((v0 ++ (strOf [48]))) ((w64 (v1 + 1))) v2 v3)))))))
(k0 v0)))))
(k0 v0))
def zj27 (N : Nat) (v0 : ByteArray) (v1 : Int) (v2 : Int) (v3 : Int) (rec_ : ByteArray → Int → Int → Int → O β) (k0 : ByteArray → O β) : O β := zb27 (zj26 N) N v0 v1 v2 v3 rec_ k0
def zj28 (N : Nat) : Nat → ByteArray → Int → Int → Int → (ByteArray → O β) → O β
  | 0, _, _, _, _, _ => none
  | F + 1, v0, v1, v2, v3, k0 => zj27 N v0 v1 v2 v3 (fun v0 v1 v2 v3 => zj28 N F v0 v1 v2 v3 k0) k0
def zb29 (N : Nat) (a0 : Int) (a1 : Int) (k : ByteArray → O β) : O β :=
zq28 N ByteArray.empty 0 a0 a1 (fun e4_0 =>
k e4_0)
def zj29 (N : Nat) (a0 : Int) (a1 : Int) (k : ByteArray → O β) : O β := zb29 (zj28 N) N a0 a1 k
def zb30 (N : Nat) (v0 : Int) (v1 : Int) (v2 : Int) (v3 : Int) (v4 : Int) (v5 : Int) (rec_ : Int → Int → Int → Int → Int → Int → O β) (k0 : Int → Int → Int → Int → Int → O β) : O β :=
(cond ((decide (v3 ≤ v1)))
((cond (((bits .and .i64 v3 v1) == v3))
((gd ((decide (0 ≤ v3)))
(rec_ v0 v1 ((w64 (v2 + (bits .and .i64 (shrI .i64 v5 v3) 1)))) ((w64 (v3 + 1))) v4 v5)))
(rec_ v0 v1 v2 ((w64 (v3 + 1))) v4 v5)))
(k0 v0 v1 v2 v4 v5))
def zj30 (N : Nat) (v0 : Int) (v1 : Int) (v2 : Int) (v3 : Int) (v4 : Int) (v5 : Int) (rec_ : Int → Int → Int → Int → Int → Int → O β) (k0 : Int → Int → Int → Int → Int → O β) : O β := zb30 N v0 v1 v2 v3 v4 v5 rec_ k0
def zj31 (N : Nat) : Nat → Int → Int → Int → Int → Int → Int → (Int → Int → Int → Int → Int → O β) → O β
  | 0, _, _, _, _, _, _, _ => none
  | F + 1, v0, v1, v2, v3, v4, v5, k0 => zj30 N v0 v1 v2 v3 v4 v5 (fun v0 v1 v2 v3 v4 v5 => zj31 N F v0 v1 v2 v3 v4 v5 k0) k0
def zb32 (N : Nat) (v0 : Int) (v1 : Int) (v2 : Int) (v3 : Int) (rec_ : Int → Int → Int → Int → O β) (k0 : Int → O β) : O β :=
(gd ((decide (0 ≤ v2)))
((cond ((decide (v1 < (shlI .i64 1 v2))))
(zq31 N v0 v1 0 0 v2 v3 (fun e3_0 e3_1 e3_2 e3_3 e3_4 =>
(gd ((decide (0 ≤ e3_1)))
(rec_ ((bits .or .i64 e3_0 (shlI .i64 (remI e3_2 2) e3_1))) ((w64 (e3_1 + 1))) e3_3 e3_4))))
(k0 v0))))
def zj32 (N : Nat) (v0 : Int) (v1 : Int) (v2 : Int) (v3 : Int) (rec_ : Int → Int → Int → Int → O β) (k0 : Int → O β) : O β := zb32 (zj31 N) N v0 v1 v2 v3 rec_ k0
def zj33 (N : Nat) : Nat → Int → Int → Int → Int → (Int → O β) → O β
  | 0, _, _, _, _, _ => none
  | F + 1, v0, v1, v2, v3, k0 => zj32 N v0 v1 v2 v3 (fun v0 v1 v2 v3 => zj33 N F v0 v1 v2 v3 k0) k0
def zb34 (N : Nat) (a0 : Int) (a1 : Int) (k : Int → O β) : O β :=
zq33 N 0 0 a0 a1 (fun e4_0 =>
k e4_0)
def zj34 (N : Nat) (a0 : Int) (a1 : Int) (k : Int → O β) : O β := zb34 (zj33 N) N a0 a1 k
def zb35 (N : Nat) (a0 : Int) (a1 : Int) (a2 : Int) (k : Bool → O β) : O β :=
zq25 a0 0 5 fun r4 =>
(cond r4
((gd ((decide (0 ≤ a0)))
(zq25 a1 0 ((w64 ((shlI .i64 1 a0) - 1))) fun r5 =>
(cond r5
(zq25 a2 0 a1 fun r6 =>
(cond r6
(k (((bits .and .i64 a2 a1) == a2)))
(k false)))
(k false)))))
(k false))
def zj35 (N : Nat) (a0 : Int) (a1 : Int) (a2 : Int) (k : Bool → O β) : O β := zb35 (zj25 N) N a0 a1 a2 k
def zb36 (N : Nat) (v0 : Int) (v1 : ByteArray) (v2 : Int) (v3 : Int) (v4 : Int) (rec_ : Int → ByteArray → Int → Int → Int → O β) (k0 : Int → ByteArray → Int → Int → O β) : O β :=
zq35 v0 v3 v4 fun r4 =>
(cond r4
((cond ((decide (v2 < v0)))
((gd ((decide (0 ≤ v2)))
((cond (((bits .and .i64 (shrI .i64 v3 v2) 1) == 0))
(rec_ v0 v1 ((w64 (v2 + 1))) v3 v4)
((gd ((decide (0 ≤ v2)))
((cond (((bits .and .i64 (shrI .i64 v4 v2) 1) == 0))
((gd ((decide (v1.size + ((strOf [33])).size ≤ 9223372036854775807)))
((gd ((decide (0 ≤ (w64 (v2 + 1)))))
((gd ((decide ((w64 (v2 + 1)) ≤ (((strOf [97, 98, 99, 100, 101])).size : Int))))
((gd ((decide (0 ≤ v2)))
((gd ((decide (v2 ≤ (w64 (v2 + 1)))))
((gd ((decide (((v1 ++ (strOf [33]))).size + ((((strOf [97, 98, 99, 100, 101])).extract (Int.toNat v2) (Int.toNat (w64 (v2 + 1))))).size ≤ 9223372036854775807)))
(rec_ v0 (((v1 ++ (strOf [33])) ++ (((strOf [97, 98, 99, 100, 101])).extract (Int.toNat v2) (Int.toNat (w64 (v2 + 1)))))) ((w64 (v2 + 1))) v3 v4)))))))))))))
((gd ((decide (0 ≤ (w64 (v2 + 1)))))
((gd ((decide ((w64 (v2 + 1)) ≤ (((strOf [97, 98, 99, 100, 101])).size : Int))))
((gd ((decide (0 ≤ v2)))
((gd ((decide (v2 ≤ (w64 (v2 + 1)))))
((gd ((decide (v1.size + ((((strOf [97, 98, 99, 100, 101])).extract (Int.toNat v2) (Int.toNat (w64 (v2 + 1))))).size ≤ 9223372036854775807)))
(rec_ v0 ((v1 ++ (((strOf [97, 98, 99, 100, 101])).extract (Int.toNat v2) (Int.toNat (w64 (v2 + 1)))))) ((w64 (v2 + 1))) v3 v4)))))))))))))))))))
(k0 v0 v1 v3 v4)))
(k0 v0 v1 v3 v4))
def zj36 (N : Nat) (v0 : Int) (v1 : ByteArray) (v2 : Int) (v3 : Int) (v4 : Int) (rec_ : Int → ByteArray → Int → Int → Int → O β) (k0 : Int → ByteArray → Int → Int → O β) : O β := zb36 (zj35 N) N v0 v1 v2 v3 v4 rec_ k0
def zj37 (N : Nat) : Nat → Int → ByteArray → Int → Int → Int → (Int → ByteArray → Int → Int → O β) → O β
  | 0, _, _, _, _, _, _ => none
  | F + 1, v0, v1, v2, v3, v4, k0 => zj36 N v0 v1 v2 v3 v4 (fun v0 v1 v2 v3 v4 => zj37 N F v0 v1 v2 v3 v4 k0) k0
def zb38 (N : Nat) (a0 : Int) (a1 : Int) (a2 : Int) (k : ByteArray → O β) : O β :=
zq37 N a0 ByteArray.empty 0 a1 a2 (fun e5_0 e5_1 e5_2 e5_3 =>
(cond ((e5_1.toList == ByteArray.empty.toList))
(zq35 e5_0 e5_2 e5_3 fun r6 =>
(cond r6
(k ((strOf [49])))
(k e5_1)))
(k e5_1)))
def zj38 (N : Nat) (a0 : Int) (a1 : Int) (a2 : Int) (k : ByteArray → O β) : O β := zb38 (zj35 N) (zj37 N) N a0 a1 a2 k
def zb39 (N : Nat) (v0 : ByteArray) (v1 : Int) (v2 : Int) (v3 : Int) (v4 : Int) (rec_ : ByteArray → Int → Int → Int → Int → O β) (k0 : ByteArray → O β) : O β :=
(gd ((decide (0 ≤ v3)))
((cond ((decide (v2 < (shlI .i64 1 v3))))
((gd ((decide (0 ≤ v2)))
((cond (((bits .and .i64 (shrI .i64 v1 v2) 1) == 0))
(rec_ v0 v1 ((w64 (v2 + 1))) v3 v4)
((cond ((!(v0.toList == ByteArray.empty.toList)))
((gd ((decide (v0.size + ((strOf [43])).size ≤ 9223372036854775807)))
(zq38 v3 v2 v2 fun r5 =>
(gd ((decide (((v0 ++ (strOf [43]))).size + r5.size ≤ 9223372036854775807)))
(rec_ (((v0 ++ (strOf [43])) ++ r5)) v1 ((w64 (v2 + 1))) v3 v4)))))
(zq38 v3 v2 v2 fun r6 =>
(gd ((decide (v0.size + r6.size ≤ 9223372036854775807)))
(rec_ ((v0 ++ r6)) v1 ((w64 (v2 + 1))) v3 v4)))))))))
(k0 v0))))
def zj39 (N : Nat) (v0 : ByteArray) (v1 : Int) (v2 : Int) (v3 : Int) (v4 : Int) (rec_ : ByteArray → Int → Int → Int → Int → O β) (k0 : ByteArray → O β) : O β := zb39 (zj38 N) N v0 v1 v2 v3 v4 rec_ k0
def zj40 (N : Nat) : Nat → ByteArray → Int → Int → Int → Int → (ByteArray → O β) → O β
  | 0, _, _, _, _, _, _ => none
  | F + 1, v0, v1, v2, v3, v4, k0 => zj39 N v0 v1 v2 v3 v4 (fun v0 v1 v2 v3 v4 => zj40 N F v0 v1 v2 v3 v4 k0) k0
def zb41 (N : Nat) (a0 : Int) (a1 : Int) (k : ByteArray → O β) : O β :=
zq26 a0 a1 fun r3 =>
(cond (!r3)
(k ByteArray.empty)
(zq34 a0 a1 fun r4 =>
zq40 N ByteArray.empty r4 0 a0 a1 (fun e7_0 =>
(cond ((e7_0.toList == ByteArray.empty.toList))
(k ((strOf [48])))
(k e7_0)))))
def zj41 (N : Nat) (a0 : Int) (a1 : Int) (k : ByteArray → O β) : O β := zb41 (zj26 N) (zj34 N) (zj40 N) N a0 a1 k
def zb42 (N : Nat) (v0 : Int) (v1 : Int) (v2 : Int) (v3 : Int) (v4 : Int) (rec_ : Int → Int → Int → Int → Int → O β) (k0 : Int → O β) : O β :=
(gd ((decide (0 ≤ v0)))
((cond ((decide (v2 < (shlI .i64 1 v0))))
((cond (((bits .and .i64 v2 v3) == v4))
((gd ((decide (0 ≤ v2)))
(rec_ v0 ((bits .or .i64 v1 (shlI .i64 1 v2))) ((w64 (v2 + 1))) v3 v4)))
(rec_ v0 v1 ((w64 (v2 + 1))) v3 v4)))
(k0 v1))))
def zj42 (N : Nat) (v0 : Int) (v1 : Int) (v2 : Int) (v3 : Int) (v4 : Int) (rec_ : Int → Int → Int → Int → Int → O β) (k0 : Int → O β) : O β := zb42 N v0 v1 v2 v3 v4 rec_ k0
def zj43 (N : Nat) : Nat → Int → Int → Int → Int → Int → (Int → O β) → O β
  | 0, _, _, _, _, _, _ => none
  | F + 1, v0, v1, v2, v3, v4, k0 => zj42 N v0 v1 v2 v3 v4 (fun v0 v1 v2 v3 v4 => zj43 N F v0 v1 v2 v3 v4 k0) k0
def zb44 (N : Nat) (a0 : Int) (a1 : Int) (a2 : Int) (k : Int → O β) : O β :=
zq43 N a0 0 0 a1 a2 (fun e4_0 =>
k e4_0)
def zj44 (N : Nat) (a0 : Int) (a1 : Int) (a2 : Int) (k : Int → O β) : O β := zb44 (zj43 N) N a0 a1 a2 k
def zb45 (N : Nat) (a0 : Int) (a1 : Int) (a2 : Int) (a3 : Int) (k : Bool → O β) : O β :=
zq44 a0 a2 a3 fun r5 =>
k (((bits .and .i64 r5 a1) == r5))
def zj45 (N : Nat) (a0 : Int) (a1 : Int) (a2 : Int) (a3 : Int) (k : Bool → O β) : O β := zb45 (zj44 N) N a0 a1 a2 a3 k
def zb46 (N : Nat) (v0 : Int) (v1 : Int) (v2 : Int) (v3 : Int) (v4 : Int) (rec_ : Int → Int → Int → Int → Int → O β) (k0 : Bool → O β) (k1 : O β) : O β :=
(cond ((decide (v0 < v1)))
((gd ((decide (0 ≤ v0)))
((cond (((bits .and .i64 v3 (shlI .i64 1 v0)) != 0))
(zq45 v1 v2 ((w64 (v3 - (shlI .i64 1 v0)))) ((w64 (v4 - (bits .and .i64 v4 (shlI .i64 1 v0))))) fun r6 =>
(cond r6
(k0 false)
(rec_ ((w64 (v0 + 1))) v1 v2 v3 v4)))
(rec_ ((w64 (v0 + 1))) v1 v2 v3 v4)))))
(k1 ))
def zj46 (N : Nat) (v0 : Int) (v1 : Int) (v2 : Int) (v3 : Int) (v4 : Int) (rec_ : Int → Int → Int → Int → Int → O β) (k0 : Bool → O β) (k1 : O β) : O β := zb46 (zj45 N) N v0 v1 v2 v3 v4 rec_ k0 k1
def zj47 (N : Nat) : Nat → Int → Int → Int → Int → Int → (Bool → O β) → (O β) → O β
  | 0, _, _, _, _, _, _, _ => none
  | F + 1, v0, v1, v2, v3, v4, k0, k1 => zj46 N v0 v1 v2 v3 v4 (fun v0 v1 v2 v3 v4 => zj47 N F v0 v1 v2 v3 v4 k0 k1) k0 k1
def zb48 (N : Nat) (a0 : Int) (a1 : Int) (a2 : Int) (a3 : Int) (k : Bool → O β) : O β :=
zq45 a0 a1 a2 a3 fun r5 =>
(cond (!r5)
(k false)
(zq47 N 0 a0 a1 a2 a3 (fun e7_0 =>
k e7_0) (k true)))
def zj48 (N : Nat) (a0 : Int) (a1 : Int) (a2 : Int) (a3 : Int) (k : Bool → O β) : O β := zb48 (zj45 N) (zj47 N) N a0 a1 a2 a3 k
def zb49 (N : Nat) (v0 : Int) (v1 : Int) (v2 : Int) (v3 : Int) (v4 : List (Int × Int)) (rec_ : Int → Int → Int → Int → List (Int × Int) → O β) (k0 : Int → Int → Int → List (Int × Int) → O β) : O β :=
(cond ((decide (v1 ≤ v0)))
((cond (((bits .and .i64 v1 v0) == v1))
(zq48 v2 v3 v0 v1 fun r3 =>
(cond r3
((gd ((decide ((v4.length + ((([] : List (Int × Int)) ++ [(v0, v1)])).length) * 16 ≤ 140737488355328)))
(rec_ v0 ((w64 (v1 + 1))) v2 v3 ((v4 ++ (([] : List (Int × Int)) ++ [(v0, v1)]))))))
(rec_ v0 ((w64 (v1 + 1))) v2 v3 v4)))
(rec_ v0 ((w64 (v1 + 1))) v2 v3 v4)))
(k0 v0 v2 v3 v4))
def zj49 (N : Nat) (v0 : Int) (v1 : Int) (v2 : Int) (v3 : Int) (v4 : List (Int × Int)) (rec_ : Int → Int → Int → Int → List (Int × Int) → O β) (k0 : Int → Int → Int → List (Int × Int) → O β) : O β := zb49 (zj48 N) N v0 v1 v2 v3 v4 rec_ k0
def zj50 (N : Nat) : Nat → Int → Int → Int → Int → List (Int × Int) → (Int → Int → Int → List (Int × Int) → O β) → O β
  | 0, _, _, _, _, _, _ => none
  | F + 1, v0, v1, v2, v3, v4, k0 => zj49 N v0 v1 v2 v3 v4 (fun v0 v1 v2 v3 v4 => zj50 N F v0 v1 v2 v3 v4 k0) k0
def zb51 (N : Nat) (v0 : Int) (v1 : Int) (v2 : Int) (v3 : List (Int × Int)) (rec_ : Int → Int → Int → List (Int × Int) → O β) (k0 : List (Int × Int) → O β) : O β :=
(gd ((decide (0 ≤ v1)))
((cond ((decide (v0 < (shlI .i64 1 v1))))
(zq50 N v0 0 v1 v2 v3 (fun e4_0 e4_1 e4_2 e4_3 =>
rec_ ((w64 (e4_0 + 1))) e4_1 e4_2 e4_3))
(k0 v3))))
def zj51 (N : Nat) (v0 : Int) (v1 : Int) (v2 : Int) (v3 : List (Int × Int)) (rec_ : Int → Int → Int → List (Int × Int) → O β) (k0 : List (Int × Int) → O β) : O β := zb51 (zj50 N) N v0 v1 v2 v3 rec_ k0
def zj52 (N : Nat) : Nat → Int → Int → Int → List (Int × Int) → (List (Int × Int) → O β) → O β
  | 0, _, _, _, _, _ => none
  | F + 1, v0, v1, v2, v3, k0 => zj51 N v0 v1 v2 v3 (fun v0 v1 v2 v3 => zj52 N F v0 v1 v2 v3 k0) k0
def zb53 (N : Nat) (a0 : Int) (a1 : Int) (k : List (Int × Int) → O β) : O β :=
zq52 N 0 a0 a1 (([] : List (Int × Int))) (fun e5_0 =>
k e5_0)
def zj53 (N : Nat) (a0 : Int) (a1 : Int) (k : List (Int × Int) → O β) : O β := zb53 (zj52 N) N a0 a1 k
def zb54 (N : Nat) (self : Int → Int → List (Int × Int) → Int → Int → Int → (List (Int × Int) → Bool → O β) → O β) (v0 : List (Int × Int)) (v1 : Int) (v2 : Int) (v3 : Int) (v4 : Int) (v5 : Int) (rec_ : List (Int × Int) → Int → Int → Int → Int → Int → O β) (k0 : Bool → List (Int × Int) → O β) (k1 : O β) : O β :=
(cond ((decide (v3 < (v0.length : Int))))
((gd ((decide (0 ≤ v3)))
((gd ((decide (v3 < (v0.length : Int))))
(zq44 v4 ((rd (0, 0) v0 v3).1) ((rd (0, 0) v0 v3).2) fun r8 =>
(cond (((bits .and .i64 r8 v1) == 0))
(rec_ v0 v1 v2 ((w64 (v3 + 1))) v4 v5)
(self v4 v5 v0 ((w64 (v3 + 1))) ((w64 (v1 - (bits .and .i64 v1 r8)))) ((w64 (v2 - 1))) fun r9 r10 =>
(cond r10
((gd ((decide (0 ≤ v3)))
((gd ((decide (v3 < (v0.length : Int))))
((gd ((decide ((((([] : List (Int × Int)) ++ [((rd (0, 0) v0 v3).1, (rd (0, 0) v0 v3).2)])).length + r9.length) * 16 ≤ 140737488355328)))
(k0 true (((([] : List (Int × Int)) ++ [((rd (0, 0) v0 v3).1, (rd (0, 0) v0 v3).2)]) ++ r9)))))))))
(rec_ v0 v1 v2 ((w64 (v3 + 1))) v4 v5)))))))))
(k1 ))
def zj54 (N : Nat) (self : Int → Int → List (Int × Int) → Int → Int → Int → (List (Int × Int) → Bool → O β) → O β) (v0 : List (Int × Int)) (v1 : Int) (v2 : Int) (v3 : Int) (v4 : Int) (v5 : Int) (rec_ : List (Int × Int) → Int → Int → Int → Int → Int → O β) (k0 : Bool → List (Int × Int) → O β) (k1 : O β) : O β := zb54 (zj44 N) N self v0 v1 v2 v3 v4 v5 rec_ k0 k1
def zj55 (N : Nat) (self : Int → Int → List (Int × Int) → Int → Int → Int → (List (Int × Int) → Bool → O β) → O β) : Nat → List (Int × Int) → Int → Int → Int → Int → Int → (Bool → List (Int × Int) → O β) → (O β) → O β
  | 0, _, _, _, _, _, _, _, _ => none
  | F + 1, v0, v1, v2, v3, v4, v5, k0, k1 => zj54 N self v0 v1 v2 v3 v4 v5 (fun v0 v1 v2 v3 v4 v5 => zj55 N self F v0 v1 v2 v3 v4 v5 k0 k1) k0 k1
def zb56 (N : Nat) (self : Int → Int → List (Int × Int) → Int → Int → Int → (List (Int × Int) → Bool → O β) → O β) (a0 : Int) (a1 : Int) (a2 : List (Int × Int)) (a3 : Int) (a4 : Int) (a5 : Int) (k : List (Int × Int) → Bool → O β) : O β :=
(cond ((a4 == 0))
(k (([] : List (Int × Int))) true)
((cond ((a5 == 0))
(k (([] : List (Int × Int))) false)
(zq55 self N a2 a4 a5 a3 a0 a1 (fun e11_0 e11_1 =>
k e11_1 e11_0) (k (([] : List (Int × Int))) false)))))
def zj56 (N : Nat) (self : Int → Int → List (Int × Int) → Int → Int → Int → (List (Int × Int) → Bool → O β) → O β) (a0 : Int) (a1 : Int) (a2 : List (Int × Int)) (a3 : Int) (a4 : Int) (a5 : Int) (k : List (Int × Int) → Bool → O β) : O β := zb56 (zj55 N) N self a0 a1 a2 a3 a4 a5 k
def zj57 (N : Nat) : Nat → Int → Int → List (Int × Int) → Int → Int → Int → (List (Int × Int) → Bool → O β) → O β
  | 0, _, _, _, _, _, _, _ => none
  | F + 1, a0, a1, a2, a3, a4, a5, k => zj56 N (zj57 N F) a0 a1 a2 a3 a4 a5 k
def zj58 (N : Nat) (a0 : Int) (a1 : Int) (a2 : List (Int × Int)) (a3 : Int) (a4 : Int) (a5 : Int) (k : List (Int × Int) → Bool → O β) : O β := zj57 N N a0 a1 a2 a3 a4 a5 k
def zb59 (N : Nat) (v0 : Int) (v1 : Int) (v2 : Int) (v3 : List (Int × Int)) (rec_ : Int → Int → Int → List (Int × Int) → O β) (k0 : Bool → List (Int × Int) → O β) (k1 : O β) : O β :=
(cond ((decide (v0 ≤ 8)))
(zq58 v1 v2 v3 0 v2 v0 fun r6 r7 =>
(cond r7
(k0 true r6)
(rec_ ((w64 (v0 + 1))) v1 v2 v3)))
(k1 ))
def zj59 (N : Nat) (v0 : Int) (v1 : Int) (v2 : Int) (v3 : List (Int × Int)) (rec_ : Int → Int → Int → List (Int × Int) → O β) (k0 : Bool → List (Int × Int) → O β) (k1 : O β) : O β := zb59 (zj58 N) N v0 v1 v2 v3 rec_ k0 k1
def zj60 (N : Nat) : Nat → Int → Int → Int → List (Int × Int) → (Bool → List (Int × Int) → O β) → (O β) → O β
  | 0, _, _, _, _, _, _ => none
  | F + 1, v0, v1, v2, v3, k0, k1 => zj59 N v0 v1 v2 v3 (fun v0 v1 v2 v3 => zj60 N F v0 v1 v2 v3 k0 k1) k0 k1
def zb61 (N : Nat) (a0 : Int) (a1 : Int) (k : List (Int × Int) → Bool → O β) : O β :=
zq26 a0 a1 fun r4 =>
(cond (!r4)
(k (([] : List (Int × Int))) false)
((cond ((decide (a0 > 4)))
(k (([] : List (Int × Int))) false)
(zq53 a0 a1 fun r5 =>
zq60 N 0 a0 a1 r5 (fun e8_0 e8_1 =>
k e8_1 e8_0) (k (([] : List (Int × Int))) false)))))
def zj61 (N : Nat) (a0 : Int) (a1 : Int) (k : List (Int × Int) → Bool → O β) : O β := zb61 (zj26 N) (zj53 N) (zj60 N) N a0 a1 k
def zb62 (N : Nat) (v0 : Int) (v1 : List (Int × Int)) (v2 : Int) (rec_ : Int → List (Int × Int) → Int → O β) (k0 : Bool → O β) (k1 : Int → List (Int × Int) → O β) : O β :=
(cond ((decide (v2 < (v1.length : Int))))
((gd ((decide (0 ≤ v2)))
((gd ((decide (v2 < (v1.length : Int))))
(zq35 v0 ((rd (0, 0) v1 v2).1) ((rd (0, 0) v1 v2).2) fun r3 =>
(cond (!r3)
(k0 false)
(rec_ v0 v1 ((w64 (v2 + 1))))))))))
(k1 v0 v1))
def zj62 (N : Nat) (v0 : Int) (v1 : List (Int × Int)) (v2 : Int) (rec_ : Int → List (Int × Int) → Int → O β) (k0 : Bool → O β) (k1 : Int → List (Int × Int) → O β) : O β := zb62 (zj35 N) N v0 v1 v2 rec_ k0 k1
def zj63 (N : Nat) : Nat → Int → List (Int × Int) → Int → (Bool → O β) → (Int → List (Int × Int) → O β) → O β
  | 0, _, _, _, _, _ => none
  | F + 1, v0, v1, v2, k0, k1 => zj62 N v0 v1 v2 (fun v0 v1 v2 => zj63 N F v0 v1 v2 k0 k1) k0 k1
def zb64 (N : Nat) (a0 : Int) (a1 : List (Int × Int)) (k : Bool → O β) : O β :=
zq63 N a0 a1 0 (fun e4_0 =>
k e4_0) (fun e5_0 e5_1 =>
zq25 e5_0 0 5 fun r6 =>
(cond r6
(k ((decide ((e5_1.length : Int) ≤ 40))))
(k false)))
def zj64 (N : Nat) (a0 : Int) (a1 : List (Int × Int)) (k : Bool → O β) : O β := zb64 (zj25 N) (zj63 N) N a0 a1 k
def zb65 (N : Nat) (v0 : Int) (v1 : List (Int × Int)) (v2 : ByteArray) (v3 : Int) (rec_ : Int → List (Int × Int) → ByteArray → Int → O β) (k0 : Int → List (Int × Int) → ByteArray → O β) : O β :=
(cond ((decide (v3 < (v1.length : Int))))
(zq64 v0 v1 fun r3 =>
(cond r3
((cond ((decide (v3 > 0)))
((gd ((decide (v2.size + ((strOf [124])).size ≤ 9223372036854775807)))
((gd ((decide (0 ≤ v3)))
((gd ((decide (v3 < (v1.length : Int))))
(zq38 v0 ((rd (0, 0) v1 v3).1) ((rd (0, 0) v1 v3).2) fun r4 =>
(gd ((decide (((v2 ++ (strOf [124]))).size + r4.size ≤ 9223372036854775807)))
(rec_ v0 v1 (((v2 ++ (strOf [124])) ++ r4)) ((w64 (v3 + 1))))))))))))
((gd ((decide (0 ≤ v3)))
((gd ((decide (v3 < (v1.length : Int))))
(zq38 v0 ((rd (0, 0) v1 v3).1) ((rd (0, 0) v1 v3).2) fun r5 =>
(gd ((decide (v2.size + r5.size ≤ 9223372036854775807)))
(rec_ v0 v1 ((v2 ++ r5)) ((w64 (v3 + 1))))))))))))
(k0 v0 v1 v2)))
(k0 v0 v1 v2))
def zj65 (N : Nat) (v0 : Int) (v1 : List (Int × Int)) (v2 : ByteArray) (v3 : Int) (rec_ : Int → List (Int × Int) → ByteArray → Int → O β) (k0 : Int → List (Int × Int) → ByteArray → O β) : O β := zb65 (zj38 N) (zj64 N) N v0 v1 v2 v3 rec_ k0
def zj66 (N : Nat) : Nat → Int → List (Int × Int) → ByteArray → Int → (Int → List (Int × Int) → ByteArray → O β) → O β
  | 0, _, _, _, _, _ => none
  | F + 1, v0, v1, v2, v3, k0 => zj65 N v0 v1 v2 v3 (fun v0 v1 v2 v3 => zj66 N F v0 v1 v2 v3 k0) k0
def zb67 (N : Nat) (a0 : Int) (a1 : List (Int × Int)) (k : ByteArray → O β) : O β :=
zq66 N a0 a1 ByteArray.empty 0 (fun e6_0 e6_1 e6_2 =>
(cond ((e6_2.toList == ByteArray.empty.toList))
(zq64 e6_0 e6_1 fun r7 =>
(cond r7
(k ((strOf [48])))
(k e6_2)))
(k e6_2)))
def zj67 (N : Nat) (a0 : Int) (a1 : List (Int × Int)) (k : ByteArray → O β) : O β := zb67 (zj64 N) (zj66 N) N a0 a1 k
def zb68 (N : Nat) (v0 : Int) (v1 : Int) (v2 : Int) (v3 : Int) (v4 : Int) (v5 : Int) (rec_ : Int → Int → Int → Int → Int → Int → O β) (k0 : Int → O β) (k1 : Int → O β) : O β :=
(gd ((decide (0 ≤ v4)))
((cond ((decide (v3 < (shlI .i64 1 v4))))
((cond (((bits .and .i64 v3 v0) != v1))
(rec_ v0 v1 v2 ((w64 (v3 + 1))) v4 v5)
((gd ((decide (0 ≤ v3)))
((cond ((decide (v2 ≥ 0)))
((cond ((v2 != (bits .and .i64 (shrI .i64 v5 v3) 1)))
(k0 2)
(rec_ v0 v1 ((bits .and .i64 (shrI .i64 v5 v3) 1)) ((w64 (v3 + 1))) v4 v5)))
(rec_ v0 v1 ((bits .and .i64 (shrI .i64 v5 v3) 1)) ((w64 (v3 + 1))) v4 v5)))))))
(k1 v2))))
def zj68 (N : Nat) (v0 : Int) (v1 : Int) (v2 : Int) (v3 : Int) (v4 : Int) (v5 : Int) (rec_ : Int → Int → Int → Int → Int → Int → O β) (k0 : Int → O β) (k1 : Int → O β) : O β := zb68 N v0 v1 v2 v3 v4 v5 rec_ k0 k1
def zj69 (N : Nat) : Nat → Int → Int → Int → Int → Int → Int → (Int → O β) → (Int → O β) → O β
  | 0, _, _, _, _, _, _, _, _ => none
  | F + 1, v0, v1, v2, v3, v4, v5, k0, k1 => zj68 N v0 v1 v2 v3 v4 v5 (fun v0 v1 v2 v3 v4 v5 => zj69 N F v0 v1 v2 v3 v4 v5 k0 k1) k0 k1
def zb70 (N : Nat) (a0 : Int) (a1 : Int) (a2 : Int) (a3 : Int) (k : Int → O β) : O β :=
zq69 N a2 a3 (-1) 0 a0 a1 (fun e5_0 =>
k e5_0) (fun e6_0 =>
k e6_0)
def zj70 (N : Nat) (a0 : Int) (a1 : Int) (a2 : Int) (a3 : Int) (k : Int → O β) : O β := zb70 (zj69 N) N a0 a1 a2 a3 k
def zb71 (N : Nat) (self : Int → Int → Int → Int → (Int → O β) → O β) (v0 : Int) (v1 : Int) (v2 : Int) (v3 : Int) (v4 : Int) (v5 : Int) (rec_ : Int → Int → Int → Int → Int → Int → O β) (k0 : Int → O β) : O β :=
(cond ((decide (v3 < v4)))
((gd ((decide (0 ≤ v3)))
((cond (((bits .and .i64 v0 (shlI .i64 1 v3)) == 0))
(self v4 v5 ((bits .or .i64 v0 (shlI .i64 1 v3))) v1 fun r6 =>
self v4 v5 ((bits .or .i64 v0 (shlI .i64 1 v3))) ((bits .or .i64 v1 (shlI .i64 1 v3))) fun r7 =>
rec_ v0 v1 ((mnI v2 (w64 (1 + (mxI r6 r7))))) ((w64 (v3 + 1))) v4 v5)
(rec_ v0 v1 v2 ((w64 (v3 + 1))) v4 v5)))))
(k0 v2))
def zj71 (N : Nat) (self : Int → Int → Int → Int → (Int → O β) → O β) (v0 : Int) (v1 : Int) (v2 : Int) (v3 : Int) (v4 : Int) (v5 : Int) (rec_ : Int → Int → Int → Int → Int → Int → O β) (k0 : Int → O β) : O β := zb71 N self v0 v1 v2 v3 v4 v5 rec_ k0
def zj72 (N : Nat) (self : Int → Int → Int → Int → (Int → O β) → O β) : Nat → Int → Int → Int → Int → Int → Int → (Int → O β) → O β
  | 0, _, _, _, _, _, _, _ => none
  | F + 1, v0, v1, v2, v3, v4, v5, k0 => zj71 N self v0 v1 v2 v3 v4 v5 (fun v0 v1 v2 v3 v4 v5 => zj72 N self F v0 v1 v2 v3 v4 v5 k0) k0
def zb73 (N : Nat) (self : Int → Int → Int → Int → (Int → O β) → O β) (a0 : Int) (a1 : Int) (a2 : Int) (a3 : Int) (k : Int → O β) : O β :=
zq70 a0 a1 a2 a3 fun r5 =>
(cond ((decide (r5 < 2)))
(k 0)
(zq72 self N a2 a3 10 0 a0 a1 (fun e8_0 =>
k e8_0)))
def zj73 (N : Nat) (self : Int → Int → Int → Int → (Int → O β) → O β) (a0 : Int) (a1 : Int) (a2 : Int) (a3 : Int) (k : Int → O β) : O β := zb73 (zj70 N) (zj72 N) N self a0 a1 a2 a3 k
def zj74 (N : Nat) : Nat → Int → Int → Int → Int → (Int → O β) → O β
  | 0, _, _, _, _, _ => none
  | F + 1, a0, a1, a2, a3, k => zj73 N (zj74 N F) a0 a1 a2 a3 k
def zj75 (N : Nat) (a0 : Int) (a1 : Int) (a2 : Int) (a3 : Int) (k : Int → O β) : O β := zj74 N N a0 a1 a2 a3 k
def zb76 (N : Nat) (self : Int → Int → Int → Int → (ByteArray → O β) → O β) (v0 : Int) (v1 : Int) (v2 : Int) (v3 : Int) (v4 : Int) (v5 : Int) (rec_ : Int → Int → Int → Int → Int → Int → O β) (k0 : ByteArray → O β) (k1 : O β) : O β :=
(cond ((decide (v3 < v4)))
((gd ((decide (0 ≤ v3)))
((cond (((bits .and .i64 v0 (shlI .i64 1 v3)) == 0))
(zq75 v4 v5 ((bits .or .i64 v0 (shlI .i64 1 v3))) v1 fun r7 =>
zq75 v4 v5 ((bits .or .i64 v0 (shlI .i64 1 v3))) ((bits .or .i64 v1 (shlI .i64 1 v3))) fun r8 =>
(cond (((w64 (1 + (mxI r7 r8))) == v2))
((gd ((decide (0 ≤ (w64 (v3 + 1)))))
((gd ((decide ((w64 (v3 + 1)) ≤ (((strOf [97, 98, 99, 100, 101])).size : Int))))
((gd ((decide (0 ≤ v3)))
((gd ((decide (v3 ≤ (w64 (v3 + 1)))))
(self v4 v5 ((bits .or .i64 v0 (shlI .i64 1 v3))) v1 fun r9 =>
(gd ((decide (((((strOf [97, 98, 99, 100, 101])).extract (Int.toNat v3) (Int.toNat (w64 (v3 + 1))))).size + r9.size ≤ 9223372036854775807)))
(self v4 v5 ((bits .or .i64 v0 (shlI .i64 1 v3))) ((bits .or .i64 v1 (shlI .i64 1 v3))) fun r10 =>
(gd ((decide ((((((strOf [97, 98, 99, 100, 101])).extract (Int.toNat v3) (Int.toNat (w64 (v3 + 1)))) ++ r9)).size + r10.size ≤ 9223372036854775807)))
(k0 ((((((strOf [97, 98, 99, 100, 101])).extract (Int.toNat v3) (Int.toNat (w64 (v3 + 1)))) ++ r9) ++ r10)))))))))))))))
(rec_ v0 v1 v2 ((w64 (v3 + 1))) v4 v5)))
(rec_ v0 v1 v2 ((w64 (v3 + 1))) v4 v5)))))
(k1 ))
def zj76 (N : Nat) (self : Int → Int → Int → Int → (ByteArray → O β) → O β) (v0 : Int) (v1 : Int) (v2 : Int) (v3 : Int) (v4 : Int) (v5 : Int) (rec_ : Int → Int → Int → Int → Int → Int → O β) (k0 : ByteArray → O β) (k1 : O β) : O β := zb76 (zj75 N) N self v0 v1 v2 v3 v4 v5 rec_ k0 k1
def zj77 (N : Nat) (self : Int → Int → Int → Int → (ByteArray → O β) → O β) : Nat → Int → Int → Int → Int → Int → Int → (ByteArray → O β) → (O β) → O β
  | 0, _, _, _, _, _, _, _, _ => none
  | F + 1, v0, v1, v2, v3, v4, v5, k0, k1 => zj76 N self v0 v1 v2 v3 v4 v5 (fun v0 v1 v2 v3 v4 v5 => zj77 N self F v0 v1 v2 v3 v4 v5 k0 k1) k0 k1
def zb78 (N : Nat) (self : Int → Int → Int → Int → (ByteArray → O β) → O β) (a0 : Int) (a1 : Int) (a2 : Int) (a3 : Int) (k : ByteArray → O β) : O β :=
zq70 a0 a1 a2 a3 fun r5 =>
(cond ((decide (r5 < 2)))
((gd ((decide (0 ≤ (w64 (r5 + 1)))))
((gd ((decide ((w64 (r5 + 1)) ≤ (((strOf [48, 49])).size : Int))))
((gd ((decide (0 ≤ r5)))
((gd ((decide (r5 ≤ (w64 (r5 + 1)))))
(k ((((strOf [48, 49])).extract (Int.toNat r5) (Int.toNat (w64 (r5 + 1))))))))))))))
(zq75 a0 a1 a2 a3 fun r6 =>
zq77 self N a2 a3 r6 0 a0 a1 (fun e11_0 =>
k e11_0) (k ByteArray.empty)))
def zj78 (N : Nat) (self : Int → Int → Int → Int → (ByteArray → O β) → O β) (a0 : Int) (a1 : Int) (a2 : Int) (a3 : Int) (k : ByteArray → O β) : O β := zb78 (zj70 N) (zj75 N) (zj77 N) N self a0 a1 a2 a3 k
def zj79 (N : Nat) : Nat → Int → Int → Int → Int → (ByteArray → O β) → O β
  | 0, _, _, _, _, _ => none
  | F + 1, a0, a1, a2, a3, k => zj78 N (zj79 N F) a0 a1 a2 a3 k
def zj80 (N : Nat) (a0 : Int) (a1 : Int) (a2 : Int) (a3 : Int) (k : ByteArray → O β) : O β := zj79 N N a0 a1 a2 a3 k
def zb81 (N : Nat) (a0 : Int) (a1 : Int) (k : ByteArray → Bool → O β) : O β :=
zq26 a0 a1 fun r4 =>
(cond (!r4)
(k ByteArray.empty false)
((cond ((decide (a0 > 4)))
(k ByteArray.empty false)
(zq80 a0 a1 0 0 fun r5 =>
k r5 true))))
def zj81 (N : Nat) (a0 : Int) (a1 : Int) (k : ByteArray → Bool → O β) : O β := zb81 (zj26 N) (zj80 N) N a0 a1 k
def zb82 (N : Nat) (a0 : Int) (k : Int → O β) : O β :=
(gd ((decide (0 ≤ a0)))
((gd ((decide (0 ≤ (shlI .u64 1 a0))))
(k ((w64 ((shlI .i64 1 (shlI .u64 1 a0)) - 1)))))))
def zj82 (N : Nat) (a0 : Int) (k : Int → O β) : O β := zb82 N a0 k
def zb83 (N : Nat) (v0 : List Int) (v1 : Int) (v2 : Int) (v3 : Int) (rec_ : List Int → Int → Int → Int → O β) (k0 : ByteArray → O β) (k1 : List Int → Int → Int → O β) : O β :=
(cond ((decide (v3 < v1)))
((gd ((decide (0 ≤ v2)))
((gd ((decide (v2 < (v0.length : Int))))
((cond (((rd 0 v0 v2) == 1))
(zq19 v1 v3 fun r5 =>
(cond ((v2 == r5))
((gd ((decide (0 ≤ (w64 (v3 + 1)))))
((gd ((decide ((w64 (v3 + 1)) ≤ (((strOf [97, 98, 99, 100, 101])).size : Int))))
((gd ((decide (0 ≤ v3)))
((gd ((decide (v3 ≤ (w64 (v3 + 1)))))
(k0 ((((strOf [97, 98, 99, 100, 101])).extract (Int.toNat v3) (Int.toNat (w64 (v3 + 1))))))))))))))
(zq82 v1 fun r6 =>
zq19 v1 v3 fun r7 =>
(cond ((v2 == (w64 (r6 - r7))))
((gd ((decide (0 ≤ (w64 (v3 + 1)))))
((gd ((decide ((w64 (v3 + 1)) ≤ (((strOf [97, 98, 99, 100, 101])).size : Int))))
((gd ((decide (0 ≤ v3)))
((gd ((decide (v3 ≤ (w64 (v3 + 1)))))
((gd ((decide (((strOf [33])).size + ((((strOf [97, 98, 99, 100, 101])).extract (Int.toNat v3) (Int.toNat (w64 (v3 + 1))))).size ≤ 9223372036854775807)))
(k0 (((strOf [33]) ++ (((strOf [97, 98, 99, 100, 101])).extract (Int.toNat v3) (Int.toNat (w64 (v3 + 1)))))))))))))))))
(rec_ v0 v1 v2 ((w64 (v3 + 1))))))))
(k1 v0 v1 v2)))))))
(k1 v0 v1 v2))
def zj83 (N : Nat) (v0 : List Int) (v1 : Int) (v2 : Int) (v3 : Int) (rec_ : List Int → Int → Int → Int → O β) (k0 : ByteArray → O β) (k1 : List Int → Int → Int → O β) : O β := zb83 (zj19 N) (zj82 N) N v0 v1 v2 v3 rec_ k0 k1
def zj84 (N : Nat) : Nat → List Int → Int → Int → Int → (ByteArray → O β) → (List Int → Int → Int → O β) → O β
  | 0, _, _, _, _, _, _ => none
  | F + 1, v0, v1, v2, v3, k0, k1 => zj83 N v0 v1 v2 v3 (fun v0 v1 v2 v3 => zj84 N F v0 v1 v2 v3 k0 k1) k0 k1
def zb85 (N : Nat) (self : List Int → Int → Int → (ByteArray → O β) → O β) (v0 : List Int) (v1 : Int) (v2 : Int) (v3 : Int) (v4 : Int) (v5 : Int) (rec_ : List Int → Int → Int → Int → Int → Int → O β) (k0 : ByteArray → O β) (k1 : List Int → Int → Int → Int → Int → O β) : O β :=
zq82 v1 fun r11 =>
(cond ((decide (v5 < r11)))
((gd ((decide (0 ≤ v4)))
((gd ((decide (v4 < (v0.length : Int))))
((gd ((decide (0 ≤ v5)))
((gd ((decide (v5 < (v0.length : Int))))
((gd ((decide (0 ≤ v2)))
((gd ((decide (v2 < (v0.length : Int))))
((cond (((w64 ((rd 0 v0 v4) + (rd 0 v0 v5))) != (rd 0 v0 v2)))
(rec_ v0 v1 v2 v3 v4 ((w64 (v5 + 1))))
((cond ((v3 == 0))
((cond (((bits .and .i64 v4 v5) == v2))
(self v0 v1 v4 fun r12 =>
(gd ((decide (((strOf [38])).size + r12.size ≤ 9223372036854775807)))
(self v0 v1 v5 fun r13 =>
(gd ((decide ((((strOf [38]) ++ r12)).size + r13.size ≤ 9223372036854775807)))
(k0 ((((strOf [38]) ++ r12) ++ r13)))))))
((cond ((v3 == 1))
((cond (((bits .or .i64 v4 v5) == v2))
(self v0 v1 v4 fun r14 =>
(gd ((decide (((strOf [124])).size + r14.size ≤ 9223372036854775807)))
(self v0 v1 v5 fun r15 =>
(gd ((decide ((((strOf [124]) ++ r14)).size + r15.size ≤ 9223372036854775807)))
(k0 ((((strOf [124]) ++ r14) ++ r15)))))))
(rec_ v0 v1 v2 v3 v4 ((w64 (v5 + 1))))))
(rec_ v0 v1 v2 v3 v4 ((w64 (v5 + 1))))))))
((cond ((v3 == 1))
((cond (((bits .or .i64 v4 v5) == v2))
(self v0 v1 v4 fun r16 =>
(gd ((decide (((strOf [124])).size + r16.size ≤ 9223372036854775807)))
(self v0 v1 v5 fun r17 =>
(gd ((decide ((((strOf [124]) ++ r16)).size + r17.size ≤ 9223372036854775807)))
(k0 ((((strOf [124]) ++ r16) ++ r17)))))))
(rec_ v0 v1 v2 v3 v4 ((w64 (v5 + 1))))))
(rec_ v0 v1 v2 v3 v4 ((w64 (v5 + 1))))))))))))))))))))))
(k1 v0 v1 v2 v3 v4))
def zj85 (N : Nat) (self : List Int → Int → Int → (ByteArray → O β) → O β) (v0 : List Int) (v1 : Int) (v2 : Int) (v3 : Int) (v4 : Int) (v5 : Int) (rec_ : List Int → Int → Int → Int → Int → Int → O β) (k0 : ByteArray → O β) (k1 : List Int → Int → Int → Int → Int → O β) : O β := zb85 (zj82 N) N self v0 v1 v2 v3 v4 v5 rec_ k0 k1
def zj86 (N : Nat) (self : List Int → Int → Int → (ByteArray → O β) → O β) : Nat → List Int → Int → Int → Int → Int → Int → (ByteArray → O β) → (List Int → Int → Int → Int → Int → O β) → O β
  | 0, _, _, _, _, _, _, _, _ => none
  | F + 1, v0, v1, v2, v3, v4, v5, k0, k1 => zj85 N self v0 v1 v2 v3 v4 v5 (fun v0 v1 v2 v3 v4 v5 => zj86 N self F v0 v1 v2 v3 v4 v5 k0 k1) k0 k1
def zb87 (N : Nat) (self : List Int → Int → Int → (ByteArray → O β) → O β) (v0 : List Int) (v1 : Int) (v2 : Int) (v3 : Int) (v4 : Int) (rec_ : List Int → Int → Int → Int → Int → O β) (k0 : ByteArray → O β) (k1 : List Int → Int → Int → Int → O β) : O β :=
zq82 v1 fun r10 =>
(cond ((decide (v4 < r10)))
((gd ((decide (0 ≤ v4)))
((gd ((decide (v4 < (v0.length : Int))))
((gd ((decide (0 ≤ v2)))
((gd ((decide (v2 < (v0.length : Int))))
((cond ((decide ((rd 0 v0 v4) ≥ (rd 0 v0 v2))))
(rec_ v0 v1 v2 v3 ((w64 (v4 + 1))))
(zq86 self N v0 v1 v2 v3 v4 1 (fun e18_0 =>
k0 e18_0) (fun e19_0 e19_1 e19_2 e19_3 e19_4 =>
rec_ e19_0 e19_1 e19_2 e19_3 ((w64 (e19_4 + 1)))))))))))))))
(k1 v0 v1 v2 v3))
def zj87 (N : Nat) (self : List Int → Int → Int → (ByteArray → O β) → O β) (v0 : List Int) (v1 : Int) (v2 : Int) (v3 : Int) (v4 : Int) (rec_ : List Int → Int → Int → Int → Int → O β) (k0 : ByteArray → O β) (k1 : List Int → Int → Int → Int → O β) : O β := zb87 (zj82 N) (zj86 N) N self v0 v1 v2 v3 v4 rec_ k0 k1
def zj88 (N : Nat) (self : List Int → Int → Int → (ByteArray → O β) → O β) : Nat → List Int → Int → Int → Int → Int → (ByteArray → O β) → (List Int → Int → Int → Int → O β) → O β
  | 0, _, _, _, _, _, _, _ => none
  | F + 1, v0, v1, v2, v3, v4, k0, k1 => zj87 N self v0 v1 v2 v3 v4 (fun v0 v1 v2 v3 v4 => zj88 N self F v0 v1 v2 v3 v4 k0 k1) k0 k1
def zb89 (N : Nat) (self : List Int → Int → Int → (ByteArray → O β) → O β) (v0 : List Int) (v1 : Int) (v2 : Int) (v3 : Int) (rec_ : List Int → Int → Int → Int → O β) (k0 : ByteArray → O β) (k1 : O β) : O β :=
(cond ((decide (v3 < 2)))
(zq88 self N v0 v1 v2 v3 1 (fun e20_0 =>
k0 e20_0) (fun e21_0 e21_1 e21_2 e21_3 =>
rec_ e21_0 e21_1 e21_2 ((w64 (e21_3 + 1)))))
(k1 ))
def zj89 (N : Nat) (self : List Int → Int → Int → (ByteArray → O β) → O β) (v0 : List Int) (v1 : Int) (v2 : Int) (v3 : Int) (rec_ : List Int → Int → Int → Int → O β) (k0 : ByteArray → O β) (k1 : O β) : O β := zb89 (zj88 N) N self v0 v1 v2 v3 rec_ k0 k1
def zj90 (N : Nat) (self : List Int → Int → Int → (ByteArray → O β) → O β) : Nat → List Int → Int → Int → Int → (ByteArray → O β) → (O β) → O β
  | 0, _, _, _, _, _, _ => none
  | F + 1, v0, v1, v2, v3, k0, k1 => zj89 N self v0 v1 v2 v3 (fun v0 v1 v2 v3 => zj90 N self F v0 v1 v2 v3 k0 k1) k0 k1
def zb91 (N : Nat) (self : List Int → Int → Int → (ByteArray → O β) → O β) (a0 : List Int) (a1 : Int) (a2 : Int) (k : ByteArray → O β) : O β :=
(cond ((a2 == 0))
(k ((strOf [48])))
(zq82 a1 fun r4 =>
(cond ((a2 == r4))
(k ((strOf [49])))
(zq84 N a0 a1 a2 0 (fun e8_0 =>
k e8_0) (fun e9_0 e9_1 e9_2 =>
zq90 self N e9_0 e9_1 e9_2 0 (fun e22_0 =>
k e22_0) (k ByteArray.empty))))))
def zj91 (N : Nat) (self : List Int → Int → Int → (ByteArray → O β) → O β) (a0 : List Int) (a1 : Int) (a2 : Int) (k : ByteArray → O β) : O β := zb91 (zj82 N) (zj84 N) (zj90 N) N self a0 a1 a2 k
def zj92 (N : Nat) : Nat → List Int → Int → Int → (ByteArray → O β) → O β
  | 0, _, _, _, _ => none
  | F + 1, a0, a1, a2, k => zj91 N (zj92 N F) a0 a1 a2 k
def zj93 (N : Nat) (a0 : List Int) (a1 : Int) (a2 : Int) (k : ByteArray → O β) : O β := zj92 N N a0 a1 a2 k
def zb94 (N : Nat) (a0 : Int) (a1 : Int) (k : ByteArray → Bool → O β) : O β :=
zq26 a0 a1 fun r4 =>
(cond (!r4)
(k ByteArray.empty false)
((cond ((decide (a0 > 3)))
(k ByteArray.empty false)
(spec_l22Sizes N a0 fun r5 =>
zq93 r5 a0 a1 fun r6 =>
k r6 true))))
def zj94 (N : Nat) (a0 : Int) (a1 : Int) (k : ByteArray → Bool → O β) : O β := zb94 (zj26 N) (zj93 N) N a0 a1 k
def zb95 (N : Nat) (a0 : ByteArray) (a1 : Int) (a2 : Int) (k : ByteArray → Bool → O β) : O β :=
zq26 a1 a2 fun r5 =>
(cond (!r5)
(k ByteArray.empty false)
((cond ((decide (a1 > 4)))
(k ByteArray.empty false)
((cond ((a0.toList == ((strOf [116, 97, 98, 108, 101])).toList))
(zq29 a1 a2 fun r6 =>
k r6 true)
((cond ((a0.toList == ((strOf [97, 110, 102])).toList))
(zq41 a1 a2 fun r7 =>
k r7 true)
((cond ((a0.toList == ((strOf [115, 117, 109])).toList))
(zq61 a1 a2 fun r8 r9 =>
zq67 a1 r8 fun r10 =>
k r10 true)
((cond ((a0.toList == ((strOf [116, 114, 101, 101])).toList))
(zq81 a1 a2 fun r11 r12 =>
k r11 r12)
((cond ((a0.toList == ((strOf [102, 111, 114, 109, 117, 108, 97])).toList))
(zq94 a1 a2 fun r13 r14 =>
k r13 r14)
(k ByteArray.empty false))))))))))))))
def zj95 (N : Nat) (a0 : ByteArray) (a1 : Int) (a2 : Int) (k : ByteArray → Bool → O β) : O β := zb95 (zj26 N) (zj29 N) (zj41 N) (zj61 N) (zj67 N) (zj81 N) (zj94 N) N a0 a1 a2 k
def zb96 (N : Nat) (a0 : Int) (k : Bool → O β) : O β :=
(cond ((decide (a0 ≥ 0)))
(k ((decide (a0 ≤ 5))))
(k false))
def zj96 (N : Nat) (a0 : Int) (k : Bool → O β) : O β := zb96 N a0 k
def zb97 (N : Nat) (a0 : Int) (a1 : Int) (k : Bool → O β) : O β :=
zq96 a0 fun r3 =>
(cond r3
((cond ((decide (a1 ≥ 0)))
(zq1 a0 a1 fun r4 =>
(gd ((decide (0 ≤ r4)))
(k (((shrI .i64 a1 r4) == 0)))))
(k false)))
(k false))
def zj97 (N : Nat) (a0 : Int) (a1 : Int) (k : Bool → O β) : O β := zb97 (zj1 N) (zj96 N) N a0 a1 k
def zb98 (N : Nat) (a0 : Int) (a1 : Int) (a2 : Int) (k : Bool → O β) : O β :=
zq97 a0 a1 fun r4 =>
(cond r4
(k ((decide (a0 ≤ a2))))
(k false))
def zj98 (N : Nat) (a0 : Int) (a1 : Int) (a2 : Int) (k : Bool → O β) : O β := zb98 (zj97 N) N a0 a1 a2 k
def zb99 (N : Nat) (v0 : Int) (v1 : Int) (v2 : Int) (v3 : Int) (v4 : List Int) (rec_ : Int → Int → Int → Int → List Int → O β) (k0 : List Int → O β) : O β :=
(cond ((decide (v1 < v0)))
(zq2 v2 v3 v1 fun r5 =>
(gd ((decide (0 ≤ v1)))
((gd ((decide (v1 < (v4.length : Int))))
(rec_ v0 ((w64 (v1 + 1))) v2 v3 ((wr v4 v1 (w8 (48 + (w8 (r5)))))))))))
(k0 v4))
def zj99 (N : Nat) (v0 : Int) (v1 : Int) (v2 : Int) (v3 : Int) (v4 : List Int) (rec_ : Int → Int → Int → Int → List Int → O β) (k0 : List Int → O β) : O β := zb99 (zj2 N) N v0 v1 v2 v3 v4 rec_ k0
def zj100 (N : Nat) : Nat → Int → Int → Int → Int → List Int → (List Int → O β) → O β
  | 0, _, _, _, _, _, _ => none
  | F + 1, v0, v1, v2, v3, v4, k0 => zj99 N v0 v1 v2 v3 v4 (fun v0 v1 v2 v3 v4 => zj100 N F v0 v1 v2 v3 v4 k0) k0
def zb101 (N : Nat) (a0 : Int) (a1 : Int) (k : ByteArray → O β) : O β :=
zq97 a0 a1 fun r3 =>
(cond (!r3)
(k ByteArray.empty)
(zq1 a0 a1 fun r4 =>
(gd ((decide (0 ≤ r4)))
((gd ((decide (r4 ≤ r4)))
((gd ((decide (1 * r4 ≤ 281474976710656)))
(zq100 N ((((List.replicate (Int.toNat r4) (0 : Int))).length : Int)) 0 a0 a1 ((List.replicate (Int.toNat r4) (0 : Int))) (fun e6_0 =>
k ((strOf e6_0)))))))))))
def zj101 (N : Nat) (a0 : Int) (a1 : Int) (k : ByteArray → O β) : O β := zb101 (zj1 N) (zj97 N) (zj100 N) N a0 a1 k
def zb102 (N : Nat) (a0 : Int) (a1 : Int) (k : Int → Int → O β) : O β :=
zq15 a0 (fun x0 k => zq5 x0 a0 a1 k) fun r4 r5 =>
k r4 r5
def zj102 (N : Nat) (a0 : Int) (a1 : Int) (k : Int → Int → O β) : O β := zb102 (zj5 N) (zj15 N) N a0 a1 k
def zb103 (N : Nat) (a0 : Int) (a1 : Int) (k : Bool → O β) : O β :=
(cond ((decide (a1 ≥ 0)))
((gd ((decide (0 ≤ a0)))
(k ((decide (a1 < (shlI .i64 1 a0)))))))
(k false))
def zj103 (N : Nat) (a0 : Int) (a1 : Int) (k : Bool → O β) : O β := zb103 N a0 a1 k
def zb104 (N : Nat) (a0 : Int) (a1 : Int) (a2 : Int) (k : Bool → O β) : O β :=
zq96 a0 fun r4 =>
(cond r4
(zq103 a0 a1 fun r5 =>
(cond r5
((cond ((decide (a2 ≥ 0)))
(k (((bits .andNot .i64 a2 a1) == 0)))
(k false)))
(k false)))
(k false))
def zj104 (N : Nat) (a0 : Int) (a1 : Int) (a2 : Int) (k : Bool → O β) : O β := zb104 (zj96 N) (zj103 N) N a0 a1 a2 k
def zb105 (N : Nat) (v0 : Int) (v1 : Int) (v2 : Int) (v3 : Int) (v4 : List Int) (rec_ : Int → Int → Int → Int → List Int → O β) (k0 : List Int → O β) : O β :=
(cond ((decide (v1 < v0)))
((gd ((decide (0 ≤ v1)))
((cond (((bits .and .i64 (shrI .i64 v2 v1) 1) == 0))
(rec_ v0 ((w64 (v1 + 1))) v2 v3 v4)
((gd ((decide (0 ≤ v1)))
((cond (((bits .and .i64 (shrI .i64 v3 v1) 1) == 0))
((gd ((decide ((v4.length + ((([] : List Int) ++ [33])).length) * 1 ≤ 140737488355328)))
((gd ((decide ((((v4 ++ (([] : List Int) ++ [33]))).length + ((([] : List Int) ++ [(w8 (97 + (w8 (v1))))])).length) * 1 ≤ 140737488355328)))
(rec_ v0 ((w64 (v1 + 1))) v2 v3 (((v4 ++ (([] : List Int) ++ [33])) ++ (([] : List Int) ++ [(w8 (97 + (w8 (v1))))]))))))))
((gd ((decide ((v4.length + ((([] : List Int) ++ [(w8 (97 + (w8 (v1))))])).length) * 1 ≤ 140737488355328)))
(rec_ v0 ((w64 (v1 + 1))) v2 v3 ((v4 ++ (([] : List Int) ++ [(w8 (97 + (w8 (v1))))]))))))))))))))
(k0 v4))
def zj105 (N : Nat) (v0 : Int) (v1 : Int) (v2 : Int) (v3 : Int) (v4 : List Int) (rec_ : Int → Int → Int → Int → List Int → O β) (k0 : List Int → O β) : O β := zb105 N v0 v1 v2 v3 v4 rec_ k0
def zj106 (N : Nat) : Nat → Int → Int → Int → Int → List Int → (List Int → O β) → O β
  | 0, _, _, _, _, _, _ => none
  | F + 1, v0, v1, v2, v3, v4, k0 => zj105 N v0 v1 v2 v3 v4 (fun v0 v1 v2 v3 v4 => zj106 N F v0 v1 v2 v3 v4 k0) k0
def zb107 (N : Nat) (a0 : Int) (a1 : Int) (a2 : Int) (k : ByteArray → O β) : O β :=
zq104 a0 a1 a2 fun r4 =>
(cond (!r4)
(k ByteArray.empty)
(zq106 N a0 0 a1 a2 (([] : List Int)) (fun e5_0 =>
(cond (((e5_0.length : Int) == 0))
(k ((strOf [49])))
(k ((strOf e5_0)))))))
def zj107 (N : Nat) (a0 : Int) (a1 : Int) (a2 : Int) (k : ByteArray → O β) : O β := zb107 (zj104 N) (zj106 N) N a0 a1 a2 k
def zb108 (N : Nat) (v0 : Int) (v1 : ByteArray) (v2 : List (Int × Int)) (v3 : Int) (v4 : Int) (v5 : List ByteArray) (rec_ : Int → ByteArray → List (Int × Int) → Int → Int → List ByteArray → O β) (k0 : ByteArray → List ByteArray → O β) : O β :=
(cond ((decide (v4 < v3)))
((gd ((decide (0 ≤ v4)))
((gd ((decide (v4 < (v2.length : Int))))
(zq107 v0 ((rd (0, 0) v2 v4).1) ((rd (0, 0) v2 v4).2) fun r4 =>
(gd ((decide (0 ≤ v4)))
((gd ((decide (v4 < (v5.length : Int))))
(rec_ v0 v1 v2 v3 ((w64 (v4 + 1))) ((wr v5 v4 r4)))))))))))
(k0 v1 v5))
def zj108 (N : Nat) (v0 : Int) (v1 : ByteArray) (v2 : List (Int × Int)) (v3 : Int) (v4 : Int) (v5 : List ByteArray) (rec_ : Int → ByteArray → List (Int × Int) → Int → Int → List ByteArray → O β) (k0 : ByteArray → List ByteArray → O β) : O β := zb108 (zj107 N) N v0 v1 v2 v3 v4 v5 rec_ k0
def zj109 (N : Nat) : Nat → Int → ByteArray → List (Int × Int) → Int → Int → List ByteArray → (ByteArray → List ByteArray → O β) → O β
  | 0, _, _, _, _, _, _, _ => none
  | F + 1, v0, v1, v2, v3, v4, v5, k0 => zj108 N v0 v1 v2 v3 v4 v5 (fun v0 v1 v2 v3 v4 v5 => zj109 N F v0 v1 v2 v3 v4 v5 k0) k0
def zb110 (N : Nat) (a0 : Int) (a1 : List (Int × Int)) (a2 : ByteArray) (k : ByteArray → O β) : O β :=
(gd ((decide (0 ≤ (a1.length : Int))))
((gd ((decide ((a1.length : Int) ≤ (a1.length : Int))))
((gd ((decide (16 * (a1.length : Int) ≤ 281474976710656)))
(zq109 N a0 a2 a1 ((a1.length : Int)) 0 ((List.replicate (Int.toNat (a1.length : Int)) ByteArray.empty)) (fun e5_0 e5_1 =>
strings_Join N e5_1 e5_0 fun r6 =>
k r6)))))))
def zj110 (N : Nat) (a0 : Int) (a1 : List (Int × Int)) (a2 : ByteArray) (k : ByteArray → O β) : O β := zb110 (zj109 N) N a0 a1 a2 k
def zb111 (N : Nat) (v0 : Int) (v1 : Int) (v2 : Int) (v3 : Int) (v4 : Int) (v5 : Int) (v6 : List (Int × Int)) (rec_ : Int → Int → Int → Int → Int → Int → List (Int × Int) → O β) (k0 : Int → Int → List (Int × Int) → O β) : O β :=
(cond ((decide (v1 < v0)))
(zq2 v4 v5 v1 fun r7 =>
(cond ((r7 == 1))
((gd ((decide ((v6.length + ((([] : List (Int × Int)) ++ [(v1, v1)])).length) * 16 ≤ 140737488355328)))
(rec_ v0 ((w64 (v1 + 1))) v2 v3 v4 v5 ((v6 ++ (([] : List (Int × Int)) ++ [(v1, v1)]))))))
(rec_ v0 ((w64 (v1 + 1))) v2 v3 v4 v5 v6)))
(k0 v2 v3 v6))
def zj111 (N : Nat) (v0 : Int) (v1 : Int) (v2 : Int) (v3 : Int) (v4 : Int) (v5 : Int) (v6 : List (Int × Int)) (rec_ : Int → Int → Int → Int → Int → Int → List (Int × Int) → O β) (k0 : Int → Int → List (Int × Int) → O β) : O β := zb111 (zj2 N) N v0 v1 v2 v3 v4 v5 v6 rec_ k0
def zj112 (N : Nat) : Nat → Int → Int → Int → Int → Int → Int → List (Int × Int) → (Int → Int → List (Int × Int) → O β) → O β
  | 0, _, _, _, _, _, _, _, _ => none
  | F + 1, v0, v1, v2, v3, v4, v5, v6, k0 => zj111 N v0 v1 v2 v3 v4 v5 v6 (fun v0 v1 v2 v3 v4 v5 v6 => zj112 N F v0 v1 v2 v3 v4 v5 v6 k0) k0
def zb113 (N : Nat) (a0 : Int) (a1 : Int) (k : ByteArray → O β) : O β :=
zq97 a0 a1 fun r3 =>
(cond (!r3)
(k ByteArray.empty)
(zq102 a0 a1 fun r4 r5 =>
zq1 r4 r5 fun r6 =>
zq112 N r6 0 a0 a1 r4 r5 (([] : List (Int × Int))) (fun e8_0 e8_1 e8_2 =>
(cond (((e8_2.length : Int) == 0))
(k ((strOf [48])))
(zq110 e8_0 e8_2 ((strOf [43])) fun r9 =>
k r9)))))
def zj113 (N : Nat) (a0 : Int) (a1 : Int) (k : ByteArray → O β) : O β := zb113 (zj1 N) (zj97 N) (zj102 N) (zj110 N) (zj112 N) N a0 a1 k
def zb114 (N : Nat) (v0 : Int) (v1 : Int) (v2 : Int) (v3 : Int) (v4 : Int) (v5 : Int) (v6 : Bool) (v7 : Bool) (rec_ : Int → Int → Int → Int → Int → Int → Bool → Bool → O β) (k0 : Bool → Bool → O β) : O β :=
(cond ((decide (v3 < v2)))
((cond (((bits .and .i64 v3 v0) == v1))
(zq2 v4 v5 v3 fun r6 =>
(gd ((decide (0 ≤ r6)))
((gd ((decide (r6 < 2)))
((cond ((r6 == 0))
(rec_ v0 v1 v2 ((w64 (v3 + 1))) v4 v5 true v7)
(rec_ v0 v1 v2 ((w64 (v3 + 1))) v4 v5 v6 true)))))))
(rec_ v0 v1 v2 ((w64 (v3 + 1))) v4 v5 v6 v7)))
(k0 v6 v7))
def zj114 (N : Nat) (v0 : Int) (v1 : Int) (v2 : Int) (v3 : Int) (v4 : Int) (v5 : Int) (v6 : Bool) (v7 : Bool) (rec_ : Int → Int → Int → Int → Int → Int → Bool → Bool → O β) (k0 : Bool → Bool → O β) : O β := zb114 (zj2 N) N v0 v1 v2 v3 v4 v5 v6 v7 rec_ k0
def zj115 (N : Nat) : Nat → Int → Int → Int → Int → Int → Int → Bool → Bool → (Bool → Bool → O β) → O β
  | 0, _, _, _, _, _, _, _, _, _ => none
  | F + 1, v0, v1, v2, v3, v4, v5, v6, v7, k0 => zj114 N v0 v1 v2 v3 v4 v5 v6 v7 (fun v0 v1 v2 v3 v4 v5 v6 v7 => zj115 N F v0 v1 v2 v3 v4 v5 v6 v7 k0) k0
def zb116 (N : Nat) (a0 : Int) (a1 : Int) (a2 : Int) (a3 : Int) (k : Int → O β) : O β :=
zq1 a0 a1 fun r5 =>
zq115 N a2 a3 r5 0 a0 a1 false false (fun e7_0 e7_1 =>
(cond e7_0
((cond e7_1
(k 2)
((cond e7_1
(k 1)
(k 0)))))
((cond e7_1
(k 1)
(k 0)))))
def zj116 (N : Nat) (a0 : Int) (a1 : Int) (a2 : Int) (a3 : Int) (k : Int → O β) : O β := zb116 (zj1 N) (zj115 N) N a0 a1 a2 a3 k
def zb117 (N : Nat) (a0 : Int) (a1 : Int) (a2 : Int) (a3 : Int) (k : Bool → O β) : O β :=
zq116 a0 a1 a2 a3 fun r5 =>
k ((r5 == 1))
def zj117 (N : Nat) (a0 : Int) (a1 : Int) (a2 : Int) (a3 : Int) (k : Bool → O β) : O β := zb117 (zj116 N) N a0 a1 a2 a3 k
def zb118 (N : Nat) (v0 : Int) (v1 : Int) (v2 : Int) (v3 : Int) (v4 : Int) (v5 : Int) (rec_ : Int → Int → Int → Int → Int → Int → O β) (k0 : Bool → O β) (k1 : O β) : O β :=
(cond ((decide (v1 < v0)))
((gd ((decide (0 ≤ v1)))
((cond (((bits .and .i64 v4 (shlI .i64 1 v1)) != 0))
(zq117 v2 v3 ((bits .andNot .i64 v4 (shlI .i64 1 v1))) ((bits .andNot .i64 v5 (shlI .i64 1 v1))) fun r6 =>
(cond r6
(k0 false)
(rec_ v0 ((w64 (v1 + 1))) v2 v3 v4 v5)))
(rec_ v0 ((w64 (v1 + 1))) v2 v3 v4 v5)))))
(k1 ))
def zj118 (N : Nat) (v0 : Int) (v1 : Int) (v2 : Int) (v3 : Int) (v4 : Int) (v5 : Int) (rec_ : Int → Int → Int → Int → Int → Int → O β) (k0 : Bool → O β) (k1 : O β) : O β := zb118 (zj117 N) N v0 v1 v2 v3 v4 v5 rec_ k0 k1
def zj119 (N : Nat) : Nat → Int → Int → Int → Int → Int → Int → (Bool → O β) → (O β) → O β
  | 0, _, _, _, _, _, _, _, _ => none
  | F + 1, v0, v1, v2, v3, v4, v5, k0, k1 => zj118 N v0 v1 v2 v3 v4 v5 (fun v0 v1 v2 v3 v4 v5 => zj119 N F v0 v1 v2 v3 v4 v5 k0 k1) k0 k1
def zb120 (N : Nat) (a0 : Int) (a1 : Int) (a2 : Int) (a3 : Int) (k : Bool → O β) : O β :=
zq117 a0 a1 a2 a3 fun r5 =>
(cond (!r5)
(k false)
(zq119 N a0 0 a0 a1 a2 a3 (fun e7_0 =>
k e7_0) (k true)))
def zj120 (N : Nat) (a0 : Int) (a1 : Int) (a2 : Int) (a3 : Int) (k : Bool → O β) : O β := zb120 (zj117 N) (zj119 N) N a0 a1 a2 a3 k
def zb121 (N : Nat) (v0 : Int) (v1 : Int) (v2 : Int) (v3 : Int) (v4 : Int) (v5 : Int) (v6 : Int) (v7 : List (Int × Int)) (rec_ : Int → Int → Int → Int → Int → Int → Int → List (Int × Int) → O β) (k0 : Int → Int → Int → Int → List (Int × Int) → O β) : O β :=
(cond ((decide (v4 < v3)))
((cond (((bits .andNot .i64 v4 v0) == 0))
(zq120 v5 v6 v0 v4 fun r4 =>
(cond r4
((gd ((decide ((v7.length + ((([] : List (Int × Int)) ++ [(v0, v4)])).length) * 16 ≤ 140737488355328)))
(rec_ v0 v1 v2 v3 ((w64 (v4 + 1))) v5 v6 ((v7 ++ (([] : List (Int × Int)) ++ [(v0, v4)]))))))
(rec_ v0 v1 v2 v3 ((w64 (v4 + 1))) v5 v6 v7)))
(rec_ v0 v1 v2 v3 ((w64 (v4 + 1))) v5 v6 v7)))
(k0 v1 v2 v5 v6 v7))
def zj121 (N : Nat) (v0 : Int) (v1 : Int) (v2 : Int) (v3 : Int) (v4 : Int) (v5 : Int) (v6 : Int) (v7 : List (Int × Int)) (rec_ : Int → Int → Int → Int → Int → Int → Int → List (Int × Int) → O β) (k0 : Int → Int → Int → Int → List (Int × Int) → O β) : O β := zb121 (zj120 N) N v0 v1 v2 v3 v4 v5 v6 v7 rec_ k0
def zj122 (N : Nat) : Nat → Int → Int → Int → Int → Int → Int → Int → List (Int × Int) → (Int → Int → Int → Int → List (Int × Int) → O β) → O β
  | 0, _, _, _, _, _, _, _, _, _ => none
  | F + 1, v0, v1, v2, v3, v4, v5, v6, v7, k0 => zj121 N v0 v1 v2 v3 v4 v5 v6 v7 (fun v0 v1 v2 v3 v4 v5 v6 v7 => zj122 N F v0 v1 v2 v3 v4 v5 v6 v7 k0) k0
def zb123 (N : Nat) (v0 : Int) (v1 : Int) (v2 : Int) (v3 : Int) (v4 : List (Int × Int)) (rec_ : Int → Int → Int → Int → List (Int × Int) → O β) (k0 : List (Int × Int) → O β) : O β :=
(cond ((decide (v1 < v0)))
(zq122 N v1 v0 v1 ((w64 (v1 + 1))) 0 v2 v3 v4 (fun e5_0 e5_1 e5_2 e5_3 e5_4 =>
rec_ e5_0 ((w64 (e5_1 + 1))) e5_2 e5_3 e5_4))
(k0 v4))
def zj123 (N : Nat) (v0 : Int) (v1 : Int) (v2 : Int) (v3 : Int) (v4 : List (Int × Int)) (rec_ : Int → Int → Int → Int → List (Int × Int) → O β) (k0 : List (Int × Int) → O β) : O β := zb123 (zj122 N) N v0 v1 v2 v3 v4 rec_ k0
def zj124 (N : Nat) : Nat → Int → Int → Int → Int → List (Int × Int) → (List (Int × Int) → O β) → O β
  | 0, _, _, _, _, _, _ => none
  | F + 1, v0, v1, v2, v3, v4, k0 => zj123 N v0 v1 v2 v3 v4 (fun v0 v1 v2 v3 v4 => zj124 N F v0 v1 v2 v3 v4 k0) k0
def zb125 (N : Nat) (a0 : Int) (a1 : Int) (k : List (Int × Int) → O β) : O β :=
zq1 a0 a1 fun r3 =>
zq124 N r3 0 a0 a1 (([] : List (Int × Int))) (fun e6_0 =>
k e6_0)
def zj125 (N : Nat) (a0 : Int) (a1 : Int) (k : List (Int × Int) → O β) : O β := zb125 (zj1 N) (zj124 N) N a0 a1 k
def zb126 (N : Nat) (a0 : Int) (a1 : List (Int × Int)) (k : Int → Int → O β) : O β :=
zq15 a0 (fun x0 k => zq12 x0 a1 k) fun r4 r5 =>
k r4 r5
def zj126 (N : Nat) (a0 : Int) (a1 : List (Int × Int)) (k : Int → Int → O β) : O β := zb126 (zj12 N) (zj15 N) N a0 a1 k
def zb127 (N : Nat) (self : List Int → Int → Int → Int → Int → (List Int → Bool → O β) → O β) (v0 : List Int) (v1 : Int) (v2 : Int) (v3 : Int) (v4 : Int) (rec_ : List Int → Int → Int → Int → Int → O β) (k0 : Bool → List Int → O β) (k1 : O β) : O β :=
(cond ((decide (v4 ≤ (w64 ((v0.length : Int) - v3)))))
((gd ((decide (0 ≤ v4)))
((gd ((decide (v4 < (v0.length : Int))))
((cond (((bits .andNot .i64 (rd 0 v0 v4) v2) == 0))
(rec_ v0 v1 v2 v3 ((w64 (v4 + 1))))
((gd ((decide (0 ≤ v4)))
((gd ((decide (v4 < (v0.length : Int))))
(self v0 v1 ((bits .or .i64 v2 (rd 0 v0 v4))) ((w64 (v4 + 1))) ((w64 (v3 - 1))) fun r7 r8 =>
(cond r8
((gd ((decide ((((([] : List Int) ++ [v4])).length + r7.length) * 8 ≤ 140737488355328)))
(k0 true (((([] : List Int) ++ [v4]) ++ r7)))))
(rec_ v0 v1 v2 v3 ((w64 (v4 + 1))))))))))))))))
(k1 ))
def zj127 (N : Nat) (self : List Int → Int → Int → Int → Int → (List Int → Bool → O β) → O β) (v0 : List Int) (v1 : Int) (v2 : Int) (v3 : Int) (v4 : Int) (rec_ : List Int → Int → Int → Int → Int → O β) (k0 : Bool → List Int → O β) (k1 : O β) : O β := zb127 N self v0 v1 v2 v3 v4 rec_ k0 k1
def zj128 (N : Nat) (self : List Int → Int → Int → Int → Int → (List Int → Bool → O β) → O β) : Nat → List Int → Int → Int → Int → Int → (Bool → List Int → O β) → (O β) → O β
  | 0, _, _, _, _, _, _, _ => none
  | F + 1, v0, v1, v2, v3, v4, k0, k1 => zj127 N self v0 v1 v2 v3 v4 (fun v0 v1 v2 v3 v4 => zj128 N self F v0 v1 v2 v3 v4 k0 k1) k0 k1
def zb129 (N : Nat) (self : List Int → Int → Int → Int → Int → (List Int → Bool → O β) → O β) (a0 : List Int) (a1 : Int) (a2 : Int) (a3 : Int) (a4 : Int) (k : List Int → Bool → O β) : O β :=
(cond ((a4 == 0))
(k (([] : List Int)) ((a2 == a1)))
(zq128 self N a0 a1 a2 a4 a3 (fun e9_0 e9_1 =>
k e9_1 e9_0) (k (([] : List Int)) false)))
def zj129 (N : Nat) (self : List Int → Int → Int → Int → Int → (List Int → Bool → O β) → O β) (a0 : List Int) (a1 : Int) (a2 : Int) (a3 : Int) (a4 : Int) (k : List Int → Bool → O β) : O β := zb129 (zj128 N) N self a0 a1 a2 a3 a4 k
def zj130 (N : Nat) : Nat → List Int → Int → Int → Int → Int → (List Int → Bool → O β) → O β
  | 0, _, _, _, _, _, _ => none
  | F + 1, a0, a1, a2, a3, a4, k => zj129 N (zj130 N F) a0 a1 a2 a3 a4 k
def zj131 (N : Nat) (a0 : List Int) (a1 : Int) (a2 : Int) (a3 : Int) (a4 : Int) (k : List Int → Bool → O β) : O β := zj130 N N a0 a1 a2 a3 a4 k
def zb132 (N : Nat) (v0 : Int) (v1 : Int) (v2 : Int) (v3 : Int) (v4 : List (Int × Int)) (v5 : List Int) (rec_ : Int → Int → Int → Int → List (Int × Int) → List Int → O β) (k0 : Int → Int → List (Int × Int) → List Int → O β) : O β :=
(cond ((decide (v1 < v0)))
((gd ((decide (0 ≤ v1)))
((gd ((decide (v1 < (v4.length : Int))))
(zq126 v2 ((([] : List (Int × Int)) ++ [((rd (0, 0) v4 v1).1, (rd (0, 0) v4 v1).2)])) fun r4 r5 =>
(gd ((decide (0 ≤ v1)))
((gd ((decide (v1 < (v5.length : Int))))
(rec_ v0 ((w64 (v1 + 1))) v2 v3 v4 ((wr v5 v1 r5)))))))))))
(k0 v2 v3 v4 v5))
def zj132 (N : Nat) (v0 : Int) (v1 : Int) (v2 : Int) (v3 : Int) (v4 : List (Int × Int)) (v5 : List Int) (rec_ : Int → Int → Int → Int → List (Int × Int) → List Int → O β) (k0 : Int → Int → List (Int × Int) → List Int → O β) : O β := zb132 (zj126 N) N v0 v1 v2 v3 v4 v5 rec_ k0
def zj133 (N : Nat) : Nat → Int → Int → Int → Int → List (Int × Int) → List Int → (Int → Int → List (Int × Int) → List Int → O β) → O β
  | 0, _, _, _, _, _, _, _ => none
  | F + 1, v0, v1, v2, v3, v4, v5, k0 => zj132 N v0 v1 v2 v3 v4 v5 (fun v0 v1 v2 v3 v4 v5 => zj133 N F v0 v1 v2 v3 v4 v5 k0) k0
def zb134 (N : Nat) (v0 : Int) (v1 : Int) (v2 : List (Int × Int)) (v3 : List (Int × Int)) (v4 : List Int) (rec_ : Int → Int → List (Int × Int) → List (Int × Int) → List Int → O β) (k0 : List (Int × Int) → O β) : O β :=
(cond ((decide (v1 < v0)))
((gd ((decide (0 ≤ v1)))
((gd ((decide (v1 < (v4.length : Int))))
((gd ((decide (0 ≤ (rd 0 v4 v1))))
((gd ((decide ((rd 0 v4 v1) < (v2.length : Int))))
((gd ((decide ((v3.length + ((([] : List (Int × Int)) ++ [((rd (0, 0) v2 (rd 0 v4 v1)).1, (rd (0, 0) v2 (rd 0 v4 v1)).2)])).length) * 16 ≤ 140737488355328)))
(rec_ v0 ((w64 (v1 + 1))) v2 ((v3 ++ (([] : List (Int × Int)) ++ [((rd (0, 0) v2 (rd 0 v4 v1)).1, (rd (0, 0) v2 (rd 0 v4 v1)).2)]))) v4)))))))))))
(k0 v3))
def zj134 (N : Nat) (v0 : Int) (v1 : Int) (v2 : List (Int × Int)) (v3 : List (Int × Int)) (v4 : List Int) (rec_ : Int → Int → List (Int × Int) → List (Int × Int) → List Int → O β) (k0 : List (Int × Int) → O β) : O β := zb134 N v0 v1 v2 v3 v4 rec_ k0
def zj135 (N : Nat) : Nat → Int → Int → List (Int × Int) → List (Int × Int) → List Int → (List (Int × Int) → O β) → O β
  | 0, _, _, _, _, _, _ => none
  | F + 1, v0, v1, v2, v3, v4, k0 => zj134 N v0 v1 v2 v3 v4 (fun v0 v1 v2 v3 v4 => zj135 N F v0 v1 v2 v3 v4 k0) k0
def zb136 (N : Nat) (v0 : Int) (v1 : Int) (v2 : Int) (v3 : Int) (v4 : List (Int × Int)) (v5 : List Int) (rec_ : Int → Int → Int → Int → List (Int × Int) → List Int → O β) (k0 : List (Int × Int) → O β) (k1 : O β) : O β :=
(cond ((decide (v1 < v0)))
(zq131 v5 v3 0 0 v1 fun r7 r8 =>
(cond r8
(zq135 N ((r7.length : Int)) 0 v4 (([] : List (Int × Int))) r7 (fun e9_0 =>
k0 e9_0))
(rec_ v0 ((w64 (v1 + 1))) v2 v3 v4 v5)))
(k1 ))
def zj136 (N : Nat) (v0 : Int) (v1 : Int) (v2 : Int) (v3 : Int) (v4 : List (Int × Int)) (v5 : List Int) (rec_ : Int → Int → Int → Int → List (Int × Int) → List Int → O β) (k0 : List (Int × Int) → O β) (k1 : O β) : O β := zb136 (zj131 N) (zj135 N) N v0 v1 v2 v3 v4 v5 rec_ k0 k1
def zj137 (N : Nat) : Nat → Int → Int → Int → Int → List (Int × Int) → List Int → (List (Int × Int) → O β) → (O β) → O β
  | 0, _, _, _, _, _, _, _, _ => none
  | F + 1, v0, v1, v2, v3, v4, v5, k0, k1 => zj136 N v0 v1 v2 v3 v4 v5 (fun v0 v1 v2 v3 v4 v5 => zj137 N F v0 v1 v2 v3 v4 v5 k0 k1) k0 k1
def zb138 (N : Nat) (a0 : Int) (a1 : Int) (k : List (Int × Int) → O β) : O β :=
zq125 a0 a1 fun r3 =>
(gd ((decide (0 ≤ (r3.length : Int))))
((gd ((decide ((r3.length : Int) ≤ (r3.length : Int))))
((gd ((decide (8 * (r3.length : Int) ≤ 281474976710656)))
(zq133 N ((r3.length : Int)) 0 a0 a1 r3 ((List.replicate (Int.toNat (r3.length : Int)) (0 : Int))) (fun e6_0 e6_1 e6_2 e6_3 =>
zq137 N ((w64 ((e6_2.length : Int) + 1))) 0 e6_0 e6_1 e6_2 e6_3 (fun e10_0 =>
k e10_0) (k (([] : List (Int × Int)))))))))))
def zj138 (N : Nat) (a0 : Int) (a1 : Int) (k : List (Int × Int) → O β) : O β := zb138 (zj125 N) (zj133 N) (zj137 N) N a0 a1 k
def zb139 (N : Nat) (a0 : Int) (a1 : List (Int × Int)) (k : ByteArray → O β) : O β :=
(cond (((a1.length : Int) == 0))
(k ((strOf [48])))
(zq110 a0 a1 ((strOf [124])) fun r3 =>
k r3))
def zj139 (N : Nat) (a0 : Int) (a1 : List (Int × Int)) (k : ByteArray → O β) : O β := zb139 (zj110 N) N a0 a1 k
def zb140 (N : Nat) (a0 : Int) (a1 : Int) (k0 : Int → Int → Mp → Mp → O β) : O β :=
k0 a0 a1 (([] : Mp)) (([] : Mp))
def zj140 (N : Nat) (a0 : Int) (a1 : Int) (k0 : Int → Int → Mp → Mp → O β) : O β := zb140 N a0 a1 k0
def zb141 (N : Nat) (a0 : Int) (k : ByteArray → O β) : O β :=
strconv_Itoa N a0 fun r2 =>
k r2
def zj141 (N : Nat) (a0 : Int) (k : ByteArray → O β) : O β := zb141 N a0 k
def zb142 (N : Nat) (a0 : Int) (a1 : Int) (a2 : Int) (a3 : Int) (k : Int → Int → O β) : O β :=
(gd ((decide (0 ≤ a2)))
((gd ((decide (0 ≤ a2)))
(k ((bits .or .i64 a0 (shlI .i64 1 a2))) ((bits .or .i64 a1 (shlI .i64 a3 a2)))))))
def zj142 (N : Nat) (a0 : Int) (a1 : Int) (a2 : Int) (a3 : Int) (k : Int → Int → O β) : O β := zb142 N a0 a1 a2 a3 k
def zb143 (N : Nat) (self : Int → Int → Int → Int → Mp → Mp → (Int → Int → Int → Mp → Mp → O β) → O β) (v0 : Int) (v1 : Int) (v2 : Int) (v3 : Int) (v4 : Int) (v5 : Mp) (v6 : Mp) (v7 : Int) (v8 : Int) (rec_ : Int → Int → Int → Int → Int → Mp → Mp → Int → Int → O β) (k0 : Int → Int → Int → Mp → Mp → Int → Int → O β) : O β :=
(cond ((decide (v2 < v1)))
((gd ((decide (0 ≤ v2)))
((cond (((bits .and .i64 (shrI .i64 v7 v2) 1) == 0))
(zq142 v7 v8 v2 0 fun r7 r8 =>
self r7 r8 v3 v4 v5 v6 (fun r9_0 r9_1 r9_2 r9_3 r9_4 =>
zq142 v7 v8 v2 1 fun r10 r11 =>
self r10 r11 r9_1 r9_2 r9_3 r9_4 (fun r12_0 r12_1 r12_2 r12_3 r12_4 =>
rec_ ((mnI v0 (w64 (1 + (mxI r9_0 r12_0))))) v1 ((w64 (v2 + 1))) r12_1 r12_2 r12_3 r12_4 v7 v8)))
(rec_ v0 v1 ((w64 (v2 + 1))) v3 v4 v5 v6 v7 v8)))))
(k0 v0 v3 v4 v5 v6 v7 v8))
def zj143 (N : Nat) (self : Int → Int → Int → Int → Mp → Mp → (Int → Int → Int → Mp → Mp → O β) → O β) (v0 : Int) (v1 : Int) (v2 : Int) (v3 : Int) (v4 : Int) (v5 : Mp) (v6 : Mp) (v7 : Int) (v8 : Int) (rec_ : Int → Int → Int → Int → Int → Mp → Mp → Int → Int → O β) (k0 : Int → Int → Int → Mp → Mp → Int → Int → O β) : O β := zb143 (zj142 N) N self v0 v1 v2 v3 v4 v5 v6 v7 v8 rec_ k0
def zj144 (N : Nat) (self : Int → Int → Int → Int → Mp → Mp → (Int → Int → Int → Mp → Mp → O β) → O β) : Nat → Int → Int → Int → Int → Int → Mp → Mp → Int → Int → (Int → Int → Int → Mp → Mp → Int → Int → O β) → O β
  | 0, _, _, _, _, _, _, _, _, _, _ => none
  | F + 1, v0, v1, v2, v3, v4, v5, v6, v7, v8, k0 => zj143 N self v0 v1 v2 v3 v4 v5 v6 v7 v8 (fun v0 v1 v2 v3 v4 v5 v6 v7 v8 => zj144 N self F v0 v1 v2 v3 v4 v5 v6 v7 v8 k0) k0
def zb145 (N : Nat) (self : Int → Int → Int → Int → Mp → Mp → (Int → Int → Int → Mp → Mp → O β) → O β) (a0 : Int) (a1 : Int) (a2 : Int) (a3 : Int) (a4 : Mp) (a5 : Mp) (k0 : Int → Int → Int → Mp → Mp → O β) : O β :=
(cond ((hasM ⟨true, false⟩ a4 a0 a1))
(k0 ((getM ⟨true, false⟩ a4 a0 a1)) a2 a3 a4 a5)
(zq116 a2 a3 a0 a1 fun r6 =>
(cond ((r6 == 2))
(zq144 self N a2 a2 0 a2 a3 a4 a5 a0 a1 (fun e13_0 e13_1 e13_2 e13_3 e13_4 e13_5 e13_6 =>
k0 e13_0 e13_1 e13_2 ((putM ⟨true, false⟩ e13_3 e13_5 e13_6 e13_0)) e13_4))
(k0 0 a2 a3 ((putM ⟨true, false⟩ a4 a0 a1 0)) a5))))
def zj145 (N : Nat) (self : Int → Int → Int → Int → Mp → Mp → (Int → Int → Int → Mp → Mp → O β) → O β) (a0 : Int) (a1 : Int) (a2 : Int) (a3 : Int) (a4 : Mp) (a5 : Mp) (k0 : Int → Int → Int → Mp → Mp → O β) : O β := zb145 (zj116 N) (zj144 N) N self a0 a1 a2 a3 a4 a5 k0
def zj146 (N : Nat) : Nat → Int → Int → Int → Int → Mp → Mp → (Int → Int → Int → Mp → Mp → O β) → O β
  | 0, _, _, _, _, _, _, _ => none
  | F + 1, a0, a1, a2, a3, a4, a5, k0 => zj145 N (zj146 N F) a0 a1 a2 a3 a4 a5 k0
def zj147 (N : Nat) (a0 : Int) (a1 : Int) (a2 : Int) (a3 : Int) (a4 : Mp) (a5 : Mp) (k0 : Int → Int → Int → Mp → Mp → O β) : O β := zj146 N N a0 a1 a2 a3 a4 a5 k0
def zb148 (N : Nat) (v0 : Int) (v1 : Int) (v2 : Int) (v3 : Int) (v4 : Int) (v5 : Mp) (v6 : Mp) (v7 : Int) (v8 : Int) (rec_ : Int → Int → Int → Int → Int → Mp → Mp → Int → Int → O β) (k0 : Int → Int → Int → Mp → Mp → O β) (k1 : Int → Int → Mp → Mp → O β) : O β :=
(cond ((decide (v2 < v1)))
((cond ((decide (v0 > 0)))
((gd ((decide (0 ≤ v2)))
((cond (((bits .and .i64 (shrI .i64 v7 v2) 1) == 0))
(zq142 v7 v8 v2 0 fun r15 r16 =>
zq147 r15 r16 v3 v4 v5 v6 (fun r17_0 r17_1 r17_2 r17_3 r17_4 =>
(cond ((decide (r17_0 < v0)))
(zq142 v7 v8 v2 1 fun r18 r19 =>
zq147 r18 r19 r17_1 r17_2 r17_3 r17_4 (fun r20_0 r20_1 r20_2 r20_3 r20_4 =>
(cond ((decide (r20_0 < v0)))
(k0 v2 r20_1 r20_2 r20_3 r20_4)
(rec_ v0 v1 ((w64 (v2 + 1))) r20_1 r20_2 r20_3 r20_4 v7 v8))))
(rec_ v0 v1 ((w64 (v2 + 1))) r17_1 r17_2 r17_3 r17_4 v7 v8))))
(rec_ v0 v1 ((w64 (v2 + 1))) v3 v4 v5 v6 v7 v8)))))
(rec_ v0 v1 ((w64 (v2 + 1))) v3 v4 v5 v6 v7 v8)))
(k1 v3 v4 v5 v6))
def zj148 (N : Nat) (v0 : Int) (v1 : Int) (v2 : Int) (v3 : Int) (v4 : Int) (v5 : Mp) (v6 : Mp) (v7 : Int) (v8 : Int) (rec_ : Int → Int → Int → Int → Int → Mp → Mp → Int → Int → O β) (k0 : Int → Int → Int → Mp → Mp → O β) (k1 : Int → Int → Mp → Mp → O β) : O β := zb148 (zj142 N) (zj147 N) N v0 v1 v2 v3 v4 v5 v6 v7 v8 rec_ k0 k1
def zj149 (N : Nat) : Nat → Int → Int → Int → Int → Int → Mp → Mp → Int → Int → (Int → Int → Int → Mp → Mp → O β) → (Int → Int → Mp → Mp → O β) → O β
  | 0, _, _, _, _, _, _, _, _, _, _, _ => none
  | F + 1, v0, v1, v2, v3, v4, v5, v6, v7, v8, k0, k1 => zj148 N v0 v1 v2 v3 v4 v5 v6 v7 v8 (fun v0 v1 v2 v3 v4 v5 v6 v7 v8 => zj149 N F v0 v1 v2 v3 v4 v5 v6 v7 v8 k0 k1) k0 k1
def zb150 (N : Nat) (a0 : Int) (a1 : Int) (a2 : Int) (a3 : Int) (a4 : Mp) (a5 : Mp) (k0 : Int → Int → Int → Mp → Mp → O β) : O β :=
zq147 a0 a1 a2 a3 a4 a5 (fun r14_0 r14_1 r14_2 r14_3 r14_4 =>
zq149 N r14_0 r14_1 0 r14_1 r14_2 r14_3 r14_4 a0 a1 (fun e21_0 e21_1 e21_2 e21_3 e21_4 =>
k0 e21_0 e21_1 e21_2 e21_3 e21_4) (fun e22_0 e22_1 e22_2 e22_3 =>
k0 (-1) e22_0 e22_1 e22_2 e22_3))
def zj150 (N : Nat) (a0 : Int) (a1 : Int) (a2 : Int) (a3 : Int) (a4 : Mp) (a5 : Mp) (k0 : Int → Int → Int → Mp → Mp → O β) : O β := zb150 (zj147 N) (zj149 N) N a0 a1 a2 a3 a4 a5 k0
def zj151 (s0 : ByteArray) (s1 : Int) (s2 : Int) (s3 : Mp) (s4 : Mp) (u0 : ByteArray) (u1 : Int) (u2 : Int) (u3 : Mp) (u4 : Mp) (K : O β) : O β :=
(gd (decide (s0 = u0)) (gd (s1 == u1) (gd (s2 == u2) (gd (s3 == u3) (gd (s4 == u4) K)))))
def zb152 (N : Nat) (self : Int → Int → Int → Int → Mp → Mp → (ByteArray → Int → Int → Mp → Mp → O β) → O β) (a0 : Int) (a1 : Int) (a2 : Int) (a3 : Int) (a4 : Mp) (a5 : Mp) (k0 : ByteArray → Int → Int → Mp → Mp → O β) : O β :=
zq150 a0 a1 a2 a3 a4 a5 (fun r6_0 r6_1 r6_2 r6_3 r6_4 =>
(cond ((decide (r6_0 < 0)))
(zq116 r6_1 r6_2 a0 a1 fun r7 =>
zq141 r7 fun r8 =>
k0 r8 r6_1 r6_2 r6_3 r6_4)
(zq142 a0 a1 r6_0 0 fun r9 r10 =>
self r9 r10 r6_1 r6_2 r6_3 r6_4 (fun r11_0 r11_1 r11_2 r11_3 r11_4 =>
(gd ((decide (((strOf ((([] : List Int) ++ [(w8 (97 + (w8 (r6_0))))])))).size + r11_0.size ≤ 9223372036854775807)))
(zq142 a0 a1 r6_0 1 fun r12 r13 =>
self r12 r13 r11_1 r11_2 r11_3 r11_4 (fun r14_0 r14_1 r14_2 r14_3 r14_4 =>
(gd ((decide ((((strOf ((([] : List Int) ++ [(w8 (97 + (w8 (r6_0))))]))) ++ r11_0)).size + r14_0.size ≤ 9223372036854775807)))
(zq142 a0 a1 r6_0 0 fun r15 r16 =>
self r15 r16 r6_1 r6_2 r6_3 r6_4 (fun r17_0 r17_1 r17_2 r17_3 r17_4 =>
(gd ((decide (((strOf ((([] : List Int) ++ [(w8 (97 + (w8 (r6_0))))])))).size + r17_0.size ≤ 9223372036854775807)))
(zq142 a0 a1 r6_0 1 fun r18 r19 =>
self r18 r19 r17_1 r17_2 r17_3 r17_4 (fun r20_0 r20_1 r20_2 r20_3 r20_4 =>
(gd ((decide ((((strOf ((([] : List Int) ++ [(w8 (97 + (w8 (r6_0))))]))) ++ r17_0)).size + r20_0.size ≤ 9223372036854775807)))
(self r15 r16 r6_1 r6_2 r6_3 r6_4 (fun r21_0 r21_1 r21_2 r21_3 r21_4 =>
(gd ((decide (((strOf ((([] : List Int) ++ [(w8 (97 + (w8 (r6_0))))])))).size + r21_0.size ≤ 9223372036854775807)))
(zq142 a0 a1 r6_0 1 fun r22 r23 =>
self r22 r23 r21_1 r21_2 r21_3 r21_4 (fun r24_0 r24_1 r24_2 r24_3 r24_4 =>
(gd ((decide ((((strOf ((([] : List Int) ++ [(w8 (97 + (w8 (r6_0))))]))) ++ r21_0)).size + r24_0.size ≤ 9223372036854775807)))
(zq142 a0 a1 r6_0 1 fun r25 r26 =>
(gd ((decide (((strOf ((([] : List Int) ++ [(w8 (97 + (w8 (r6_0))))])))).size + r21_0.size ≤ 9223372036854775807)))
(self r25 r26 r21_1 r21_2 r21_3 r21_4 (fun r27_0 r27_1 r27_2 r27_3 r27_4 =>
(gd ((decide ((((strOf ((([] : List Int) ++ [(w8 (97 + (w8 (r6_0))))]))) ++ r21_0)).size + r27_0.size ≤ 9223372036854775807)))
(self r25 r26 r21_1 r21_2 r21_3 r21_4 (fun r28_0 r28_1 r28_2 r28_3 r28_4 =>
(gd ((decide (((strOf ((([] : List Int) ++ [(w8 (97 + (w8 (r6_0))))])))).size + r21_0.size ≤ 9223372036854775807)))
((gd ((decide ((((strOf ((([] : List Int) ++ [(w8 (97 + (w8 (r6_0))))]))) ++ r21_0)).size + r28_0.size ≤ 9223372036854775807)))
((zj151 ((((strOf ((([] : List Int) ++ [(w8 (97 + (w8 (r6_0))))]))) ++ r21_0) ++ r27_0)) r27_1 r27_2 r27_3 r27_4 ((((strOf ((([] : List Int) ++ [(w8 (97 + (w8 (r6_0))))]))) ++ r21_0) ++ r28_0)) r28_1 r28_2 r28_3 r28_4
((zj151 ((((strOf ((([] : List Int) ++ [(w8 (97 + (w8 (r6_0))))]))) ++ r21_0) ++ r24_0)) r24_1 r24_2 r24_3 r24_4 ((((strOf ((([] : List Int) ++ [(w8 (97 + (w8 (r6_0))))]))) ++ r21_0) ++ r27_0)) r27_1 r27_2 r27_3 r27_4
((zj151 ((((strOf ((([] : List Int) ++ [(w8 (97 + (w8 (r6_0))))]))) ++ r17_0) ++ r20_0)) r20_1 r20_2 r20_3 r20_4 ((((strOf ((([] : List Int) ++ [(w8 (97 + (w8 (r6_0))))]))) ++ r21_0) ++ r24_0)) r24_1 r24_2 r24_3 r24_4
((zj151 ((((strOf ((([] : List Int) ++ [(w8 (97 + (w8 (r6_0))))]))) ++ r11_0) ++ r14_0)) r14_1 r14_2 r14_3 r14_4 ((((strOf ((([] : List Int) ++ [(w8 (97 + (w8 (r6_0))))]))) ++ r17_0) ++ r20_0)) r20_1 r20_2 r20_3 r20_4
(k0 ((((strOf ((([] : List Int) ++ [(w8 (97 + (w8 (r6_0))))]))) ++ r11_0) ++ r14_0)) r14_1 r14_2 r14_3 r14_4)))))))))))))))))))))))))))))))))))))))
def zj152 (N : Nat) (self : Int → Int → Int → Int → Mp → Mp → (ByteArray → Int → Int → Mp → Mp → O β) → O β) (a0 : Int) (a1 : Int) (a2 : Int) (a3 : Int) (a4 : Mp) (a5 : Mp) (k0 : ByteArray → Int → Int → Mp → Mp → O β) : O β := zb152 (zj116 N) (zj141 N) (zj142 N) (zj150 N) N self a0 a1 a2 a3 a4 a5 k0
def zj153 (N : Nat) : Nat → Int → Int → Int → Int → Mp → Mp → (ByteArray → Int → Int → Mp → Mp → O β) → O β
  | 0, _, _, _, _, _, _, _ => none
  | F + 1, a0, a1, a2, a3, a4, a5, k0 => zj152 N (zj153 N F) a0 a1 a2 a3 a4 a5 k0
def zj154 (N : Nat) (a0 : Int) (a1 : Int) (a2 : Int) (a3 : Int) (a4 : Mp) (a5 : Mp) (k0 : ByteArray → Int → Int → Mp → Mp → O β) : O β := zj153 N N a0 a1 a2 a3 a4 a5 k0
def zb155 (N : Nat) (a0 : Int) (a1 : Int) (k : ByteArray → Bool → O β) : O β :=
zq98 a0 a1 4 fun r4 =>
(cond (!r4)
(k ByteArray.empty false)
(zq140 a0 a1 (fun r5_0 r5_1 r5_2 r5_3 =>
zq154 0 0 r5_0 r5_1 r5_2 r5_3 (fun r6_0 r6_1 r6_2 r6_3 r6_4 =>
k r6_0 true))))
def zj155 (N : Nat) (a0 : Int) (a1 : Int) (k : ByteArray → Bool → O β) : O β := zb155 (zj98 N) (zj140 N) (zj154 N) N a0 a1 k
def zb156 (N : Nat) (a0 : Int) (a1 : Int) (k : Int → Int → O β) : O β :=
zq1 a0 a1 fun r4 =>
(gd ((decide (0 ≤ r4)))
(k a0 ((bits .xor .i64 a1 (w64 ((shlI .i64 1 r4) - 1))))))
def zj156 (N : Nat) (a0 : Int) (a1 : Int) (k : Int → Int → O β) : O β := zb156 (zj1 N) N a0 a1 k
def zb157 (N : Nat) (a0 : Int) (a1 : Int) (k : Bool → O β) : O β :=
(cond ((a1 == 0))
(k true)
(zq156 a0 a1 fun r3 r4 =>
k ((r4 == 0))))
def zj157 (N : Nat) (a0 : Int) (a1 : Int) (k : Bool → O β) : O β := zb157 (zj156 N) N a0 a1 k
def zb158 (N : Nat) (v0 : List Int) (v1 : Int) (v2 : Int) (v3 : Int) (v4 : Int) (rec_ : List Int → Int → Int → Int → Int → O β) (k0 : ByteArray → O β) (k1 : List Int → Int → Int → O β) : O β :=
(cond ((decide (v2 < v1)))
(zq16 v3 v2 fun r7 r8 =>
(cond (((v3 == r7) && (v4 == r8)))
(k0 ((strOf ((([] : List Int) ++ [(w8 (97 + (w8 (v2))))])))))
(zq156 r7 r8 fun r9 r10 =>
(cond (((v3 == r9) && (v4 == r10)))
((gd ((decide (((strOf [33])).size + ((strOf ((([] : List Int) ++ [(w8 (97 + (w8 (v2))))])))).size ≤ 9223372036854775807)))
(k0 (((strOf [33]) ++ (strOf ((([] : List Int) ++ [(w8 (97 + (w8 (v2))))]))))))))
(rec_ v0 v1 ((w64 (v2 + 1))) v3 v4)))))
(k1 v0 v3 v4))
def zj158 (N : Nat) (v0 : List Int) (v1 : Int) (v2 : Int) (v3 : Int) (v4 : Int) (rec_ : List Int → Int → Int → Int → Int → O β) (k0 : ByteArray → O β) (k1 : List Int → Int → Int → O β) : O β := zb158 (zj16 N) (zj156 N) N v0 v1 v2 v3 v4 rec_ k0 k1
def zj159 (N : Nat) : Nat → List Int → Int → Int → Int → Int → (ByteArray → O β) → (List Int → Int → Int → O β) → O β
  | 0, _, _, _, _, _, _, _ => none
  | F + 1, v0, v1, v2, v3, v4, k0, k1 => zj158 N v0 v1 v2 v3 v4 (fun v0 v1 v2 v3 v4 => zj159 N F v0 v1 v2 v3 v4 k0 k1) k0 k1
def zb160 (N : Nat) (self : Int → Int → List Int → (ByteArray → O β) → O β) (v0 : List Int) (v1 : Int) (v2 : Int) (v3 : Int) (v4 : Int) (v5 : Int) (v6 : List Int) (v7 : Int) (v8 : Int) (v9 : List Int) (v10 : Int) (v11 : Int) (v12 : Int) (v13 : Int) (v14 : List Int) (rec_ : List Int → Int → Int → Int → Int → Int → List Int → Int → Int → List Int → Int → Int → Int → Int → List Int → O β) (k0 : ByteArray → O β) (k1 : List Int → Int → Int → Int → List Int → Int → Int → Int → Int → List Int → O β) : O β :=
(cond ((decide (v11 < v10)))
((gd ((decide (0 ≤ v11)))
((gd ((decide (v11 < (v9.length : Int))))
((cond ((v1 == 124))
((cond ((decide ((rd 0 v9 v11) ≥ 1)))
((gd ((decide (0 ≤ v13)))
((gd ((decide (v13 < (v0.length : Int))))
((cond (((w64 (v3 + (rd 0 v9 v11))) == (rd 0 v0 v13)))
((cond (((bits .or .i64 v2 v11) == v13))
(self v12 v2 v0 fun r13 =>
self v12 v11 v0 fun r14 =>
(gd ((decide (((strOf ((([] : List Int) ++ [v1])))).size + r13.size ≤ 9223372036854775807)))
((gd ((decide ((((strOf ((([] : List Int) ++ [v1]))) ++ r13)).size + r14.size ≤ 9223372036854775807)))
(k0 ((((strOf ((([] : List Int) ++ [v1]))) ++ r13) ++ r14)))))))
(rec_ v0 v1 v2 v3 v4 v5 v6 v7 v8 v9 v10 ((w64 (v11 + 1))) v12 v13 v14)))
(rec_ v0 v1 v2 v3 v4 v5 v6 v7 v8 v9 v10 ((w64 (v11 + 1))) v12 v13 v14)))))))
(rec_ v0 v1 v2 v3 v4 v5 v6 v7 v8 v9 v10 ((w64 (v11 + 1))) v12 v13 v14)))
((cond ((decide ((rd 0 v9 v11) ≥ 1)))
((gd ((decide (0 ≤ v13)))
((gd ((decide (v13 < (v0.length : Int))))
((cond (((w64 (v3 + (rd 0 v9 v11))) == (rd 0 v0 v13)))
((cond (((bits .and .i64 v2 v11) == v13))
(self v12 v2 v0 fun r15 =>
self v12 v11 v0 fun r16 =>
(gd ((decide (((strOf ((([] : List Int) ++ [v1])))).size + r15.size ≤ 9223372036854775807)))
((gd ((decide ((((strOf ((([] : List Int) ++ [v1]))) ++ r15)).size + r16.size ≤ 9223372036854775807)))
(k0 ((((strOf ((([] : List Int) ++ [v1]))) ++ r15) ++ r16)))))))
(rec_ v0 v1 v2 v3 v4 v5 v6 v7 v8 v9 v10 ((w64 (v11 + 1))) v12 v13 v14)))
(rec_ v0 v1 v2 v3 v4 v5 v6 v7 v8 v9 v10 ((w64 (v11 + 1))) v12 v13 v14)))))))
(rec_ v0 v1 v2 v3 v4 v5 v6 v7 v8 v9 v10 ((w64 (v11 + 1))) v12 v13 v14)))))))))
(k1 v0 v1 v4 v5 v6 v7 v8 v12 v13 v14))
def zj160 (N : Nat) (self : Int → Int → List Int → (ByteArray → O β) → O β) (v0 : List Int) (v1 : Int) (v2 : Int) (v3 : Int) (v4 : Int) (v5 : Int) (v6 : List Int) (v7 : Int) (v8 : Int) (v9 : List Int) (v10 : Int) (v11 : Int) (v12 : Int) (v13 : Int) (v14 : List Int) (rec_ : List Int → Int → Int → Int → Int → Int → List Int → Int → Int → List Int → Int → Int → Int → Int → List Int → O β) (k0 : ByteArray → O β) (k1 : List Int → Int → Int → Int → List Int → Int → Int → Int → Int → List Int → O β) : O β := zb160 N self v0 v1 v2 v3 v4 v5 v6 v7 v8 v9 v10 v11 v12 v13 v14 rec_ k0 k1
def zj161 (N : Nat) (self : Int → Int → List Int → (ByteArray → O β) → O β) : Nat → List Int → Int → Int → Int → Int → Int → List Int → Int → Int → List Int → Int → Int → Int → Int → List Int → (ByteArray → O β) → (List Int → Int → Int → Int → List Int → Int → Int → Int → Int → List Int → O β) → O β
  | 0, _, _, _, _, _, _, _, _, _, _, _, _, _, _, _, _, _ => none
  | F + 1, v0, v1, v2, v3, v4, v5, v6, v7, v8, v9, v10, v11, v12, v13, v14, k0, k1 => zj160 N self v0 v1 v2 v3 v4 v5 v6 v7 v8 v9 v10 v11 v12 v13 v14 (fun v0 v1 v2 v3 v4 v5 v6 v7 v8 v9 v10 v11 v12 v13 v14 => zj161 N self F v0 v1 v2 v3 v4 v5 v6 v7 v8 v9 v10 v11 v12 v13 v14 k0 k1) k0 k1
def zb162 (N : Nat) (self : Int → Int → List Int → (ByteArray → O β) → O β) (v0 : List Int) (v1 : Int) (v2 : Int) (v3 : Int) (v4 : List Int) (v5 : Int) (v6 : Int) (v7 : Int) (v8 : Int) (v9 : List Int) (rec_ : List Int → Int → Int → Int → List Int → Int → Int → Int → Int → List Int → O β) (k0 : ByteArray → O β) (k1 : List Int → Int → Int → Int → Int → List Int → O β) : O β :=
(cond ((decide (v6 < v5)))
((gd ((decide (0 ≤ v6)))
((gd ((decide (v6 < (v4.length : Int))))
((cond ((decide ((rd 0 v4 v6) < 1)))
(rec_ v0 v1 v2 v3 v4 v5 ((w64 (v6 + 1))) v7 v8 v9)
((gd ((decide (0 ≤ v8)))
((gd ((decide (v8 < (v0.length : Int))))
((cond ((decide ((rd 0 v4 v6) ≥ (rd 0 v0 v8))))
(rec_ v0 v1 v2 v3 v4 v5 ((w64 (v6 + 1))) v7 v8 v9)
(zq161 self N v0 v1 v6 ((rd 0 v4 v6)) v2 v3 v4 v5 v6 v0 ((v0.length : Int)) 0 v7 v8 v9 (fun e17_0 =>
k0 e17_0) (fun e18_0 e18_1 e18_2 e18_3 e18_4 e18_5 e18_6 e18_7 e18_8 e18_9 =>
rec_ e18_0 e18_1 e18_2 e18_3 e18_4 e18_5 ((w64 (e18_6 + 1))) e18_7 e18_8 e18_9))))))))))))))
(k1 v0 v2 v3 v7 v8 v9))
def zj162 (N : Nat) (self : Int → Int → List Int → (ByteArray → O β) → O β) (v0 : List Int) (v1 : Int) (v2 : Int) (v3 : Int) (v4 : List Int) (v5 : Int) (v6 : Int) (v7 : Int) (v8 : Int) (v9 : List Int) (rec_ : List Int → Int → Int → Int → List Int → Int → Int → Int → Int → List Int → O β) (k0 : ByteArray → O β) (k1 : List Int → Int → Int → Int → Int → List Int → O β) : O β := zb162 (zj161 N) N self v0 v1 v2 v3 v4 v5 v6 v7 v8 v9 rec_ k0 k1
def zj163 (N : Nat) (self : Int → Int → List Int → (ByteArray → O β) → O β) : Nat → List Int → Int → Int → Int → List Int → Int → Int → Int → Int → List Int → (ByteArray → O β) → (List Int → Int → Int → Int → Int → List Int → O β) → O β
  | 0, _, _, _, _, _, _, _, _, _, _, _, _ => none
  | F + 1, v0, v1, v2, v3, v4, v5, v6, v7, v8, v9, k0, k1 => zj162 N self v0 v1 v2 v3 v4 v5 v6 v7 v8 v9 (fun v0 v1 v2 v3 v4 v5 v6 v7 v8 v9 => zj163 N self F v0 v1 v2 v3 v4 v5 v6 v7 v8 v9 k0 k1) k0 k1
def zb164 (N : Nat) (self : Int → Int → List Int → (ByteArray → O β) → O β) (v0 : List Int) (v1 : Int) (v2 : Int) (v3 : Int) (v4 : Int) (v5 : List Int) (rec_ : List Int → Int → Int → Int → Int → List Int → O β) (k0 : ByteArray → O β) (k1 : O β) : O β :=
(cond ((decide (v2 < v1)))
((gd ((decide (0 ≤ v2)))
((gd ((decide (v2 < (v5.length : Int))))
(zq163 self N v0 ((rd 0 v5 v2)) v1 v2 v0 ((v0.length : Int)) 0 v3 v4 v5 (fun e19_0 =>
k0 e19_0) (fun e20_0 e20_1 e20_2 e20_3 e20_4 e20_5 =>
rec_ e20_0 e20_1 ((w64 (e20_2 + 1))) e20_3 e20_4 e20_5))))))
(k1 ))
def zj164 (N : Nat) (self : Int → Int → List Int → (ByteArray → O β) → O β) (v0 : List Int) (v1 : Int) (v2 : Int) (v3 : Int) (v4 : Int) (v5 : List Int) (rec_ : List Int → Int → Int → Int → Int → List Int → O β) (k0 : ByteArray → O β) (k1 : O β) : O β := zb164 (zj163 N) N self v0 v1 v2 v3 v4 v5 rec_ k0 k1
def zj165 (N : Nat) (self : Int → Int → List Int → (ByteArray → O β) → O β) : Nat → List Int → Int → Int → Int → Int → List Int → (ByteArray → O β) → (O β) → O β
  | 0, _, _, _, _, _, _, _, _ => none
  | F + 1, v0, v1, v2, v3, v4, v5, k0, k1 => zj164 N self v0 v1 v2 v3 v4 v5 (fun v0 v1 v2 v3 v4 v5 => zj165 N self F v0 v1 v2 v3 v4 v5 k0 k1) k0 k1
def zb166 (N : Nat) (self : Int → Int → List Int → (ByteArray → O β) → O β) (a0 : Int) (a1 : Int) (a2 : List Int) (k : ByteArray → O β) : O β :=
zq157 a0 a1 fun r4 =>
(cond r4
(zq2 a0 a1 0 fun r5 =>
zq141 r5 fun r6 =>
k r6)
((gd ((decide (0 ≤ a1)))
((gd ((decide (a1 < (a2.length : Int))))
((cond (((rd 0 a2 a1) == 1))
(zq159 N a2 a0 0 a0 a1 (fun e11_0 =>
k e11_0) (fun e12_0 e12_1 e12_2 =>
zq165 self N e12_0 (((((([] : List Int) ++ [38]) ++ [124])).length : Int)) 0 e12_1 e12_2 (((([] : List Int) ++ [38]) ++ [124])) (fun e21_0 =>
k e21_0) (k ByteArray.empty)))
(zq165 self N a2 (((((([] : List Int) ++ [38]) ++ [124])).length : Int)) 0 a0 a1 (((([] : List Int) ++ [38]) ++ [124])) (fun e23_0 =>
k e23_0) (k ByteArray.empty)))))))))
def zj166 (N : Nat) (self : Int → Int → List Int → (ByteArray → O β) → O β) (a0 : Int) (a1 : Int) (a2 : List Int) (k : ByteArray → O β) : O β := zb166 (zj2 N) (zj141 N) (zj157 N) (zj159 N) (zj165 N) N self a0 a1 a2 k
def zj167 (N : Nat) : Nat → Int → Int → List Int → (ByteArray → O β) → O β
  | 0, _, _, _, _ => none
  | F + 1, a0, a1, a2, k => zj166 N (zj167 N F) a0 a1 a2 k
def zj168 (N : Nat) (a0 : Int) (a1 : Int) (a2 : List Int) (k : ByteArray → O β) : O β := zj167 N N a0 a1 a2 k
def zb169 (N : Nat) (a0 : Int) (a1 : Int) (k : ByteArray → Bool → O β) : O β :=
zq98 a0 a1 3 fun r4 =>
(cond (!r4)
(k ByteArray.empty false)
(impl_sizes N a0 fun r5 =>
zq168 a0 a1 r5 fun r6 =>
k r6 true))
def zj169 (N : Nat) (a0 : Int) (a1 : Int) (k : ByteArray → Bool → O β) : O β := zb169 (zj98 N) (zj168 N) N a0 a1 k
def zb170 (N : Nat) (a0 : ByteArray) (a1 : Int) (a2 : Int) (k : ByteArray → Bool → O β) : O β :=
zq98 a1 a2 4 fun r5 =>
(cond (!r5)
(k ByteArray.empty false)
((cond ((a0.toList == ((strOf [116, 97, 98, 108, 101])).toList))
(zq101 a1 a2 fun r6 =>
k r6 true)
((cond ((a0.toList == ((strOf [97, 110, 102])).toList))
(zq113 a1 a2 fun r7 =>
k r7 true)
((cond ((a0.toList == ((strOf [115, 117, 109])).toList))
(zq138 a1 a2 fun r8 =>
zq139 a1 r8 fun r9 =>
k r9 true)
((cond ((a0.toList == ((strOf [116, 114, 101, 101])).toList))
(zq155 a1 a2 fun r10 r11 =>
k r10 r11)
((cond ((a0.toList == ((strOf [102, 111, 114, 109, 117, 108, 97])).toList))
(zq169 a1 a2 fun r12 r13 =>
k r12 r13)
(k ByteArray.empty false))))))))))))
def zj170 (N : Nat) (a0 : ByteArray) (a1 : Int) (a2 : Int) (k : ByteArray → Bool → O β) : O β := zb170 (zj98 N) (zj101 N) (zj113 N) (zj138 N) (zj139 N) (zj155 N) (zj169 N) N a0 a1 a2 k
def BV_laws_FnExactWriteAs (N : Nat) (a0 : ByteArray) (a1 : Int) (a2 : Int) (k : Bool → O β) : O β :=
(cond ((decide ((a0.size : Int) > 1048576)))
(k true)
(zq24 a1 a2 fun r4 r5 =>
zq95 a0 r4 r5 fun r6 r7 =>
zq24 a1 a2 fun r8 r9 =>
zq170 a0 r8 r9 fun r10 r11 =>
(cond ((!(r10.toList == r6.toList)))
(k false)
((cond ((!(r11 == r7)))
(k false)
(k true))))))
def laws_FnExactWriteAs (N : Nat) (a0 : ByteArray) (a1 : Int) (a2 : Int) (k : Bool → O β) : O β := BV_laws_FnExactWriteAs (zj24 N) (zj95 N) (zj170 N) N a0 a1 a2 k
end Go.Proofs.YtemihnclhcobnaaGreatDoor
