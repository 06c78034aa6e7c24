/- The texts of the functions that the claims reach: plain Lean, no program. -/
import Derived.Test.YtemihnclhcobnaaGreatDoorRvLib
namespace Go.Proofs.YtemihnclhcobnaaGreatDoor
open Go.Rv
set_option linter.unusedVariables false
set_option maxRecDepth 100000
abbrev O := Option
abbrev Y0 (β : Type) := Int → Int → (Int → Int → O β) → O β
abbrev Y1 (β : Type) := Int → Int → Int → (Bool → O β) → O β
abbrev Y2 (β : Type) := Int → Int → (Bool → O β) → O β
abbrev Y3 (β : Type) := Int → Int → Int → (Int → O β) → O β
abbrev Y4 (β : Type) := Int → Int → Int → Int → (Int → Int → O β) → O β
abbrev Y5 (β : Type) := Nat → Int → Int → Int → Int → Int → Int → Int → Int → (Int → Int → Int → Int → Int → O β) → O β
abbrev Y6 (β : Type) := Int → Int → (Int → Int → Bool → O β) → O β
abbrev Y7 (β : Type) := Nat → Int → Int → Int → Int → Int → (Int → Int → Int → Int → O β) → O β
abbrev Y8 (β : Type) := Int → Int → (ByteArray → O β) → O β
abbrev Y9 (β : Type) := Nat → ByteArray → Int → Int → Int → (ByteArray → O β) → O β
abbrev Y10 (β : Type) := Int → (Int → O β) → O β
abbrev Y11 (β : Type) := Nat → Int → Int → (Int → O β) → O β
abbrev Y12 (β : Type) := Int → (ByteArray → O β) → O β
abbrev Y13 (β : Type) := Nat → Int → ByteArray → Bool → (ByteArray → Bool → O β) → O β
abbrev Y14 (β : Type) := Int → Int → (List Int → O β) → O β
abbrev Y15 (β : Type) := Nat → Int → Int → Int → List Int → (List Int → O β) → O β
abbrev Y16 (β : Type) := List Int → (ByteArray → O β) → O β
abbrev Y17 (β : Type) := Nat → List Int → ByteArray → Int → (ByteArray → O β) → O β
abbrev Y18 (β : Type) := Nat → Int → List Int → (List (List Int) → O β) → O β
abbrev Y19 (β : Type) := (Int → List Int → (List (List Int) → O β) → O β) → Nat → Int → List Int → Int → List (List Int) → (List (List Int) → O β) → O β
abbrev Y20 (β : Type) := Nat → Int → List Int → Int → Bool → Int → List (List Int) → (Int → List Int → Int → Bool → List (List Int) → O β) → O β
abbrev Y21 (β : Type) := Int → Int → List Int → (Int → Int → O β) → O β
abbrev Y22 (β : Type) := Nat → List Int → Int → Int → Int → Int → Int → Int → (Int → Int → Int → Int → Int → O β) → O β
abbrev Y23 (β : Type) := Nat → List Int → Int → Int → Int → Int → Int → Int → Int → Int → (List Int → Int → Int → Int → Int → Int → Int → Int → O β) → O β
abbrev Y24 (β : Type) := Int → Int → Int → (Int → Int → O β) → O β
abbrev Y25 (β : Type) := Nat → Int → Int → Int → Int → Int → Int → Int → (Int → Int → Int → Int → Int → O β) → O β
abbrev Y26 (β : Type) := Nat → Int → Int → Int → Int → Int → List (List Int) → (Int → Int → O β) → O β
abbrev Y27 (β : Type) := Nat → Int → Int → Int → Int → Int → Int → List (List Int) → Int → Int → (Int → Int → Int → Int → Int → List (List Int) → O β) → O β
abbrev Y28 (β : Type) := Int → List Int → (List (List Int) → O β) → O β
abbrev Y29 (β : Type) := Int → Int → (Int → O β) → O β
abbrev Y30 (β : Type) := Nat → Int → Int → Int → Int → Int → (Int → Int → O β) → O β
abbrev Y31 (β : Type) := Nat → Int → Int → Int → (Bool → O β) → O β → O β
abbrev Y32 (β : Type) := Bool → ByteArray → (ByteArray → O β) → O β
abbrev Y33 (β : Type) := Nat → Int → Int → Int → (Bool → O β) → (Int → Int → O β) → O β
abbrev Y34 (β : Type) := Int → Int → Int → Int → (Bool → O β) → O β
abbrev Y35 (β : Type) := Nat → Int → Int → Int → Int → Int → (Bool → O β) → O β → O β
abbrev Y36 (β : Type) := Nat → Int → Int → Int → Int → Int → (Int → O β) → O β
abbrev Y37 (β : Type) := Int → Int → (Int → Int → Int → Bool → O β) → O β
abbrev Y38 (β : Type) := Nat → Int → Int → Int → Int → Int → Int → (Int → Int → Int → O β) → O β
abbrev Y39 (β : Type) := Nat → Int → Int → Int → Int → Int → Int → Int → (Int → Int → Int → Int → Int → Int → O β) → O β
abbrev Y40 (β : Type) := Nat → Int → Int → Int → Int → Int → List Int → (Int → Int → Int → Int → List Int → O β) → O β
abbrev Y41 (β : Type) := Nat → Int → Int → Int → List Int → (Bool → O β) → (Int → Int → O β) → O β
abbrev Y42 (β : Type) := List Int → Int → (Int → O β) → O β
abbrev Y43 (β : Type) := Nat → List Int → Int → Int → Int → (Int → O β) → O β
abbrev Y44 (β : Type) := Int → Int → List Int → (Int → Bool → O β) → O β
abbrev Y45 (β : Type) := Nat → List Int → Int → Int → Int → Int → Int → (Int → Int → O β) → O β
abbrev Y46 (β : Type) := Int → Int → (List Int → Int → Bool → O β) → O β
abbrev Y47 (β : Type) := Nat → Int → Int → Int → Int → (Int → Int → Int → O β) → O β
abbrev Y48 (β : Type) := Nat → Int → Int → Int → Int → Int → Int → List Int → (Int → Int → List Int → O β) → O β
abbrev Y49 (β : Type) := Nat → Int → Int → Int → Int → Int → Int → Int → Int → Int → List Int → List Int → (Int → Int → Int → Int → Int → Int → Int → List Int → List Int → O β) → O β
abbrev Y50 (β : Type) := Int → (Bool → O β) → O β
abbrev Y51 (β : Type) := Int → Int → Int → Int → Int → (Bool → O β) → O β
abbrev Y52 (β : Type) := Int → (Int → (Bool → O β) → O β) → (Int → Int → O β) → O β
abbrev Y53 (β : Type) := (Int → (Bool → O β) → O β) → Nat → Int → Int → Int → Int → Int → Int → (Int → Int → Int → Int → O β) → O β
abbrev Y54 (β : Type) := Nat → Int → Int → Int → Int → List Int → (List Int → O β) → O β
abbrev Y55 (β : Type) := Nat → List Int → Int → Int → List ByteArray → (List ByteArray → O β) → O β
abbrev Y56 (β : Type) := Nat → Int → List Int → List (List Int) → List Bool → (Int → List Int → List (List Int) → List Bool → O β) → O β
abbrev Y57 (β : Type) := (Int → List Int → List (List Int) → List Bool → (Int → List Int → List (List Int) → List Bool → O β) → O β) → Nat → Int → Int → Int → List Int → List (List Int) → List Bool → (Int → List Int → List (List Int) → List Bool → O β) → O β
abbrev Y58 (β : Type) := Int → (List (List Int) → O β) → O β
abbrev Y59 (β : Type) := Int → List Int → List (List Int) → List Bool → (Int → List Int → List (List Int) → List Bool → O β) → O β
abbrev Y60 (β : Type) := Int → List Int → (Int → O β) → O β
abbrev Y61 (β : Type) := Nat → Int → Int → List Int → Int → Int → (Int → O β) → O β
abbrev Y62 (β : Type) := Nat → List Int → Int → Int → Int → Int → Int → Int → Int → Int → (Int → Int → Int → Int → O β) → O β
abbrev Y63 (β : Type) := Int → Int → Mp → (Mp → O β) → O β
abbrev Y64 (β : Type) := Nat → Int → Int → Int → Int → Int → Int → List (List Int) → (Int → Int → O β) → O β
abbrev Y65 (β : Type) := Nat → Int → Int → Mp → Int → Int → List (List Int) → (Mp → O β) → O β
abbrev Y66 (β : Type) := Nat → Int → Int → Int → Int → Int → Int → Int → Int → Int → Int → List (List Int) → (Int → Int → Int → Int → Int → Int → List (List Int) → O β) → O β
abbrev Y67 (β : Type) := Nat → Int → Int → Int → Int → Mp → Int → Int → Int → Int → List (List Int) → (Int → Int → Mp → Int → Int → List (List Int) → O β) → O β
abbrev Y68 (β : Type) := Nat → Int → Int → Int → Int → (Bool → O β) → O β → O β
abbrev Y69 (β : Type) := Int → Int → (Int → Bool → O β) → O β
abbrev Y70 (β : Type) := Nat → Int → Int → Int → Int → Int → (Int → Bool → O β) → (Int → O β) → O β
abbrev Y71 (β : Type) := Int → Int → (List Int → Bool → O β) → O β
abbrev Y72 (β : Type) := Nat → Int → Int → Int → Int → List Int → (Int → Int → List Int → O β) → O β
abbrev Y73 (β : Type) := Nat → Int → Int → Int → Int → List Int → (Bool → List Int → O β) → (List Int → O β) → O β
abbrev Y74 (β : Type) := Nat → Int → Int → Int → Int → Int → Int → Int → (Int → Int → Int → O β) → O β
abbrev Y75 (β : Type) := Nat → Int → Int → Int → Int → Int → Int → Int → Int → Int → (Int → Int → Int → Int → Int → Int → Int → O β) → O β
abbrev Y76 (β : Type) := Nat → Int → Int → Int → Int → Int → Int → Int → List Int → (Int → Int → Int → Int → List Int → O β) → O β
abbrev Y77 (β : Type) := Int → List Int → (Bool → O β) → O β
abbrev Y78 (β : Type) := List Int → (Int → (Bool → O β) → O β) → (Int → O β) → O β
abbrev Y79 (β : Type) := (Int → (Bool → O β) → O β) → Nat → List Int → Int → Int → (Int → O β) → O β → O β
abbrev Y80 (β : Type) := List Int → (Int → (Bool → O β) → O β) → (Bool → O β) → O β
abbrev Y81 (β : Type) := Nat → List Int → Int → Int → Bool → Bool → Int → Int → Int → Int → (Int → Int → Bool → Bool → O β) → O β
abbrev Y82 (β : Type) := List Int → (Int → O β) → O β
abbrev Y83 (β : Type) := Nat → Int → List Int → Int → Int → (Int → O β) → O β
abbrev Y84 (β : Type) := Nat → Int → Bool → Int → Int → List Int → List Int → (Int → Bool → List Int → O β) → O β
abbrev Y85 (β : Type) := Nat → Int → Bool → Int → Int → Int → List Int → List Int → (Int → Bool → Int → Int → Int → List Int → List Int → O β) → O β
abbrev Y86 (β : Type) := List ByteArray → List ByteArray → (List ByteArray → List ByteArray → O β) → O β
abbrev Y87 (β : Type) := Bool → ByteArray → List ByteArray → (List ByteArray → O β) → (List ByteArray → O β) → O β
abbrev Y88 (β : Type) := List ByteArray → (ByteArray → List ByteArray → O β) → O β
def tn : Nat → List TV → List TV
  | 0, l => l
  | n + 1, l => tund :: tn n l
variable {β : Type}
abbrev stB (L : Lay) (E : Env β) (f : Func) (i : Nat) (s : St) (rec_ : St → O β) (K : Exit → St → O β) : O β := ev L E (retMask f) (lp f i).body (lp f i).ex ((lp f i).lv (retMask f)) s (nextR (fun s' => rec_ (s'.tidy ((lp f i).lv (retMask f)))) K)
variable (zq0 : Y0 β) (zq1 : Y1 β) (zq2 : Y2 β) (zq3 : Y3 β) (zq5 : Y5 β) (zq6 : Y4 β) (zq7 : Y1 β) (zq9 : Y7 β) (zq10 : Y6 β) (zq12 : Y9 β) (zq13 : Y8 β) (zq15 : Y11 β) (zq16 : Y10 β) (zq18 : Y13 β) (zq19 : Y12 β) (zq21 : Y15 β) (zq22 : Y14 β) (zq24 : Y17 β) (zq25 : Y16 β) (zq27 : Y20 β) (zq29 : Y19 β) (zq32 : Y28 β) (zq34 : Y23 β) (zq36 : Y22 β) (zq37 : Y21 β) (zq39 : Y25 β) (zq40 : Y24 β) (zq41 : Y10 β) (zq43 : Y27 β) (zq45 : Y26 β) (zq46 : Y0 β) (zq47 : Y6 β) (zq48 : Y29 β) (zq50 : Y30 β) (zq51 : Y29 β) (zq53 : Y31 β) (zq54 : Y2 β) (zq55 : Y2 β) (zq56 : Y32 β) (zq57 : Y3 β) (zq59 : Y33 β) (zq60 : Y2 β) (zq62 : Y35 β) (zq63 : Y34 β) (zq65 : Y33 β) (zq66 : Y2 β) (zq68 : Y36 β) (zq69 : Y3 β) (zq71 : Y39 β) (zq73 : Y38 β) (zq74 : Y37 β) (zq75 : Y2 β) (zq76 : Y6 β) (zq77 : Y2 β) (zq78 : Y10 β) (zq80 : Y40 β) (zq82 : Y15 β) (zq83 : Y14 β) (zq85 : Y41 β) (zq86 : Y2 β) (zq88 : Y43 β) (zq89 : Y42 β) (zq91 : Y45 β) (zq92 : Y44 β) (zq94 : Y47 β) (zq96 : Y49 β) (zq98 : Y48 β) (zq99 : Y46 β) (zq100 : Y2 β) (zq101 : Y8 β) (zq102 : Y50 β) (zq103 : Y29 β) (zq104 : Y2 β) (zq105 : Y3 β) (zq106 : Y3 β) (zq107 : Y51 β) (zq108 : Y34 β) (zq109 : Y10 β) (zq110 : Y10 β) (zq111 : Y1 β) (zq113 : Y53 β) (zq114 : Y52 β) (zq115 : Y4 β) (zq116 : Y1 β) (zq118 : Y7 β) (zq119 : Y6 β) (zq121 : Y54 β) (zq122 : Y8 β) (zq123 : Y29 β) (zq124 : Y12 β) (zq126 : Y54 β) (zq127 : Y14 β) (zq129 : Y55 β) (zq130 : Y16 β) (zq131 : Y1 β) (zq133 : Y57 β) (zq136 : Y59 β) (zq137 : Y58 β) (zq139 : Y61 β) (zq140 : Y60 β) (zq142 : Y62 β) (zq143 : Y21 β) (zq144 : Y24 β) (zq145 : Y0 β) (zq146 : Y4 β) (zq147 : Y63 β) (zq149 : Y66 β) (zq151 : Y64 β) (zq153 : Y67 β) (zq155 : Y65 β) (zq156 : Y4 β) (zq157 : Y63 β) (zq158 : Y0 β) (zq159 : Y29 β) (zq161 : Y68 β) (zq162 : Y2 β) (zq163 : Y2 β) (zq164 : Y3 β) (zq166 : Y70 β) (zq167 : Y69 β) (zq168 : Y69 β) (zq169 : Y2 β) (zq171 : Y72 β) (zq173 : Y73 β) (zq174 : Y71 β) (zq175 : Y2 β) (zq176 : Y24 β) (zq178 : Y75 β) (zq180 : Y74 β) (zq181 : Y37 β) (zq182 : Y2 β) (zq183 : Y0 β) (zq184 : Y2 β) (zq185 : Y10 β) (zq187 : Y76 β) (zq189 : Y54 β) (zq190 : Y14 β) (zq191 : Y10 β) (zq192 : Y77 β) (zq194 : Y79 β) (zq195 : Y78 β) (zq196 : Y80 β) (zq197 : Y2 β) (zq199 : Y61 β) (zq200 : Y42 β) (zq202 : Y81 β) (zq203 : Y44 β) (zq205 : Y83 β) (zq206 : Y82 β) (zq208 : Y85 β) (zq210 : Y84 β) (zq211 : Y46 β) (zq212 : Y2 β) (zq213 : Y86 β) (zq214 : Y87 β) (zq215 : Y88 β) (zq216 : Y8 β)
def zb0 (N : Nat) (a0 : Int) (a1 : Int) (k : Int → Int → O β) : O β :=
k a0 a1
def zj0 (N : Nat) (a0 : Int) (a1 : Int) (k : Int → Int → O β) : O β := zb0 N a0 a1 k
def zb1 (N : Nat) (a0 : Int) (a1 : Int) (a2 : Int) (k : Bool → O β) : O β :=
(cond ((decide (a0 ≥ a1)))
(k ((decide (a0 ≤ a2))))
(k false))
def zj1 (N : Nat) (a0 : Int) (a1 : Int) (a2 : Int) (k : Bool → O β) : O β := zb1 N a0 a1 a2 k
def zb2 (N : Nat) (a0 : Int) (a1 : Int) (k : Bool → O β) : O β :=
zq1 a0 0 5 fun r3 =>
(cond r3
((gd ((decide (0 ≤ a0)))
((gd ((decide (0 ≤ (shlI .u64 1 a0))))
(zq1 a1 0 ((w64 ((shlI .i64 1 (shlI .u64 1 a0)) - 1))) fun r4 =>
k r4)))))
(k false))
def zj2 (N : Nat) (a0 : Int) (a1 : Int) (k : Bool → O β) : O β := zb2 (zj1 N) N a0 a1 k
def zb3 (N : Nat) (a0 : Int) (a1 : Int) (a2 : Int) (k : Int → O β) : O β :=
(gd ((decide (0 ≤ a1)))
((gd ((decide (0 ≤ a1)))
((gd ((decide (0 ≤ (w64 (a1 + 1)))))
((gd ((decide (0 ≤ a1)))
(k ((bits .or .i64 (bits .or .i64 (shlI .i64 (shrI .i64 a0 a1) (w64 (a1 + 1))) (shlI .i64 a2 a1)) (bits .and .i64 a0 (w64 ((shlI .i64 1 a1) - 1)))))))))))))
def zj3 (N : Nat) (a0 : Int) (a1 : Int) (a2 : Int) (k : Int → O β) : O β := zb3 N a0 a1 a2 k
def zb4 (N : Nat) (v0 : Int) (v1 : Int) (v2 : Int) (v3 : Int) (v4 : Int) (v5 : Int) (v6 : Int) (v7 : Int) (rec_ : Int → Int → Int → Int → Int → Int → Int → Int → O β) (k0 : Int → Int → Int → Int → Int → O β) : O β :=
(gd ((decide (0 ≤ (w64 (v4 - 1)))))
((cond ((decide (v3 < (shlI .i64 1 (w64 (v4 - 1))))))
(zq3 v3 v0 v1 fun r6 =>
(gd ((decide (0 ≤ r6)))
((gd ((decide (0 ≤ v3)))
(rec_ v0 v1 ((bits .or .i64 v2 (shlI .i64 (bits .and .i64 (shrI .i64 v5 r6) 1) v3))) ((w64 (v3 + 1))) v4 v5 v6 v7)))))
(k0 v2 v4 v5 v6 v7))))
def zj4 (N : Nat) (v0 : Int) (v1 : Int) (v2 : Int) (v3 : Int) (v4 : Int) (v5 : Int) (v6 : Int) (v7 : Int) (rec_ : Int → Int → Int → Int → Int → Int → Int → Int → O β) (k0 : Int → Int → Int → Int → Int → O β) : O β := zb4 (zj3 N) N v0 v1 v2 v3 v4 v5 v6 v7 rec_ k0
def zj5 (N : Nat) : Nat → Int → Int → Int → Int → Int → Int → Int → Int → (Int → Int → Int → Int → Int → O β) → O β
  | 0, _, _, _, _, _, _, _, _, _ => none
  | F + 1, v0, v1, v2, v3, v4, v5, v6, v7, k0 => zj4 N v0 v1 v2 v3 v4 v5 v6 v7 (fun v0 v1 v2 v3 v4 v5 v6 v7 => zj5 N F v0 v1 v2 v3 v4 v5 v6 v7 k0) k0
def zb6 (N : Nat) (a0 : Int) (a1 : Int) (a2 : Int) (a3 : Int) (k : Int → Int → O β) : O β :=
zq5 N a2 a3 0 0 a0 a1 0 0 (fun e7_0 e7_1 e7_2 e7_3 e7_4 =>
k ((w64 (e7_1 - 1))) e7_0)
def zj6 (N : Nat) (a0 : Int) (a1 : Int) (a2 : Int) (a3 : Int) (k : Int → Int → O β) : O β := zb6 (zj5 N) N a0 a1 a2 a3 k
def zb7 (N : Nat) (a0 : Int) (a1 : Int) (a2 : Int) (k : Bool → O β) : O β :=
zq6 a0 a1 a2 0 fun r4 r5 =>
zq6 a0 a1 a2 1 fun r6 r7 =>
k ((r5 != r7))
def zj7 (N : Nat) (a0 : Int) (a1 : Int) (a2 : Int) (k : Bool → O β) : O β := zb7 (zj6 N) N a0 a1 a2 k
def zb8 (N : Nat) (v0 : Int) (v1 : Int) (v2 : Int) (v3 : Int) (v4 : Int) (rec_ : Int → Int → Int → Int → Int → O β) (k0 : Int → Int → Int → Int → O β) : O β :=
(cond ((decide (v0 ≥ 0)))
(zq7 v1 v2 v0 fun r6 =>
(cond (!r6)
(zq6 v1 v2 v0 0 fun r7 r8 =>
rec_ ((w64 (v0 - 1))) r7 r8 v3 v4)
(rec_ ((w64 (v0 - 1))) v1 v2 v3 v4)))
(k0 v1 v2 v3 v4))
def zj8 (N : Nat) (v0 : Int) (v1 : Int) (v2 : Int) (v3 : Int) (v4 : Int) (rec_ : Int → Int → Int → Int → Int → O β) (k0 : Int → Int → Int → Int → O β) : O β := zb8 (zj6 N) (zj7 N) N v0 v1 v2 v3 v4 rec_ k0
def zj9 (N : Nat) : Nat → Int → Int → Int → Int → Int → (Int → Int → Int → Int → O β) → O β
  | 0, _, _, _, _, _, _ => none
  | F + 1, v0, v1, v2, v3, v4, k0 => zj8 N v0 v1 v2 v3 v4 (fun v0 v1 v2 v3 v4 => zj9 N F v0 v1 v2 v3 v4 k0) k0
def zb10 (N : Nat) (a0 : Int) (a1 : Int) (k : Int → Int → Bool → O β) : O β :=
zq2 a0 a1 fun r5 =>
(cond (!r5)
(k 0 0 false)
(zq9 N ((w64 (a0 - 1))) a0 a1 0 0 (fun e9_0 e9_1 e9_2 e9_3 =>
k e9_0 e9_1 true)))
def zj10 (N : Nat) (a0 : Int) (a1 : Int) (k : Int → Int → Bool → O β) : O β := zb10 (zj2 N) (zj9 N) N a0 a1 k
def zb11 (N : Nat) (v0 : ByteArray) (v1 : Int) (v2 : Int) (v3 : Int) (rec_ : ByteArray → Int → Int → Int → O β) (k0 : ByteArray → O β) : O β :=
zq2 v2 v3 fun r3 =>
(cond r3
((gd ((decide (0 ≤ v2)))
((cond ((decide (v1 < (shlI .i64 1 v2))))
((gd ((decide (0 ≤ v1)))
((cond (((bits .and .i64 (shrI .i64 v3 v1) 1) == 1))
((gd ((decide (v0.size + ((strOf [49])).size ≤ 9223372036854775807)))
(rec_ ((v0 ++ (strOf [49]))) ((w64 (v1 + 1))) v2 v3)))
((gd ((decide (v0.size + ((strOf [48])).size ≤ 9223372036854775807)))
(rec_ ((v0 ++ (strOf [48]))) ((w64 (v1 + 1))) v2 v3)))))))
(k0 v0)))))
(k0 v0))
def zj11 (N : Nat) (v0 : ByteArray) (v1 : Int) (v2 : Int) (v3 : Int) (rec_ : ByteArray → Int → Int → Int → O β) (k0 : ByteArray → O β) : O β := zb11 (zj2 N) N v0 v1 v2 v3 rec_ k0
def zj12 (N : Nat) : Nat → ByteArray → Int → Int → Int → (ByteArray → O β) → O β
  | 0, _, _, _, _, _ => none
  | F + 1, v0, v1, v2, v3, k0 => zj11 N v0 v1 v2 v3 (fun v0 v1 v2 v3 => zj12 N F v0 v1 v2 v3 k0) k0
def zb13 (N : Nat) (a0 : Int) (a1 : Int) (k : ByteArray → O β) : O β :=
zq12 N ByteArray.empty 0 a0 a1 (fun e4_0 =>
k e4_0)
def zj13 (N : Nat) (a0 : Int) (a1 : Int) (k : ByteArray → O β) : O β := zb13 (zj12 N) N a0 a1 k
def zb14 (N : Nat) (v0 : Int) (v1 : Int) (rec_ : Int → Int → O β) (k0 : Int → O β) : O β :=
(cond ((decide (v1 > 0)))
(rec_ ((w64 (v0 + (bits .and .i64 v1 1)))) ((shrI .i64 v1 1)))
(k0 v0))
def zj14 (N : Nat) (v0 : Int) (v1 : Int) (rec_ : Int → Int → O β) (k0 : Int → O β) : O β := zb14 N v0 v1 rec_ k0
def zj15 (N : Nat) : Nat → Int → Int → (Int → O β) → O β
  | 0, _, _, _ => none
  | F + 1, v0, v1, k0 => zj14 N v0 v1 (fun v0 v1 => zj15 N F v0 v1 k0) k0
def zb16 (N : Nat) (a0 : Int) (k : Int → O β) : O β :=
zq15 N 0 a0 (fun e2_0 =>
k e2_0)
def zj16 (N : Nat) (a0 : Int) (k : Int → O β) : O β := zb16 (zj15 N) N a0 k
def zb17 (N : Nat) (v0 : Int) (v1 : ByteArray) (v2 : Bool) (rec_ : Int → ByteArray → Bool → O β) (k0 : ByteArray → Bool → O β) : O β :=
(cond ((v0 != 0))
((cond ((decide ((remI v0 10) < 0)))
((gd ((decide (((strOf ((([] : List Int) ++ [(w8 ((w64 (48 + (w64 (0 - (remI v0 10)))))))])))).size + v1.size ≤ 9223372036854775807)))
(rec_ ((quoI .i64 v0 10)) (((strOf ((([] : List Int) ++ [(w8 ((w64 (48 + (w64 (0 - (remI v0 10)))))))]))) ++ v1)) v2)))
((gd ((decide (((strOf ((([] : List Int) ++ [(w8 ((w64 (48 + (remI v0 10)))))])))).size + v1.size ≤ 9223372036854775807)))
(rec_ ((quoI .i64 v0 10)) (((strOf ((([] : List Int) ++ [(w8 ((w64 (48 + (remI v0 10)))))]))) ++ v1)) v2)))))
(k0 v1 v2))
def zj17 (N : Nat) (v0 : Int) (v1 : ByteArray) (v2 : Bool) (rec_ : Int → ByteArray → Bool → O β) (k0 : ByteArray → Bool → O β) : O β := zb17 N v0 v1 v2 rec_ k0
def zj18 (N : Nat) : Nat → Int → ByteArray → Bool → (ByteArray → Bool → O β) → O β
  | 0, _, _, _, _ => none
  | F + 1, v0, v1, v2, k0 => zj17 N v0 v1 v2 (fun v0 v1 v2 => zj18 N F v0 v1 v2 k0) k0
def zb19 (N : Nat) (a0 : Int) (k : ByteArray → O β) : O β :=
(cond ((a0 == 0))
(k ((strOf [48])))
(zq18 N a0 ByteArray.empty ((decide (a0 < 0))) (fun e2_0 e2_1 =>
(cond e2_1
((gd ((decide (((strOf [45])).size + e2_0.size ≤ 9223372036854775807)))
(k (((strOf [45]) ++ e2_0)))))
(k e2_0)))))
def zj19 (N : Nat) (a0 : Int) (k : ByteArray → O β) : O β := zb19 (zj18 N) N a0 k
def zb20 (N : Nat) (v0 : Int) (v1 : Int) (v2 : Int) (v3 : List Int) (rec_ : Int → Int → Int → List Int → O β) (k0 : List Int → O β) : O β :=
zq2 v1 v2 fun r3 =>
(cond r3
((cond ((decide (v0 < v1)))
(zq7 v1 v2 v0 fun r4 =>
(cond r4
((gd ((decide ((v3.length + ((([] : List Int) ++ [v0])).length) * 8 ≤ 140737488355328)))
(rec_ ((w64 (v0 + 1))) v1 v2 ((v3 ++ (([] : List Int) ++ [v0]))))))
(rec_ ((w64 (v0 + 1))) v1 v2 v3)))
(k0 v3)))
(k0 v3))
def zj20 (N : Nat) (v0 : Int) (v1 : Int) (v2 : Int) (v3 : List Int) (rec_ : Int → Int → Int → List Int → O β) (k0 : List Int → O β) : O β := zb20 (zj2 N) (zj7 N) N v0 v1 v2 v3 rec_ k0
def zj21 (N : Nat) : Nat → Int → Int → Int → List Int → (List Int → O β) → O β
  | 0, _, _, _, _, _ => none
  | F + 1, v0, v1, v2, v3, k0 => zj20 N v0 v1 v2 v3 (fun v0 v1 v2 v3 => zj21 N F v0 v1 v2 v3 k0) k0
def zb22 (N : Nat) (a0 : Int) (a1 : Int) (k : List Int → O β) : O β :=
zq21 N 0 a0 a1 (([] : List Int)) (fun e5_0 =>
k e5_0)
def zj22 (N : Nat) (a0 : Int) (a1 : Int) (k : List Int → O β) : O β := zb22 (zj21 N) N a0 a1 k
def zb23 (N : Nat) (v0 : List Int) (v1 : ByteArray) (v2 : Int) (rec_ : List Int → ByteArray → Int → O β) (k0 : ByteArray → O β) : O β :=
(cond ((decide (v2 < (v0.length : Int))))
((cond ((decide (v2 > 0)))
((gd ((decide (v1.size + ((strOf [44])).size ≤ 9223372036854775807)))
((gd ((decide (0 ≤ v2)))
((gd ((decide (v2 < (v0.length : Int))))
(zq19 ((rd 0 v0 v2)) fun r2 =>
(gd ((decide (((v1 ++ (strOf [44]))).size + r2.size ≤ 9223372036854775807)))
(rec_ v0 (((v1 ++ (strOf [44])) ++ r2)) ((w64 (v2 + 1))))))))))))
((gd ((decide (0 ≤ v2)))
((gd ((decide (v2 < (v0.length : Int))))
(zq19 ((rd 0 v0 v2)) fun r3 =>
(gd ((decide (v1.size + r3.size ≤ 9223372036854775807)))
(rec_ v0 ((v1 ++ r3)) ((w64 (v2 + 1))))))))))))
(k0 v1))
def zj23 (N : Nat) (v0 : List Int) (v1 : ByteArray) (v2 : Int) (rec_ : List Int → ByteArray → Int → O β) (k0 : ByteArray → O β) : O β := zb23 (zj19 N) N v0 v1 v2 rec_ k0
def zj24 (N : Nat) : Nat → List Int → ByteArray → Int → (ByteArray → O β) → O β
  | 0, _, _, _, _ => none
  | F + 1, v0, v1, v2, k0 => zj23 N v0 v1 v2 (fun v0 v1 v2 => zj24 N F v0 v1 v2 k0) k0
def zb25 (N : Nat) (a0 : List Int) (k : ByteArray → O β) : O β :=
zq24 N a0 ByteArray.empty 0 (fun e4_0 =>
(cond ((e4_0.toList == ByteArray.empty.toList))
(k ((strOf [110, 111, 110, 101])))
(k e4_0)))
def zj25 (N : Nat) (a0 : List Int) (k : ByteArray → O β) : O β := zb25 (zj24 N) N a0 k
def zb26 (N : Nat) (v0 : Int) (v1 : List Int) (v2 : Int) (v3 : Bool) (v4 : Int) (v5 : List (List Int)) (rec_ : Int → List Int → Int → Bool → Int → List (List Int) → O β) (k0 : Int → List Int → Int → Bool → List (List Int) → O β) : O β :=
(cond ((decide (v4 < (v1.length : Int))))
((cond v3
(rec_ v0 v1 v2 true ((w64 (v4 + 1))) v5)
((gd ((decide (0 ≤ v4)))
((gd ((decide (v4 < (v1.length : Int))))
(rec_ v0 v1 v2 (((rd 0 v1 v4) == v2)) ((w64 (v4 + 1))) v5)))))))
(k0 v0 v1 v2 v3 v5))
def zj26 (N : Nat) (v0 : Int) (v1 : List Int) (v2 : Int) (v3 : Bool) (v4 : Int) (v5 : List (List Int)) (rec_ : Int → List Int → Int → Bool → Int → List (List Int) → O β) (k0 : Int → List Int → Int → Bool → List (List Int) → O β) : O β := zb26 N v0 v1 v2 v3 v4 v5 rec_ k0
def zj27 (N : Nat) : Nat → Int → List Int → Int → Bool → Int → List (List Int) → (Int → List Int → Int → Bool → List (List Int) → O β) → O β
  | 0, _, _, _, _, _, _, _ => none
  | F + 1, v0, v1, v2, v3, v4, v5, k0 => zj26 N v0 v1 v2 v3 v4 v5 (fun v0 v1 v2 v3 v4 v5 => zj27 N F v0 v1 v2 v3 v4 v5 k0) k0
def zb28 (N : Nat) (self : Int → List Int → (List (List Int) → O β) → O β) (v0 : Int) (v1 : List Int) (v2 : Int) (v3 : List (List Int)) (rec_ : Int → List Int → Int → List (List Int) → O β) (k0 : List (List Int) → O β) : O β :=
(cond ((decide (v2 < v0)))
(zq27 N v0 v1 v2 false 0 v3 (fun e3_0 e3_1 e3_2 e3_3 e3_4 =>
(cond (!e3_3)
((gd ((decide (((([] : List Int)).length + e3_1.length) * 8 ≤ 140737488355328)))
((gd ((decide ((((([] : List Int) ++ e3_1)).length + ((([] : List Int) ++ [e3_2])).length) * 8 ≤ 140737488355328)))
(self e3_0 (((([] : List Int) ++ e3_1) ++ (([] : List Int) ++ [e3_2]))) fun r4 =>
(gd ((decide ((e3_4.length + r4.length) * 24 ≤ 140737488355328)))
(rec_ e3_0 e3_1 ((w64 (e3_2 + 1))) ((e3_4 ++ r4)))))))))
(rec_ e3_0 e3_1 ((w64 (e3_2 + 1))) e3_4))))
(k0 v3))
def zj28 (N : Nat) (self : Int → List Int → (List (List Int) → O β) → O β) (v0 : Int) (v1 : List Int) (v2 : Int) (v3 : List (List Int)) (rec_ : Int → List Int → Int → List (List Int) → O β) (k0 : List (List Int) → O β) : O β := zb28 (zj27 N) N self v0 v1 v2 v3 rec_ k0
def zj29 (N : Nat) (self : Int → List Int → (List (List Int) → O β) → O β) : Nat → Int → List Int → Int → List (List Int) → (List (List Int) → O β) → O β
  | 0, _, _, _, _, _ => none
  | F + 1, v0, v1, v2, v3, k0 => zj28 N self v0 v1 v2 v3 (fun v0 v1 v2 v3 => zj29 N self F v0 v1 v2 v3 k0) k0
def zb30 (N : Nat) (self : Int → List Int → (List (List Int) → O β) → O β) (a0 : Int) (a1 : List Int) (k : List (List Int) → O β) : O β :=
(cond (((a1.length : Int) == a0))
(k ((([] : List (List Int)) ++ [a1])))
(zq29 self N a0 a1 0 (([] : List (List Int))) (fun e5_0 =>
k e5_0)))
def zj30 (N : Nat) (self : Int → List Int → (List (List Int) → O β) → O β) (a0 : Int) (a1 : List Int) (k : List (List Int) → O β) : O β := zb30 (zj29 N) N self a0 a1 k
def zj31 (N : Nat) : Nat → Int → List Int → (List (List Int) → O β) → O β
  | 0, _, _, _ => none
  | F + 1, a0, a1, k => zj30 N (zj31 N F) a0 a1 k
def zj32 (N : Nat) (a0 : Int) (a1 : List Int) (k : List (List Int) → O β) : O β := zj31 N N a0 a1 k
def zb33 (N : Nat) (v0 : List Int) (v1 : Int) (v2 : Int) (v3 : Int) (v4 : Int) (v5 : Int) (v6 : Int) (v7 : Int) (v8 : Int) (rec_ : List Int → Int → Int → Int → Int → Int → Int → Int → Int → O β) (k0 : List Int → Int → Int → Int → Int → Int → Int → Int → O β) : O β :=
(cond ((decide (v4 < v5)))
((gd ((decide (0 ≤ v4)))
((gd ((decide (0 ≤ v4)))
((gd ((decide (v4 < (v0.length : Int))))
((gd ((decide (0 ≤ (rd 0 v0 v4))))
(rec_ v0 v1 v2 ((bits .or .i64 v3 (shlI .i64 (bits .and .i64 (shrI .i64 v2 v4) 1) (rd 0 v0 v4)))) ((w64 (v4 + 1))) v5 v6 v7 v8)))))))))
(k0 v0 v1 v2 v3 v5 v6 v7 v8))
def zj33 (N : Nat) (v0 : List Int) (v1 : Int) (v2 : Int) (v3 : Int) (v4 : Int) (v5 : Int) (v6 : Int) (v7 : Int) (v8 : Int) (rec_ : List Int → Int → Int → Int → Int → Int → Int → Int → Int → O β) (k0 : List Int → Int → Int → Int → Int → Int → Int → Int → O β) : O β := zb33 N v0 v1 v2 v3 v4 v5 v6 v7 v8 rec_ k0
def zj34 (N : Nat) : Nat → List Int → Int → Int → Int → Int → Int → Int → Int → Int → (List Int → Int → Int → Int → Int → Int → Int → Int → O β) → O β
  | 0, _, _, _, _, _, _, _, _, _, _ => none
  | F + 1, v0, v1, v2, v3, v4, v5, v6, v7, v8, k0 => zj33 N v0 v1 v2 v3 v4 v5 v6 v7 v8 (fun v0 v1 v2 v3 v4 v5 v6 v7 v8 => zj34 N F v0 v1 v2 v3 v4 v5 v6 v7 v8 k0) k0
def zb35 (N : Nat) (v0 : List Int) (v1 : Int) (v2 : Int) (v3 : Int) (v4 : Int) (v5 : Int) (v6 : Int) (rec_ : List Int → Int → Int → Int → Int → Int → Int → O β) (k0 : Int → Int → Int → Int → Int → O β) : O β :=
(gd ((decide (0 ≤ v3)))
((cond ((decide (v2 < (shlI .i64 1 v3))))
(zq34 N v0 v1 v2 0 0 v3 v4 v5 v6 (fun e5_0 e5_1 e5_2 e5_3 e5_4 e5_5 e5_6 e5_7 =>
(gd ((decide (0 ≤ e5_2)))
((gd ((decide (0 ≤ e5_3)))
(rec_ e5_0 ((bits .or .i64 e5_1 (shlI .i64 (bits .and .i64 (shrI .i64 e5_5 e5_2) 1) e5_3))) ((w64 (e5_2 + 1))) e5_4 e5_5 e5_6 e5_7))))))
(k0 v1 v3 v4 v5 v6))))
def zj35 (N : Nat) (v0 : List Int) (v1 : Int) (v2 : Int) (v3 : Int) (v4 : Int) (v5 : Int) (v6 : Int) (rec_ : List Int → Int → Int → Int → Int → Int → Int → O β) (k0 : Int → Int → Int → Int → Int → O β) : O β := zb35 (zj34 N) N v0 v1 v2 v3 v4 v5 v6 rec_ k0
def zj36 (N : Nat) : Nat → List Int → Int → Int → Int → Int → Int → Int → (Int → Int → Int → Int → Int → O β) → O β
  | 0, _, _, _, _, _, _, _, _ => none
  | F + 1, v0, v1, v2, v3, v4, v5, v6, k0 => zj35 N v0 v1 v2 v3 v4 v5 v6 (fun v0 v1 v2 v3 v4 v5 v6 => zj36 N F v0 v1 v2 v3 v4 v5 v6 k0) k0
def zb37 (N : Nat) (a0 : Int) (a1 : Int) (a2 : List Int) (k : Int → Int → O β) : O β :=
zq36 N a2 0 0 a0 a1 0 0 (fun e6_0 e6_1 e6_2 e6_3 e6_4 =>
k e6_1 e6_0)
def zj37 (N : Nat) (a0 : Int) (a1 : Int) (a2 : List Int) (k : Int → Int → O β) : O β := zb37 (zj36 N) N a0 a1 a2 k
def zb38 (N : Nat) (v0 : Int) (v1 : Int) (v2 : Int) (v3 : Int) (v4 : Int) (v5 : Int) (v6 : Int) (rec_ : Int → Int → Int → Int → Int → Int → Int → O β) (k0 : Int → Int → Int → Int → Int → O β) : O β :=
(gd ((decide (0 ≤ v3)))
((cond ((decide (v2 < (shlI .i64 1 v3))))
((gd ((decide (0 ≤ v2)))
((gd ((decide (0 ≤ (bits .xor .i64 v2 v0))))
(rec_ v0 ((bits .or .i64 v1 (shlI .i64 (bits .and .i64 (shrI .i64 v4 v2) 1) (bits .xor .i64 v2 v0)))) ((w64 (v2 + 1))) v3 v4 v5 v6)))))
(k0 v1 v3 v4 v5 v6))))
def zj38 (N : Nat) (v0 : Int) (v1 : Int) (v2 : Int) (v3 : Int) (v4 : Int) (v5 : Int) (v6 : Int) (rec_ : Int → Int → Int → Int → Int → Int → Int → O β) (k0 : Int → Int → Int → Int → Int → O β) : O β := zb38 N v0 v1 v2 v3 v4 v5 v6 rec_ k0
def zj39 (N : Nat) : Nat → Int → Int → Int → Int → Int → Int → Int → (Int → Int → Int → Int → Int → O β) → O β
  | 0, _, _, _, _, _, _, _, _ => none
  | F + 1, v0, v1, v2, v3, v4, v5, v6, k0 => zj38 N v0 v1 v2 v3 v4 v5 v6 (fun v0 v1 v2 v3 v4 v5 v6 => zj39 N F v0 v1 v2 v3 v4 v5 v6 k0) k0
def zb40 (N : Nat) (a0 : Int) (a1 : Int) (a2 : Int) (k : Int → Int → O β) : O β :=
zq39 N a2 0 0 a0 a1 0 0 (fun e5_0 e5_1 e5_2 e5_3 e5_4 =>
k e5_1 e5_0)
def zj40 (N : Nat) (a0 : Int) (a1 : Int) (a2 : Int) (k : Int → Int → O β) : O β := zb40 (zj39 N) N a0 a1 a2 k
def zb41 (N : Nat) (a0 : Int) (k : Int → O β) : O β :=
(gd ((decide (0 ≤ a0)))
((gd ((decide (0 ≤ (shlI .u64 1 a0))))
(k ((w64 ((shlI .i64 1 (shlI .u64 1 a0)) - 1)))))))
def zj41 (N : Nat) (a0 : Int) (k : Int → O β) : O β := zb41 N a0 k
def zb42 (N : Nat) (v0 : Int) (v1 : Int) (v2 : Int) (v3 : Int) (v4 : Int) (v5 : Int) (v6 : List (List Int)) (v7 : Int) (v8 : Int) (rec_ : Int → Int → Int → Int → Int → Int → List (List Int) → Int → Int → O β) (k0 : Int → Int → Int → Int → Int → List (List Int) → O β) : O β :=
(gd ((decide (0 ≤ v4)))
((cond ((decide (v3 < (shlI .i64 1 v4))))
(zq40 v7 v8 v3 fun r7 r8 =>
zq41 v4 fun r9 =>
(cond ((r8 == v5))
((cond (((w64 (r9 - r8)) == v5))
(rec_ ((mnI v0 (mnI r8 (w64 (r9 - r8))))) ((w64 ((w64 (v1 + 1)) + 1))) v2 ((w64 (v3 + 1))) v4 v5 v6 v7 v8)
(rec_ ((mnI v0 (mnI r8 (w64 (r9 - r8))))) ((w64 (v1 + 1))) v2 ((w64 (v3 + 1))) v4 v5 v6 v7 v8)))
((cond (((w64 (r9 - r8)) == v5))
(rec_ ((mnI v0 (mnI r8 (w64 (r9 - r8))))) ((w64 (v1 + 1))) v2 ((w64 (v3 + 1))) v4 v5 v6 v7 v8)
(rec_ ((mnI v0 (mnI r8 (w64 (r9 - r8))))) v1 v2 ((w64 (v3 + 1))) v4 v5 v6 v7 v8)))))
(k0 v0 v1 v2 v4 v5 v6))))
def zj42 (N : Nat) (v0 : Int) (v1 : Int) (v2 : Int) (v3 : Int) (v4 : Int) (v5 : Int) (v6 : List (List Int)) (v7 : Int) (v8 : Int) (rec_ : Int → Int → Int → Int → Int → Int → List (List Int) → Int → Int → O β) (k0 : Int → Int → Int → Int → Int → List (List Int) → O β) : O β := zb42 (zj40 N) (zj41 N) N v0 v1 v2 v3 v4 v5 v6 v7 v8 rec_ k0
def zj43 (N : Nat) : Nat → Int → Int → Int → Int → Int → Int → List (List Int) → Int → Int → (Int → Int → Int → Int → Int → List (List Int) → O β) → O β
  | 0, _, _, _, _, _, _, _, _, _, _ => none
  | F + 1, v0, v1, v2, v3, v4, v5, v6, v7, v8, k0 => zj42 N v0 v1 v2 v3 v4 v5 v6 v7 v8 (fun v0 v1 v2 v3 v4 v5 v6 v7 v8 => zj43 N F v0 v1 v2 v3 v4 v5 v6 v7 v8 k0) k0
def zb44 (N : Nat) (v0 : Int) (v1 : Int) (v2 : Int) (v3 : Int) (v4 : Int) (v5 : List (List Int)) (rec_ : Int → Int → Int → Int → Int → List (List Int) → O β) (k0 : Int → Int → O β) : O β :=
(cond ((decide (v2 < (v5.length : Int))))
((gd ((decide (0 ≤ v2)))
((gd ((decide (v2 < (v5.length : Int))))
(zq37 v3 v4 ((rd [] v5 v2)) fun r5 r6 =>
zq43 N v0 v1 v2 0 v3 v4 v5 r5 r6 (fun e10_0 e10_1 e10_2 e10_3 e10_4 e10_5 =>
rec_ e10_0 e10_1 ((w64 (e10_2 + 1))) e10_3 e10_4 e10_5))))))
(k0 v0 v1))
def zj44 (N : Nat) (v0 : Int) (v1 : Int) (v2 : Int) (v3 : Int) (v4 : Int) (v5 : List (List Int)) (rec_ : Int → Int → Int → Int → Int → List (List Int) → O β) (k0 : Int → Int → O β) : O β := zb44 (zj37 N) (zj43 N) N v0 v1 v2 v3 v4 v5 rec_ k0
def zj45 (N : Nat) : Nat → Int → Int → Int → Int → Int → List (List Int) → (Int → Int → O β) → O β
  | 0, _, _, _, _, _, _, _ => none
  | F + 1, v0, v1, v2, v3, v4, v5, k0 => zj44 N v0 v1 v2 v3 v4 v5 (fun v0 v1 v2 v3 v4 v5 => zj45 N F v0 v1 v2 v3 v4 v5 k0) k0
def zb46 (N : Nat) (a0 : Int) (a1 : Int) (k : Int → Int → O β) : O β :=
zq32 a0 (([] : List Int)) fun r4 =>
zq45 N a1 0 0 a0 a1 r4 (fun e11_0 e11_1 =>
k e11_0 e11_1)
def zj46 (N : Nat) (a0 : Int) (a1 : Int) (k : Int → Int → O β) : O β := zb46 (zj32 N) (zj45 N) N a0 a1 k
def zb47 (N : Nat) (a0 : Int) (a1 : Int) (k : Int → Int → Bool → O β) : O β :=
zq2 a0 a1 fun r5 =>
(cond (!r5)
(k 0 0 false)
((cond ((decide (a0 > 4)))
(k 0 0 false)
(zq46 a0 a1 fun r6 r7 =>
k a0 r6 true))))
def zj47 (N : Nat) (a0 : Int) (a1 : Int) (k : Int → Int → Bool → O β) : O β := zb47 (zj2 N) (zj46 N) N a0 a1 k
def zb48 (N : Nat) (a0 : Int) (a1 : Int) (k : Int → O β) : O β :=
zq2 a0 a1 fun r3 =>
(cond (!r3)
(k (-1))
((cond ((decide (a0 > 4)))
(k (-1))
(zq46 a0 a1 fun r4 r5 =>
k r5))))
def zj48 (N : Nat) (a0 : Int) (a1 : Int) (k : Int → O β) : O β := zb48 (zj2 N) (zj46 N) N a0 a1 k
def zb49 (N : Nat) (v0 : Int) (v1 : Int) (v2 : Int) (v3 : Int) (v4 : Int) (rec_ : Int → Int → Int → Int → Int → O β) (k0 : Int → Int → O β) : O β :=
(cond ((decide (v2 ≤ v3)))
(rec_ v0 ((w64 ((w64 (v1 * 2)) * v2))) ((w64 (v2 + 1))) v3 v4)
(k0 v0 v1))
def zj49 (N : Nat) (v0 : Int) (v1 : Int) (v2 : Int) (v3 : Int) (v4 : Int) (rec_ : Int → Int → Int → Int → Int → O β) (k0 : Int → Int → O β) : O β := zb49 N v0 v1 v2 v3 v4 rec_ k0
def zj50 (N : Nat) : Nat → Int → Int → Int → Int → Int → (Int → Int → O β) → O β
  | 0, _, _, _, _, _, _ => none
  | F + 1, v0, v1, v2, v3, v4, k0 => zj49 N v0 v1 v2 v3 v4 (fun v0 v1 v2 v3 v4 => zj50 N F v0 v1 v2 v3 v4 k0) k0
def zb51 (N : Nat) (a0 : Int) (a1 : Int) (k : Int → O β) : O β :=
zq48 a0 a1 fun r3 =>
(cond ((decide (r3 < 0)))
(k (-1))
(zq50 N r3 2 1 a0 a1 (fun e4_0 e4_1 =>
(gd ((e4_0 != 0))
(k ((quoI .i64 e4_1 e4_0)))))))
def zj51 (N : Nat) (a0 : Int) (a1 : Int) (k : Int → O β) : O β := zb51 (zj48 N) (zj50 N) N a0 a1 k
def zb52 (N : Nat) (v0 : Int) (v1 : Int) (v2 : Int) (rec_ : Int → Int → Int → O β) (k0 : Bool → O β) (k1 : O β) : O β :=
(cond ((decide (v0 < v1)))
(zq6 v1 v2 v0 0 fun r3 r4 =>
zq6 v1 v2 v0 1 fun r5 r6 =>
(cond (((bits .and .i64 r4 r6) != r4))
(k0 false)
(rec_ ((w64 (v0 + 1))) v1 v2)))
(k1 ))
def zj52 (N : Nat) (v0 : Int) (v1 : Int) (v2 : Int) (rec_ : Int → Int → Int → O β) (k0 : Bool → O β) (k1 : O β) : O β := zb52 (zj6 N) N v0 v1 v2 rec_ k0 k1
def zj53 (N : Nat) : Nat → Int → Int → Int → (Bool → O β) → (O β) → O β
  | 0, _, _, _, _, _ => none
  | F + 1, v0, v1, v2, k0, k1 => zj52 N v0 v1 v2 (fun v0 v1 v2 => zj53 N F v0 v1 v2 k0 k1) k0 k1
def zb54 (N : Nat) (a0 : Int) (a1 : Int) (k : Bool → O β) : O β :=
zq53 N 0 a0 a1 (fun e7_0 =>
k e7_0) (k true)
def zj54 (N : Nat) (a0 : Int) (a1 : Int) (k : Bool → O β) : O β := zb54 (zj53 N) N a0 a1 k
def zb55 (N : Nat) (a0 : Int) (a1 : Int) (k : Bool → O β) : O β :=
zq2 a0 a1 fun r3 =>
(cond r3
(zq54 a0 a1 fun r4 =>
k r4)
(k false))
def zj55 (N : Nat) (a0 : Int) (a1 : Int) (k : Bool → O β) : O β := zb55 (zj2 N) (zj54 N) N a0 a1 k
def zb56 (N : Nat) (a0 : Bool) (a1 : ByteArray) (k : ByteArray → O β) : O β :=
(cond a0
(k a1)
(k ByteArray.empty))
def zj56 (N : Nat) (a0 : Bool) (a1 : ByteArray) (k : ByteArray → O β) : O β := zb56 N a0 a1 k
def zb57 (N : Nat) (a0 : Int) (a1 : Int) (a2 : Int) (k : Int → O β) : O β :=
zq6 a0 a1 a2 0 fun r4 r5 =>
zq6 a0 a1 a2 1 fun r6 r7 =>
(cond ((r5 == r7))
(k 0)
((cond (((bits .and .i64 r5 r7) == r5))
(k 1)
((cond (((bits .and .i64 r5 r7) == r7))
(k (-1))
(k 2))))))
def zj57 (N : Nat) (a0 : Int) (a1 : Int) (a2 : Int) (k : Int → O β) : O β := zb57 (zj6 N) N a0 a1 a2 k
def zb58 (N : Nat) (v0 : Int) (v1 : Int) (v2 : Int) (rec_ : Int → Int → Int → O β) (k0 : Bool → O β) (k1 : Int → Int → O β) : O β :=
zq2 v1 v2 fun r3 =>
(cond r3
((cond ((decide (v0 < v1)))
(zq57 v1 v2 v0 fun r4 =>
(cond ((r4 == 2))
(k0 false)
(rec_ ((w64 (v0 + 1))) v1 v2)))
(k1 v1 v2)))
(k1 v1 v2))
def zj58 (N : Nat) (v0 : Int) (v1 : Int) (v2 : Int) (rec_ : Int → Int → Int → O β) (k0 : Bool → O β) (k1 : Int → Int → O β) : O β := zb58 (zj2 N) (zj57 N) N v0 v1 v2 rec_ k0 k1
def zj59 (N : Nat) : Nat → Int → Int → Int → (Bool → O β) → (Int → Int → O β) → O β
  | 0, _, _, _, _, _ => none
  | F + 1, v0, v1, v2, k0, k1 => zj58 N v0 v1 v2 (fun v0 v1 v2 => zj59 N F v0 v1 v2 k0 k1) k0 k1
def zb60 (N : Nat) (a0 : Int) (a1 : Int) (k : Bool → O β) : O β :=
zq59 N 0 a0 a1 (fun e5_0 =>
k e5_0) (fun e6_0 e6_1 =>
zq2 e6_0 e6_1 fun r7 =>
k r7)
def zj60 (N : Nat) (a0 : Int) (a1 : Int) (k : Bool → O β) : O β := zb60 (zj2 N) (zj59 N) N a0 a1 k
def zb61 (N : Nat) (v0 : Int) (v1 : Int) (v2 : Int) (v3 : Int) (v4 : Int) (rec_ : Int → Int → Int → Int → Int → O β) (k0 : Bool → O β) (k1 : O β) : O β :=
(gd ((decide (0 ≤ v3)))
((cond ((decide (v2 < (shlI .i64 1 v3))))
((gd ((decide (0 ≤ v0)))
((gd ((decide (0 ≤ v1)))
((cond (((bits .and .i64 (shrI .i64 v2 v0) 1) != (bits .and .i64 (shrI .i64 v2 v1) 1)))
((gd ((decide (0 ≤ v0)))
((gd ((decide (0 ≤ v1)))
((gd ((decide (0 ≤ v2)))
((gd ((decide (0 ≤ (bits .xor .i64 v2 (bits .or .i64 (shlI .i64 1 v0) (shlI .i64 1 v1))))))
((cond (((bits .and .i64 (shrI .i64 v4 v2) 1) != (bits .and .i64 (shrI .i64 v4 (bits .xor .i64 v2 (bits .or .i64 (shlI .i64 1 v0) (shlI .i64 1 v1)))) 1)))
(k0 false)
(rec_ v0 v1 ((w64 (v2 + 1))) v3 v4)))))))))))
((gd ((decide (0 ≤ v2)))
((gd ((decide (0 ≤ v2)))
((cond (((bits .and .i64 (shrI .i64 v4 v2) 1) != (bits .and .i64 (shrI .i64 v4 v2) 1)))
(k0 false)
(rec_ v0 v1 ((w64 (v2 + 1))) v3 v4)))))))))))))
(k1 ))))
def zj61 (N : Nat) (v0 : Int) (v1 : Int) (v2 : Int) (v3 : Int) (v4 : Int) (rec_ : Int → Int → Int → Int → Int → O β) (k0 : Bool → O β) (k1 : O β) : O β := zb61 N v0 v1 v2 v3 v4 rec_ k0 k1
def zj62 (N : Nat) : Nat → Int → Int → Int → Int → Int → (Bool → O β) → (O β) → O β
  | 0, _, _, _, _, _, _, _ => none
  | F + 1, v0, v1, v2, v3, v4, k0, k1 => zj61 N v0 v1 v2 v3 v4 (fun v0 v1 v2 v3 v4 => zj62 N F v0 v1 v2 v3 v4 k0 k1) k0 k1
def zb63 (N : Nat) (a0 : Int) (a1 : Int) (a2 : Int) (a3 : Int) (k : Bool → O β) : O β :=
zq2 a0 a1 fun r5 =>
(cond (!r5)
(k false)
(zq1 a2 0 ((w64 (a0 - 1))) fun r6 =>
(cond (!r6)
(k false)
(zq1 a3 0 ((w64 (a0 - 1))) fun r7 =>
(cond (!r7)
(k false)
(zq62 N a2 a3 0 a0 a1 (fun e8_0 =>
k e8_0) (k true)))))))
def zj63 (N : Nat) (a0 : Int) (a1 : Int) (a2 : Int) (a3 : Int) (k : Bool → O β) : O β := zb63 (zj1 N) (zj2 N) (zj62 N) N a0 a1 a2 a3 k
def zb64 (N : Nat) (v0 : Int) (v1 : Int) (v2 : Int) (rec_ : Int → Int → Int → O β) (k0 : Bool → O β) (k1 : Int → Int → O β) : O β :=
zq2 v1 v2 fun r3 =>
(cond r3
((cond ((decide (v0 < v1)))
(zq63 v1 v2 ((w64 (v0 - 1))) v0 fun r4 =>
(cond (!r4)
(k0 false)
(rec_ ((w64 (v0 + 1))) v1 v2)))
(k1 v1 v2)))
(k1 v1 v2))
def zj64 (N : Nat) (v0 : Int) (v1 : Int) (v2 : Int) (rec_ : Int → Int → Int → O β) (k0 : Bool → O β) (k1 : Int → Int → O β) : O β := zb64 (zj2 N) (zj63 N) N v0 v1 v2 rec_ k0 k1
def zj65 (N : Nat) : Nat → Int → Int → Int → (Bool → O β) → (Int → Int → O β) → O β
  | 0, _, _, _, _, _ => none
  | F + 1, v0, v1, v2, k0, k1 => zj64 N v0 v1 v2 (fun v0 v1 v2 => zj65 N F v0 v1 v2 k0 k1) k0 k1
def zb66 (N : Nat) (a0 : Int) (a1 : Int) (k : Bool → O β) : O β :=
zq65 N 1 a0 a1 (fun e5_0 =>
k e5_0) (fun e6_0 e6_1 =>
zq2 e6_0 e6_1 fun r7 =>
k r7)
def zj66 (N : Nat) (a0 : Int) (a1 : Int) (k : Bool → O β) : O β := zb66 (zj2 N) (zj65 N) N a0 a1 k
def zb67 (N : Nat) (v0 : Int) (v1 : Int) (v2 : Int) (v3 : Int) (v4 : Int) (rec_ : Int → Int → Int → Int → Int → O β) (k0 : Int → O β) : O β :=
(gd ((decide (0 ≤ v0)))
((cond ((decide (v4 < (shlI .i64 1 v0))))
(zq16 ((bits .and .i64 v1 v4)) fun r4 =>
(gd ((decide (0 ≤ v4)))
(rec_ v0 v1 v2 ((bits .or .i64 v3 (shlI .i64 (remI (w64 (r4 + v2)) 2) v4))) ((w64 (v4 + 1))))))
(k0 v3))))
def zj67 (N : Nat) (v0 : Int) (v1 : Int) (v2 : Int) (v3 : Int) (v4 : Int) (rec_ : Int → Int → Int → Int → Int → O β) (k0 : Int → O β) : O β := zb67 (zj16 N) N v0 v1 v2 v3 v4 rec_ k0
def zj68 (N : Nat) : Nat → Int → Int → Int → Int → Int → (Int → O β) → O β
  | 0, _, _, _, _, _, _ => none
  | F + 1, v0, v1, v2, v3, v4, k0 => zj67 N v0 v1 v2 v3 v4 (fun v0 v1 v2 v3 v4 => zj68 N F v0 v1 v2 v3 v4 k0) k0
def zb69 (N : Nat) (a0 : Int) (a1 : Int) (a2 : Int) (k : Int → O β) : O β :=
zq68 N a0 a1 a2 0 0 (fun e5_0 =>
k e5_0)
def zj69 (N : Nat) (a0 : Int) (a1 : Int) (a2 : Int) (k : Int → O β) : O β := zb69 (zj68 N) N a0 a1 a2 k
def zb70 (N : Nat) (v0 : Int) (v1 : Int) (v2 : Int) (v3 : Int) (v4 : Int) (v5 : Int) (v6 : Int) (rec_ : Int → Int → Int → Int → Int → Int → Int → O β) (k0 : Int → Int → Int → Int → Int → Int → O β) : O β :=
(cond ((decide (v4 < 2)))
(zq69 v5 v3 v4 fun r7 =>
zq16 ((bits .xor .i64 v6 r7)) fun r8 =>
(cond ((decide (r8 < v2)))
(rec_ v3 v4 r8 v3 ((w64 (v4 + 1))) v5 v6)
(rec_ v0 v1 v2 v3 ((w64 (v4 + 1))) v5 v6)))
(k0 v0 v1 v2 v3 v5 v6))
def zj70 (N : Nat) (v0 : Int) (v1 : Int) (v2 : Int) (v3 : Int) (v4 : Int) (v5 : Int) (v6 : Int) (rec_ : Int → Int → Int → Int → Int → Int → Int → O β) (k0 : Int → Int → Int → Int → Int → Int → O β) : O β := zb70 (zj16 N) (zj69 N) N v0 v1 v2 v3 v4 v5 v6 rec_ k0
def zj71 (N : Nat) : Nat → Int → Int → Int → Int → Int → Int → Int → (Int → Int → Int → Int → Int → Int → O β) → O β
  | 0, _, _, _, _, _, _, _, _ => none
  | F + 1, v0, v1, v2, v3, v4, v5, v6, k0 => zj70 N v0 v1 v2 v3 v4 v5 v6 (fun v0 v1 v2 v3 v4 v5 v6 => zj71 N F v0 v1 v2 v3 v4 v5 v6 k0) k0
def zb72 (N : Nat) (v0 : Int) (v1 : Int) (v2 : Int) (v3 : Int) (v4 : Int) (v5 : Int) (rec_ : Int → Int → Int → Int → Int → Int → O β) (k0 : Int → Int → Int → O β) : O β :=
(gd ((decide (0 ≤ v4)))
((cond ((decide (v3 < (shlI .i64 1 v4))))
(zq71 N v0 v1 v2 v3 0 v4 v5 (fun e9_0 e9_1 e9_2 e9_3 e9_4 e9_5 =>
rec_ e9_0 e9_1 e9_2 ((w64 (e9_3 + 1))) e9_4 e9_5))
(k0 v0 v1 v2))))
def zj72 (N : Nat) (v0 : Int) (v1 : Int) (v2 : Int) (v3 : Int) (v4 : Int) (v5 : Int) (rec_ : Int → Int → Int → Int → Int → Int → O β) (k0 : Int → Int → Int → O β) : O β := zb72 (zj71 N) N v0 v1 v2 v3 v4 v5 rec_ k0
def zj73 (N : Nat) : Nat → Int → Int → Int → Int → Int → Int → (Int → Int → Int → O β) → O β
  | 0, _, _, _, _, _, _, _ => none
  | F + 1, v0, v1, v2, v3, v4, v5, k0 => zj72 N v0 v1 v2 v3 v4 v5 (fun v0 v1 v2 v3 v4 v5 => zj73 N F v0 v1 v2 v3 v4 v5 k0) k0
def zb74 (N : Nat) (a0 : Int) (a1 : Int) (k : Int → Int → Int → Bool → O β) : O β :=
zq2 a0 a1 fun r6 =>
(cond (!r6)
(k 0 0 0 false)
(zq73 N 0 0 100 0 a0 a1 (fun e10_0 e10_1 e10_2 =>
k e10_0 e10_1 e10_2 true)))
def zj74 (N : Nat) (a0 : Int) (a1 : Int) (k : Int → Int → Int → Bool → O β) : O β := zb74 (zj2 N) (zj73 N) N a0 a1 k
def zb75 (N : Nat) (a0 : Int) (a1 : Int) (k : Bool → O β) : O β :=
zq74 a0 a1 fun r3 r4 r5 r6 =>
(cond r6
(k ((r5 == 0)))
(k false))
def zj75 (N : Nat) (a0 : Int) (a1 : Int) (k : Bool → O β) : O β := zb75 (zj74 N) N a0 a1 k
def zb76 (N : Nat) (a0 : Int) (a1 : Int) (k : Int → Int → Bool → O β) : O β :=
zq2 a0 a1 fun r5 =>
(cond (!r5)
(k 0 0 false)
((gd ((decide (0 ≤ a0)))
(zq40 a0 a1 ((w64 ((shlI .i64 1 a0) - 1))) fun r6 r7 =>
zq41 a0 fun r8 =>
k a0 ((w64 (r8 - r7))) true))))
def zj76 (N : Nat) (a0 : Int) (a1 : Int) (k : Int → Int → Bool → O β) : O β := zb76 (zj2 N) (zj40 N) (zj41 N) N a0 a1 k
def zb77 (N : Nat) (a0 : Int) (a1 : Int) (k : Bool → O β) : O β :=
zq76 a0 a1 fun r3 r4 r5 =>
(cond r5
(k ((r4 == a1)))
(k false))
def zj77 (N : Nat) (a0 : Int) (a1 : Int) (k : Bool → O β) : O β := zb77 (zj76 N) N a0 a1 k
def zb78 (N : Nat) (a0 : Int) (k : Int → O β) : O β :=
zq16 a0 fun r2 =>
(cond (((remI r2 2) == 1))
(k (-1))
(k 1))
def zj78 (N : Nat) (a0 : Int) (k : Int → O β) : O β := zb78 (zj16 N) N a0 k
def zb79 (N : Nat) (v0 : Int) (v1 : Int) (v2 : Int) (v3 : Int) (v4 : Int) (v5 : List Int) (rec_ : Int → Int → Int → Int → Int → List Int → O β) (k0 : Int → Int → Int → Int → List Int → O β) : O β :=
(gd ((decide (0 ≤ v3)))
((cond ((decide (v2 < (shlI .i64 1 v3))))
((gd ((decide (0 ≤ v2)))
(zq78 ((bits .and .i64 (shrI .i64 v4 v2) 1)) fun r4 =>
zq78 ((bits .and .i64 v0 v2)) fun r5 =>
rec_ v0 ((w64 (v1 + (w64 (r4 * r5))))) ((w64 (v2 + 1))) v3 v4 v5)))
(k0 v0 v1 v3 v4 v5))))
def zj79 (N : Nat) (v0 : Int) (v1 : Int) (v2 : Int) (v3 : Int) (v4 : Int) (v5 : List Int) (rec_ : Int → Int → Int → Int → Int → List Int → O β) (k0 : Int → Int → Int → Int → List Int → O β) : O β := zb79 (zj78 N) N v0 v1 v2 v3 v4 v5 rec_ k0
def zj80 (N : Nat) : Nat → Int → Int → Int → Int → Int → List Int → (Int → Int → Int → Int → List Int → O β) → O β
  | 0, _, _, _, _, _, _, _ => none
  | F + 1, v0, v1, v2, v3, v4, v5, k0 => zj79 N v0 v1 v2 v3 v4 v5 (fun v0 v1 v2 v3 v4 v5 => zj80 N F v0 v1 v2 v3 v4 v5 k0) k0
def zb81 (N : Nat) (v0 : Int) (v1 : Int) (v2 : Int) (v3 : List Int) (rec_ : Int → Int → Int → List Int → O β) (k0 : List Int → O β) : O β :=
zq2 v1 v2 fun r3 =>
(cond r3
((gd ((decide (0 ≤ v1)))
((cond ((decide (v0 < (shlI .i64 1 v1))))
(zq80 N v0 0 0 v1 v2 v3 (fun e6_0 e6_1 e6_2 e6_3 e6_4 =>
(gd ((decide ((e6_4.length + ((([] : List Int) ++ [e6_1])).length) * 8 ≤ 140737488355328)))
(rec_ ((w64 (e6_0 + 1))) e6_2 e6_3 ((e6_4 ++ (([] : List Int) ++ [e6_1])))))))
(k0 v3)))))
(k0 v3))
def zj81 (N : Nat) (v0 : Int) (v1 : Int) (v2 : Int) (v3 : List Int) (rec_ : Int → Int → Int → List Int → O β) (k0 : List Int → O β) : O β := zb81 (zj2 N) (zj80 N) N v0 v1 v2 v3 rec_ k0
def zj82 (N : Nat) : Nat → Int → Int → Int → List Int → (List Int → O β) → O β
  | 0, _, _, _, _, _ => none
  | F + 1, v0, v1, v2, v3, k0 => zj81 N v0 v1 v2 v3 (fun v0 v1 v2 v3 => zj82 N F v0 v1 v2 v3 k0) k0
def zb83 (N : Nat) (a0 : Int) (a1 : Int) (k : List Int → O β) : O β :=
zq82 N 0 a0 a1 (([] : List Int)) (fun e7_0 =>
k e7_0)
def zj83 (N : Nat) (a0 : Int) (a1 : Int) (k : List Int → O β) : O β := zb83 (zj82 N) N a0 a1 k
def zb84 (N : Nat) (v0 : Int) (v1 : Int) (v2 : Int) (v3 : List Int) (rec_ : Int → Int → Int → List Int → O β) (k0 : Bool → O β) (k1 : Int → Int → O β) : O β :=
(cond ((decide (v0 < (v3.length : Int))))
((gd ((decide (0 ≤ v0)))
((gd ((decide (v0 < (v3.length : Int))))
((gd ((decide (0 ≤ v0)))
((gd ((decide (v0 < (v3.length : Int))))
((gd ((decide (0 < (v3.length : Int))))
((gd ((decide (0 < (v3.length : Int))))
((cond (((w64 ((rd 0 v3 v0) * (rd 0 v3 v0))) != (w64 ((rd 0 v3 0) * (rd 0 v3 0)))))
(k0 false)
(rec_ ((w64 (v0 + 1))) v1 v2 v3)))))))))))))))
(k1 v1 v2))
def zj84 (N : Nat) (v0 : Int) (v1 : Int) (v2 : Int) (v3 : List Int) (rec_ : Int → Int → Int → List Int → O β) (k0 : Bool → O β) (k1 : Int → Int → O β) : O β := zb84 N v0 v1 v2 v3 rec_ k0 k1
def zj85 (N : Nat) : Nat → Int → Int → Int → List Int → (Bool → O β) → (Int → Int → O β) → O β
  | 0, _, _, _, _, _, _ => none
  | F + 1, v0, v1, v2, v3, k0, k1 => zj84 N v0 v1 v2 v3 (fun v0 v1 v2 v3 => zj85 N F v0 v1 v2 v3 k0 k1) k0 k1
def zb86 (N : Nat) (a0 : Int) (a1 : Int) (k : Bool → O β) : O β :=
zq83 a0 a1 fun r3 =>
zq85 N 1 a0 a1 r3 (fun e4_0 =>
k e4_0) (fun e5_0 e5_1 =>
zq2 e5_0 e5_1 fun r6 =>
(cond r6
((cond ((e5_0 == 2))
(k true)
(k ((e5_0 == 4)))))
(k false)))
def zj86 (N : Nat) (a0 : Int) (a1 : Int) (k : Bool → O β) : O β := zb86 (zj2 N) (zj83 N) (zj85 N) N a0 a1 k
def zb87 (N : Nat) (v0 : List Int) (v1 : Int) (v2 : Int) (v3 : Int) (rec_ : List Int → Int → Int → Int → O β) (k0 : Int → O β) : O β :=
(cond ((decide (v3 < (v0.length : Int))))
((gd ((decide (0 ≤ v3)))
((cond (((bits .and .i64 (shrI .i64 v1 v3) 1) == 1))
((gd ((decide (0 ≤ v3)))
((gd ((decide (v3 < (v0.length : Int))))
(rec_ v0 v1 ((w64 (v2 + (rd 0 v0 v3)))) ((w64 (v3 + 1))))))))
(rec_ v0 v1 v2 ((w64 (v3 + 1))))))))
(k0 v2))
def zj87 (N : Nat) (v0 : List Int) (v1 : Int) (v2 : Int) (v3 : Int) (rec_ : List Int → Int → Int → Int → O β) (k0 : Int → O β) : O β := zb87 N v0 v1 v2 v3 rec_ k0
def zj88 (N : Nat) : Nat → List Int → Int → Int → Int → (Int → O β) → O β
  | 0, _, _, _, _, _ => none
  | F + 1, v0, v1, v2, v3, k0 => zj87 N v0 v1 v2 v3 (fun v0 v1 v2 v3 => zj88 N F v0 v1 v2 v3 k0) k0
def zb89 (N : Nat) (a0 : List Int) (a1 : Int) (k : Int → O β) : O β :=
zq88 N a0 a1 0 0 (fun e3_0 =>
k e3_0)
def zj89 (N : Nat) (a0 : List Int) (a1 : Int) (k : Int → O β) : O β := zb89 (zj88 N) N a0 a1 k
def zb90 (N : Nat) (v0 : List Int) (v1 : Int) (v2 : Int) (v3 : Int) (v4 : Int) (v5 : Int) (rec_ : List Int → Int → Int → Int → Int → Int → O β) (k0 : Int → Int → O β) : O β :=
(gd ((decide (0 ≤ v4)))
((cond ((decide (v3 < (shlI .i64 1 v4))))
(zq89 v0 v3 fun r5 =>
(gd ((decide (0 ≤ v3)))
((cond (((bits .and .i64 (shrI .i64 v5 v3) 1) == 1))
(rec_ v0 ((mnI v1 r5)) v2 ((w64 (v3 + 1))) v4 v5)
(rec_ v0 v1 ((mxI v2 r5)) ((w64 (v3 + 1))) v4 v5)))))
(k0 v1 v2))))
def zj90 (N : Nat) (v0 : List Int) (v1 : Int) (v2 : Int) (v3 : Int) (v4 : Int) (v5 : Int) (rec_ : List Int → Int → Int → Int → Int → Int → O β) (k0 : Int → Int → O β) : O β := zb90 (zj89 N) N v0 v1 v2 v3 v4 v5 rec_ k0
def zj91 (N : Nat) : Nat → List Int → Int → Int → Int → Int → Int → (Int → Int → O β) → O β
  | 0, _, _, _, _, _, _, _ => none
  | F + 1, v0, v1, v2, v3, v4, v5, k0 => zj90 N v0 v1 v2 v3 v4 v5 (fun v0 v1 v2 v3 v4 v5 => zj91 N F v0 v1 v2 v3 v4 v5 k0) k0
def zb92 (N : Nat) (a0 : Int) (a1 : Int) (a2 : List Int) (k : Int → Bool → O β) : O β :=
zq91 N a2 100 (-100) 0 a0 a1 (fun e6_0 e6_1 =>
(cond ((e6_0 == 100))
(k ((w64 (e6_1 + 1))) true)
(k e6_0 ((decide (e6_1 < e6_0))))))
def zj92 (N : Nat) (a0 : Int) (a1 : Int) (a2 : List Int) (k : Int → Bool → O β) : O β := zb92 (zj91 N) N a0 a1 a2 k
def zb93 (N : Nat) (v0 : Int) (v1 : Int) (v2 : Int) (v3 : Int) (rec_ : Int → Int → Int → Int → O β) (k0 : Int → Int → Int → O β) : O β :=
(cond ((decide (v1 < v2)))
(rec_ ((w64 (v0 * 7))) ((w64 (v1 + 1))) v2 v3)
(k0 v0 v2 v3))
def zj93 (N : Nat) (v0 : Int) (v1 : Int) (v2 : Int) (v3 : Int) (rec_ : Int → Int → Int → Int → O β) (k0 : Int → Int → Int → O β) : O β := zb93 N v0 v1 v2 v3 rec_ k0
def zj94 (N : Nat) : Nat → Int → Int → Int → Int → (Int → Int → Int → O β) → O β
  | 0, _, _, _, _, _ => none
  | F + 1, v0, v1, v2, v3, k0 => zj93 N v0 v1 v2 v3 (fun v0 v1 v2 v3 => zj94 N F v0 v1 v2 v3 k0) k0
def zb95 (N : Nat) (v0 : Int) (v1 : Int) (v2 : Int) (v3 : Int) (v4 : Int) (v5 : Int) (v6 : Int) (v7 : Int) (v8 : Int) (v9 : List Int) (v10 : List Int) (rec_ : Int → Int → Int → Int → Int → Int → Int → Int → Int → List Int → List Int → O β) (k0 : Int → Int → Int → Int → Int → Int → Int → List Int → List Int → O β) : O β :=
(cond ((decide (v6 ≥ 0)))
((gd ((decide (0 ≤ v6)))
((gd ((decide (v6 < (v10.length : Int))))
((gd ((decide (0 ≤ v6)))
((gd ((decide (v6 < (((wr v10 v6 (w64 ((remI v4 7) - 3)))).length : Int))))
((gd ((decide (0 ≤ v6)))
((gd ((decide (v6 < (((wr v10 v6 (w64 ((remI v4 7) - 3)))).length : Int))))
(rec_ v0 v1 v2 v3 ((quoI .i64 v4 7)) ((w64 (v5 + (mxI (rd 0 ((wr v10 v6 (w64 ((remI v4 7) - 3)))) v6) (w64 (0 - (rd 0 ((wr v10 v6 (w64 ((remI v4 7) - 3)))) v6))))))) ((w64 (v6 - 1))) v7 v8 v9 ((wr v10 v6 (w64 ((remI v4 7) - 3)))))))))))))))))
(k0 v0 v1 v2 v3 v5 v7 v8 v9 v10))
def zj95 (N : Nat) (v0 : Int) (v1 : Int) (v2 : Int) (v3 : Int) (v4 : Int) (v5 : Int) (v6 : Int) (v7 : Int) (v8 : Int) (v9 : List Int) (v10 : List Int) (rec_ : Int → Int → Int → Int → Int → Int → Int → Int → Int → List Int → List Int → O β) (k0 : Int → Int → Int → Int → Int → Int → Int → List Int → List Int → O β) : O β := zb95 N v0 v1 v2 v3 v4 v5 v6 v7 v8 v9 v10 rec_ k0
def zj96 (N : Nat) : Nat → Int → Int → Int → Int → Int → Int → Int → Int → Int → List Int → List Int → (Int → Int → Int → Int → Int → Int → Int → List Int → List Int → O β) → O β
  | 0, _, _, _, _, _, _, _, _, _, _, _, _ => none
  | F + 1, v0, v1, v2, v3, v4, v5, v6, v7, v8, v9, v10, k0 => zj95 N v0 v1 v2 v3 v4 v5 v6 v7 v8 v9 v10 (fun v0 v1 v2 v3 v4 v5 v6 v7 v8 v9 v10 => zj96 N F v0 v1 v2 v3 v4 v5 v6 v7 v8 v9 v10 k0) k0
def zb97 (N : Nat) (v0 : Int) (v1 : Int) (v2 : Int) (v3 : Int) (v4 : Int) (v5 : Int) (v6 : List Int) (rec_ : Int → Int → Int → Int → Int → Int → List Int → O β) (k0 : Int → Int → List Int → O β) : O β :=
(cond ((decide (v3 < v0)))
((gd ((decide (0 ≤ v4)))
((gd ((decide (v4 ≤ v4)))
((gd ((decide (8 * v4 ≤ 281474976710656)))
(zq96 N v0 v1 v2 v3 v3 0 ((w64 (v4 - 1))) v4 v5 v6 ((List.replicate (Int.toNat v4) (0 : Int))) (fun e7_0 e7_1 e7_2 e7_3 e7_4 e7_5 e7_6 e7_7 e7_8 =>
(cond ((decide (e7_4 ≥ e7_1)))
(rec_ e7_0 e7_1 e7_2 ((w64 (e7_3 + 1))) e7_5 e7_6 e7_7)
(zq92 e7_5 e7_6 e7_8 fun r8 r9 =>
(cond r9
(rec_ e7_0 e7_4 r8 ((w64 (e7_3 + 1))) e7_5 e7_6 e7_8)
(rec_ e7_0 e7_1 e7_2 ((w64 (e7_3 + 1))) e7_5 e7_6 e7_7))))))))))))
(k0 v1 v2 v6))
def zj97 (N : Nat) (v0 : Int) (v1 : Int) (v2 : Int) (v3 : Int) (v4 : Int) (v5 : Int) (v6 : List Int) (rec_ : Int → Int → Int → Int → Int → Int → List Int → O β) (k0 : Int → Int → List Int → O β) : O β := zb97 (zj92 N) (zj96 N) N v0 v1 v2 v3 v4 v5 v6 rec_ k0
def zj98 (N : Nat) : Nat → Int → Int → Int → Int → Int → Int → List Int → (Int → Int → List Int → O β) → O β
  | 0, _, _, _, _, _, _, _, _ => none
  | F + 1, v0, v1, v2, v3, v4, v5, v6, k0 => zj97 N v0 v1 v2 v3 v4 v5 v6 (fun v0 v1 v2 v3 v4 v5 v6 => zj98 N F v0 v1 v2 v3 v4 v5 v6 k0) k0
def zb99 (N : Nat) (a0 : Int) (a1 : Int) (k : List Int → Int → Bool → O β) : O β :=
zq2 a0 a1 fun r5 =>
(cond (!r5)
(k (([] : List Int)) 0 false)
((cond ((decide (a0 > 4)))
(k (([] : List Int)) 0 false)
(zq94 N 1 0 a0 a1 (fun e6_0 e6_1 e6_2 =>
zq98 N e6_0 100 0 0 e6_1 e6_2 (([] : List Int)) (fun e10_0 e10_1 e10_2 =>
k e10_2 e10_1 ((decide (e10_0 < 100)))))))))
def zj99 (N : Nat) (a0 : Int) (a1 : Int) (k : List Int → Int → Bool → O β) : O β := zb99 (zj2 N) (zj94 N) (zj98 N) N a0 a1 k
def zb100 (N : Nat) (a0 : Int) (a1 : Int) (k : Bool → O β) : O β :=
zq99 a0 a1 fun r3 r4 r5 =>
k r5
def zj100 (N : Nat) (a0 : Int) (a1 : Int) (k : Bool → O β) : O β := zb100 (zj99 N) N a0 a1 k
def zb101 (N : Nat) (a0 : Int) (a1 : Int) (k : ByteArray → O β) : O β :=
zq2 a0 a1 fun r3 =>
(cond (!r3)
(k ByteArray.empty)
(zq10 a0 a1 fun r4 r5 r6 =>
zq13 a0 a1 fun r7 =>
(gd ((decide (((strOf [116, 97, 98, 108, 101, 32])).size + r7.size ≤ 9223372036854775807)))
((gd ((decide ((((strOf [116, 97, 98, 108, 101, 32]) ++ r7)).size + ((strOf [32, 111, 110, 101, 115, 32])).size ≤ 9223372036854775807)))
(zq16 a1 fun r8 =>
zq19 r8 fun r9 =>
(gd ((decide (((((strOf [116, 97, 98, 108, 101, 32]) ++ r7) ++ (strOf [32, 111, 110, 101, 115, 32]))).size + r9.size ≤ 9223372036854775807)))
((gd ((decide ((((((strOf [116, 97, 98, 108, 101, 32]) ++ r7) ++ (strOf [32, 111, 110, 101, 115, 32])) ++ r9)).size + ((strOf [32, 118, 97, 114, 105, 97, 98, 108, 101, 115, 32])).size ≤ 9223372036854775807)))
(zq22 a0 a1 fun r10 =>
zq25 r10 fun r11 =>
(gd ((decide (((((((strOf [116, 97, 98, 108, 101, 32]) ++ r7) ++ (strOf [32, 111, 110, 101, 115, 32])) ++ r9) ++ (strOf [32, 118, 97, 114, 105, 97, 98, 108, 101, 115, 32]))).size + r11.size ≤ 9223372036854775807)))
((gd ((decide ((((((((strOf [116, 97, 98, 108, 101, 32]) ++ r7) ++ (strOf [32, 111, 110, 101, 115, 32])) ++ r9) ++ (strOf [32, 118, 97, 114, 105, 97, 98, 108, 101, 115, 32])) ++ r11)).size + ((strOf [32, 114, 101, 100, 117, 99, 101, 100, 32])).size ≤ 9223372036854775807)))
(zq13 r4 r5 fun r12 =>
(gd ((decide (((((((((strOf [116, 97, 98, 108, 101, 32]) ++ r7) ++ (strOf [32, 111, 110, 101, 115, 32])) ++ r9) ++ (strOf [32, 118, 97, 114, 105, 97, 98, 108, 101, 115, 32])) ++ r11) ++ (strOf [32, 114, 101, 100, 117, 99, 101, 100, 32]))).size + r12.size ≤ 9223372036854775807)))
((cond ((decide (a0 ≤ 4)))
(zq47 a0 a1 fun r13 r14 r15 =>
(gd ((decide ((((((((((strOf [116, 97, 98, 108, 101, 32]) ++ r7) ++ (strOf [32, 111, 110, 101, 115, 32])) ++ r9) ++ (strOf [32, 118, 97, 114, 105, 97, 98, 108, 101, 115, 32])) ++ r11) ++ (strOf [32, 114, 101, 100, 117, 99, 101, 100, 32])) ++ r12)).size + ((strOf [32, 99, 97, 110, 111, 110, 105, 99, 97, 108, 32])).size ≤ 9223372036854775807)))
(zq13 r13 r14 fun r16 =>
(gd ((decide (((((((((((strOf [116, 97, 98, 108, 101, 32]) ++ r7) ++ (strOf [32, 111, 110, 101, 115, 32])) ++ r9) ++ (strOf [32, 118, 97, 114, 105, 97, 98, 108, 101, 115, 32])) ++ r11) ++ (strOf [32, 114, 101, 100, 117, 99, 101, 100, 32])) ++ r12) ++ (strOf [32, 99, 97, 110, 111, 110, 105, 99, 97, 108, 32]))).size + r16.size ≤ 9223372036854775807)))
((gd ((decide ((((((((((((strOf [116, 97, 98, 108, 101, 32]) ++ r7) ++ (strOf [32, 111, 110, 101, 115, 32])) ++ r9) ++ (strOf [32, 118, 97, 114, 105, 97, 98, 108, 101, 115, 32])) ++ r11) ++ (strOf [32, 114, 101, 100, 117, 99, 101, 100, 32])) ++ r12) ++ (strOf [32, 99, 97, 110, 111, 110, 105, 99, 97, 108, 32])) ++ r16)).size + ((strOf [32, 99, 108, 97, 115, 115, 32])).size ≤ 9223372036854775807)))
(zq51 a0 a1 fun r17 =>
zq19 r17 fun r18 =>
(gd ((decide (((((((((((((strOf [116, 97, 98, 108, 101, 32]) ++ r7) ++ (strOf [32, 111, 110, 101, 115, 32])) ++ r9) ++ (strOf [32, 118, 97, 114, 105, 97, 98, 108, 101, 115, 32])) ++ r11) ++ (strOf [32, 114, 101, 100, 117, 99, 101, 100, 32])) ++ r12) ++ (strOf [32, 99, 97, 110, 111, 110, 105, 99, 97, 108, 32])) ++ r16) ++ (strOf [32, 99, 108, 97, 115, 115, 32]))).size + r18.size ≤ 9223372036854775807)))
(zq55 a0 a1 fun r19 =>
zq56 r19 ((strOf [32, 109, 111, 110, 111, 116, 111, 110, 101])) fun r20 =>
(gd ((decide ((((((((((((((strOf [116, 97, 98, 108, 101, 32]) ++ r7) ++ (strOf [32, 111, 110, 101, 115, 32])) ++ r9) ++ (strOf [32, 118, 97, 114, 105, 97, 98, 108, 101, 115, 32])) ++ r11) ++ (strOf [32, 114, 101, 100, 117, 99, 101, 100, 32])) ++ r12) ++ (strOf [32, 99, 97, 110, 111, 110, 105, 99, 97, 108, 32])) ++ r16) ++ (strOf [32, 99, 108, 97, 115, 115, 32])) ++ r18)).size + r20.size ≤ 9223372036854775807)))
(zq60 a0 a1 fun r21 =>
zq56 r21 ((strOf [32, 117, 110, 97, 116, 101])) fun r22 =>
(gd ((decide (((((((((((((((strOf [116, 97, 98, 108, 101, 32]) ++ r7) ++ (strOf [32, 111, 110, 101, 115, 32])) ++ r9) ++ (strOf [32, 118, 97, 114, 105, 97, 98, 108, 101, 115, 32])) ++ r11) ++ (strOf [32, 114, 101, 100, 117, 99, 101, 100, 32])) ++ r12) ++ (strOf [32, 99, 97, 110, 111, 110, 105, 99, 97, 108, 32])) ++ r16) ++ (strOf [32, 99, 108, 97, 115, 115, 32])) ++ r18) ++ r20)).size + r22.size ≤ 9223372036854775807)))
(zq66 a0 a1 fun r23 =>
zq56 r23 ((strOf [32, 115, 121, 109, 109, 101, 116, 114, 105, 99])) fun r24 =>
(gd ((decide ((((((((((((((((strOf [116, 97, 98, 108, 101, 32]) ++ r7) ++ (strOf [32, 111, 110, 101, 115, 32])) ++ r9) ++ (strOf [32, 118, 97, 114, 105, 97, 98, 108, 101, 115, 32])) ++ r11) ++ (strOf [32, 114, 101, 100, 117, 99, 101, 100, 32])) ++ r12) ++ (strOf [32, 99, 97, 110, 111, 110, 105, 99, 97, 108, 32])) ++ r16) ++ (strOf [32, 99, 108, 97, 115, 115, 32])) ++ r18) ++ r20) ++ r22)).size + r24.size ≤ 9223372036854775807)))
(zq75 a0 a1 fun r25 =>
zq56 r25 ((strOf [32, 97, 102, 102, 105, 110, 101])) fun r26 =>
(gd ((decide (((((((((((((((((strOf [116, 97, 98, 108, 101, 32]) ++ r7) ++ (strOf [32, 111, 110, 101, 115, 32])) ++ r9) ++ (strOf [32, 118, 97, 114, 105, 97, 98, 108, 101, 115, 32])) ++ r11) ++ (strOf [32, 114, 101, 100, 117, 99, 101, 100, 32])) ++ r12) ++ (strOf [32, 99, 97, 110, 111, 110, 105, 99, 97, 108, 32])) ++ r16) ++ (strOf [32, 99, 108, 97, 115, 115, 32])) ++ r18) ++ r20) ++ r22) ++ r24)).size + r26.size ≤ 9223372036854775807)))
(zq77 a0 a1 fun r27 =>
zq56 r27 ((strOf [32, 115, 101, 108, 102, 100, 117, 97, 108])) fun r28 =>
(gd ((decide ((((((((((((((((((strOf [116, 97, 98, 108, 101, 32]) ++ r7) ++ (strOf [32, 111, 110, 101, 115, 32])) ++ r9) ++ (strOf [32, 118, 97, 114, 105, 97, 98, 108, 101, 115, 32])) ++ r11) ++ (strOf [32, 114, 101, 100, 117, 99, 101, 100, 32])) ++ r12) ++ (strOf [32, 99, 97, 110, 111, 110, 105, 99, 97, 108, 32])) ++ r16) ++ (strOf [32, 99, 108, 97, 115, 115, 32])) ++ r18) ++ r20) ++ r22) ++ r24) ++ r26)).size + r28.size ≤ 9223372036854775807)))
(zq86 a0 a1 fun r29 =>
zq56 r29 ((strOf [32, 98, 101, 110, 116])) fun r30 =>
(gd ((decide (((((((((((((((((((strOf [116, 97, 98, 108, 101, 32]) ++ r7) ++ (strOf [32, 111, 110, 101, 115, 32])) ++ r9) ++ (strOf [32, 118, 97, 114, 105, 97, 98, 108, 101, 115, 32])) ++ r11) ++ (strOf [32, 114, 101, 100, 117, 99, 101, 100, 32])) ++ r12) ++ (strOf [32, 99, 97, 110, 111, 110, 105, 99, 97, 108, 32])) ++ r16) ++ (strOf [32, 99, 108, 97, 115, 115, 32])) ++ r18) ++ r20) ++ r22) ++ r24) ++ r26) ++ r28)).size + r30.size ≤ 9223372036854775807)))
((cond ((decide (a0 ≤ 4)))
(zq100 a0 a1 fun r31 =>
zq56 r31 ((strOf [32, 116, 104, 114, 101, 115, 104, 111, 108, 100])) fun r32 =>
(gd ((decide ((((((((((((((((((((strOf [116, 97, 98, 108, 101, 32]) ++ r7) ++ (strOf [32, 111, 110, 101, 115, 32])) ++ r9) ++ (strOf [32, 118, 97, 114, 105, 97, 98, 108, 101, 115, 32])) ++ r11) ++ (strOf [32, 114, 101, 100, 117, 99, 101, 100, 32])) ++ r12) ++ (strOf [32, 99, 97, 110, 111, 110, 105, 99, 97, 108, 32])) ++ r16) ++ (strOf [32, 99, 108, 97, 115, 115, 32])) ++ r18) ++ r20) ++ r22) ++ r24) ++ r26) ++ r28) ++ r30)).size + r32.size ≤ 9223372036854775807)))
(k ((((((((((((((((((((strOf [116, 97, 98, 108, 101, 32]) ++ r7) ++ (strOf [32, 111, 110, 101, 115, 32])) ++ r9) ++ (strOf [32, 118, 97, 114, 105, 97, 98, 108, 101, 115, 32])) ++ r11) ++ (strOf [32, 114, 101, 100, 117, 99, 101, 100, 32])) ++ r12) ++ (strOf [32, 99, 97, 110, 111, 110, 105, 99, 97, 108, 32])) ++ r16) ++ (strOf [32, 99, 108, 97, 115, 115, 32])) ++ r18) ++ r20) ++ r22) ++ r24) ++ r26) ++ r28) ++ r30) ++ r32)))))
(zq56 false ((strOf [32, 116, 104, 114, 101, 115, 104, 111, 108, 100])) fun r33 =>
(gd ((decide ((((((((((((((((((((strOf [116, 97, 98, 108, 101, 32]) ++ r7) ++ (strOf [32, 111, 110, 101, 115, 32])) ++ r9) ++ (strOf [32, 118, 97, 114, 105, 97, 98, 108, 101, 115, 32])) ++ r11) ++ (strOf [32, 114, 101, 100, 117, 99, 101, 100, 32])) ++ r12) ++ (strOf [32, 99, 97, 110, 111, 110, 105, 99, 97, 108, 32])) ++ r16) ++ (strOf [32, 99, 108, 97, 115, 115, 32])) ++ r18) ++ r20) ++ r22) ++ r24) ++ r26) ++ r28) ++ r30)).size + r33.size ≤ 9223372036854775807)))
(k ((((((((((((((((((((strOf [116, 97, 98, 108, 101, 32]) ++ r7) ++ (strOf [32, 111, 110, 101, 115, 32])) ++ r9) ++ (strOf [32, 118, 97, 114, 105, 97, 98, 108, 101, 115, 32])) ++ r11) ++ (strOf [32, 114, 101, 100, 117, 99, 101, 100, 32])) ++ r12) ++ (strOf [32, 99, 97, 110, 111, 110, 105, 99, 97, 108, 32])) ++ r16) ++ (strOf [32, 99, 108, 97, 115, 115, 32])) ++ r18) ++ r20) ++ r22) ++ r24) ++ r26) ++ r28) ++ r30) ++ r33)))))))))))))))))))))))))))
(zq55 a0 a1 fun r34 =>
zq56 r34 ((strOf [32, 109, 111, 110, 111, 116, 111, 110, 101])) fun r35 =>
(gd ((decide ((((((((((strOf [116, 97, 98, 108, 101, 32]) ++ r7) ++ (strOf [32, 111, 110, 101, 115, 32])) ++ r9) ++ (strOf [32, 118, 97, 114, 105, 97, 98, 108, 101, 115, 32])) ++ r11) ++ (strOf [32, 114, 101, 100, 117, 99, 101, 100, 32])) ++ r12)).size + r35.size ≤ 9223372036854775807)))
(zq60 a0 a1 fun r36 =>
zq56 r36 ((strOf [32, 117, 110, 97, 116, 101])) fun r37 =>
(gd ((decide (((((((((((strOf [116, 97, 98, 108, 101, 32]) ++ r7) ++ (strOf [32, 111, 110, 101, 115, 32])) ++ r9) ++ (strOf [32, 118, 97, 114, 105, 97, 98, 108, 101, 115, 32])) ++ r11) ++ (strOf [32, 114, 101, 100, 117, 99, 101, 100, 32])) ++ r12) ++ r35)).size + r37.size ≤ 9223372036854775807)))
(zq66 a0 a1 fun r38 =>
zq56 r38 ((strOf [32, 115, 121, 109, 109, 101, 116, 114, 105, 99])) fun r39 =>
(gd ((decide ((((((((((((strOf [116, 97, 98, 108, 101, 32]) ++ r7) ++ (strOf [32, 111, 110, 101, 115, 32])) ++ r9) ++ (strOf [32, 118, 97, 114, 105, 97, 98, 108, 101, 115, 32])) ++ r11) ++ (strOf [32, 114, 101, 100, 117, 99, 101, 100, 32])) ++ r12) ++ r35) ++ r37)).size + r39.size ≤ 9223372036854775807)))
(zq75 a0 a1 fun r40 =>
zq56 r40 ((strOf [32, 97, 102, 102, 105, 110, 101])) fun r41 =>
(gd ((decide (((((((((((((strOf [116, 97, 98, 108, 101, 32]) ++ r7) ++ (strOf [32, 111, 110, 101, 115, 32])) ++ r9) ++ (strOf [32, 118, 97, 114, 105, 97, 98, 108, 101, 115, 32])) ++ r11) ++ (strOf [32, 114, 101, 100, 117, 99, 101, 100, 32])) ++ r12) ++ r35) ++ r37) ++ r39)).size + r41.size ≤ 9223372036854775807)))
(zq77 a0 a1 fun r42 =>
zq56 r42 ((strOf [32, 115, 101, 108, 102, 100, 117, 97, 108])) fun r43 =>
(gd ((decide ((((((((((((((strOf [116, 97, 98, 108, 101, 32]) ++ r7) ++ (strOf [32, 111, 110, 101, 115, 32])) ++ r9) ++ (strOf [32, 118, 97, 114, 105, 97, 98, 108, 101, 115, 32])) ++ r11) ++ (strOf [32, 114, 101, 100, 117, 99, 101, 100, 32])) ++ r12) ++ r35) ++ r37) ++ r39) ++ r41)).size + r43.size ≤ 9223372036854775807)))
(zq86 a0 a1 fun r44 =>
zq56 r44 ((strOf [32, 98, 101, 110, 116])) fun r45 =>
(gd ((decide (((((((((((((((strOf [116, 97, 98, 108, 101, 32]) ++ r7) ++ (strOf [32, 111, 110, 101, 115, 32])) ++ r9) ++ (strOf [32, 118, 97, 114, 105, 97, 98, 108, 101, 115, 32])) ++ r11) ++ (strOf [32, 114, 101, 100, 117, 99, 101, 100, 32])) ++ r12) ++ r35) ++ r37) ++ r39) ++ r41) ++ r43)).size + r45.size ≤ 9223372036854775807)))
((cond ((decide (a0 ≤ 4)))
(zq100 a0 a1 fun r46 =>
zq56 r46 ((strOf [32, 116, 104, 114, 101, 115, 104, 111, 108, 100])) fun r47 =>
(gd ((decide ((((((((((((((((strOf [116, 97, 98, 108, 101, 32]) ++ r7) ++ (strOf [32, 111, 110, 101, 115, 32])) ++ r9) ++ (strOf [32, 118, 97, 114, 105, 97, 98, 108, 101, 115, 32])) ++ r11) ++ (strOf [32, 114, 101, 100, 117, 99, 101, 100, 32])) ++ r12) ++ r35) ++ r37) ++ r39) ++ r41) ++ r43) ++ r45)).size + r47.size ≤ 9223372036854775807)))
(k ((((((((((((((((strOf [116, 97, 98, 108, 101, 32]) ++ r7) ++ (strOf [32, 111, 110, 101, 115, 32])) ++ r9) ++ (strOf [32, 118, 97, 114, 105, 97, 98, 108, 101, 115, 32])) ++ r11) ++ (strOf [32, 114, 101, 100, 117, 99, 101, 100, 32])) ++ r12) ++ r35) ++ r37) ++ r39) ++ r41) ++ r43) ++ r45) ++ r47)))))
(zq56 false ((strOf [32, 116, 104, 114, 101, 115, 104, 111, 108, 100])) fun r48 =>
(gd ((decide ((((((((((((((((strOf [116, 97, 98, 108, 101, 32]) ++ r7) ++ (strOf [32, 111, 110, 101, 115, 32])) ++ r9) ++ (strOf [32, 118, 97, 114, 105, 97, 98, 108, 101, 115, 32])) ++ r11) ++ (strOf [32, 114, 101, 100, 117, 99, 101, 100, 32])) ++ r12) ++ r35) ++ r37) ++ r39) ++ r41) ++ r43) ++ r45)).size + r48.size ≤ 9223372036854775807)))
(k ((((((((((((((((strOf [116, 97, 98, 108, 101, 32]) ++ r7) ++ (strOf [32, 111, 110, 101, 115, 32])) ++ r9) ++ (strOf [32, 118, 97, 114, 105, 97, 98, 108, 101, 115, 32])) ++ r11) ++ (strOf [32, 114, 101, 100, 117, 99, 101, 100, 32])) ++ r12) ++ r35) ++ r37) ++ r39) ++ r41) ++ r43) ++ r45) ++ r48))))))))))))))))))))))))))))))))))))
def zj101 (N : Nat) (a0 : Int) (a1 : Int) (k : ByteArray → O β) : O β := zb101 (zj2 N) (zj10 N) (zj13 N) (zj16 N) (zj19 N) (zj22 N) (zj25 N) (zj47 N) (zj51 N) (zj55 N) (zj56 N) (zj60 N) (zj66 N) (zj75 N) (zj77 N) (zj86 N) (zj100 N) N a0 a1 k
def zb102 (N : Nat) (a0 : Int) (k : Bool → O β) : O β :=
(cond ((decide (a0 ≥ 0)))
(k ((decide (a0 ≤ 5))))
(k false))
def zj102 (N : Nat) (a0 : Int) (k : Bool → O β) : O β := zb102 N a0 k
def zb103 (N : Nat) (a0 : Int) (a1 : Int) (k : Int → O β) : O β :=
(gd ((decide (0 ≤ a0)))
(k ((shlI .i64 1 a0))))
def zj103 (N : Nat) (a0 : Int) (a1 : Int) (k : Int → O β) : O β := zb103 N a0 a1 k
def zb104 (N : Nat) (a0 : Int) (a1 : Int) (k : Bool → O β) : O β :=
zq102 a0 fun r3 =>
(cond r3
((cond ((decide (a1 ≥ 0)))
(zq103 a0 a1 fun r4 =>
(gd ((decide (0 ≤ r4)))
(k (((shrI .i64 a1 r4) == 0)))))
(k false)))
(k false))
def zj104 (N : Nat) (a0 : Int) (a1 : Int) (k : Bool → O β) : O β := zb104 (zj102 N) (zj103 N) N a0 a1 k
def zb105 (N : Nat) (a0 : Int) (a1 : Int) (a2 : Int) (k : Int → O β) : O β :=
(gd ((decide (0 ≤ a1)))
((gd ((decide (0 ≤ a1)))
(k ((bits .or .i64 (bits .or .i64 (shlI .i64 (w64 (a0 - (bits .and .i64 a0 (w64 ((shlI .i64 1 a1) - 1))))) 1) (shlI .i64 a2 a1)) (bits .and .i64 a0 (w64 ((shlI .i64 1 a1) - 1)))))))))
def zj105 (N : Nat) (a0 : Int) (a1 : Int) (a2 : Int) (k : Int → O β) : O β := zb105 N a0 a1 a2 k
def zb106 (N : Nat) (a0 : Int) (a1 : Int) (a2 : Int) (k : Int → O β) : O β :=
(gd ((decide (0 ≤ a2)))
(k ((bits .and .i64 (shrI .i64 a1 a2) 1))))
def zj106 (N : Nat) (a0 : Int) (a1 : Int) (a2 : Int) (k : Int → O β) : O β := zb106 N a0 a1 a2 k
def zb107 (N : Nat) (a0 : Int) (c0 : Int) (c1 : Int) (c2 : Int) (c3 : Int) (k : Bool → O β) : O β :=
zq105 a0 c2 c3 fun r2 =>
zq106 c0 c1 r2 fun r3 =>
k ((r3 == 1))
def zj107 (N : Nat) (a0 : Int) (c0 : Int) (c1 : Int) (c2 : Int) (c3 : Int) (k : Bool → O β) : O β := zb107 (zj105 N) (zj106 N) N a0 c0 c1 c2 c3 k
def zb108 (N : Nat) (a0 : Int) (c0 : Int) (c1 : Int) (c2 : Int) (k : Bool → O β) : O β :=
zq106 c0 c1 ((bits .xor .i64 a0 c2)) fun r2 =>
k ((r2 == 1))
def zj108 (N : Nat) (a0 : Int) (c0 : Int) (c1 : Int) (c2 : Int) (k : Bool → O β) : O β := zb108 (zj106 N) N a0 c0 c1 c2 k
def zb109 (N : Nat) (a0 : Int) (k : Int → O β) : O β :=
k ((bits .and .i64 (w64 ((wu64 ((wu64 ((wu64 ((bits .and .u64 (wu64 ((shrI .u64 (wu64 ((bits .and .u64 (shrI .u64 (wu64 ((bits .and .u64 (shrI .u64 a0 1) 6148914691236517205) + (bits .and .u64 a0 6148914691236517205))) 2) 3689348814741910323) + (bits .and .u64 (wu64 ((bits .and .u64 (shrI .u64 a0 1) 6148914691236517205) + (bits .and .u64 a0 6148914691236517205))) 3689348814741910323))) 4) + (wu64 ((bits .and .u64 (shrI .u64 (wu64 ((bits .and .u64 (shrI .u64 a0 1) 6148914691236517205) + (bits .and .u64 a0 6148914691236517205))) 2) 3689348814741910323) + (bits .and .u64 (wu64 ((bits .and .u64 (shrI .u64 a0 1) 6148914691236517205) + (bits .and .u64 a0 6148914691236517205))) 3689348814741910323))))) 1085102592571150095) + (shrI .u64 (bits .and .u64 (wu64 ((shrI .u64 (wu64 ((bits .and .u64 (shrI .u64 (wu64 ((bits .and .u64 (shrI .u64 a0 1) 6148914691236517205) + (bits .and .u64 a0 6148914691236517205))) 2) 3689348814741910323) + (bits .and .u64 (wu64 ((bits .and .u64 (shrI .u64 a0 1) 6148914691236517205) + (bits .and .u64 a0 6148914691236517205))) 3689348814741910323))) 4) + (wu64 ((bits .and .u64 (shrI .u64 (wu64 ((bits .and .u64 (shrI .u64 a0 1) 6148914691236517205) + (bits .and .u64 a0 6148914691236517205))) 2) 3689348814741910323) + (bits .and .u64 (wu64 ((bits .and .u64 (shrI .u64 a0 1) 6148914691236517205) + (bits .and .u64 a0 6148914691236517205))) 3689348814741910323))))) 1085102592571150095) 8))) + (shrI .u64 (wu64 ((bits .and .u64 (wu64 ((shrI .u64 (wu64 ((bits .and .u64 (shrI .u64 (wu64 ((bits .and .u64 (shrI .u64 a0 1) 6148914691236517205) + (bits .and .u64 a0 6148914691236517205))) 2) 3689348814741910323) + (bits .and .u64 (wu64 ((bits .and .u64 (shrI .u64 a0 1) 6148914691236517205) + (bits .and .u64 a0 6148914691236517205))) 3689348814741910323))) 4) + (wu64 ((bits .and .u64 (shrI .u64 (wu64 ((bits .and .u64 (shrI .u64 a0 1) 6148914691236517205) + (bits .and .u64 a0 6148914691236517205))) 2) 3689348814741910323) + (bits .and .u64 (wu64 ((bits .and .u64 (shrI .u64 a0 1) 6148914691236517205) + (bits .and .u64 a0 6148914691236517205))) 3689348814741910323))))) 1085102592571150095) + (shrI .u64 (bits .and .u64 (wu64 ((shrI .u64 (wu64 ((bits .and .u64 (shrI .u64 (wu64 ((bits .and .u64 (shrI .u64 a0 1) 6148914691236517205) + (bits .and .u64 a0 6148914691236517205))) 2) 3689348814741910323) + (bits .and .u64 (wu64 ((bits .and .u64 (shrI .u64 a0 1) 6148914691236517205) + (bits .and .u64 a0 6148914691236517205))) 3689348814741910323))) 4) + (wu64 ((bits .and .u64 (shrI .u64 (wu64 ((bits .and .u64 (shrI .u64 a0 1) 6148914691236517205) + (bits .and .u64 a0 6148914691236517205))) 2) 3689348814741910323) + (bits .and .u64 (wu64 ((bits .and .u64 (shrI .u64 a0 1) 6148914691236517205) + (bits .and .u64 a0 6148914691236517205))) 3689348814741910323))))) 1085102592571150095) 8))) 16))) + (shrI .u64 (wu64 ((wu64 ((bits .and .u64 (wu64 ((shrI .u64 (wu64 ((bits .and .u64 (shrI .u64 (wu64 ((bits .and .u64 (shrI .u64 a0 1) 6148914691236517205) + (bits .and .u64 a0 6148914691236517205))) 2) 3689348814741910323) + (bits .and .u64 (wu64 ((bits .and .u64 (shrI .u64 a0 1) 6148914691236517205) + (bits .and .u64 a0 6148914691236517205))) 3689348814741910323))) 4) + (wu64 ((bits .and .u64 (shrI .u64 (wu64 ((bits .and .u64 (shrI .u64 a0 1) 6148914691236517205) + (bits .and .u64 a0 6148914691236517205))) 2) 3689348814741910323) + (bits .and .u64 (wu64 ((bits .and .u64 (shrI .u64 a0 1) 6148914691236517205) + (bits .and .u64 a0 6148914691236517205))) 3689348814741910323))))) 1085102592571150095) + (shrI .u64 (bits .and .u64 (wu64 ((shrI .u64 (wu64 ((bits .and .u64 (shrI .u64 (wu64 ((bits .and .u64 (shrI .u64 a0 1) 6148914691236517205) + (bits .and .u64 a0 6148914691236517205))) 2) 3689348814741910323) + (bits .and .u64 (wu64 ((bits .and .u64 (shrI .u64 a0 1) 6148914691236517205) + (bits .and .u64 a0 6148914691236517205))) 3689348814741910323))) 4) + (wu64 ((bits .and .u64 (shrI .u64 (wu64 ((bits .and .u64 (shrI .u64 a0 1) 6148914691236517205) + (bits .and .u64 a0 6148914691236517205))) 2) 3689348814741910323) + (bits .and .u64 (wu64 ((bits .and .u64 (shrI .u64 a0 1) 6148914691236517205) + (bits .and .u64 a0 6148914691236517205))) 3689348814741910323))))) 1085102592571150095) 8))) + (shrI .u64 (wu64 ((bits .and .u64 (wu64 ((shrI .u64 (wu64 ((bits .and .u64 (shrI .u64 (wu64 ((bits .and .u64 (shrI .u64 a0 1) 6148914691236517205) + (bits .and .u64 a0 6148914691236517205))) 2) 3689348814741910323) + (bits .and .u64 (wu64 ((bits .and .u64 (shrI .u64 a0 1) 6148914691236517205) + (bits .and .u64 a0 6148914691236517205))) 3689348814741910323))) 4) + (wu64 ((bits .and .u64 (shrI .u64 (wu64 ((bits .and .u64 (shrI .u64 a0 1) 6148914691236517205) + (bits .and .u64 a0 6148914691236517205))) 2) 3689348814741910323) + (bits .and .u64 (wu64 ((bits .and .u64 (shrI .u64 a0 1) 6148914691236517205) + (bits .and .u64 a0 6148914691236517205))) 3689348814741910323))))) 1085102592571150095) + (shrI .u64 (bits .and .u64 (wu64 ((shrI .u64 (wu64 ((bits .and .u64 (shrI .u64 (wu64 ((bits .and .u64 (shrI .u64 a0 1) 6148914691236517205) + (bits .and .u64 a0 6148914691236517205))) 2) 3689348814741910323) + (bits .and .u64 (wu64 ((bits .and .u64 (shrI .u64 a0 1) 6148914691236517205) + (bits .and .u64 a0 6148914691236517205))) 3689348814741910323))) 4) + (wu64 ((bits .and .u64 (shrI .u64 (wu64 ((bits .and .u64 (shrI .u64 a0 1) 6148914691236517205) + (bits .and .u64 a0 6148914691236517205))) 2) 3689348814741910323) + (bits .and .u64 (wu64 ((bits .and .u64 (shrI .u64 a0 1) 6148914691236517205) + (bits .and .u64 a0 6148914691236517205))) 3689348814741910323))))) 1085102592571150095) 8))) 16))) 32))))) 127))
def zj109 (N : Nat) (a0 : Int) (k : Int → O β) : O β := zb109 N a0 k
def zb110 (N : Nat) (a0 : Int) (k : Int → O β) : O β :=
zq109 ((wu64 (a0))) fun r2 =>
k r2
def zj110 (N : Nat) (a0 : Int) (k : Int → O β) : O β := zb110 (zj109 N) N a0 k
def zb111 (N : Nat) (a0 : Int) (c0 : Int) (c1 : Int) (k : Bool → O β) : O β :=
zq110 ((bits .and .i64 c0 a0)) fun r2 =>
k (((remI (w64 (r2 + c1)) 2) == 1))
def zj111 (N : Nat) (a0 : Int) (c0 : Int) (c1 : Int) (k : Bool → O β) : O β := zb111 (zj110 N) N a0 c0 c1 k
def zb112 (N : Nat) (a1 : (Int → (Bool → O β) → O β)) (v0 : Int) (v1 : Int) (v2 : Int) (v3 : Int) (v4 : Int) (v5 : Int) (rec_ : Int → Int → Int → Int → Int → Int → O β) (k0 : Int → Int → Int → Int → O β) : O β :=
(cond ((decide (v1 < v0)))
(a1 v1 fun r4 =>
(cond r4
((gd ((decide (0 ≤ v1)))
(rec_ v0 ((w64 (v1 + 1))) v2 v3 v4 ((bits .or .i64 v5 (shlI .i64 1 v1))))))
(rec_ v0 ((w64 (v1 + 1))) v2 v3 v4 v5)))
(k0 v2 v3 v4 v5))
def zj112 (N : Nat) (a1 : (Int → (Bool → O β) → O β)) (v0 : Int) (v1 : Int) (v2 : Int) (v3 : Int) (v4 : Int) (v5 : Int) (rec_ : Int → Int → Int → Int → Int → Int → O β) (k0 : Int → Int → Int → Int → O β) : O β := zb112 N a1 v0 v1 v2 v3 v4 v5 rec_ k0
def zj113 (N : Nat) (a1 : (Int → (Bool → O β) → O β)) : Nat → Int → Int → Int → Int → Int → Int → (Int → Int → Int → Int → O β) → O β
  | 0, _, _, _, _, _, _, _ => none
  | F + 1, v0, v1, v2, v3, v4, v5, k0 => zj112 N a1 v0 v1 v2 v3 v4 v5 (fun v0 v1 v2 v3 v4 v5 => zj113 N a1 F v0 v1 v2 v3 v4 v5 k0) k0
def zb114 (N : Nat) (a0 : Int) (a1 : (Int → (Bool → O β) → O β)) (k : Int → Int → O β) : O β :=
(gd ((decide (0 ≤ a0)))
(zq113 a1 N ((shlI .i64 1 a0)) 0 0 0 a0 0 (fun e5_0 e5_1 e5_2 e5_3 =>
k e5_2 e5_3)))
def zj114 (N : Nat) (a0 : Int) (a1 : (Int → (Bool → O β) → O β)) (k : Int → Int → O β) : O β := zb114 (zj113 N) N a0 a1 k
def zb115 (N : Nat) (a0 : Int) (a1 : Int) (a2 : Int) (a3 : Int) (k : Int → Int → O β) : O β :=
zq114 ((w64 (a0 - 1))) (fun x0 k => zq107 x0 a0 a1 a2 a3 k) fun r6 r7 =>
k r6 r7
def zj115 (N : Nat) (a0 : Int) (a1 : Int) (a2 : Int) (a3 : Int) (k : Int → Int → O β) : O β := zb115 (zj107 N) (zj114 N) N a0 a1 a2 a3 k
def zb116 (N : Nat) (a0 : Int) (a1 : Int) (a2 : Int) (k : Bool → O β) : O β :=
zq115 a0 a1 a2 0 fun r4 r5 =>
zq115 a0 a1 a2 1 fun r6 r7 =>
k ((!((r4 == r6) && (r5 == r7))))
def zj116 (N : Nat) (a0 : Int) (a1 : Int) (a2 : Int) (k : Bool → O β) : O β := zb116 (zj115 N) N a0 a1 a2 k
def zb117 (N : Nat) (v0 : Int) (v1 : Int) (v2 : Int) (v3 : Int) (v4 : Int) (rec_ : Int → Int → Int → Int → Int → O β) (k0 : Int → Int → Int → Int → O β) : O β :=
(cond ((decide (v0 ≥ 0)))
(zq116 v1 v2 v0 fun r6 =>
(cond (!r6)
(zq115 v1 v2 v0 0 fun r7 r8 =>
rec_ ((w64 (v0 - 1))) r7 r8 v3 v4)
(rec_ ((w64 (v0 - 1))) v1 v2 v3 v4)))
(k0 v1 v2 v3 v4))
def zj117 (N : Nat) (v0 : Int) (v1 : Int) (v2 : Int) (v3 : Int) (v4 : Int) (rec_ : Int → Int → Int → Int → Int → O β) (k0 : Int → Int → Int → Int → O β) : O β := zb117 (zj115 N) (zj116 N) N v0 v1 v2 v3 v4 rec_ k0
def zj118 (N : Nat) : Nat → Int → Int → Int → Int → Int → (Int → Int → Int → Int → O β) → O β
  | 0, _, _, _, _, _, _ => none
  | F + 1, v0, v1, v2, v3, v4, k0 => zj117 N v0 v1 v2 v3 v4 (fun v0 v1 v2 v3 v4 => zj118 N F v0 v1 v2 v3 v4 k0) k0
def zb119 (N : Nat) (a0 : Int) (a1 : Int) (k : Int → Int → Bool → O β) : O β :=
zq104 a0 a1 fun r5 =>
(cond (!r5)
(k 0 0 false)
(zq118 N ((w64 (a0 - 1))) a0 a1 0 0 (fun e9_0 e9_1 e9_2 e9_3 =>
k e9_0 e9_1 true)))
def zj119 (N : Nat) (a0 : Int) (a1 : Int) (k : Int → Int → Bool → O β) : O β := zb119 (zj104 N) (zj118 N) N a0 a1 k
def zb120 (N : Nat) (v0 : Int) (v1 : Int) (v2 : Int) (v3 : Int) (v4 : List Int) (rec_ : Int → Int → Int → Int → List Int → O β) (k0 : List Int → O β) : O β :=
(cond ((decide (v1 < v0)))
(zq106 v2 v3 v1 fun r5 =>
(gd ((decide (0 ≤ v1)))
((gd ((decide (v1 < (v4.length : Int))))
(rec_ v0 ((w64 (v1 + 1))) v2 v3 ((wr v4 v1 (w8 (48 + (w8 (r5)))))))))))
(k0 v4))
def zj120 (N : Nat) (v0 : Int) (v1 : Int) (v2 : Int) (v3 : Int) (v4 : List Int) (rec_ : Int → Int → Int → Int → List Int → O β) (k0 : List Int → O β) : O β := zb120 (zj106 N) N v0 v1 v2 v3 v4 rec_ k0
def zj121 (N : Nat) : Nat → Int → Int → Int → Int → List Int → (List Int → O β) → O β
  | 0, _, _, _, _, _, _ => none
  | F + 1, v0, v1, v2, v3, v4, k0 => zj120 N v0 v1 v2 v3 v4 (fun v0 v1 v2 v3 v4 => zj121 N F v0 v1 v2 v3 v4 k0) k0
def zb122 (N : Nat) (a0 : Int) (a1 : Int) (k : ByteArray → O β) : O β :=
zq104 a0 a1 fun r3 =>
(cond (!r3)
(k ByteArray.empty)
(zq103 a0 a1 fun r4 =>
(gd ((decide (0 ≤ r4)))
((gd ((decide (r4 ≤ r4)))
((gd ((decide (1 * r4 ≤ 281474976710656)))
(zq121 N ((((List.replicate (Int.toNat r4) (0 : Int))).length : Int)) 0 a0 a1 ((List.replicate (Int.toNat r4) (0 : Int))) (fun e6_0 =>
k ((strOf e6_0)))))))))))
def zj122 (N : Nat) (a0 : Int) (a1 : Int) (k : ByteArray → O β) : O β := zb122 (zj103 N) (zj104 N) (zj121 N) N a0 a1 k
def zb123 (N : Nat) (a0 : Int) (a1 : Int) (k : Int → O β) : O β :=
zq104 a0 a1 fun r3 =>
(cond (!r3)
(k (-1))
(zq110 a1 fun r4 =>
k r4))
def zj123 (N : Nat) (a0 : Int) (a1 : Int) (k : Int → O β) : O β := zb123 (zj104 N) (zj110 N) N a0 a1 k
def zb124 (N : Nat) (a0 : Int) (k : ByteArray → O β) : O β :=
strconv_Itoa N a0 fun r2 =>
k r2
def zj124 (N : Nat) (a0 : Int) (k : ByteArray → O β) : O β := zb124 N a0 k
def zb125 (N : Nat) (v0 : Int) (v1 : Int) (v2 : Int) (v3 : Int) (v4 : List Int) (rec_ : Int → Int → Int → Int → List Int → O β) (k0 : List Int → O β) : O β :=
(cond ((decide (v1 < v0)))
(zq116 v2 v3 v1 fun r4 =>
(cond r4
((gd ((decide ((v4.length + ((([] : List Int) ++ [v1])).length) * 8 ≤ 140737488355328)))
(rec_ v0 ((w64 (v1 + 1))) v2 v3 ((v4 ++ (([] : List Int) ++ [v1]))))))
(rec_ v0 ((w64 (v1 + 1))) v2 v3 v4)))
(k0 v4))
def zj125 (N : Nat) (v0 : Int) (v1 : Int) (v2 : Int) (v3 : Int) (v4 : List Int) (rec_ : Int → Int → Int → Int → List Int → O β) (k0 : List Int → O β) : O β := zb125 (zj116 N) N v0 v1 v2 v3 v4 rec_ k0
def zj126 (N : Nat) : Nat → Int → Int → Int → Int → List Int → (List Int → O β) → O β
  | 0, _, _, _, _, _, _ => none
  | F + 1, v0, v1, v2, v3, v4, k0 => zj125 N v0 v1 v2 v3 v4 (fun v0 v1 v2 v3 v4 => zj126 N F v0 v1 v2 v3 v4 k0) k0
def zb127 (N : Nat) (a0 : Int) (a1 : Int) (k : List Int → O β) : O β :=
zq104 a0 a1 fun r3 =>
(cond (!r3)
(k (([] : List Int)))
(zq126 N a0 0 a0 a1 (([] : List Int)) (fun e5_0 =>
k e5_0)))
def zj127 (N : Nat) (a0 : Int) (a1 : Int) (k : List Int → O β) : O β := zb127 (zj104 N) (zj126 N) N a0 a1 k
def zb128 (N : Nat) (v0 : List Int) (v1 : Int) (v2 : Int) (v3 : List ByteArray) (rec_ : List Int → Int → Int → List ByteArray → O β) (k0 : List ByteArray → O β) : O β :=
(cond ((decide (v2 < v1)))
((gd ((decide (0 ≤ v2)))
((gd ((decide (v2 < (v0.length : Int))))
(zq124 ((rd 0 v0 v2)) fun r2 =>
(gd ((decide (0 ≤ v2)))
((gd ((decide (v2 < (v3.length : Int))))
(rec_ v0 v1 ((w64 (v2 + 1))) ((wr v3 v2 r2)))))))))))
(k0 v3))
def zj128 (N : Nat) (v0 : List Int) (v1 : Int) (v2 : Int) (v3 : List ByteArray) (rec_ : List Int → Int → Int → List ByteArray → O β) (k0 : List ByteArray → O β) : O β := zb128 (zj124 N) N v0 v1 v2 v3 rec_ k0
def zj129 (N : Nat) : Nat → List Int → Int → Int → List ByteArray → (List ByteArray → O β) → O β
  | 0, _, _, _, _, _ => none
  | F + 1, v0, v1, v2, v3, k0 => zj128 N v0 v1 v2 v3 (fun v0 v1 v2 v3 => zj129 N F v0 v1 v2 v3 k0) k0
def zb130 (N : Nat) (a0 : List Int) (k : ByteArray → O β) : O β :=
(cond (((a0.length : Int) == 0))
(k ((strOf [110, 111, 110, 101])))
((gd ((decide (0 ≤ (a0.length : Int))))
((gd ((decide ((a0.length : Int) ≤ (a0.length : Int))))
((gd ((decide (16 * (a0.length : Int) ≤ 281474976710656)))
(zq129 N a0 ((a0.length : Int)) 0 ((List.replicate (Int.toNat (a0.length : Int)) ByteArray.empty)) (fun e3_0 =>
strings_Join N e3_0 ((strOf [44])) fun r4 =>
k r4)))))))))
def zj130 (N : Nat) (a0 : List Int) (k : ByteArray → O β) : O β := zb130 (zj129 N) N a0 k
def zb131 (N : Nat) (a0 : Int) (a1 : Int) (a2 : Int) (k : Bool → O β) : O β :=
zq104 a0 a1 fun r4 =>
(cond r4
(k ((decide (a0 ≤ a2))))
(k false))
def zj131 (N : Nat) (a0 : Int) (a1 : Int) (a2 : Int) (k : Bool → O β) : O β := zb131 (zj104 N) N a0 a1 a2 k
def zb132 (N : Nat) (self : Int → List Int → List (List Int) → List Bool → (Int → List Int → List (List Int) → List Bool → O β) → O β) (v0 : Int) (v1 : Int) (v2 : Int) (v3 : List Int) (v4 : List (List Int)) (v5 : List Bool) (rec_ : Int → Int → Int → List Int → List (List Int) → List Bool → O β) (k0 : Int → List Int → List (List Int) → List Bool → O β) : O β :=
(cond ((decide (v1 < v0)))
((gd ((decide (0 ≤ v1)))
((gd ((decide (v1 < (v5.length : Int))))
((cond ((!(rd false v5 v1)))
((gd ((decide (0 ≤ v1)))
((gd ((decide (v1 < (v5.length : Int))))
((gd ((decide ((v3.length + ((([] : List Int) ++ [v1])).length) * 8 ≤ 140737488355328)))
(self v2 ((v3 ++ (([] : List Int) ++ [v1]))) v4 ((wr v5 v1 true)) (fun r2_0 r2_1 r2_2 r2_3 =>
(gd ((decide (0 ≤ (w64 ((r2_1.length : Int) - 1)))))
((gd ((decide ((w64 ((r2_1.length : Int) - 1)) ≤ (r2_1.length : Int))))
((gd ((decide (0 ≤ v1)))
((gd ((decide (v1 < (r2_3.length : Int))))
(rec_ v0 ((w64 (v1 + 1))) r2_0 ((List.drop 0 (List.take (Int.toNat (w64 ((r2_1.length : Int) - 1))) r2_1))) r2_2 ((wr r2_3 v1 false))))))))))))))))))
(rec_ v0 ((w64 (v1 + 1))) v2 v3 v4 v5)))))))
(k0 v2 v3 v4 v5))
def zj132 (N : Nat) (self : Int → List Int → List (List Int) → List Bool → (Int → List Int → List (List Int) → List Bool → O β) → O β) (v0 : Int) (v1 : Int) (v2 : Int) (v3 : List Int) (v4 : List (List Int)) (v5 : List Bool) (rec_ : Int → Int → Int → List Int → List (List Int) → List Bool → O β) (k0 : Int → List Int → List (List Int) → List Bool → O β) : O β := zb132 N self v0 v1 v2 v3 v4 v5 rec_ k0
def zj133 (N : Nat) (self : Int → List Int → List (List Int) → List Bool → (Int → List Int → List (List Int) → List Bool → O β) → O β) : Nat → Int → Int → Int → List Int → List (List Int) → List Bool → (Int → List Int → List (List Int) → List Bool → O β) → O β
  | 0, _, _, _, _, _, _, _ => none
  | F + 1, v0, v1, v2, v3, v4, v5, k0 => zj132 N self v0 v1 v2 v3 v4 v5 (fun v0 v1 v2 v3 v4 v5 => zj133 N self F v0 v1 v2 v3 v4 v5 k0) k0
def zb134 (N : Nat) (self : Int → List Int → List (List Int) → List Bool → (Int → List Int → List (List Int) → List Bool → O β) → O β) (a0 : Int) (a1 : List Int) (a2 : List (List Int)) (a3 : List Bool) (k0 : Int → List Int → List (List Int) → List Bool → O β) : O β :=
(cond (((a1.length : Int) == a0))
((gd ((decide (((([] : List Int)).length + a1.length) * 8 ≤ 140737488355328)))
((gd ((decide ((a2.length + ((([] : List (List Int)) ++ [(([] : List Int) ++ a1)])).length) * 24 ≤ 140737488355328)))
(k0 a0 a1 ((a2 ++ (([] : List (List Int)) ++ [(([] : List Int) ++ a1)]))) a3)))))
(zq133 self N a0 0 a0 a1 a2 a3 (fun e3_0 e3_1 e3_2 e3_3 =>
k0 e3_0 e3_1 e3_2 e3_3)))
def zj134 (N : Nat) (self : Int → List Int → List (List Int) → List Bool → (Int → List Int → List (List Int) → List Bool → O β) → O β) (a0 : Int) (a1 : List Int) (a2 : List (List Int)) (a3 : List Bool) (k0 : Int → List Int → List (List Int) → List Bool → O β) : O β := zb134 (zj133 N) N self a0 a1 a2 a3 k0
def zj135 (N : Nat) : Nat → Int → List Int → List (List Int) → List Bool → (Int → List Int → List (List Int) → List Bool → O β) → O β
  | 0, _, _, _, _, _ => none
  | F + 1, a0, a1, a2, a3, k0 => zj134 N (zj135 N F) a0 a1 a2 a3 k0
def zj136 (N : Nat) (a0 : Int) (a1 : List Int) (a2 : List (List Int)) (a3 : List Bool) (k0 : Int → List Int → List (List Int) → List Bool → O β) : O β := zj135 N N a0 a1 a2 a3 k0
def zb137 (N : Nat) (a0 : Int) (k : List (List Int) → O β) : O β :=
(gd ((decide (0 ≤ a0)))
((gd ((decide (8 * a0 ≤ 281474976710656)))
((gd ((decide (0 ≤ a0)))
((gd ((decide (a0 ≤ a0)))
((gd ((decide (1 * a0 ≤ 281474976710656)))
(zq136 a0 ((List.replicate (Int.toNat 0) (0 : Int))) (([] : List (List Int))) ((List.replicate (Int.toNat a0) false)) (fun r2_0 r2_1 r2_2 r2_3 =>
k r2_2)))))))))))
def zj137 (N : Nat) (a0 : Int) (k : List (List Int) → O β) : O β := zb137 (zj136 N) N a0 k
def zb138 (N : Nat) (v0 : Int) (v1 : Int) (v2 : List Int) (v3 : Int) (v4 : Int) (rec_ : Int → Int → List Int → Int → Int → O β) (k0 : Int → O β) : O β :=
(cond ((decide (v4 < v3)))
((gd ((decide (0 ≤ v4)))
((gd ((decide (v4 < (v2.length : Int))))
((gd ((decide (0 ≤ v4)))
((gd ((decide (0 ≤ (rd 0 v2 v4))))
(rec_ v0 ((bits .or .i64 v1 (shlI .i64 (bits .and .i64 (shrI .i64 v0 v4) 1) (rd 0 v2 v4)))) v2 v3 ((w64 (v4 + 1))))))))))))
(k0 v1))
def zj138 (N : Nat) (v0 : Int) (v1 : Int) (v2 : List Int) (v3 : Int) (v4 : Int) (rec_ : Int → Int → List Int → Int → Int → O β) (k0 : Int → O β) : O β := zb138 N v0 v1 v2 v3 v4 rec_ k0
def zj139 (N : Nat) : Nat → Int → Int → List Int → Int → Int → (Int → O β) → O β
  | 0, _, _, _, _, _, _ => none
  | F + 1, v0, v1, v2, v3, v4, k0 => zj138 N v0 v1 v2 v3 v4 (fun v0 v1 v2 v3 v4 => zj139 N F v0 v1 v2 v3 v4 k0) k0
def zb140 (N : Nat) (a0 : Int) (a1 : List Int) (k : Int → O β) : O β :=
zq139 N a0 0 a1 ((a1.length : Int)) 0 (fun e3_0 =>
k e3_0)
def zj140 (N : Nat) (a0 : Int) (a1 : List Int) (k : Int → O β) : O β := zb140 (zj139 N) N a0 a1 k
def zb141 (N : Nat) (v0 : List Int) (v1 : Int) (v2 : Int) (v3 : Int) (v4 : Int) (v5 : Int) (v6 : Int) (v7 : Int) (v8 : Int) (rec_ : List Int → Int → Int → Int → Int → Int → Int → Int → Int → O β) (k0 : Int → Int → Int → Int → O β) : O β :=
(cond ((decide (v2 < v1)))
(zq106 v3 v4 v2 fun r6 =>
zq140 v2 v0 fun r7 =>
(gd ((decide (0 ≤ r7)))
(rec_ v0 v1 ((w64 (v2 + 1))) v3 v4 v5 v6 v7 ((bits .or .i64 v8 (shlI .i64 r6 r7))))))
(k0 v5 v6 v7 v8))
def zj141 (N : Nat) (v0 : List Int) (v1 : Int) (v2 : Int) (v3 : Int) (v4 : Int) (v5 : Int) (v6 : Int) (v7 : Int) (v8 : Int) (rec_ : List Int → Int → Int → Int → Int → Int → Int → Int → Int → O β) (k0 : Int → Int → Int → Int → O β) : O β := zb141 (zj106 N) (zj140 N) N v0 v1 v2 v3 v4 v5 v6 v7 v8 rec_ k0
def zj142 (N : Nat) : Nat → List Int → Int → Int → Int → Int → Int → Int → Int → Int → (Int → Int → Int → Int → O β) → O β
  | 0, _, _, _, _, _, _, _, _, _, _ => none
  | F + 1, v0, v1, v2, v3, v4, v5, v6, v7, v8, k0 => zj141 N v0 v1 v2 v3 v4 v5 v6 v7 v8 (fun v0 v1 v2 v3 v4 v5 v6 v7 v8 => zj142 N F v0 v1 v2 v3 v4 v5 v6 v7 v8 k0) k0
def zb143 (N : Nat) (a0 : Int) (a1 : Int) (a2 : List Int) (k : Int → Int → O β) : O β :=
zq103 a0 a1 fun r5 =>
zq142 N a2 r5 0 a0 a1 0 0 a0 0 (fun e8_0 e8_1 e8_2 e8_3 =>
k e8_2 e8_3)
def zj143 (N : Nat) (a0 : Int) (a1 : Int) (a2 : List Int) (k : Int → Int → O β) : O β := zb143 (zj103 N) (zj142 N) N a0 a1 a2 k
def zb144 (N : Nat) (a0 : Int) (a1 : Int) (a2 : Int) (k : Int → Int → O β) : O β :=
zq114 a0 (fun x0 k => zq108 x0 a0 a1 a2 k) fun r5 r6 =>
k r5 r6
def zj144 (N : Nat) (a0 : Int) (a1 : Int) (a2 : Int) (k : Int → Int → O β) : O β := zb144 (zj108 N) (zj114 N) N a0 a1 a2 k
def zb145 (N : Nat) (a0 : Int) (a1 : Int) (k : Int → Int → O β) : O β :=
zq103 a0 a1 fun r4 =>
(gd ((decide (0 ≤ r4)))
(k a0 ((bits .xor .i64 a1 (w64 ((shlI .i64 1 r4) - 1))))))
def zj145 (N : Nat) (a0 : Int) (a1 : Int) (k : Int → Int → O β) : O β := zb145 (zj103 N) N a0 a1 k
def zb146 (N : Nat) (a0 : Int) (a1 : Int) (a2 : Int) (a3 : Int) (k0 : Int → Int → O β) : O β :=
k0 a2 ((mnI a3 a1))
def zj146 (N : Nat) (a0 : Int) (a1 : Int) (a2 : Int) (a3 : Int) (k0 : Int → Int → O β) : O β := zb146 N a0 a1 a2 a3 k0
def zb147 (N : Nat) (a0 : Int) (a1 : Int) (a2 : Mp) (k0 : Mp → O β) : O β :=
k0 ((putM ⟨false, true⟩ a2 a1 0 ((cond true (1 : Int) 0))))
def zj147 (N : Nat) (a0 : Int) (a1 : Int) (a2 : Mp) (k0 : Mp → O β) : O β := zb147 N a0 a1 a2 k0
def zb148 (N : Nat) (v0 : Int) (v1 : Int) (v2 : Int) (v3 : Int) (v4 : Int) (v5 : Int) (v6 : Int) (v7 : Int) (v8 : Int) (v9 : Int) (v10 : List (List Int)) (rec_ : Int → Int → Int → Int → Int → Int → Int → Int → Int → Int → List (List Int) → O β) (k0 : Int → Int → Int → Int → Int → Int → List (List Int) → O β) : O β :=
(cond ((decide (v3 < v2)))
(zq144 v8 v9 v3 fun r8 r9 =>
zq146 r8 r9 v4 v5 (fun r10_0 r10_1 =>
zq145 r8 r9 fun r11 r12 =>
zq146 r11 r12 r10_0 r10_1 (fun r13_0 r13_1 =>
rec_ v0 v1 v2 ((w64 (v3 + 1))) r13_0 r13_1 v6 v7 v8 v9 v10)))
(k0 v0 v1 v4 v5 v6 v7 v10))
def zj148 (N : Nat) (v0 : Int) (v1 : Int) (v2 : Int) (v3 : Int) (v4 : Int) (v5 : Int) (v6 : Int) (v7 : Int) (v8 : Int) (v9 : Int) (v10 : List (List Int)) (rec_ : Int → Int → Int → Int → Int → Int → Int → Int → Int → Int → List (List Int) → O β) (k0 : Int → Int → Int → Int → Int → Int → List (List Int) → O β) : O β := zb148 (zj144 N) (zj145 N) (zj146 N) N v0 v1 v2 v3 v4 v5 v6 v7 v8 v9 v10 rec_ k0
def zj149 (N : Nat) : Nat → Int → Int → Int → Int → Int → Int → Int → Int → Int → Int → List (List Int) → (Int → Int → Int → Int → Int → Int → List (List Int) → O β) → O β
  | 0, _, _, _, _, _, _, _, _, _, _, _, _ => none
  | F + 1, v0, v1, v2, v3, v4, v5, v6, v7, v8, v9, v10, k0 => zj148 N v0 v1 v2 v3 v4 v5 v6 v7 v8 v9 v10 (fun v0 v1 v2 v3 v4 v5 v6 v7 v8 v9 v10 => zj149 N F v0 v1 v2 v3 v4 v5 v6 v7 v8 v9 v10 k0) k0
def zb150 (N : Nat) (v0 : Int) (v1 : Int) (v2 : Int) (v3 : Int) (v4 : Int) (v5 : Int) (v6 : List (List Int)) (rec_ : Int → Int → Int → Int → Int → Int → List (List Int) → O β) (k0 : Int → Int → O β) : O β :=
(cond ((decide (v1 < v0)))
((gd ((decide (0 ≤ v1)))
((gd ((decide (v1 < (v6.length : Int))))
(zq143 v4 v5 ((rd [] v6 v1)) fun r5 r6 =>
zq103 v4 v5 fun r7 =>
zq149 N v0 v1 r7 0 v2 v3 v4 v5 r5 r6 v6 (fun e14_0 e14_1 e14_2 e14_3 e14_4 e14_5 e14_6 =>
rec_ e14_0 ((w64 (e14_1 + 1))) e14_2 e14_3 e14_4 e14_5 e14_6))))))
(k0 v2 v3))
def zj150 (N : Nat) (v0 : Int) (v1 : Int) (v2 : Int) (v3 : Int) (v4 : Int) (v5 : Int) (v6 : List (List Int)) (rec_ : Int → Int → Int → Int → Int → Int → List (List Int) → O β) (k0 : Int → Int → O β) : O β := zb150 (zj103 N) (zj143 N) (zj149 N) N v0 v1 v2 v3 v4 v5 v6 rec_ k0
def zj151 (N : Nat) : Nat → Int → Int → Int → Int → Int → Int → List (List Int) → (Int → Int → O β) → O β
  | 0, _, _, _, _, _, _, _, _ => none
  | F + 1, v0, v1, v2, v3, v4, v5, v6, k0 => zj150 N v0 v1 v2 v3 v4 v5 v6 (fun v0 v1 v2 v3 v4 v5 v6 => zj151 N F v0 v1 v2 v3 v4 v5 v6 k0) k0
def zb152 (N : Nat) (v0 : Int) (v1 : Int) (v2 : Int) (v3 : Int) (v4 : Mp) (v5 : Int) (v6 : Int) (v7 : Int) (v8 : Int) (v9 : List (List Int)) (rec_ : Int → Int → Int → Int → Mp → Int → Int → Int → Int → List (List Int) → O β) (k0 : Int → Int → Mp → Int → Int → List (List Int) → O β) : O β :=
(cond ((decide (v3 < v2)))
(zq144 v7 v8 v3 fun r8 r9 =>
zq147 r8 r9 v4 (fun r10_0 =>
zq145 r8 r9 fun r11 r12 =>
zq147 r11 r12 r10_0 (fun r13_0 =>
rec_ v0 v1 v2 ((w64 (v3 + 1))) r13_0 v5 v6 v7 v8 v9)))
(k0 v0 v1 v4 v5 v6 v9))
def zj152 (N : Nat) (v0 : Int) (v1 : Int) (v2 : Int) (v3 : Int) (v4 : Mp) (v5 : Int) (v6 : Int) (v7 : Int) (v8 : Int) (v9 : List (List Int)) (rec_ : Int → Int → Int → Int → Mp → Int → Int → Int → Int → List (List Int) → O β) (k0 : Int → Int → Mp → Int → Int → List (List Int) → O β) : O β := zb152 (zj144 N) (zj145 N) (zj147 N) N v0 v1 v2 v3 v4 v5 v6 v7 v8 v9 rec_ k0
def zj153 (N : Nat) : Nat → Int → Int → Int → Int → Mp → Int → Int → Int → Int → List (List Int) → (Int → Int → Mp → Int → Int → List (List Int) → O β) → O β
  | 0, _, _, _, _, _, _, _, _, _, _, _ => none
  | F + 1, v0, v1, v2, v3, v4, v5, v6, v7, v8, v9, k0 => zj152 N v0 v1 v2 v3 v4 v5 v6 v7 v8 v9 (fun v0 v1 v2 v3 v4 v5 v6 v7 v8 v9 => zj153 N F v0 v1 v2 v3 v4 v5 v6 v7 v8 v9 k0) k0
def zb154 (N : Nat) (v0 : Int) (v1 : Int) (v2 : Mp) (v3 : Int) (v4 : Int) (v5 : List (List Int)) (rec_ : Int → Int → Mp → Int → Int → List (List Int) → O β) (k0 : Mp → O β) : O β :=
(cond ((decide (v1 < v0)))
((gd ((decide (0 ≤ v1)))
((gd ((decide (v1 < (v5.length : Int))))
(zq143 v3 v4 ((rd [] v5 v1)) fun r5 r6 =>
zq103 v3 v4 fun r7 =>
zq153 N v0 v1 r7 0 v2 v3 v4 r5 r6 v5 (fun e14_0 e14_1 e14_2 e14_3 e14_4 e14_5 =>
rec_ e14_0 ((w64 (e14_1 + 1))) e14_2 e14_3 e14_4 e14_5))))))
(k0 v2))
def zj154 (N : Nat) (v0 : Int) (v1 : Int) (v2 : Mp) (v3 : Int) (v4 : Int) (v5 : List (List Int)) (rec_ : Int → Int → Mp → Int → Int → List (List Int) → O β) (k0 : Mp → O β) : O β := zb154 (zj103 N) (zj143 N) (zj153 N) N v0 v1 v2 v3 v4 v5 rec_ k0
def zj155 (N : Nat) : Nat → Int → Int → Mp → Int → Int → List (List Int) → (Mp → O β) → O β
  | 0, _, _, _, _, _, _, _ => none
  | F + 1, v0, v1, v2, v3, v4, v5, k0 => zj154 N v0 v1 v2 v3 v4 v5 (fun v0 v1 v2 v3 v4 v5 => zj155 N F v0 v1 v2 v3 v4 v5 k0) k0
def zb156 (N : Nat) (a0 : Int) (a1 : Int) (a2 : Int) (a3 : Int) (k0 : Int → Int → O β) : O β :=
zq137 a0 fun r4 =>
zq151 N ((r4.length : Int)) 0 a2 a3 a0 a1 r4 (fun e15_0 e15_1 =>
k0 e15_0 e15_1)
def zj156 (N : Nat) (a0 : Int) (a1 : Int) (a2 : Int) (a3 : Int) (k0 : Int → Int → O β) : O β := zb156 (zj137 N) (zj151 N) N a0 a1 a2 a3 k0
def zb157 (N : Nat) (a0 : Int) (a1 : Int) (a2 : Mp) (k0 : Mp → O β) : O β :=
zq137 a0 fun r4 =>
zq155 N ((r4.length : Int)) 0 a2 a0 a1 r4 (fun e15_0 =>
k0 e15_0)
def zj157 (N : Nat) (a0 : Int) (a1 : Int) (a2 : Mp) (k0 : Mp → O β) : O β := zb157 (zj137 N) (zj155 N) N a0 a1 a2 k0
def zb158 (N : Nat) (a0 : Int) (a1 : Int) (k : Int → Int → O β) : O β :=
zq156 a0 a1 a0 a1 (fun r4_0 r4_1 =>
k r4_0 r4_1)
def zj158 (N : Nat) (a0 : Int) (a1 : Int) (k : Int → Int → O β) : O β := zb158 (zj156 N) N a0 a1 k
def zb159 (N : Nat) (a0 : Int) (a1 : Int) (k : Int → O β) : O β :=
zq131 a0 a1 4 fun r3 =>
(cond (!r3)
(k (-1))
(zq157 a0 a1 (([] : Mp)) (fun r4_0 =>
k ((r4_0.length : Int)))))
def zj159 (N : Nat) (a0 : Int) (a1 : Int) (k : Int → O β) : O β := zb159 (zj131 N) (zj157 N) N a0 a1 k
def zb160 (N : Nat) (v0 : Int) (v1 : Int) (v2 : Int) (v3 : Int) (rec_ : Int → Int → Int → Int → O β) (k0 : Bool → O β) (k1 : O β) : O β :=
(cond ((decide (v1 < v0)))
(zq115 v2 v3 v1 0 fun r3 r4 =>
zq115 v2 v3 v1 1 fun r5 r6 =>
(cond (((bits .andNot .i64 r4 r6) != 0))
(k0 false)
(rec_ v0 ((w64 (v1 + 1))) v2 v3)))
(k1 ))
def zj160 (N : Nat) (v0 : Int) (v1 : Int) (v2 : Int) (v3 : Int) (rec_ : Int → Int → Int → Int → O β) (k0 : Bool → O β) (k1 : O β) : O β := zb160 (zj115 N) N v0 v1 v2 v3 rec_ k0 k1
def zj161 (N : Nat) : Nat → Int → Int → Int → Int → (Bool → O β) → (O β) → O β
  | 0, _, _, _, _, _, _ => none
  | F + 1, v0, v1, v2, v3, k0, k1 => zj160 N v0 v1 v2 v3 (fun v0 v1 v2 v3 => zj161 N F v0 v1 v2 v3 k0 k1) k0 k1
def zb162 (N : Nat) (a0 : Int) (a1 : Int) (k : Bool → O β) : O β :=
zq161 N a0 0 a0 a1 (fun e7_0 =>
k e7_0) (k true)
def zj162 (N : Nat) (a0 : Int) (a1 : Int) (k : Bool → O β) : O β := zb162 (zj161 N) N a0 a1 k
def zb163 (N : Nat) (a0 : Int) (a1 : Int) (k : Bool → O β) : O β :=
zq104 a0 a1 fun r3 =>
(cond r3
(zq162 a0 a1 fun r4 =>
k r4)
(k false))
def zj163 (N : Nat) (a0 : Int) (a1 : Int) (k : Bool → O β) : O β := zb163 (zj104 N) (zj162 N) N a0 a1 k
def zb164 (N : Nat) (a0 : Int) (a1 : Int) (a2 : Int) (k : Int → O β) : O β :=
zq115 a0 a1 a2 0 fun r4 r5 =>
zq115 a0 a1 a2 1 fun r6 r7 =>
(cond ((r5 == r7))
(k 0)
((cond (((bits .andNot .i64 r5 r7) == 0))
(k 1)
((cond (((bits .andNot .i64 r7 r5) == 0))
(k (-1))
(k 2))))))
def zj164 (N : Nat) (a0 : Int) (a1 : Int) (a2 : Int) (k : Int → O β) : O β := zb164 (zj115 N) N a0 a1 a2 k
def zb165 (N : Nat) (v0 : Int) (v1 : Int) (v2 : Int) (v3 : Int) (v4 : Int) (rec_ : Int → Int → Int → Int → Int → O β) (k0 : Int → Bool → O β) (k1 : Int → O β) : O β :=
(cond ((decide (v2 < v1)))
(zq164 v3 v4 v2 fun r4 =>
(cond ((r4 == (-1)))
((gd ((decide (0 ≤ v2)))
(rec_ ((bits .or .i64 v0 (shlI .i64 1 v2))) v1 ((w64 (v2 + 1))) v3 v4)))
((cond ((r4 == 2))
(k0 0 false)
(rec_ v0 v1 ((w64 (v2 + 1))) v3 v4)))))
(k1 v0))
def zj165 (N : Nat) (v0 : Int) (v1 : Int) (v2 : Int) (v3 : Int) (v4 : Int) (rec_ : Int → Int → Int → Int → Int → O β) (k0 : Int → Bool → O β) (k1 : Int → O β) : O β := zb165 (zj164 N) N v0 v1 v2 v3 v4 rec_ k0 k1
def zj166 (N : Nat) : Nat → Int → Int → Int → Int → Int → (Int → Bool → O β) → (Int → O β) → O β
  | 0, _, _, _, _, _, _, _ => none
  | F + 1, v0, v1, v2, v3, v4, k0, k1 => zj165 N v0 v1 v2 v3 v4 (fun v0 v1 v2 v3 v4 => zj166 N F v0 v1 v2 v3 v4 k0 k1) k0 k1
def zb167 (N : Nat) (a0 : Int) (a1 : Int) (k : Int → Bool → O β) : O β :=
zq166 N 0 a0 0 a0 a1 (fun e5_0 e5_1 =>
k e5_0 e5_1) (fun e6_0 =>
k e6_0 true)
def zj167 (N : Nat) (a0 : Int) (a1 : Int) (k : Int → Bool → O β) : O β := zb167 (zj166 N) N a0 a1 k
def zb168 (N : Nat) (a0 : Int) (a1 : Int) (k : Int → Bool → O β) : O β :=
zq104 a0 a1 fun r4 =>
(cond (!r4)
(k 0 false)
(zq167 a0 a1 fun r5 r6 =>
k r5 r6))
def zj168 (N : Nat) (a0 : Int) (a1 : Int) (k : Int → Bool → O β) : O β := zb168 (zj104 N) (zj167 N) N a0 a1 k
def zb169 (N : Nat) (a0 : Int) (a1 : Int) (k : Bool → O β) : O β :=
zq168 a0 a1 fun r3 r4 =>
k r4
def zj169 (N : Nat) (a0 : Int) (a1 : Int) (k : Bool → O β) : O β := zb169 (zj168 N) N a0 a1 k
def zb170 (N : Nat) (v0 : Int) (v1 : Int) (v2 : Int) (v3 : Int) (v4 : List Int) (rec_ : Int → Int → Int → Int → List Int → O β) (k0 : Int → Int → List Int → O β) : O β :=
(cond ((decide (v1 < v0)))
((gd ((decide (0 ≤ v1)))
(zq106 v2 v3 ((w64 ((shlI .i64 1 v1) - 1))) fun r4 =>
(gd ((decide (0 ≤ v1)))
((gd ((decide (v1 < (v4.length : Int))))
(rec_ v0 ((w64 (v1 + 1))) v2 v3 ((wr v4 v1 r4)))))))))
(k0 v2 v3 v4))
def zj170 (N : Nat) (v0 : Int) (v1 : Int) (v2 : Int) (v3 : Int) (v4 : List Int) (rec_ : Int → Int → Int → Int → List Int → O β) (k0 : Int → Int → List Int → O β) : O β := zb170 (zj106 N) N v0 v1 v2 v3 v4 rec_ k0
def zj171 (N : Nat) : Nat → Int → Int → Int → Int → List Int → (Int → Int → List Int → O β) → O β
  | 0, _, _, _, _, _, _ => none
  | F + 1, v0, v1, v2, v3, v4, k0 => zj170 N v0 v1 v2 v3 v4 (fun v0 v1 v2 v3 v4 => zj171 N F v0 v1 v2 v3 v4 k0) k0
def zb172 (N : Nat) (v0 : Int) (v1 : Int) (v2 : Int) (v3 : Int) (v4 : List Int) (rec_ : Int → Int → Int → Int → List Int → O β) (k0 : Bool → List Int → O β) (k1 : List Int → O β) : O β :=
(cond ((decide (v1 < v0)))
(zq106 v2 v3 v1 fun r7 =>
zq110 v1 fun r8 =>
(gd ((decide (0 ≤ r8)))
((gd ((decide (r8 < (v4.length : Int))))
((cond ((r7 != (rd 0 v4 r8)))
(k0 false (([] : List Int)))
(rec_ v0 ((w64 (v1 + 1))) v2 v3 v4)))))))
(k1 v4))
def zj172 (N : Nat) (v0 : Int) (v1 : Int) (v2 : Int) (v3 : Int) (v4 : List Int) (rec_ : Int → Int → Int → Int → List Int → O β) (k0 : Bool → List Int → O β) (k1 : List Int → O β) : O β := zb172 (zj106 N) (zj110 N) N v0 v1 v2 v3 v4 rec_ k0 k1
def zj173 (N : Nat) : Nat → Int → Int → Int → Int → List Int → (Bool → List Int → O β) → (List Int → O β) → O β
  | 0, _, _, _, _, _, _, _ => none
  | F + 1, v0, v1, v2, v3, v4, k0, k1 => zj172 N v0 v1 v2 v3 v4 (fun v0 v1 v2 v3 v4 => zj173 N F v0 v1 v2 v3 v4 k0 k1) k0 k1
def zb174 (N : Nat) (a0 : Int) (a1 : Int) (k : List Int → Bool → O β) : O β :=
(gd ((decide (0 ≤ (w64 (a0 + 1)))))
((gd ((decide ((w64 (a0 + 1)) ≤ (w64 (a0 + 1)))))
((gd ((decide (8 * (w64 (a0 + 1)) ≤ 281474976710656)))
(zq171 N ((((List.replicate (Int.toNat (w64 (a0 + 1))) (0 : Int))).length : Int)) 0 a0 a1 ((List.replicate (Int.toNat (w64 (a0 + 1))) (0 : Int))) (fun e5_0 e5_1 e5_2 =>
zq103 e5_0 e5_1 fun r6 =>
zq173 N r6 0 e5_0 e5_1 e5_2 (fun e9_0 e9_1 =>
k e9_1 e9_0) (fun e10_0 =>
k e10_0 true))))))))
def zj174 (N : Nat) (a0 : Int) (a1 : Int) (k : List Int → Bool → O β) : O β := zb174 (zj103 N) (zj171 N) (zj173 N) N a0 a1 k
def zb175 (N : Nat) (a0 : Int) (a1 : Int) (k : Bool → O β) : O β :=
zq104 a0 a1 fun r3 =>
(cond (!r3)
(k false)
(zq174 a0 a1 fun r4 r5 =>
k r5))
def zj175 (N : Nat) (a0 : Int) (a1 : Int) (k : Bool → O β) : O β := zb175 (zj104 N) (zj174 N) N a0 a1 k
def zb176 (N : Nat) (a0 : Int) (a1 : Int) (a2 : Int) (k : Int → Int → O β) : O β :=
zq114 a0 (fun x0 k => zq111 x0 a1 a2 k) fun r5 r6 =>
k r5 r6
def zj176 (N : Nat) (a0 : Int) (a1 : Int) (a2 : Int) (k : Int → Int → O β) : O β := zb176 (zj111 N) (zj114 N) N a0 a1 a2 k
def zb177 (N : Nat) (v0 : Int) (v1 : Int) (v2 : Int) (v3 : Int) (v4 : Int) (v5 : Int) (v6 : Int) (v7 : Int) (v8 : Int) (rec_ : Int → Int → Int → Int → Int → Int → Int → Int → Int → O β) (k0 : Int → Int → Int → Int → Int → Int → Int → O β) : O β :=
(cond ((decide (v6 < 2)))
(zq176 v7 v3 v6 fun r9 r10 =>
zq110 ((bits .xor .i64 v8 r10)) fun r11 =>
(cond ((decide (r11 < v2)))
(rec_ v3 v6 r11 v3 v4 v5 ((w64 (v6 + 1))) v7 v8)
(rec_ v0 v1 v2 v3 v4 v5 ((w64 (v6 + 1))) v7 v8)))
(k0 v0 v1 v2 v4 v5 v7 v8))
def zj177 (N : Nat) (v0 : Int) (v1 : Int) (v2 : Int) (v3 : Int) (v4 : Int) (v5 : Int) (v6 : Int) (v7 : Int) (v8 : Int) (rec_ : Int → Int → Int → Int → Int → Int → Int → Int → Int → O β) (k0 : Int → Int → Int → Int → Int → Int → Int → O β) : O β := zb177 (zj110 N) (zj176 N) N v0 v1 v2 v3 v4 v5 v6 v7 v8 rec_ k0
def zj178 (N : Nat) : Nat → Int → Int → Int → Int → Int → Int → Int → Int → Int → (Int → Int → Int → Int → Int → Int → Int → O β) → O β
  | 0, _, _, _, _, _, _, _, _, _, _ => none
  | F + 1, v0, v1, v2, v3, v4, v5, v6, v7, v8, k0 => zj177 N v0 v1 v2 v3 v4 v5 v6 v7 v8 (fun v0 v1 v2 v3 v4 v5 v6 v7 v8 => zj178 N F v0 v1 v2 v3 v4 v5 v6 v7 v8 k0) k0
def zb179 (N : Nat) (v0 : Int) (v1 : Int) (v2 : Int) (v3 : Int) (v4 : Int) (v5 : Int) (v6 : Int) (rec_ : Int → Int → Int → Int → Int → Int → Int → O β) (k0 : Int → Int → Int → O β) : O β :=
(cond ((decide (v4 < v3)))
(zq178 N v0 v1 v2 v4 v3 v4 0 v5 v6 (fun e12_0 e12_1 e12_2 e12_3 e12_4 e12_5 e12_6 =>
rec_ e12_0 e12_1 e12_2 e12_3 ((w64 (e12_4 + 1))) e12_5 e12_6))
(k0 v0 v1 v2))
def zj179 (N : Nat) (v0 : Int) (v1 : Int) (v2 : Int) (v3 : Int) (v4 : Int) (v5 : Int) (v6 : Int) (rec_ : Int → Int → Int → Int → Int → Int → Int → O β) (k0 : Int → Int → Int → O β) : O β := zb179 (zj178 N) N v0 v1 v2 v3 v4 v5 v6 rec_ k0
def zj180 (N : Nat) : Nat → Int → Int → Int → Int → Int → Int → Int → (Int → Int → Int → O β) → O β
  | 0, _, _, _, _, _, _, _, _ => none
  | F + 1, v0, v1, v2, v3, v4, v5, v6, k0 => zj179 N v0 v1 v2 v3 v4 v5 v6 (fun v0 v1 v2 v3 v4 v5 v6 => zj180 N F v0 v1 v2 v3 v4 v5 v6 k0) k0
def zb181 (N : Nat) (a0 : Int) (a1 : Int) (k : Int → Int → Int → Bool → O β) : O β :=
zq104 a0 a1 fun r6 =>
(cond (!r6)
(k 0 0 0 false)
(zq103 a0 a1 fun r7 =>
zq103 a0 a1 fun r8 =>
zq180 N 0 0 ((w64 (r7 + 1))) r8 0 a0 a1 (fun e13_0 e13_1 e13_2 =>
k e13_0 e13_1 e13_2 true)))
def zj181 (N : Nat) (a0 : Int) (a1 : Int) (k : Int → Int → Int → Bool → O β) : O β := zb181 (zj103 N) (zj104 N) (zj180 N) N a0 a1 k
def zb182 (N : Nat) (a0 : Int) (a1 : Int) (k : Bool → O β) : O β :=
zq181 a0 a1 fun r3 r4 r5 r6 =>
(cond r6
(k ((r5 == 0)))
(k false))
def zj182 (N : Nat) (a0 : Int) (a1 : Int) (k : Bool → O β) : O β := zb182 (zj181 N) N a0 a1 k
def zb183 (N : Nat) (a0 : Int) (a1 : Int) (k : Int → Int → O β) : O β :=
zq103 a0 a1 fun r4 =>
zq144 a0 a1 ((w64 (r4 - 1))) fun r5 r6 =>
zq145 r5 r6 fun r7 r8 =>
k r7 r8
def zj183 (N : Nat) (a0 : Int) (a1 : Int) (k : Int → Int → O β) : O β := zb183 (zj103 N) (zj144 N) (zj145 N) N a0 a1 k
def zb184 (N : Nat) (a0 : Int) (a1 : Int) (k : Bool → O β) : O β :=
zq104 a0 a1 fun r3 =>
(cond r3
(zq183 a0 a1 fun r4 r5 =>
k (((r4 == a0) && (r5 == a1))))
(k false))
def zj184 (N : Nat) (a0 : Int) (a1 : Int) (k : Bool → O β) : O β := zb184 (zj104 N) (zj183 N) N a0 a1 k
def zb185 (N : Nat) (a0 : Int) (k : Int → O β) : O β :=
k ((w64 (1 - (w64 (2 * (bits .and .i64 a0 1))))))
def zj185 (N : Nat) (a0 : Int) (k : Int → O β) : O β := zb185 N a0 k
def zb186 (N : Nat) (v0 : Int) (v1 : Int) (v2 : Int) (v3 : Int) (v4 : Int) (v5 : Int) (v6 : Int) (v7 : List Int) (rec_ : Int → Int → Int → Int → Int → Int → Int → List Int → O β) (k0 : Int → Int → Int → Int → List Int → O β) : O β :=
(cond ((decide (v4 < v3)))
((gd ((decide (0 ≤ v0)))
((gd ((decide (v0 < (v7.length : Int))))
(zq106 v5 v6 v4 fun r5 =>
zq110 ((bits .and .i64 v0 v4)) fun r6 =>
zq185 ((w64 (r5 + r6))) fun r7 =>
(gd ((decide (0 ≤ v0)))
((gd ((decide (v0 < (v7.length : Int))))
(rec_ v0 v1 v2 v3 ((w64 (v4 + 1))) v5 v6 ((wr v7 v0 (w64 ((rd 0 v7 v0) + r7)))))))))))))
(k0 v1 v2 v5 v6 v7))
def zj186 (N : Nat) (v0 : Int) (v1 : Int) (v2 : Int) (v3 : Int) (v4 : Int) (v5 : Int) (v6 : Int) (v7 : List Int) (rec_ : Int → Int → Int → Int → Int → Int → Int → List Int → O β) (k0 : Int → Int → Int → Int → List Int → O β) : O β := zb186 (zj106 N) (zj110 N) (zj185 N) N v0 v1 v2 v3 v4 v5 v6 v7 rec_ k0
def zj187 (N : Nat) : Nat → Int → Int → Int → Int → Int → Int → Int → List Int → (Int → Int → Int → Int → List Int → O β) → O β
  | 0, _, _, _, _, _, _, _, _, _ => none
  | F + 1, v0, v1, v2, v3, v4, v5, v6, v7, k0 => zj186 N v0 v1 v2 v3 v4 v5 v6 v7 (fun v0 v1 v2 v3 v4 v5 v6 v7 => zj187 N F v0 v1 v2 v3 v4 v5 v6 v7 k0) k0
def zb188 (N : Nat) (v0 : Int) (v1 : Int) (v2 : Int) (v3 : Int) (v4 : List Int) (rec_ : Int → Int → Int → Int → List Int → O β) (k0 : List Int → O β) : O β :=
(cond ((decide (v1 < v0)))
(zq103 v2 v3 fun r4 =>
zq187 N v1 v0 v1 r4 0 v2 v3 v4 (fun e8_0 e8_1 e8_2 e8_3 e8_4 =>
rec_ e8_0 ((w64 (e8_1 + 1))) e8_2 e8_3 e8_4))
(k0 v4))
def zj188 (N : Nat) (v0 : Int) (v1 : Int) (v2 : Int) (v3 : Int) (v4 : List Int) (rec_ : Int → Int → Int → Int → List Int → O β) (k0 : List Int → O β) : O β := zb188 (zj103 N) (zj187 N) N v0 v1 v2 v3 v4 rec_ k0
def zj189 (N : Nat) : Nat → Int → Int → Int → Int → List Int → (List Int → O β) → O β
  | 0, _, _, _, _, _, _ => none
  | F + 1, v0, v1, v2, v3, v4, k0 => zj188 N v0 v1 v2 v3 v4 (fun v0 v1 v2 v3 v4 => zj189 N F v0 v1 v2 v3 v4 k0) k0
def zb190 (N : Nat) (a0 : Int) (a1 : Int) (k : List Int → O β) : O β :=
zq103 a0 a1 fun r3 =>
(gd ((decide (0 ≤ r3)))
((gd ((decide (r3 ≤ r3)))
((gd ((decide (8 * r3 ≤ 281474976710656)))
(zq189 N ((((List.replicate (Int.toNat r3) (0 : Int))).length : Int)) 0 a0 a1 ((List.replicate (Int.toNat r3) (0 : Int))) (fun e9_0 =>
k e9_0)))))))
def zj190 (N : Nat) (a0 : Int) (a1 : Int) (k : List Int → O β) : O β := zb190 (zj103 N) (zj189 N) N a0 a1 k
def zb191 (N : Nat) (a0 : Int) (k : Int → O β) : O β :=
k ((mxI a0 (w64 (0 - a0))))
def zj191 (N : Nat) (a0 : Int) (k : Int → O β) : O β := zb191 N a0 k
def zb192 (N : Nat) (a0 : Int) (c0 : List Int) (k : Bool → O β) : O β :=
(gd ((decide (0 < (c0.length : Int))))
(zq191 a0 fun r2 =>
zq191 ((rd 0 c0 0)) fun r3 =>
k ((r2 != r3))))
def zj192 (N : Nat) (a0 : Int) (c0 : List Int) (k : Bool → O β) : O β := zb192 (zj191 N) N a0 c0 k
def zb193 (N : Nat) (a1 : (Int → (Bool → O β) → O β)) (v0 : List Int) (v1 : Int) (v2 : Int) (rec_ : List Int → Int → Int → O β) (k0 : Int → O β) (k1 : O β) : O β :=
(cond ((decide (v2 < v1)))
((gd ((decide (0 ≤ v2)))
((gd ((decide (v2 < (v0.length : Int))))
(a1 ((rd 0 v0 v2)) fun r3 =>
(cond r3
(k0 v2)
(rec_ v0 v1 ((w64 (v2 + 1))))))))))
(k1 ))
def zj193 (N : Nat) (a1 : (Int → (Bool → O β) → O β)) (v0 : List Int) (v1 : Int) (v2 : Int) (rec_ : List Int → Int → Int → O β) (k0 : Int → O β) (k1 : O β) : O β := zb193 N a1 v0 v1 v2 rec_ k0 k1
def zj194 (N : Nat) (a1 : (Int → (Bool → O β) → O β)) : Nat → List Int → Int → Int → (Int → O β) → (O β) → O β
  | 0, _, _, _, _, _ => none
  | F + 1, v0, v1, v2, k0, k1 => zj193 N a1 v0 v1 v2 (fun v0 v1 v2 => zj194 N a1 F v0 v1 v2 k0 k1) k0 k1
def zb195 (N : Nat) (a0 : List Int) (a1 : (Int → (Bool → O β) → O β)) (k : Int → O β) : O β :=
zq194 a1 N a0 ((a0.length : Int)) 0 (fun e4_0 =>
k e4_0) (k (-1))
def zj195 (N : Nat) (a0 : List Int) (a1 : (Int → (Bool → O β) → O β)) (k : Int → O β) : O β := zb195 (zj194 N) N a0 a1 k
def zb196 (N : Nat) (a0 : List Int) (a1 : (Int → (Bool → O β) → O β)) (k : Bool → O β) : O β :=
zq195 a0 a1 fun r3 =>
k ((decide (r3 ≥ 0)))
def zj196 (N : Nat) (a0 : List Int) (a1 : (Int → (Bool → O β) → O β)) (k : Bool → O β) : O β := zb196 (zj195 N) N a0 a1 k
def zb197 (N : Nat) (a0 : Int) (a1 : Int) (k : Bool → O β) : O β :=
zq104 a0 a1 fun r3 =>
(cond (!r3)
(k false)
((cond ((a0 != 2))
((cond ((a0 != 4))
(k false)
(zq190 a0 a1 fun r4 =>
zq196 r4 (fun x0 k => zq192 x0 r4 k) fun r5 =>
k (!r5))))
(zq190 a0 a1 fun r6 =>
zq196 r6 (fun x0 k => zq192 x0 r6 k) fun r7 =>
k (!r7)))))
def zj197 (N : Nat) (a0 : Int) (a1 : Int) (k : Bool → O β) : O β := zb197 (zj104 N) (zj190 N) (zj192 N) (zj196 N) N a0 a1 k
def zb198 (N : Nat) (v0 : Int) (v1 : Int) (v2 : List Int) (v3 : Int) (v4 : Int) (rec_ : Int → Int → List Int → Int → Int → O β) (k0 : Int → O β) : O β :=
(cond ((decide (v4 < v3)))
((gd ((decide (0 ≤ v4)))
((gd ((decide (v4 < (v2.length : Int))))
((gd ((decide (0 ≤ v4)))
(rec_ v0 ((w64 (v1 + (w64 ((rd 0 v2 v4) * (bits .and .i64 (shrI .i64 v0 v4) 1)))))) v2 v3 ((w64 (v4 + 1))))))))))
(k0 v1))
def zj198 (N : Nat) (v0 : Int) (v1 : Int) (v2 : List Int) (v3 : Int) (v4 : Int) (rec_ : Int → Int → List Int → Int → Int → O β) (k0 : Int → O β) : O β := zb198 N v0 v1 v2 v3 v4 rec_ k0
def zj199 (N : Nat) : Nat → Int → Int → List Int → Int → Int → (Int → O β) → O β
  | 0, _, _, _, _, _, _ => none
  | F + 1, v0, v1, v2, v3, v4, k0 => zj198 N v0 v1 v2 v3 v4 (fun v0 v1 v2 v3 v4 => zj199 N F v0 v1 v2 v3 v4 k0) k0
def zb200 (N : Nat) (a0 : List Int) (a1 : Int) (k : Int → O β) : O β :=
zq199 N a1 0 a0 ((a0.length : Int)) 0 (fun e3_0 =>
k e3_0)
def zj200 (N : Nat) (a0 : List Int) (a1 : Int) (k : Int → O β) : O β := zb200 (zj199 N) N a0 a1 k
def zb201 (N : Nat) (v0 : List Int) (v1 : Int) (v2 : Int) (v3 : Bool) (v4 : Bool) (v5 : Int) (v6 : Int) (v7 : Int) (v8 : Int) (rec_ : List Int → Int → Int → Bool → Bool → Int → Int → Int → Int → O β) (k0 : Int → Int → Bool → Bool → O β) : O β :=
(cond ((decide (v6 < v5)))
(zq200 v0 v6 fun r6 =>
zq106 v7 v8 v6 fun r7 =>
(cond ((r7 == 1))
((cond (!v3)
(zq106 v7 v8 v6 fun r8 =>
(cond ((r8 == 0))
((cond v4
(rec_ v0 r6 r6 true false v5 ((w64 (v6 + 1))) v7 v8)
((cond ((decide (r6 > v2)))
(rec_ v0 r6 r6 true false v5 ((w64 (v6 + 1))) v7 v8)
(rec_ v0 r6 v2 true v4 v5 ((w64 (v6 + 1))) v7 v8)))))
(rec_ v0 r6 v2 true v4 v5 ((w64 (v6 + 1))) v7 v8)))
((cond ((decide (r6 < v1)))
(zq106 v7 v8 v6 fun r9 =>
(cond ((r9 == 0))
((cond v4
(rec_ v0 r6 r6 true false v5 ((w64 (v6 + 1))) v7 v8)
((cond ((decide (r6 > v2)))
(rec_ v0 r6 r6 true false v5 ((w64 (v6 + 1))) v7 v8)
(rec_ v0 r6 v2 true v4 v5 ((w64 (v6 + 1))) v7 v8)))))
(rec_ v0 r6 v2 true v4 v5 ((w64 (v6 + 1))) v7 v8)))
(zq106 v7 v8 v6 fun r10 =>
(cond ((r10 == 0))
((cond v4
(rec_ v0 v1 r6 v3 false v5 ((w64 (v6 + 1))) v7 v8)
((cond ((decide (r6 > v2)))
(rec_ v0 v1 r6 v3 false v5 ((w64 (v6 + 1))) v7 v8)
(rec_ v0 v1 v2 v3 v4 v5 ((w64 (v6 + 1))) v7 v8)))))
(rec_ v0 v1 v2 v3 v4 v5 ((w64 (v6 + 1))) v7 v8)))))))
(zq106 v7 v8 v6 fun r11 =>
(cond ((r11 == 0))
((cond v4
(rec_ v0 v1 r6 v3 false v5 ((w64 (v6 + 1))) v7 v8)
((cond ((decide (r6 > v2)))
(rec_ v0 v1 r6 v3 false v5 ((w64 (v6 + 1))) v7 v8)
(rec_ v0 v1 v2 v3 v4 v5 ((w64 (v6 + 1))) v7 v8)))))
(rec_ v0 v1 v2 v3 v4 v5 ((w64 (v6 + 1))) v7 v8)))))
(k0 v1 v2 v3 v4))
def zj201 (N : Nat) (v0 : List Int) (v1 : Int) (v2 : Int) (v3 : Bool) (v4 : Bool) (v5 : Int) (v6 : Int) (v7 : Int) (v8 : Int) (rec_ : List Int → Int → Int → Bool → Bool → Int → Int → Int → Int → O β) (k0 : Int → Int → Bool → Bool → O β) : O β := zb201 (zj106 N) (zj200 N) N v0 v1 v2 v3 v4 v5 v6 v7 v8 rec_ k0
def zj202 (N : Nat) : Nat → List Int → Int → Int → Bool → Bool → Int → Int → Int → Int → (Int → Int → Bool → Bool → O β) → O β
  | 0, _, _, _, _, _, _, _, _, _, _ => none
  | F + 1, v0, v1, v2, v3, v4, v5, v6, v7, v8, k0 => zj201 N v0 v1 v2 v3 v4 v5 v6 v7 v8 (fun v0 v1 v2 v3 v4 v5 v6 v7 v8 => zj202 N F v0 v1 v2 v3 v4 v5 v6 v7 v8 k0) k0
def zb203 (N : Nat) (a0 : Int) (a1 : Int) (a2 : List Int) (k : Int → Bool → O β) : O β :=
zq103 a0 a1 fun r5 =>
zq202 N a2 0 0 false true r5 0 a0 a1 (fun e12_0 e12_1 e12_2 e12_3 =>
(cond (!e12_2)
(k ((w64 (e12_1 + 1))) true)
((cond e12_3
(k e12_0 true)
(k e12_0 ((decide (e12_1 < e12_0))))))))
def zj203 (N : Nat) (a0 : Int) (a1 : Int) (a2 : List Int) (k : Int → Bool → O β) : O β := zb203 (zj103 N) (zj202 N) N a0 a1 a2 k
def zb204 (N : Nat) (v0 : Int) (v1 : List Int) (v2 : Int) (v3 : Int) (rec_ : Int → List Int → Int → Int → O β) (k0 : Int → O β) : O β :=
(cond ((decide (v3 < v2)))
((gd ((decide (0 ≤ v3)))
((gd ((decide (v3 < (v1.length : Int))))
(zq191 ((rd 0 v1 v3)) fun r2 =>
rec_ ((w64 (v0 + r2))) v1 v2 ((w64 (v3 + 1))))))))
(k0 v0))
def zj204 (N : Nat) (v0 : Int) (v1 : List Int) (v2 : Int) (v3 : Int) (rec_ : Int → List Int → Int → Int → O β) (k0 : Int → O β) : O β := zb204 (zj191 N) N v0 v1 v2 v3 rec_ k0
def zj205 (N : Nat) : Nat → Int → List Int → Int → Int → (Int → O β) → O β
  | 0, _, _, _, _, _ => none
  | F + 1, v0, v1, v2, v3, k0 => zj204 N v0 v1 v2 v3 (fun v0 v1 v2 v3 => zj205 N F v0 v1 v2 v3 k0) k0
def zb206 (N : Nat) (a0 : List Int) (k : Int → O β) : O β :=
zq205 N 0 a0 ((a0.length : Int)) 0 (fun e3_0 =>
k e3_0)
def zj206 (N : Nat) (a0 : List Int) (k : Int → O β) : O β := zb206 (zj205 N) N a0 k
def zb207 (N : Nat) (v0 : Int) (v1 : Bool) (v2 : Int) (v3 : Int) (v4 : Int) (v5 : List Int) (v6 : List Int) (rec_ : Int → Bool → Int → Int → Int → List Int → List Int → O β) (k0 : Int → Bool → Int → Int → Int → List Int → List Int → O β) : O β :=
(cond ((decide (v2 ≥ 0)))
((gd ((decide (0 ≤ v2)))
((gd ((decide (v2 < (v5.length : Int))))
((cond (((rd 0 v5 v2) == 3))
((gd ((decide (0 ≤ v2)))
((gd ((decide (v2 < (v5.length : Int))))
(rec_ v0 v1 ((w64 (v2 - 1))) v3 v4 ((wr v5 v2 (-3))) v6)))))
(k0 v0 v1 v2 v3 v4 v5 v6)))))))
(k0 v0 v1 v2 v3 v4 v5 v6))
def zj207 (N : Nat) (v0 : Int) (v1 : Bool) (v2 : Int) (v3 : Int) (v4 : Int) (v5 : List Int) (v6 : List Int) (rec_ : Int → Bool → Int → Int → Int → List Int → List Int → O β) (k0 : Int → Bool → Int → Int → Int → List Int → List Int → O β) : O β := zb207 N v0 v1 v2 v3 v4 v5 v6 rec_ k0
def zj208 (N : Nat) : Nat → Int → Bool → Int → Int → Int → List Int → List Int → (Int → Bool → Int → Int → Int → List Int → List Int → O β) → O β
  | 0, _, _, _, _, _, _, _, _ => none
  | F + 1, v0, v1, v2, v3, v4, v5, v6, k0 => zj207 N v0 v1 v2 v3 v4 v5 v6 (fun v0 v1 v2 v3 v4 v5 v6 => zj208 N F v0 v1 v2 v3 v4 v5 v6 k0) k0
def zb209 (N : Nat) (v0 : Int) (v1 : Bool) (v2 : Int) (v3 : Int) (v4 : List Int) (v5 : List Int) (rec_ : Int → Bool → Int → Int → List Int → List Int → O β) (k0 : Int → Bool → List Int → O β) : O β :=
zq203 v2 v3 v4 fun r7 r8 =>
(cond r8
((cond (!v1)
(slices_Clone_Sint_int N v4 fun r9 =>
zq208 N r7 true ((w64 (v2 - 1))) v2 v3 v4 r9 (fun e10_0 e10_1 e10_2 e10_3 e10_4 e10_5 e10_6 =>
(cond ((decide (e10_2 < 0)))
(k0 e10_0 e10_1 e10_6)
((gd ((decide (0 ≤ e10_2)))
((gd ((decide (e10_2 < (e10_5.length : Int))))
((gd ((decide (0 ≤ e10_2)))
((gd ((decide (e10_2 < (e10_5.length : Int))))
(rec_ e10_0 e10_1 e10_3 e10_4 ((wr e10_5 e10_2 (w64 ((rd 0 e10_5 e10_2) + 1)))) e10_6))))))))))))
(zq206 v4 fun r11 =>
zq206 v5 fun r12 =>
(cond ((decide (r11 < r12)))
(slices_Clone_Sint_int N v4 fun r13 =>
zq208 N r7 true ((w64 (v2 - 1))) v2 v3 v4 r13 (fun e14_0 e14_1 e14_2 e14_3 e14_4 e14_5 e14_6 =>
(cond ((decide (e14_2 < 0)))
(k0 e14_0 e14_1 e14_6)
((gd ((decide (0 ≤ e14_2)))
((gd ((decide (e14_2 < (e14_5.length : Int))))
((gd ((decide (0 ≤ e14_2)))
((gd ((decide (e14_2 < (e14_5.length : Int))))
(rec_ e14_0 e14_1 e14_3 e14_4 ((wr e14_5 e14_2 (w64 ((rd 0 e14_5 e14_2) + 1)))) e14_6))))))))))))
(zq208 N v0 v1 ((w64 (v2 - 1))) v2 v3 v4 v5 (fun e15_0 e15_1 e15_2 e15_3 e15_4 e15_5 e15_6 =>
(cond ((decide (e15_2 < 0)))
(k0 e15_0 e15_1 e15_6)
((gd ((decide (0 ≤ e15_2)))
((gd ((decide (e15_2 < (e15_5.length : Int))))
((gd ((decide (0 ≤ e15_2)))
((gd ((decide (e15_2 < (e15_5.length : Int))))
(rec_ e15_0 e15_1 e15_3 e15_4 ((wr e15_5 e15_2 (w64 ((rd 0 e15_5 e15_2) + 1)))) e15_6))))))))))))))))
(zq208 N v0 v1 ((w64 (v2 - 1))) v2 v3 v4 v5 (fun e16_0 e16_1 e16_2 e16_3 e16_4 e16_5 e16_6 =>
(cond ((decide (e16_2 < 0)))
(k0 e16_0 e16_1 e16_6)
((gd ((decide (0 ≤ e16_2)))
((gd ((decide (e16_2 < (e16_5.length : Int))))
((gd ((decide (0 ≤ e16_2)))
((gd ((decide (e16_2 < (e16_5.length : Int))))
(rec_ e16_0 e16_1 e16_3 e16_4 ((wr e16_5 e16_2 (w64 ((rd 0 e16_5 e16_2) + 1)))) e16_6)))))))))))))
def zj209 (N : Nat) (v0 : Int) (v1 : Bool) (v2 : Int) (v3 : Int) (v4 : List Int) (v5 : List Int) (rec_ : Int → Bool → Int → Int → List Int → List Int → O β) (k0 : Int → Bool → List Int → O β) : O β := zb209 (zj203 N) (zj206 N) (zj208 N) N v0 v1 v2 v3 v4 v5 rec_ k0
def zj210 (N : Nat) : Nat → Int → Bool → Int → Int → List Int → List Int → (Int → Bool → List Int → O β) → O β
  | 0, _, _, _, _, _, _, _ => none
  | F + 1, v0, v1, v2, v3, v4, v5, k0 => zj209 N v0 v1 v2 v3 v4 v5 (fun v0 v1 v2 v3 v4 v5 => zj210 N F v0 v1 v2 v3 v4 v5 k0) k0
def zb211 (N : Nat) (a0 : Int) (a1 : Int) (k : List Int → Int → Bool → O β) : O β :=
zq131 a0 a1 4 fun r5 =>
(cond (!r5)
(k (([] : List Int)) 0 false)
(slices_Repeat_Sint_int N ((([] : List Int) ++ [(-3)])) a0 fun r6 =>
zq210 N 0 false a0 a1 r6 (([] : List Int)) (fun e17_0 e17_1 e17_2 =>
k e17_2 e17_0 e17_1)))
def zj211 (N : Nat) (a0 : Int) (a1 : Int) (k : List Int → Int → Bool → O β) : O β := zb211 (zj131 N) (zj210 N) N a0 a1 k
def zb212 (N : Nat) (a0 : Int) (a1 : Int) (k : Bool → O β) : O β :=
zq211 a0 a1 fun r3 r4 r5 =>
k r5
def zj212 (N : Nat) (a0 : Int) (a1 : Int) (k : Bool → O β) : O β := zb212 (zj211 N) N a0 a1 k
def zb213 (N : Nat) (a0 : List ByteArray) (a1 : List ByteArray) (k0 : List ByteArray → List ByteArray → O β) : O β :=
(gd ((decide ((a1.length + a0.length) * 16 ≤ 140737488355328)))
(k0 a0 ((a1 ++ a0))))
def zj213 (N : Nat) (a0 : List ByteArray) (a1 : List ByteArray) (k0 : List ByteArray → List ByteArray → O β) : O β := zb213 N a0 a1 k0
def zb214 (N : Nat) (a0 : Bool) (a1 : ByteArray) (a2 : List ByteArray) (k0 : List ByteArray → O β) (k1 : List ByteArray → O β) : O β :=
(cond a0
(zq213 ((([] : List ByteArray) ++ [a1])) a2 (fun r22_0 r22_1 =>
k0 r22_1))
(k1 a2))
def zj214 (N : Nat) (a0 : Bool) (a1 : ByteArray) (a2 : List ByteArray) (k0 : List ByteArray → O β) (k1 : List ByteArray → O β) : O β := zb214 (zj213 N) N a0 a1 a2 k0 k1
def zb215 (N : Nat) (a0 : List ByteArray) (k0 : ByteArray → List ByteArray → O β) : O β :=
strings_Join N a0 ((strOf [32])) fun r36 =>
k0 r36 a0
def zj215 (N : Nat) (a0 : List ByteArray) (k0 : ByteArray → List ByteArray → O β) : O β := zb215 N a0 k0
def zb216 (N : Nat) (a0 : Int) (a1 : Int) (k : ByteArray → O β) : O β :=
zq104 a0 a1 fun r3 =>
(cond (!r3)
(k ByteArray.empty)
(zq119 a0 a1 fun r4 r5 r6 =>
zq122 a0 a1 fun r7 =>
zq123 a0 a1 fun r8 =>
zq124 r8 fun r9 =>
zq127 a0 a1 fun r10 =>
zq130 r10 fun r11 =>
zq122 r4 r5 fun r12 =>
zq213 (((((((((([] : List ByteArray) ++ [(strOf [116, 97, 98, 108, 101])]) ++ [r7]) ++ [(strOf [111, 110, 101, 115])]) ++ [r9]) ++ [(strOf [118, 97, 114, 105, 97, 98, 108, 101, 115])]) ++ [r11]) ++ [(strOf [114, 101, 100, 117, 99, 101, 100])]) ++ [r12])) (([] : List ByteArray)) (fun r13_0 r13_1 =>
zq131 a0 a1 4 fun r14 =>
(cond r14
(zq158 a0 a1 fun r15 r16 =>
zq122 r15 r16 fun r17 =>
zq159 a0 a1 fun r18 =>
zq124 r18 fun r19 =>
zq213 (((((([] : List ByteArray) ++ [(strOf [99, 97, 110, 111, 110, 105, 99, 97, 108])]) ++ [r17]) ++ [(strOf [99, 108, 97, 115, 115])]) ++ [r19])) r13_1 (fun r20_0 r20_1 =>
zq163 a0 a1 fun r21 =>
zq214 r21 ((strOf [109, 111, 110, 111, 116, 111, 110, 101])) r20_1 (fun r22_0 =>
zq169 a0 a1 fun r23 =>
zq214 r23 ((strOf [117, 110, 97, 116, 101])) r22_0 (fun r24_0 =>
zq175 a0 a1 fun r25 =>
zq214 r25 ((strOf [115, 121, 109, 109, 101, 116, 114, 105, 99])) r24_0 (fun r26_0 =>
zq182 a0 a1 fun r27 =>
zq214 r27 ((strOf [97, 102, 102, 105, 110, 101])) r26_0 (fun r28_0 =>
zq184 a0 a1 fun r29 =>
zq214 r29 ((strOf [115, 101, 108, 102, 100, 117, 97, 108])) r28_0 (fun r30_0 =>
zq197 a0 a1 fun r31 =>
zq214 r31 ((strOf [98, 101, 110, 116])) r30_0 (fun r32_0 =>
zq212 a0 a1 fun r33 =>
zq214 r33 ((strOf [116, 104, 114, 101, 115, 104, 111, 108, 100])) r32_0 (fun r34_0 =>
zq215 r34_0 (fun r35_0 r35_1 =>
k r35_0)) (fun r36_0 =>
zq215 r36_0 (fun r37_0 r37_1 =>
k r37_0))) (fun r38_0 =>
zq212 a0 a1 fun r39 =>
zq214 r39 ((strOf [116, 104, 114, 101, 115, 104, 111, 108, 100])) r38_0 (fun r40_0 =>
zq215 r40_0 (fun r41_0 r41_1 =>
k r41_0)) (fun r42_0 =>
zq215 r42_0 (fun r43_0 r43_1 =>
k r43_0)))) (fun r44_0 =>
zq197 a0 a1 fun r45 =>
zq214 r45 ((strOf [98, 101, 110, 116])) r44_0 (fun r46_0 =>
zq212 a0 a1 fun r47 =>
zq214 r47 ((strOf [116, 104, 114, 101, 115, 104, 111, 108, 100])) r46_0 (fun r48_0 =>
zq215 r48_0 (fun r49_0 r49_1 =>
k r49_0)) (fun r50_0 =>
zq215 r50_0 (fun r51_0 r51_1 =>
k r51_0))) (fun r52_0 =>
zq212 a0 a1 fun r53 =>
zq214 r53 ((strOf [116, 104, 114, 101, 115, 104, 111, 108, 100])) r52_0 (fun r54_0 =>
zq215 r54_0 (fun r55_0 r55_1 =>
k r55_0)) (fun r56_0 =>
zq215 r56_0 (fun r57_0 r57_1 =>
k r57_0))))) (fun r58_0 =>
zq184 a0 a1 fun r59 =>
zq214 r59 ((strOf [115, 101, 108, 102, 100, 117, 97, 108])) r58_0 (fun r60_0 =>
zq197 a0 a1 fun r61 =>
zq214 r61 ((strOf [98, 101, 110, 116])) r60_0 (fun r62_0 =>
zq212 a0 a1 fun r63 =>
zq214 r63 ((strOf [116, 104, 114, 101, 115, 104, 111, 108, 100])) r62_0 (fun r64_0 =>
zq215 r64_0 (fun r65_0 r65_1 =>
k r65_0)) (fun r66_0 =>
zq215 r66_0 (fun r67_0 r67_1 =>
k r67_0))) (fun r68_0 =>
zq212 a0 a1 fun r69 =>
zq214 r69 ((strOf [116, 104, 114, 101, 115, 104, 111, 108, 100])) r68_0 (fun r70_0 =>
zq215 r70_0 (fun r71_0 r71_1 =>
k r71_0)) (fun r72_0 =>
zq215 r72_0 (fun r73_0 r73_1 =>
k r73_0)))) (fun r74_0 =>
zq197 a0 a1 fun r75 =>
zq214 r75 ((strOf [98, 101, 110, 116])) r74_0 (fun r76_0 =>
zq212 a0 a1 fun r77 =>
zq214 r77 ((strOf [116, 104, 114, 101, 115, 104, 111, 108, 100])) r76_0 (fun r78_0 =>
zq215 r78_0 (fun r79_0 r79_1 =>
k r79_0)) (fun r80_0 =>
zq215 r80_0 (fun r81_0 r81_1 =>
k r81_0))) (fun r82_0 =>
zq212 a0 a1 fun r83 =>
zq214 r83 ((strOf [116, 104, 114, 101, 115, 104, 111, 108, 100])) r82_0 (fun r84_0 =>
zq215 r84_0 (fun r85_0 r85_1 =>
k r85_0)) (fun r86_0 =>
zq215 r86_0 (fun r87_0 r87_1 =>
k r87_0)))))) (fun r88_0 =>
zq182 a0 a1 fun r89 =>
zq214 r89 ((strOf [97, 102, 102, 105, 110, 101])) r88_0 (fun r90_0 =>
zq184 a0 a1 fun r91 =>
zq214 r91 ((strOf [115, 101, 108, 102, 100, 117, 97, 108])) r90_0 (fun r92_0 =>
zq197 a0 a1 fun r93 =>
zq214 r93 ((strOf [98, 101, 110, 116])) r92_0 (fun r94_0 =>
zq212 a0 a1 fun r95 =>
zq214 r95 ((strOf [116, 104, 114, 101, 115, 104, 111, 108, 100])) r94_0 (fun r96_0 =>
zq215 r96_0 (fun r97_0 r97_1 =>
k r97_0)) (fun r98_0 =>
zq215 r98_0 (fun r99_0 r99_1 =>
k r99_0))) (fun r100_0 =>
zq212 a0 a1 fun r101 =>
zq214 r101 ((strOf [116, 104, 114, 101, 115, 104, 111, 108, 100])) r100_0 (fun r102_0 =>
zq215 r102_0 (fun r103_0 r103_1 =>
k r103_0)) (fun r104_0 =>
zq215 r104_0 (fun r105_0 r105_1 =>
k r105_0)))) (fun r106_0 =>
zq197 a0 a1 fun r107 =>
zq214 r107 ((strOf [98, 101, 110, 116])) r106_0 (fun r108_0 =>
zq212 a0 a1 fun r109 =>
zq214 r109 ((strOf [116, 104, 114, 101, 115, 104, 111, 108, 100])) r108_0 (fun r110_0 =>
zq215 r110_0 (fun r111_0 r111_1 =>
k r111_0)) (fun r112_0 =>
zq215 r112_0 (fun r113_0 r113_1 =>
k r113_0))) (fun r114_0 =>
zq212 a0 a1 fun r115 =>
zq214 r115 ((strOf [116, 104, 114, 101, 115, 104, 111, 108, 100])) r114_0 (fun r116_0 =>
zq215 r116_0 (fun r117_0 r117_1 =>
k r117_0)) (fun r118_0 =>
zq215 r118_0 (fun r119_0 r119_1 =>
k r119_0))))) (fun r120_0 =>
zq184 a0 a1 fun r121 =>
zq214 r121 ((strOf [115, 101, 108, 102, 100, 117, 97, 108])) r120_0 (fun r122_0 =>
zq197 a0 a1 fun r123 =>
zq214 r123 ((strOf [98, 101, 110, 116])) r122_0 (fun r124_0 =>
zq212 a0 a1 fun r125 =>
zq214 r125 ((strOf [116, 104, 114, 101, 115, 104, 111, 108, 100])) r124_0 (fun r126_0 =>
zq215 r126_0 (fun r127_0 r127_1 =>
k r127_0)) (fun r128_0 =>
zq215 r128_0 (fun r129_0 r129_1 =>
k r129_0))) (fun r130_0 =>
zq212 a0 a1 fun r131 =>
zq214 r131 ((strOf [116, 104, 114, 101, 115, 104, 111, 108, 100])) r130_0 (fun r132_0 =>
zq215 r132_0 (fun r133_0 r133_1 =>
k r133_0)) (fun r134_0 =>
zq215 r134_0 (fun r135_0 r135_1 =>
k r135_0)))) (fun r136_0 =>
zq197 a0 a1 fun r137 =>
zq214 r137 ((strOf [98, 101, 110, 116])) r136_0 (fun r138_0 =>
zq212 a0 a1 fun r139 =>
zq214 r139 ((strOf [116, 104, 114, 101, 115, 104, 111, 108, 100])) r138_0 (fun r140_0 =>
zq215 r140_0 (fun r141_0 r141_1 =>
k r141_0)) (fun r142_0 =>
zq215 r142_0 (fun r143_0 r143_1 =>
k r143_0))) (fun r144_0 =>
zq212 a0 a1 fun r145 =>
zq214 r145 ((strOf [116, 104, 114, 101, 115, 104, 111, 108, 100])) r144_0 (fun r146_0 =>
zq215 r146_0 (fun r147_0 r147_1 =>
k r147_0)) (fun r148_0 =>
zq215 r148_0 (fun r149_0 r149_1 =>
k r149_0))))))) (fun r150_0 =>
zq175 a0 a1 fun r151 =>
zq214 r151 ((strOf [115, 121, 109, 109, 101, 116, 114, 105, 99])) r150_0 (fun r152_0 =>
zq182 a0 a1 fun r153 =>
zq214 r153 ((strOf [97, 102, 102, 105, 110, 101])) r152_0 (fun r154_0 =>
zq184 a0 a1 fun r155 =>
zq214 r155 ((strOf [115, 101, 108, 102, 100, 117, 97, 108])) r154_0 (fun r156_0 =>
zq197 a0 a1 fun r157 =>
zq214 r157 ((strOf [98, 101, 110, 116])) r156_0 (fun r158_0 =>
zq212 a0 a1 fun r159 =>
zq214 r159 ((strOf [116, 104, 114, 101, 115, 104, 111, 108, 100])) r158_0 (fun r160_0 =>
zq215 r160_0 (fun r161_0 r161_1 =>
k r161_0)) (fun r162_0 =>
zq215 r162_0 (fun r163_0 r163_1 =>
k r163_0))) (fun r164_0 =>
zq212 a0 a1 fun r165 =>
zq214 r165 ((strOf [116, 104, 114, 101, 115, 104, 111, 108, 100])) r164_0 (fun r166_0 =>
zq215 r166_0 (fun r167_0 r167_1 =>
k r167_0)) (fun r168_0 =>
zq215 r168_0 (fun r169_0 r169_1 =>
k r169_0)))) (fun r170_0 =>
zq197 a0 a1 fun r171 =>
zq214 r171 ((strOf [98, 101, 110, 116])) r170_0 (fun r172_0 =>
zq212 a0 a1 fun r173 =>
zq214 r173 ((strOf [116, 104, 114, 101, 115, 104, 111, 108, 100])) r172_0 (fun r174_0 =>
zq215 r174_0 (fun r175_0 r175_1 =>
k r175_0)) (fun r176_0 =>
zq215 r176_0 (fun r177_0 r177_1 =>
k r177_0))) (fun r178_0 =>
zq212 a0 a1 fun r179 =>
zq214 r179 ((strOf [116, 104, 114, 101, 115, 104, 111, 108, 100])) r178_0 (fun r180_0 =>
zq215 r180_0 (fun r181_0 r181_1 =>
k r181_0)) (fun r182_0 =>
zq215 r182_0 (fun r183_0 r183_1 =>
k r183_0))))) (fun r184_0 =>
zq184 a0 a1 fun r185 =>
zq214 r185 ((strOf [115, 101, 108, 102, 100, 117, 97, 108])) r184_0 (fun r186_0 =>
zq197 a0 a1 fun r187 =>
zq214 r187 ((strOf [98, 101, 110, 116])) r186_0 (fun r188_0 =>
zq212 a0 a1 fun r189 =>
zq214 r189 ((strOf [116, 104, 114, 101, 115, 104, 111, 108, 100])) r188_0 (fun r190_0 =>
zq215 r190_0 (fun r191_0 r191_1 =>
k r191_0)) (fun r192_0 =>
zq215 r192_0 (fun r193_0 r193_1 =>
k r193_0))) (fun r194_0 =>
zq212 a0 a1 fun r195 =>
zq214 r195 ((strOf [116, 104, 114, 101, 115, 104, 111, 108, 100])) r194_0 (fun r196_0 =>
zq215 r196_0 (fun r197_0 r197_1 =>
k r197_0)) (fun r198_0 =>
zq215 r198_0 (fun r199_0 r199_1 =>
k r199_0)))) (fun r200_0 =>
zq197 a0 a1 fun r201 =>
zq214 r201 ((strOf [98, 101, 110, 116])) r200_0 (fun r202_0 =>
zq212 a0 a1 fun r203 =>
zq214 r203 ((strOf [116, 104, 114, 101, 115, 104, 111, 108, 100])) r202_0 (fun r204_0 =>
zq215 r204_0 (fun r205_0 r205_1 =>
k r205_0)) (fun r206_0 =>
zq215 r206_0 (fun r207_0 r207_1 =>
k r207_0))) (fun r208_0 =>
zq212 a0 a1 fun r209 =>
zq214 r209 ((strOf [116, 104, 114, 101, 115, 104, 111, 108, 100])) r208_0 (fun r210_0 =>
zq215 r210_0 (fun r211_0 r211_1 =>
k r211_0)) (fun r212_0 =>
zq215 r212_0 (fun r213_0 r213_1 =>
k r213_0)))))) (fun r214_0 =>
zq182 a0 a1 fun r215 =>
zq214 r215 ((strOf [97, 102, 102, 105, 110, 101])) r214_0 (fun r216_0 =>
zq184 a0 a1 fun r217 =>
zq214 r217 ((strOf [115, 101, 108, 102, 100, 117, 97, 108])) r216_0 (fun r218_0 =>
zq197 a0 a1 fun r219 =>
zq214 r219 ((strOf [98, 101, 110, 116])) r218_0 (fun r220_0 =>
zq212 a0 a1 fun r221 =>
zq214 r221 ((strOf [116, 104, 114, 101, 115, 104, 111, 108, 100])) r220_0 (fun r222_0 =>
zq215 r222_0 (fun r223_0 r223_1 =>
k r223_0)) (fun r224_0 =>
zq215 r224_0 (fun r225_0 r225_1 =>
k r225_0))) (fun r226_0 =>
zq212 a0 a1 fun r227 =>
zq214 r227 ((strOf [116, 104, 114, 101, 115, 104, 111, 108, 100])) r226_0 (fun r228_0 =>
zq215 r228_0 (fun r229_0 r229_1 =>
k r229_0)) (fun r230_0 =>
zq215 r230_0 (fun r231_0 r231_1 =>
k r231_0)))) (fun r232_0 =>
zq197 a0 a1 fun r233 =>
zq214 r233 ((strOf [98, 101, 110, 116])) r232_0 (fun r234_0 =>
zq212 a0 a1 fun r235 =>
zq214 r235 ((strOf [116, 104, 114, 101, 115, 104, 111, 108, 100])) r234_0 (fun r236_0 =>
zq215 r236_0 (fun r237_0 r237_1 =>
k r237_0)) (fun r238_0 =>
zq215 r238_0 (fun r239_0 r239_1 =>
k r239_0))) (fun r240_0 =>
zq212 a0 a1 fun r241 =>
zq214 r241 ((strOf [116, 104, 114, 101, 115, 104, 111, 108, 100])) r240_0 (fun r242_0 =>
zq215 r242_0 (fun r243_0 r243_1 =>
k r243_0)) (fun r244_0 =>
zq215 r244_0 (fun r245_0 r245_1 =>
k r245_0))))) (fun r246_0 =>
zq184 a0 a1 fun r247 =>
zq214 r247 ((strOf [115, 101, 108, 102, 100, 117, 97, 108])) r246_0 (fun r248_0 =>
zq197 a0 a1 fun r249 =>
zq214 r249 ((strOf [98, 101, 110, 116])) r248_0 (fun r250_0 =>
zq212 a0 a1 fun r251 =>
zq214 r251 ((strOf [116, 104, 114, 101, 115, 104, 111, 108, 100])) r250_0 (fun r252_0 =>
zq215 r252_0 (fun r253_0 r253_1 =>
k r253_0)) (fun r254_0 =>
zq215 r254_0 (fun r255_0 r255_1 =>
k r255_0))) (fun r256_0 =>
zq212 a0 a1 fun r257 =>
zq214 r257 ((strOf [116, 104, 114, 101, 115, 104, 111, 108, 100])) r256_0 (fun r258_0 =>
zq215 r258_0 (fun r259_0 r259_1 =>
k r259_0)) (fun r260_0 =>
zq215 r260_0 (fun r261_0 r261_1 =>
k r261_0)))) (fun r262_0 =>
zq197 a0 a1 fun r263 =>
zq214 r263 ((strOf [98, 101, 110, 116])) r262_0 (fun r264_0 =>
zq212 a0 a1 fun r265 =>
zq214 r265 ((strOf [116, 104, 114, 101, 115, 104, 111, 108, 100])) r264_0 (fun r266_0 =>
zq215 r266_0 (fun r267_0 r267_1 =>
k r267_0)) (fun r268_0 =>
zq215 r268_0 (fun r269_0 r269_1 =>
k r269_0))) (fun r270_0 =>
zq212 a0 a1 fun r271 =>
zq214 r271 ((strOf [116, 104, 114, 101, 115, 104, 111, 108, 100])) r270_0 (fun r272_0 =>
zq215 r272_0 (fun r273_0 r273_1 =>
k r273_0)) (fun r274_0 =>
zq215 r274_0 (fun r275_0 r275_1 =>
k r275_0)))))))) (fun r276_0 =>
zq169 a0 a1 fun r277 =>
zq214 r277 ((strOf [117, 110, 97, 116, 101])) r276_0 (fun r278_0 =>
zq175 a0 a1 fun r279 =>
zq214 r279 ((strOf [115, 121, 109, 109, 101, 116, 114, 105, 99])) r278_0 (fun r280_0 =>
zq182 a0 a1 fun r281 =>
zq214 r281 ((strOf [97, 102, 102, 105, 110, 101])) r280_0 (fun r282_0 =>
zq184 a0 a1 fun r283 =>
zq214 r283 ((strOf [115, 101, 108, 102, 100, 117, 97, 108])) r282_0 (fun r284_0 =>
zq197 a0 a1 fun r285 =>
zq214 r285 ((strOf [98, 101, 110, 116])) r284_0 (fun r286_0 =>
zq212 a0 a1 fun r287 =>
zq214 r287 ((strOf [116, 104, 114, 101, 115, 104, 111, 108, 100])) r286_0 (fun r288_0 =>
zq215 r288_0 (fun r289_0 r289_1 =>
k r289_0)) (fun r290_0 =>
zq215 r290_0 (fun r291_0 r291_1 =>
k r291_0))) (fun r292_0 =>
zq212 a0 a1 fun r293 =>
zq214 r293 ((strOf [116, 104, 114, 101, 115, 104, 111, 108, 100])) r292_0 (fun r294_0 =>
zq215 r294_0 (fun r295_0 r295_1 =>
k r295_0)) (fun r296_0 =>
zq215 r296_0 (fun r297_0 r297_1 =>
k r297_0)))) (fun r298_0 =>
zq197 a0 a1 fun r299 =>
zq214 r299 ((strOf [98, 101, 110, 116])) r298_0 (fun r300_0 =>
zq212 a0 a1 fun r301 =>
zq214 r301 ((strOf [116, 104, 114, 101, 115, 104, 111, 108, 100])) r300_0 (fun r302_0 =>
zq215 r302_0 (fun r303_0 r303_1 =>
k r303_0)) (fun r304_0 =>
zq215 r304_0 (fun r305_0 r305_1 =>
k r305_0))) (fun r306_0 =>
zq212 a0 a1 fun r307 =>
zq214 r307 ((strOf [116, 104, 114, 101, 115, 104, 111, 108, 100])) r306_0 (fun r308_0 =>
zq215 r308_0 (fun r309_0 r309_1 =>
k r309_0)) (fun r310_0 =>
zq215 r310_0 (fun r311_0 r311_1 =>
k r311_0))))) (fun r312_0 =>
zq184 a0 a1 fun r313 =>
zq214 r313 ((strOf [115, 101, 108, 102, 100, 117, 97, 108])) r312_0 (fun r314_0 =>
zq197 a0 a1 fun r315 =>
zq214 r315 ((strOf [98, 101, 110, 116])) r314_0 (fun r316_0 =>
zq212 a0 a1 fun r317 =>
zq214 r317 ((strOf [116, 104, 114, 101, 115, 104, 111, 108, 100])) r316_0 (fun r318_0 =>
zq215 r318_0 (fun r319_0 r319_1 =>
k r319_0)) (fun r320_0 =>
zq215 r320_0 (fun r321_0 r321_1 =>
k r321_0))) (fun r322_0 =>
zq212 a0 a1 fun r323 =>
zq214 r323 ((strOf [116, 104, 114, 101, 115, 104, 111, 108, 100])) r322_0 (fun r324_0 =>
zq215 r324_0 (fun r325_0 r325_1 =>
k r325_0)) (fun r326_0 =>
zq215 r326_0 (fun r327_0 r327_1 =>
k r327_0)))) (fun r328_0 =>
zq197 a0 a1 fun r329 =>
zq214 r329 ((strOf [98, 101, 110, 116])) r328_0 (fun r330_0 =>
zq212 a0 a1 fun r331 =>
zq214 r331 ((strOf [116, 104, 114, 101, 115, 104, 111, 108, 100])) r330_0 (fun r332_0 =>
zq215 r332_0 (fun r333_0 r333_1 =>
k r333_0)) (fun r334_0 =>
zq215 r334_0 (fun r335_0 r335_1 =>
k r335_0))) (fun r336_0 =>
zq212 a0 a1 fun r337 =>
zq214 r337 ((strOf [116, 104, 114, 101, 115, 104, 111, 108, 100])) r336_0 (fun r338_0 =>
zq215 r338_0 (fun r339_0 r339_1 =>
k r339_0)) (fun r340_0 =>
zq215 r340_0 (fun r341_0 r341_1 =>
k r341_0)))))) (fun r342_0 =>
zq182 a0 a1 fun r343 =>
zq214 r343 ((strOf [97, 102, 102, 105, 110, 101])) r342_0 (fun r344_0 =>
zq184 a0 a1 fun r345 =>
zq214 r345 ((strOf [115, 101, 108, 102, 100, 117, 97, 108])) r344_0 (fun r346_0 =>
zq197 a0 a1 fun r347 =>
zq214 r347 ((strOf [98, 101, 110, 116])) r346_0 (fun r348_0 =>
zq212 a0 a1 fun r349 =>
zq214 r349 ((strOf [116, 104, 114, 101, 115, 104, 111, 108, 100])) r348_0 (fun r350_0 =>
zq215 r350_0 (fun r351_0 r351_1 =>
k r351_0)) (fun r352_0 =>
zq215 r352_0 (fun r353_0 r353_1 =>
k r353_0))) (fun r354_0 =>
zq212 a0 a1 fun r355 =>
zq214 r355 ((strOf [116, 104, 114, 101, 115, 104, 111, 108, 100])) r354_0 (fun r356_0 =>
zq215 r356_0 (fun r357_0 r357_1 =>
k r357_0)) (fun r358_0 =>
zq215 r358_0 (fun r359_0 r359_1 =>
k r359_0)))) (fun r360_0 =>
zq197 a0 a1 fun r361 =>
zq214 r361 ((strOf [98, 101, 110, 116])) r360_0 (fun r362_0 =>
zq212 a0 a1 fun r363 =>
zq214 r363 ((strOf [116, 104, 114, 101, 115, 104, 111, 108, 100])) r362_0 (fun r364_0 =>
zq215 r364_0 (fun r365_0 r365_1 =>
k r365_0)) (fun r366_0 =>
zq215 r366_0 (fun r367_0 r367_1 =>
k r367_0))) (fun r368_0 =>
zq212 a0 a1 fun r369 =>
zq214 r369 ((strOf [116, 104, 114, 101, 115, 104, 111, 108, 100])) r368_0 (fun r370_0 =>
zq215 r370_0 (fun r371_0 r371_1 =>
k r371_0)) (fun r372_0 =>
zq215 r372_0 (fun r373_0 r373_1 =>
k r373_0))))) (fun r374_0 =>
zq184 a0 a1 fun r375 =>
zq214 r375 ((strOf [115, 101, 108, 102, 100, 117, 97, 108])) r374_0 (fun r376_0 =>
zq197 a0 a1 fun r377 =>
zq214 r377 ((strOf [98, 101, 110, 116])) r376_0 (fun r378_0 =>
zq212 a0 a1 fun r379 =>
zq214 r379 ((strOf [116, 104, 114, 101, 115, 104, 111, 108, 100])) r378_0 (fun r380_0 =>
zq215 r380_0 (fun r381_0 r381_1 =>
k r381_0)) (fun r382_0 =>
zq215 r382_0 (fun r383_0 r383_1 =>
k r383_0))) (fun r384_0 =>
zq212 a0 a1 fun r385 =>
zq214 r385 ((strOf [116, 104, 114, 101, 115, 104, 111, 108, 100])) r384_0 (fun r386_0 =>
zq215 r386_0 (fun r387_0 r387_1 =>
k r387_0)) (fun r388_0 =>
zq215 r388_0 (fun r389_0 r389_1 =>
k r389_0)))) (fun r390_0 =>
zq197 a0 a1 fun r391 =>
zq214 r391 ((strOf [98, 101, 110, 116])) r390_0 (fun r392_0 =>
zq212 a0 a1 fun r393 =>
zq214 r393 ((strOf [116, 104, 114, 101, 115, 104, 111, 108, 100])) r392_0 (fun r394_0 =>
zq215 r394_0 (fun r395_0 r395_1 =>
k r395_0)) (fun r396_0 =>
zq215 r396_0 (fun r397_0 r397_1 =>
k r397_0))) (fun r398_0 =>
zq212 a0 a1 fun r399 =>
zq214 r399 ((strOf [116, 104, 114, 101, 115, 104, 111, 108, 100])) r398_0 (fun r400_0 =>
zq215 r400_0 (fun r401_0 r401_1 =>
k r401_0)) (fun r402_0 =>
zq215 r402_0 (fun r403_0 r403_1 =>
k r403_0))))))) (fun r404_0 =>
zq175 a0 a1 fun r405 =>
zq214 r405 ((strOf [115, 121, 109, 109, 101, 116, 114, 105, 99])) r404_0 (fun r406_0 =>
zq182 a0 a1 fun r407 =>
zq214 r407 ((strOf [97, 102, 102, 105, 110, 101])) r406_0 (fun r408_0 =>
zq184 a0 a1 fun r409 =>
zq214 r409 ((strOf [115, 101, 108, 102, 100, 117, 97, 108])) r408_0 (fun r410_0 =>
zq197 a0 a1 fun r411 =>
zq214 r411 ((strOf [98, 101, 110, 116])) r410_0 (fun r412_0 =>
zq212 a0 a1 fun r413 =>
zq214 r413 ((strOf [116, 104, 114, 101, 115, 104, 111, 108, 100])) r412_0 (fun r414_0 =>
zq215 r414_0 (fun r415_0 r415_1 =>
k r415_0)) (fun r416_0 =>
zq215 r416_0 (fun r417_0 r417_1 =>
k r417_0))) (fun r418_0 =>
zq212 a0 a1 fun r419 =>
zq214 r419 ((strOf [116, 104, 114, 101, 115, 104, 111, 108, 100])) r418_0 (fun r420_0 =>
zq215 r420_0 (fun r421_0 r421_1 =>
k r421_0)) (fun r422_0 =>
zq215 r422_0 (fun r423_0 r423_1 =>
k r423_0)))) (fun r424_0 =>
zq197 a0 a1 fun r425 =>
zq214 r425 ((strOf [98, 101, 110, 116])) r424_0 (fun r426_0 =>
zq212 a0 a1 fun r427 =>
zq214 r427 ((strOf [116, 104, 114, 101, 115, 104, 111, 108, 100])) r426_0 (fun r428_0 =>
zq215 r428_0 (fun r429_0 r429_1 =>
k r429_0)) (fun r430_0 =>
zq215 r430_0 (fun r431_0 r431_1 =>
k r431_0))) (fun r432_0 =>
zq212 a0 a1 fun r433 =>
zq214 r433 ((strOf [116, 104, 114, 101, 115, 104, 111, 108, 100])) r432_0 (fun r434_0 =>
zq215 r434_0 (fun r435_0 r435_1 =>
k r435_0)) (fun r436_0 =>
zq215 r436_0 (fun r437_0 r437_1 =>
k r437_0))))) (fun r438_0 =>
zq184 a0 a1 fun r439 =>
zq214 r439 ((strOf [115, 101, 108, 102, 100, 117, 97, 108])) r438_0 (fun r440_0 =>
zq197 a0 a1 fun r441 =>
zq214 r441 ((strOf [98, 101, 110, 116])) r440_0 (fun r442_0 =>
zq212 a0 a1 fun r443 =>
zq214 r443 ((strOf [116, 104, 114, 101, 115, 104, 111, 108, 100])) r442_0 (fun r444_0 =>
zq215 r444_0 (fun r445_0 r445_1 =>
k r445_0)) (fun r446_0 =>
zq215 r446_0 (fun r447_0 r447_1 =>
k r447_0))) (fun r448_0 =>
zq212 a0 a1 fun r449 =>
zq214 r449 ((strOf [116, 104, 114, 101, 115, 104, 111, 108, 100])) r448_0 (fun r450_0 =>
zq215 r450_0 (fun r451_0 r451_1 =>
k r451_0)) (fun r452_0 =>
zq215 r452_0 (fun r453_0 r453_1 =>
k r453_0)))) (fun r454_0 =>
zq197 a0 a1 fun r455 =>
zq214 r455 ((strOf [98, 101, 110, 116])) r454_0 (fun r456_0 =>
zq212 a0 a1 fun r457 =>
zq214 r457 ((strOf [116, 104, 114, 101, 115, 104, 111, 108, 100])) r456_0 (fun r458_0 =>
zq215 r458_0 (fun r459_0 r459_1 =>
k r459_0)) (fun r460_0 =>
zq215 r460_0 (fun r461_0 r461_1 =>
k r461_0))) (fun r462_0 =>
zq212 a0 a1 fun r463 =>
zq214 r463 ((strOf [116, 104, 114, 101, 115, 104, 111, 108, 100])) r462_0 (fun r464_0 =>
zq215 r464_0 (fun r465_0 r465_1 =>
k r465_0)) (fun r466_0 =>
zq215 r466_0 (fun r467_0 r467_1 =>
k r467_0)))))) (fun r468_0 =>
zq182 a0 a1 fun r469 =>
zq214 r469 ((strOf [97, 102, 102, 105, 110, 101])) r468_0 (fun r470_0 =>
zq184 a0 a1 fun r471 =>
zq214 r471 ((strOf [115, 101, 108, 102, 100, 117, 97, 108])) r470_0 (fun r472_0 =>
zq197 a0 a1 fun r473 =>
zq214 r473 ((strOf [98, 101, 110, 116])) r472_0 (fun r474_0 =>
zq212 a0 a1 fun r475 =>
zq214 r475 ((strOf [116, 104, 114, 101, 115, 104, 111, 108, 100])) r474_0 (fun r476_0 =>
zq215 r476_0 (fun r477_0 r477_1 =>
k r477_0)) (fun r478_0 =>
zq215 r478_0 (fun r479_0 r479_1 =>
k r479_0))) (fun r480_0 =>
zq212 a0 a1 fun r481 =>
zq214 r481 ((strOf [116, 104, 114, 101, 115, 104, 111, 108, 100])) r480_0 (fun r482_0 =>
zq215 r482_0 (fun r483_0 r483_1 =>
k r483_0)) (fun r484_0 =>
zq215 r484_0 (fun r485_0 r485_1 =>
k r485_0)))) (fun r486_0 =>
zq197 a0 a1 fun r487 =>
zq214 r487 ((strOf [98, 101, 110, 116])) r486_0 (fun r488_0 =>
zq212 a0 a1 fun r489 =>
zq214 r489 ((strOf [116, 104, 114, 101, 115, 104, 111, 108, 100])) r488_0 (fun r490_0 =>
zq215 r490_0 (fun r491_0 r491_1 =>
k r491_0)) (fun r492_0 =>
zq215 r492_0 (fun r493_0 r493_1 =>
k r493_0))) (fun r494_0 =>
zq212 a0 a1 fun r495 =>
zq214 r495 ((strOf [116, 104, 114, 101, 115, 104, 111, 108, 100])) r494_0 (fun r496_0 =>
zq215 r496_0 (fun r497_0 r497_1 =>
k r497_0)) (fun r498_0 =>
zq215 r498_0 (fun r499_0 r499_1 =>
k r499_0))))) (fun r500_0 =>
zq184 a0 a1 fun r501 =>
zq214 r501 ((strOf [115, 101, 108, 102, 100, 117, 97, 108])) r500_0 (fun r502_0 =>
zq197 a0 a1 fun r503 =>
zq214 r503 ((strOf [98, 101, 110, 116])) r502_0 (fun r504_0 =>
zq212 a0 a1 fun r505 =>
zq214 r505 ((strOf [116, 104, 114, 101, 115, 104, 111, 108, 100])) r504_0 (fun r506_0 =>
zq215 r506_0 (fun r507_0 r507_1 =>
k r507_0)) (fun r508_0 =>
zq215 r508_0 (fun r509_0 r509_1 =>
k r509_0))) (fun r510_0 =>
zq212 a0 a1 fun r511 =>
zq214 r511 ((strOf [116, 104, 114, 101, 115, 104, 111, 108, 100])) r510_0 (fun r512_0 =>
zq215 r512_0 (fun r513_0 r513_1 =>
k r513_0)) (fun r514_0 =>
zq215 r514_0 (fun r515_0 r515_1 =>
k r515_0)))) (fun r516_0 =>
zq197 a0 a1 fun r517 =>
zq214 r517 ((strOf [98, 101, 110, 116])) r516_0 (fun r518_0 =>
zq212 a0 a1 fun r519 =>
zq214 r519 ((strOf [116, 104, 114, 101, 115, 104, 111, 108, 100])) r518_0 (fun r520_0 =>
zq215 r520_0 (fun r521_0 r521_1 =>
k r521_0)) (fun r522_0 =>
zq215 r522_0 (fun r523_0 r523_1 =>
k r523_0))) (fun r524_0 =>
zq212 a0 a1 fun r525 =>
zq214 r525 ((strOf [116, 104, 114, 101, 115, 104, 111, 108, 100])) r524_0 (fun r526_0 =>
zq215 r526_0 (fun r527_0 r527_1 =>
k r527_0)) (fun r528_0 =>
zq215 r528_0 (fun r529_0 r529_1 =>
k r529_0))))))))))
(zq163 a0 a1 fun r530 =>
zq214 r530 ((strOf [109, 111, 110, 111, 116, 111, 110, 101])) r13_1 (fun r531_0 =>
zq169 a0 a1 fun r532 =>
zq214 r532 ((strOf [117, 110, 97, 116, 101])) r531_0 (fun r533_0 =>
zq175 a0 a1 fun r534 =>
zq214 r534 ((strOf [115, 121, 109, 109, 101, 116, 114, 105, 99])) r533_0 (fun r535_0 =>
zq182 a0 a1 fun r536 =>
zq214 r536 ((strOf [97, 102, 102, 105, 110, 101])) r535_0 (fun r537_0 =>
zq184 a0 a1 fun r538 =>
zq214 r538 ((strOf [115, 101, 108, 102, 100, 117, 97, 108])) r537_0 (fun r539_0 =>
zq197 a0 a1 fun r540 =>
zq214 r540 ((strOf [98, 101, 110, 116])) r539_0 (fun r541_0 =>
zq212 a0 a1 fun r542 =>
zq214 r542 ((strOf [116, 104, 114, 101, 115, 104, 111, 108, 100])) r541_0 (fun r543_0 =>
zq215 r543_0 (fun r544_0 r544_1 =>
k r544_0)) (fun r545_0 =>
zq215 r545_0 (fun r546_0 r546_1 =>
k r546_0))) (fun r547_0 =>
zq212 a0 a1 fun r548 =>
zq214 r548 ((strOf [116, 104, 114, 101, 115, 104, 111, 108, 100])) r547_0 (fun r549_0 =>
zq215 r549_0 (fun r550_0 r550_1 =>
k r550_0)) (fun r551_0 =>
zq215 r551_0 (fun r552_0 r552_1 =>
k r552_0)))) (fun r553_0 =>
zq197 a0 a1 fun r554 =>
zq214 r554 ((strOf [98, 101, 110, 116])) r553_0 (fun r555_0 =>
zq212 a0 a1 fun r556 =>
zq214 r556 ((strOf [116, 104, 114, 101, 115, 104, 111, 108, 100])) r555_0 (fun r557_0 =>
zq215 r557_0 (fun r558_0 r558_1 =>
k r558_0)) (fun r559_0 =>
zq215 r559_0 (fun r560_0 r560_1 =>
k r560_0))) (fun r561_0 =>
zq212 a0 a1 fun r562 =>
zq214 r562 ((strOf [116, 104, 114, 101, 115, 104, 111, 108, 100])) r561_0 (fun r563_0 =>
zq215 r563_0 (fun r564_0 r564_1 =>
k r564_0)) (fun r565_0 =>
zq215 r565_0 (fun r566_0 r566_1 =>
k r566_0))))) (fun r567_0 =>
zq184 a0 a1 fun r568 =>
zq214 r568 ((strOf [115, 101, 108, 102, 100, 117, 97, 108])) r567_0 (fun r569_0 =>
zq197 a0 a1 fun r570 =>
zq214 r570 ((strOf [98, 101, 110, 116])) r569_0 (fun r571_0 =>
zq212 a0 a1 fun r572 =>
zq214 r572 ((strOf [116, 104, 114, 101, 115, 104, 111, 108, 100])) r571_0 (fun r573_0 =>
zq215 r573_0 (fun r574_0 r574_1 =>
k r574_0)) (fun r575_0 =>
zq215 r575_0 (fun r576_0 r576_1 =>
k r576_0))) (fun r577_0 =>
zq212 a0 a1 fun r578 =>
zq214 r578 ((strOf [116, 104, 114, 101, 115, 104, 111, 108, 100])) r577_0 (fun r579_0 =>
zq215 r579_0 (fun r580_0 r580_1 =>
k r580_0)) (fun r581_0 =>
zq215 r581_0 (fun r582_0 r582_1 =>
k r582_0)))) (fun r583_0 =>
zq197 a0 a1 fun r584 =>
zq214 r584 ((strOf [98, 101, 110, 116])) r583_0 (fun r585_0 =>
zq212 a0 a1 fun r586 =>
zq214 r586 ((strOf [116, 104, 114, 101, 115, 104, 111, 108, 100])) r585_0 (fun r587_0 =>
zq215 r587_0 (fun r588_0 r588_1 =>
k r588_0)) (fun r589_0 =>
zq215 r589_0 (fun r590_0 r590_1 =>
k r590_0))) (fun r591_0 =>
zq212 a0 a1 fun r592 =>
zq214 r592 ((strOf [116, 104, 114, 101, 115, 104, 111, 108, 100])) r591_0 (fun r593_0 =>
zq215 r593_0 (fun r594_0 r594_1 =>
k r594_0)) (fun r595_0 =>
zq215 r595_0 (fun r596_0 r596_1 =>
k r596_0)))))) (fun r597_0 =>
zq182 a0 a1 fun r598 =>
zq214 r598 ((strOf [97, 102, 102, 105, 110, 101])) r597_0 (fun r599_0 =>
zq184 a0 a1 fun r600 =>
zq214 r600 ((strOf [115, 101, 108, 102, 100, 117, 97, 108])) r599_0 (fun r601_0 =>
zq197 a0 a1 fun r602 =>
zq214 r602 ((strOf [98, 101, 110, 116])) r601_0 (fun r603_0 =>
zq212 a0 a1 fun r604 =>
zq214 r604 ((strOf [116, 104, 114, 101, 115, 104, 111, 108, 100])) r603_0 (fun r605_0 =>
zq215 r605_0 (fun r606_0 r606_1 =>
k r606_0)) (fun r607_0 =>
zq215 r607_0 (fun r608_0 r608_1 =>
k r608_0))) (fun r609_0 =>
zq212 a0 a1 fun r610 =>
zq214 r610 ((strOf [116, 104, 114, 101, 115, 104, 111, 108, 100])) r609_0 (fun r611_0 =>
zq215 r611_0 (fun r612_0 r612_1 =>
k r612_0)) (fun r613_0 =>
zq215 r613_0 (fun r614_0 r614_1 =>
k r614_0)))) (fun r615_0 =>
zq197 a0 a1 fun r616 =>
zq214 r616 ((strOf [98, 101, 110, 116])) r615_0 (fun r617_0 =>
zq212 a0 a1 fun r618 =>
zq214 r618 ((strOf [116, 104, 114, 101, 115, 104, 111, 108, 100])) r617_0 (fun r619_0 =>
zq215 r619_0 (fun r620_0 r620_1 =>
k r620_0)) (fun r621_0 =>
zq215 r621_0 (fun r622_0 r622_1 =>
k r622_0))) (fun r623_0 =>
zq212 a0 a1 fun r624 =>
zq214 r624 ((strOf [116, 104, 114, 101, 115, 104, 111, 108, 100])) r623_0 (fun r625_0 =>
zq215 r625_0 (fun r626_0 r626_1 =>
k r626_0)) (fun r627_0 =>
zq215 r627_0 (fun r628_0 r628_1 =>
k r628_0))))) (fun r629_0 =>
zq184 a0 a1 fun r630 =>
zq214 r630 ((strOf [115, 101, 108, 102, 100, 117, 97, 108])) r629_0 (fun r631_0 =>
zq197 a0 a1 fun r632 =>
zq214 r632 ((strOf [98, 101, 110, 116])) r631_0 (fun r633_0 =>
zq212 a0 a1 fun r634 =>
zq214 r634 ((strOf [116, 104, 114, 101, 115, 104, 111, 108, 100])) r633_0 (fun r635_0 =>
zq215 r635_0 (fun r636_0 r636_1 =>
k r636_0)) (fun r637_0 =>
zq215 r637_0 (fun r638_0 r638_1 =>
k r638_0))) (fun r639_0 =>
zq212 a0 a1 fun r640 =>
zq214 r640 ((strOf [116, 104, 114, 101, 115, 104, 111, 108, 100])) r639_0 (fun r641_0 =>
zq215 r641_0 (fun r642_0 r642_1 =>
k r642_0)) (fun r643_0 =>
zq215 r643_0 (fun r644_0 r644_1 =>
k r644_0)))) (fun r645_0 =>
zq197 a0 a1 fun r646 =>
zq214 r646 ((strOf [98, 101, 110, 116])) r645_0 (fun r647_0 =>
zq212 a0 a1 fun r648 =>
zq214 r648 ((strOf [116, 104, 114, 101, 115, 104, 111, 108, 100])) r647_0 (fun r649_0 =>
zq215 r649_0 (fun r650_0 r650_1 =>
k r650_0)) (fun r651_0 =>
zq215 r651_0 (fun r652_0 r652_1 =>
k r652_0))) (fun r653_0 =>
zq212 a0 a1 fun r654 =>
zq214 r654 ((strOf [116, 104, 114, 101, 115, 104, 111, 108, 100])) r653_0 (fun r655_0 =>
zq215 r655_0 (fun r656_0 r656_1 =>
k r656_0)) (fun r657_0 =>
zq215 r657_0 (fun r658_0 r658_1 =>
k r658_0))))))) (fun r659_0 =>
zq175 a0 a1 fun r660 =>
zq214 r660 ((strOf [115, 121, 109, 109, 101, 116, 114, 105, 99])) r659_0 (fun r661_0 =>
zq182 a0 a1 fun r662 =>
zq214 r662 ((strOf [97, 102, 102, 105, 110, 101])) r661_0 (fun r663_0 =>
zq184 a0 a1 fun r664 =>
zq214 r664 ((strOf [115, 101, 108, 102, 100, 117, 97, 108])) r663_0 (fun r665_0 =>
zq197 a0 a1 fun r666 =>
zq214 r666 ((strOf [98, 101, 110, 116])) r665_0 (fun r667_0 =>
zq212 a0 a1 fun r668 =>
zq214 r668 ((strOf [116, 104, 114, 101, 115, 104, 111, 108, 100])) r667_0 (fun r669_0 =>
zq215 r669_0 (fun r670_0 r670_1 =>
k r670_0)) (fun r671_0 =>
zq215 r671_0 (fun r672_0 r672_1 =>
k r672_0))) (fun r673_0 =>
zq212 a0 a1 fun r674 =>
zq214 r674 ((strOf [116, 104, 114, 101, 115, 104, 111, 108, 100])) r673_0 (fun r675_0 =>
zq215 r675_0 (fun r676_0 r676_1 =>
k r676_0)) (fun r677_0 =>
zq215 r677_0 (fun r678_0 r678_1 =>
k r678_0)))) (fun r679_0 =>
zq197 a0 a1 fun r680 =>
zq214 r680 ((strOf [98, 101, 110, 116])) r679_0 (fun r681_0 =>
zq212 a0 a1 fun r682 =>
zq214 r682 ((strOf [116, 104, 114, 101, 115, 104, 111, 108, 100])) r681_0 (fun r683_0 =>
zq215 r683_0 (fun r684_0 r684_1 =>
k r684_0)) (fun r685_0 =>
zq215 r685_0 (fun r686_0 r686_1 =>
k r686_0))) (fun r687_0 =>
zq212 a0 a1 fun r688 =>
zq214 r688 ((strOf [116, 104, 114, 101, 115, 104, 111, 108, 100])) r687_0 (fun r689_0 =>
zq215 r689_0 (fun r690_0 r690_1 =>
k r690_0)) (fun r691_0 =>
zq215 r691_0 (fun r692_0 r692_1 =>
k r692_0))))) (fun r693_0 =>
zq184 a0 a1 fun r694 =>
zq214 r694 ((strOf [115, 101, 108, 102, 100, 117, 97, 108])) r693_0 (fun r695_0 =>
zq197 a0 a1 fun r696 =>
zq214 r696 ((strOf [98, 101, 110, 116])) r695_0 (fun r697_0 =>
zq212 a0 a1 fun r698 =>
zq214 r698 ((strOf [116, 104, 114, 101, 115, 104, 111, 108, 100])) r697_0 (fun r699_0 =>
zq215 r699_0 (fun r700_0 r700_1 =>
k r700_0)) (fun r701_0 =>
zq215 r701_0 (fun r702_0 r702_1 =>
k r702_0))) (fun r703_0 =>
zq212 a0 a1 fun r704 =>
zq214 r704 ((strOf [116, 104, 114, 101, 115, 104, 111, 108, 100])) r703_0 (fun r705_0 =>
zq215 r705_0 (fun r706_0 r706_1 =>
k r706_0)) (fun r707_0 =>
zq215 r707_0 (fun r708_0 r708_1 =>
k r708_0)))) (fun r709_0 =>
zq197 a0 a1 fun r710 =>
zq214 r710 ((strOf [98, 101, 110, 116])) r709_0 (fun r711_0 =>
zq212 a0 a1 fun r712 =>
zq214 r712 ((strOf [116, 104, 114, 101, 115, 104, 111, 108, 100])) r711_0 (fun r713_0 =>
zq215 r713_0 (fun r714_0 r714_1 =>
k r714_0)) (fun r715_0 =>
zq215 r715_0 (fun r716_0 r716_1 =>
k r716_0))) (fun r717_0 =>
zq212 a0 a1 fun r718 =>
zq214 r718 ((strOf [116, 104, 114, 101, 115, 104, 111, 108, 100])) r717_0 (fun r719_0 =>
zq215 r719_0 (fun r720_0 r720_1 =>
k r720_0)) (fun r721_0 =>
zq215 r721_0 (fun r722_0 r722_1 =>
k r722_0)))))) (fun r723_0 =>
zq182 a0 a1 fun r724 =>
zq214 r724 ((strOf [97, 102, 102, 105, 110, 101])) r723_0 (fun r725_0 =>
zq184 a0 a1 fun r726 =>
zq214 r726 ((strOf [115, 101, 108, 102, 100, 117, 97, 108])) r725_0 (fun r727_0 =>
zq197 a0 a1 fun r728 =>
zq214 r728 ((strOf [98, 101, 110, 116])) r727_0 (fun r729_0 =>
zq212 a0 a1 fun r730 =>
zq214 r730 ((strOf [116, 104, 114, 101, 115, 104, 111, 108, 100])) r729_0 (fun r731_0 =>
zq215 r731_0 (fun r732_0 r732_1 =>
k r732_0)) (fun r733_0 =>
zq215 r733_0 (fun r734_0 r734_1 =>
k r734_0))) (fun r735_0 =>
zq212 a0 a1 fun r736 =>
zq214 r736 ((strOf [116, 104, 114, 101, 115, 104, 111, 108, 100])) r735_0 (fun r737_0 =>
zq215 r737_0 (fun r738_0 r738_1 =>
k r738_0)) (fun r739_0 =>
zq215 r739_0 (fun r740_0 r740_1 =>
k r740_0)))) (fun r741_0 =>
zq197 a0 a1 fun r742 =>
zq214 r742 ((strOf [98, 101, 110, 116])) r741_0 (fun r743_0 =>
zq212 a0 a1 fun r744 =>
zq214 r744 ((strOf [116, 104, 114, 101, 115, 104, 111, 108, 100])) r743_0 (fun r745_0 =>
zq215 r745_0 (fun r746_0 r746_1 =>
k r746_0)) (fun r747_0 =>
zq215 r747_0 (fun r748_0 r748_1 =>
k r748_0))) (fun r749_0 =>
zq212 a0 a1 fun r750 =>
zq214 r750 ((strOf [116, 104, 114, 101, 115, 104, 111, 108, 100])) r749_0 (fun r751_0 =>
zq215 r751_0 (fun r752_0 r752_1 =>
k r752_0)) (fun r753_0 =>
zq215 r753_0 (fun r754_0 r754_1 =>
k r754_0))))) (fun r755_0 =>
zq184 a0 a1 fun r756 =>
zq214 r756 ((strOf [115, 101, 108, 102, 100, 117, 97, 108])) r755_0 (fun r757_0 =>
zq197 a0 a1 fun r758 =>
zq214 r758 ((strOf [98, 101, 110, 116])) r757_0 (fun r759_0 =>
zq212 a0 a1 fun r760 =>
zq214 r760 ((strOf [116, 104, 114, 101, 115, 104, 111, 108, 100])) r759_0 (fun r761_0 =>
zq215 r761_0 (fun r762_0 r762_1 =>
k r762_0)) (fun r763_0 =>
zq215 r763_0 (fun r764_0 r764_1 =>
k r764_0))) (fun r765_0 =>
zq212 a0 a1 fun r766 =>
zq214 r766 ((strOf [116, 104, 114, 101, 115, 104, 111, 108, 100])) r765_0 (fun r767_0 =>
zq215 r767_0 (fun r768_0 r768_1 =>
k r768_0)) (fun r769_0 =>
zq215 r769_0 (fun r770_0 r770_1 =>
k r770_0)))) (fun r771_0 =>
zq197 a0 a1 fun r772 =>
zq214 r772 ((strOf [98, 101, 110, 116])) r771_0 (fun r773_0 =>
zq212 a0 a1 fun r774 =>
zq214 r774 ((strOf [116, 104, 114, 101, 115, 104, 111, 108, 100])) r773_0 (fun r775_0 =>
zq215 r775_0 (fun r776_0 r776_1 =>
k r776_0)) (fun r777_0 =>
zq215 r777_0 (fun r778_0 r778_1 =>
k r778_0))) (fun r779_0 =>
zq212 a0 a1 fun r780 =>
zq214 r780 ((strOf [116, 104, 114, 101, 115, 104, 111, 108, 100])) r779_0 (fun r781_0 =>
zq215 r781_0 (fun r782_0 r782_1 =>
k r782_0)) (fun r783_0 =>
zq215 r783_0 (fun r784_0 r784_1 =>
k r784_0)))))))) (fun r785_0 =>
zq169 a0 a1 fun r786 =>
zq214 r786 ((strOf [117, 110, 97, 116, 101])) r785_0 (fun r787_0 =>
zq175 a0 a1 fun r788 =>
zq214 r788 ((strOf [115, 121, 109, 109, 101, 116, 114, 105, 99])) r787_0 (fun r789_0 =>
zq182 a0 a1 fun r790 =>
zq214 r790 ((strOf [97, 102, 102, 105, 110, 101])) r789_0 (fun r791_0 =>
zq184 a0 a1 fun r792 =>
zq214 r792 ((strOf [115, 101, 108, 102, 100, 117, 97, 108])) r791_0 (fun r793_0 =>
zq197 a0 a1 fun r794 =>
zq214 r794 ((strOf [98, 101, 110, 116])) r793_0 (fun r795_0 =>
zq212 a0 a1 fun r796 =>
zq214 r796 ((strOf [116, 104, 114, 101, 115, 104, 111, 108, 100])) r795_0 (fun r797_0 =>
zq215 r797_0 (fun r798_0 r798_1 =>
k r798_0)) (fun r799_0 =>
zq215 r799_0 (fun r800_0 r800_1 =>
k r800_0))) (fun r801_0 =>
zq212 a0 a1 fun r802 =>
zq214 r802 ((strOf [116, 104, 114, 101, 115, 104, 111, 108, 100])) r801_0 (fun r803_0 =>
zq215 r803_0 (fun r804_0 r804_1 =>
k r804_0)) (fun r805_0 =>
zq215 r805_0 (fun r806_0 r806_1 =>
k r806_0)))) (fun r807_0 =>
zq197 a0 a1 fun r808 =>
zq214 r808 ((strOf [98, 101, 110, 116])) r807_0 (fun r809_0 =>
zq212 a0 a1 fun r810 =>
zq214 r810 ((strOf [116, 104, 114, 101, 115, 104, 111, 108, 100])) r809_0 (fun r811_0 =>
zq215 r811_0 (fun r812_0 r812_1 =>
k r812_0)) (fun r813_0 =>
zq215 r813_0 (fun r814_0 r814_1 =>
k r814_0))) (fun r815_0 =>
zq212 a0 a1 fun r816 =>
zq214 r816 ((strOf [116, 104, 114, 101, 115, 104, 111, 108, 100])) r815_0 (fun r817_0 =>
zq215 r817_0 (fun r818_0 r818_1 =>
k r818_0)) (fun r819_0 =>
zq215 r819_0 (fun r820_0 r820_1 =>
k r820_0))))) (fun r821_0 =>
zq184 a0 a1 fun r822 =>
zq214 r822 ((strOf [115, 101, 108, 102, 100, 117, 97, 108])) r821_0 (fun r823_0 =>
zq197 a0 a1 fun r824 =>
zq214 r824 ((strOf [98, 101, 110, 116])) r823_0 (fun r825_0 =>
zq212 a0 a1 fun r826 =>
zq214 r826 ((strOf [116, 104, 114, 101, 115, 104, 111, 108, 100])) r825_0 (fun r827_0 =>
zq215 r827_0 (fun r828_0 r828_1 =>
k r828_0)) (fun r829_0 =>
zq215 r829_0 (fun r830_0 r830_1 =>
k r830_0))) (fun r831_0 =>
zq212 a0 a1 fun r832 =>
zq214 r832 ((strOf [116, 104, 114, 101, 115, 104, 111, 108, 100])) r831_0 (fun r833_0 =>
zq215 r833_0 (fun r834_0 r834_1 =>
k r834_0)) (fun r835_0 =>
zq215 r835_0 (fun r836_0 r836_1 =>
k r836_0)))) (fun r837_0 =>
zq197 a0 a1 fun r838 =>
zq214 r838 ((strOf [98, 101, 110, 116])) r837_0 (fun r839_0 =>
zq212 a0 a1 fun r840 =>
zq214 r840 ((strOf [116, 104, 114, 101, 115, 104, 111, 108, 100])) r839_0 (fun r841_0 =>
zq215 r841_0 (fun r842_0 r842_1 =>
k r842_0)) (fun r843_0 =>
zq215 r843_0 (fun r844_0 r844_1 =>
k r844_0))) (fun r845_0 =>
zq212 a0 a1 fun r846 =>
zq214 r846 ((strOf [116, 104, 114, 101, 115, 104, 111, 108, 100])) r845_0 (fun r847_0 =>
zq215 r847_0 (fun r848_0 r848_1 =>
k r848_0)) (fun r849_0 =>
zq215 r849_0 (fun r850_0 r850_1 =>
k r850_0)))))) (fun r851_0 =>
zq182 a0 a1 fun r852 =>
zq214 r852 ((strOf [97, 102, 102, 105, 110, 101])) r851_0 (fun r853_0 =>
zq184 a0 a1 fun r854 =>
zq214 r854 ((strOf [115, 101, 108, 102, 100, 117, 97, 108])) r853_0 (fun r855_0 =>
zq197 a0 a1 fun r856 =>
zq214 r856 ((strOf [98, 101, 110, 116])) r855_0 (fun r857_0 =>
zq212 a0 a1 fun r858 =>
zq214 r858 ((strOf [116, 104, 114, 101, 115, 104, 111, 108, 100])) r857_0 (fun r859_0 =>
zq215 r859_0 (fun r860_0 r860_1 =>
k r860_0)) (fun r861_0 =>
zq215 r861_0 (fun r862_0 r862_1 =>
k r862_0))) (fun r863_0 =>
zq212 a0 a1 fun r864 =>
zq214 r864 ((strOf [116, 104, 114, 101, 115, 104, 111, 108, 100])) r863_0 (fun r865_0 =>
zq215 r865_0 (fun r866_0 r866_1 =>
k r866_0)) (fun r867_0 =>
zq215 r867_0 (fun r868_0 r868_1 =>
k r868_0)))) (fun r869_0 =>
zq197 a0 a1 fun r870 =>
zq214 r870 ((strOf [98, 101, 110, 116])) r869_0 (fun r871_0 =>
zq212 a0 a1 fun r872 =>
zq214 r872 ((strOf [116, 104, 114, 101, 115, 104, 111, 108, 100])) r871_0 (fun r873_0 =>
zq215 r873_0 (fun r874_0 r874_1 =>
k r874_0)) (fun r875_0 =>
zq215 r875_0 (fun r876_0 r876_1 =>
k r876_0))) (fun r877_0 =>
zq212 a0 a1 fun r878 =>
zq214 r878 ((strOf [116, 104, 114, 101, 115, 104, 111, 108, 100])) r877_0 (fun r879_0 =>
zq215 r879_0 (fun r880_0 r880_1 =>
k r880_0)) (fun r881_0 =>
zq215 r881_0 (fun r882_0 r882_1 =>
k r882_0))))) (fun r883_0 =>
zq184 a0 a1 fun r884 =>
zq214 r884 ((strOf [115, 101, 108, 102, 100, 117, 97, 108])) r883_0 (fun r885_0 =>
zq197 a0 a1 fun r886 =>
zq214 r886 ((strOf [98, 101, 110, 116])) r885_0 (fun r887_0 =>
zq212 a0 a1 fun r888 =>
zq214 r888 ((strOf [116, 104, 114, 101, 115, 104, 111, 108, 100])) r887_0 (fun r889_0 =>
zq215 r889_0 (fun r890_0 r890_1 =>
k r890_0)) (fun r891_0 =>
zq215 r891_0 (fun r892_0 r892_1 =>
k r892_0))) (fun r893_0 =>
zq212 a0 a1 fun r894 =>
zq214 r894 ((strOf [116, 104, 114, 101, 115, 104, 111, 108, 100])) r893_0 (fun r895_0 =>
zq215 r895_0 (fun r896_0 r896_1 =>
k r896_0)) (fun r897_0 =>
zq215 r897_0 (fun r898_0 r898_1 =>
k r898_0)))) (fun r899_0 =>
zq197 a0 a1 fun r900 =>
zq214 r900 ((strOf [98, 101, 110, 116])) r899_0 (fun r901_0 =>
zq212 a0 a1 fun r902 =>
zq214 r902 ((strOf [116, 104, 114, 101, 115, 104, 111, 108, 100])) r901_0 (fun r903_0 =>
zq215 r903_0 (fun r904_0 r904_1 =>
k r904_0)) (fun r905_0 =>
zq215 r905_0 (fun r906_0 r906_1 =>
k r906_0))) (fun r907_0 =>
zq212 a0 a1 fun r908 =>
zq214 r908 ((strOf [116, 104, 114, 101, 115, 104, 111, 108, 100])) r907_0 (fun r909_0 =>
zq215 r909_0 (fun r910_0 r910_1 =>
k r910_0)) (fun r911_0 =>
zq215 r911_0 (fun r912_0 r912_1 =>
k r912_0))))))) (fun r913_0 =>
zq175 a0 a1 fun r914 =>
zq214 r914 ((strOf [115, 121, 109, 109, 101, 116, 114, 105, 99])) r913_0 (fun r915_0 =>
zq182 a0 a1 fun r916 =>
zq214 r916 ((strOf [97, 102, 102, 105, 110, 101])) r915_0 (fun r917_0 =>
zq184 a0 a1 fun r918 =>
zq214 r918 ((strOf [115, 101, 108, 102, 100, 117, 97, 108])) r917_0 (fun r919_0 =>
zq197 a0 a1 fun r920 =>
zq214 r920 ((strOf [98, 101, 110, 116])) r919_0 (fun r921_0 =>
zq212 a0 a1 fun r922 =>
zq214 r922 ((strOf [116, 104, 114, 101, 115, 104, 111, 108, 100])) r921_0 (fun r923_0 =>
zq215 r923_0 (fun r924_0 r924_1 =>
k r924_0)) (fun r925_0 =>
zq215 r925_0 (fun r926_0 r926_1 =>
k r926_0))) (fun r927_0 =>
zq212 a0 a1 fun r928 =>
zq214 r928 ((strOf [116, 104, 114, 101, 115, 104, 111, 108, 100])) r927_0 (fun r929_0 =>
zq215 r929_0 (fun r930_0 r930_1 =>
k r930_0)) (fun r931_0 =>
zq215 r931_0 (fun r932_0 r932_1 =>
k r932_0)))) (fun r933_0 =>
zq197 a0 a1 fun r934 =>
zq214 r934 ((strOf [98, 101, 110, 116])) r933_0 (fun r935_0 =>
zq212 a0 a1 fun r936 =>
zq214 r936 ((strOf [116, 104, 114, 101, 115, 104, 111, 108, 100])) r935_0 (fun r937_0 =>
zq215 r937_0 (fun r938_0 r938_1 =>
k r938_0)) (fun r939_0 =>
zq215 r939_0 (fun r940_0 r940_1 =>
k r940_0))) (fun r941_0 =>
zq212 a0 a1 fun r942 =>
zq214 r942 ((strOf [116, 104, 114, 101, 115, 104, 111, 108, 100])) r941_0 (fun r943_0 =>
zq215 r943_0 (fun r944_0 r944_1 =>
k r944_0)) (fun r945_0 =>
zq215 r945_0 (fun r946_0 r946_1 =>
k r946_0))))) (fun r947_0 =>
zq184 a0 a1 fun r948 =>
zq214 r948 ((strOf [115, 101, 108, 102, 100, 117, 97, 108])) r947_0 (fun r949_0 =>
zq197 a0 a1 fun r950 =>
zq214 r950 ((strOf [98, 101, 110, 116])) r949_0 (fun r951_0 =>
zq212 a0 a1 fun r952 =>
zq214 r952 ((strOf [116, 104, 114, 101, 115, 104, 111, 108, 100])) r951_0 (fun r953_0 =>
zq215 r953_0 (fun r954_0 r954_1 =>
k r954_0)) (fun r955_0 =>
zq215 r955_0 (fun r956_0 r956_1 =>
k r956_0))) (fun r957_0 =>
zq212 a0 a1 fun r958 =>
zq214 r958 ((strOf [116, 104, 114, 101, 115, 104, 111, 108, 100])) r957_0 (fun r959_0 =>
zq215 r959_0 (fun r960_0 r960_1 =>
k r960_0)) (fun r961_0 =>
zq215 r961_0 (fun r962_0 r962_1 =>
k r962_0)))) (fun r963_0 =>
zq197 a0 a1 fun r964 =>
zq214 r964 ((strOf [98, 101, 110, 116])) r963_0 (fun r965_0 =>
zq212 a0 a1 fun r966 =>
zq214 r966 ((strOf [116, 104, 114, 101, 115, 104, 111, 108, 100])) r965_0 (fun r967_0 =>
zq215 r967_0 (fun r968_0 r968_1 =>
k r968_0)) (fun r969_0 =>
zq215 r969_0 (fun r970_0 r970_1 =>
k r970_0))) (fun r971_0 =>
zq212 a0 a1 fun r972 =>
zq214 r972 ((strOf [116, 104, 114, 101, 115, 104, 111, 108, 100])) r971_0 (fun r973_0 =>
zq215 r973_0 (fun r974_0 r974_1 =>
k r974_0)) (fun r975_0 =>
zq215 r975_0 (fun r976_0 r976_1 =>
k r976_0)))))) (fun r977_0 =>
zq182 a0 a1 fun r978 =>
zq214 r978 ((strOf [97, 102, 102, 105, 110, 101])) r977_0 (fun r979_0 =>
zq184 a0 a1 fun r980 =>
zq214 r980 ((strOf [115, 101, 108, 102, 100, 117, 97, 108])) r979_0 (fun r981_0 =>
zq197 a0 a1 fun r982 =>
zq214 r982 ((strOf [98, 101, 110, 116])) r981_0 (fun r983_0 =>
zq212 a0 a1 fun r984 =>
zq214 r984 ((strOf [116, 104, 114, 101, 115, 104, 111, 108, 100])) r983_0 (fun r985_0 =>
zq215 r985_0 (fun r986_0 r986_1 =>
k r986_0)) (fun r987_0 =>
zq215 r987_0 (fun r988_0 r988_1 =>
k r988_0))) (fun r989_0 =>
zq212 a0 a1 fun r990 =>
zq214 r990 ((strOf [116, 104, 114, 101, 115, 104, 111, 108, 100])) r989_0 (fun r991_0 =>
zq215 r991_0 (fun r992_0 r992_1 =>
k r992_0)) (fun r993_0 =>
zq215 r993_0 (fun r994_0 r994_1 =>
k r994_0)))) (fun r995_0 =>
zq197 a0 a1 fun r996 =>
zq214 r996 ((strOf [98, 101, 110, 116])) r995_0 (fun r997_0 =>
zq212 a0 a1 fun r998 =>
zq214 r998 ((strOf [116, 104, 114, 101, 115, 104, 111, 108, 100])) r997_0 (fun r999_0 =>
zq215 r999_0 (fun r1000_0 r1000_1 =>
k r1000_0)) (fun r1001_0 =>
zq215 r1001_0 (fun r1002_0 r1002_1 =>
k r1002_0))) (fun r1003_0 =>
zq212 a0 a1 fun r1004 =>
zq214 r1004 ((strOf [116, 104, 114, 101, 115, 104, 111, 108, 100])) r1003_0 (fun r1005_0 =>
zq215 r1005_0 (fun r1006_0 r1006_1 =>
k r1006_0)) (fun r1007_0 =>
zq215 r1007_0 (fun r1008_0 r1008_1 =>
k r1008_0))))) (fun r1009_0 =>
zq184 a0 a1 fun r1010 =>
zq214 r1010 ((strOf [115, 101, 108, 102, 100, 117, 97, 108])) r1009_0 (fun r1011_0 =>
zq197 a0 a1 fun r1012 =>
zq214 r1012 ((strOf [98, 101, 110, 116])) r1011_0 (fun r1013_0 =>
zq212 a0 a1 fun r1014 =>
zq214 r1014 ((strOf [116, 104, 114, 101, 115, 104, 111, 108, 100])) r1013_0 (fun r1015_0 =>
zq215 r1015_0 (fun r1016_0 r1016_1 =>
k r1016_0)) (fun r1017_0 =>
zq215 r1017_0 (fun r1018_0 r1018_1 =>
k r1018_0))) (fun r1019_0 =>
zq212 a0 a1 fun r1020 =>
zq214 r1020 ((strOf [116, 104, 114, 101, 115, 104, 111, 108, 100])) r1019_0 (fun r1021_0 =>
zq215 r1021_0 (fun r1022_0 r1022_1 =>
k r1022_0)) (fun r1023_0 =>
zq215 r1023_0 (fun r1024_0 r1024_1 =>
k r1024_0)))) (fun r1025_0 =>
zq197 a0 a1 fun r1026 =>
zq214 r1026 ((strOf [98, 101, 110, 116])) r1025_0 (fun r1027_0 =>
zq212 a0 a1 fun r1028 =>
zq214 r1028 ((strOf [116, 104, 114, 101, 115, 104, 111, 108, 100])) r1027_0 (fun r1029_0 =>
zq215 r1029_0 (fun r1030_0 r1030_1 =>
k r1030_0)) (fun r1031_0 =>
zq215 r1031_0 (fun r1032_0 r1032_1 =>
k r1032_0))) (fun r1033_0 =>
zq212 a0 a1 fun r1034 =>
zq214 r1034 ((strOf [116, 104, 114, 101, 115, 104, 111, 108, 100])) r1033_0 (fun r1035_0 =>
zq215 r1035_0 (fun r1036_0 r1036_1 =>
k r1036_0)) (fun r1037_0 =>
zq215 r1037_0 (fun r1038_0 r1038_1 =>
k r1038_0)))))))))))))
def zj216 (N : Nat) (a0 : Int) (a1 : Int) (k : ByteArray → O β) : O β := zb216 (zj104 N) (zj119 N) (zj122 N) (zj123 N) (zj124 N) (zj127 N) (zj130 N) (zj131 N) (zj158 N) (zj159 N) (zj163 N) (zj169 N) (zj175 N) (zj182 N) (zj184 N) (zj197 N) (zj212 N) (zj213 N) (zj214 N) (zj215 N) N a0 a1 k
def BV_laws_FnExactTableLine (N : Nat) (a0 : Int) (a1 : Int) (k : Bool → O β) : O β :=
zq0 a0 a1 fun r3 r4 =>
zq101 r3 r4 fun r5 =>
zq0 a0 a1 fun r6 r7 =>
zq216 r6 r7 fun r8 =>
(cond ((!(r8.toList == r5.toList)))
(k false)
(k true))
def laws_FnExactTableLine (N : Nat) (a0 : Int) (a1 : Int) (k : Bool → O β) : O β := BV_laws_FnExactTableLine (zj0 N) (zj101 N) (zj216 N) N a0 a1 k
end Go.Proofs.YtemihnclhcobnaaGreatDoor
