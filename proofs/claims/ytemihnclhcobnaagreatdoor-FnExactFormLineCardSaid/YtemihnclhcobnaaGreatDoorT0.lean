/- The texts of the functions that the claims dl: plain Lean, no program. -/
import Derived.Test.YtemihnclhcobnaaGreatDoorSizT
namespace Go.Proofs.YtemihnclhcobnaaGreatDoor
set_option linter.unusedSimpArgs false
open Go.Rv
set_option linter.unusedVariables false
set_option maxRecDepth 100000
abbrev O := Option
abbrev Y0 (β : Type) := Int → Int → (Bool → O β) → O β
abbrev Y1 (β : Type) := Int → Int → Int → (Bool → O β) → O β
abbrev Y2 (β : Type) := Int → (Bool → O β) → O β
abbrev Y3 (β : Type) := (List (Int × Int)) → (Int → Int → (Bool → O β) → O β) → (Int → O β) → O β
abbrev Y4 (β : Type) := (Int → Int → (Bool → O β) → O β) → Nat → List (Int × Int) → Int → Int → (Int → O β) → O β → O β
abbrev Y5 (β : Type) := (List (Int × Int)) → (Int → Int → (Bool → O β) → O β) → (Bool → O β) → O β
abbrev Y6 (β : Type) := Int → (List (Int × Int)) → (Bool → O β) → O β
abbrev Y7 (β : Type) := Int → Int → (Int → O β) → O β
abbrev Y8 (β : Type) := Int → Int → Int → (Int → O β) → O β
abbrev Y9 (β : Type) := Nat → Int → Int → Int → Int → Int → Int → (Int → O β) → O β
abbrev Y10 (β : Type) := Int → (Int → (Bool → O β) → O β) → (Int → Int → O β) → O β
abbrev Y11 (β : Type) := (Int → (Bool → O β) → O β) → Nat → Int → Int → Int → Int → Int → Int → (Int → Int → Int → Int → O β) → O β
abbrev Y12 (β : Type) := Int → Int → (Int → Int → O β) → O β
abbrev Y13 (β : Type) := Nat → Int → Int → Int → Int → (Int → O β) → O β
abbrev Y14 (β : Type) := List Int → Int → (Int → O β) → O β
abbrev Y15 (β : Type) := Nat → List Int → Int → Int → Int → (Int → O β) → O β → O β
abbrev Y16 (β : Type) := List Int → Int → (Bool → O β) → O β
abbrev Y17 (β : Type) := Nat → Int → Int → Int → Int → Int → (Int → O β) → O β
abbrev Y18 (β : Type) := Int → Int → Int → Int → (Bool → O β) → O β
abbrev Y19 (β : Type) := Nat → Int → Int → Int → Int → Int → (Bool → O β) → O β → O β
abbrev Y20 (β : Type) := Int → Int → (List (Int × Int) → O β) → O β
abbrev Y21 (β : Type) := Nat → Int → Int → Int → List (Int × Int) → (List (Int × Int) → O β) → O β
abbrev Y22 (β : Type) := Nat → Int → Int → Int → Int → List (Int × Int) → (Int → Int → Int → List (Int × Int) → O β) → O β
abbrev Y23 (β : Type) := Nat → Int → Int → List (Int × Int) → Int → Int → Int → (List (Int × Int) → Bool → O β) → O β
abbrev Y24 (β : Type) := (Int → Int → List (Int × Int) → Int → Int → Int → (List (Int × Int) → Bool → O β) → O β) → Nat → List (Int × Int) → Int → Int → Int → Int → Int → (Bool → List (Int × Int) → O β) → O β → O β
abbrev Y25 (β : Type) := Int → Int → (List (Int × Int) → Bool → O β) → O β
abbrev Y26 (β : Type) := Nat → Int → Int → Int → List (Int × Int) → (Bool → List (Int × Int) → O β) → O β → O β
abbrev Y27 (β : Type) := Int → Int → List (Int × Int) → Int → Int → Int → (List (Int × Int) → Bool → O β) → O β
abbrev Y28 (β : Type) := Nat → Int → Int → Int → List (Int × Int) → List (Int × Int) → (List (Int × Int) → O β) → O β
abbrev Y29 (β : Type) := Nat → Int → Int → Int → Int → Int → List (Int × Int) → List (Int × Int) → (Int → Int → Int → Int → List (Int × Int) → List (Int × Int) → O β) → O β
abbrev Y30 (β : Type) := Int → Int → Int → Int → (Int → O β) → O β
abbrev Y31 (β : Type) := Nat → Int → Int → Int → Int → Int → Int → (Int → O β) → (Int → O β) → O β
abbrev Y32 (β : Type) := (Int → Int → Int → Int → (Int → O β) → O β) → Nat → Int → Int → Int → Int → Int → Int → (Int → O β) → O β
abbrev Y33 (β : Type) := Nat → Int → Int → Int → Int → (ByteArray → O β) → O β
abbrev Y34 (β : Type) := (Int → Int → Int → Int → (ByteArray → O β) → O β) → Nat → Int → Int → Int → Int → Int → Int → (ByteArray → O β) → O β → O β
abbrev Y35 (β : Type) := Int → Int → (ByteArray → Bool → O β) → O β
abbrev Y36 (β : Type) := Int → Int → Int → Int → (ByteArray → O β) → O β
abbrev Y37 (β : Type) := Nat → Int → Int → Int → Int → Int → Int → (Int → Int → Int → Int → Int → O β) → O β
abbrev Y38 (β : Type) := Int → Int → Int → (ByteArray → O β) → O β
abbrev Y39 (β : Type) := Nat → Int → ByteArray → Int → Int → Int → (Int → ByteArray → Int → Int → O β) → O β
abbrev Y40 (β : Type) := Int → Int → (ByteArray → O β) → O β
abbrev Y41 (β : Type) := Nat → ByteArray → Int → Int → Int → Int → (ByteArray → O β) → O β
abbrev Y42 (β : Type) := Nat → Int → List (Int × Int) → Int → (Bool → O β) → (Int → List (Int × Int) → O β) → O β
abbrev Y43 (β : Type) := Int → (List (Int × Int)) → (ByteArray → O β) → O β
abbrev Y44 (β : Type) := Nat → Int → List (Int × Int) → ByteArray → Int → (Int → List (Int × Int) → ByteArray → O β) → O β
abbrev Y45 (β : Type) := Int → (ByteArray → O β) → O β
abbrev Y46 (β : Type) := Nat → Int → ByteArray → Bool → (ByteArray → Bool → O β) → O β
abbrev Y47 (β : Type) := Int → (Int → O β) → O β
abbrev Y48 (β : Type) := Nat → List Int → Int → Int → (ByteArray → O β) → O β
abbrev Y49 (β : Type) := Nat → List Int → Int → Int → Int → (ByteArray → O β) → (List Int → Int → Int → O β) → O β
abbrev Y50 (β : Type) := (List Int → Int → Int → (ByteArray → O β) → O β) → Nat → List Int → Int → Int → Int → (ByteArray → O β) → O β → O β
abbrev Y51 (β : Type) := (List Int → Int → Int → (ByteArray → O β) → O β) → Nat → List Int → Int → Int → Int → Int → (ByteArray → O β) → (List Int → Int → Int → Int → O β) → O β
abbrev Y52 (β : Type) := (List Int → Int → Int → (ByteArray → O β) → O β) → Nat → List Int → Int → Int → Int → Int → Int → (ByteArray → O β) → (List Int → Int → Int → Int → Int → O β) → O β
abbrev Y53 (β : Type) := List Int → Int → Int → (ByteArray → O β) → O β
abbrev Y54 (β : Type) := (List (Int × Int)) → Int → Int → (Bool → O β) → O β
abbrev Y55 (β : Type) := Nat → List (Int × Int) → Int → Int → Bool → Bool → Int → (Bool → O β) → (Bool → Bool → O β) → O β
abbrev Y56 (β : Type) := Int → (List (Int × Int)) → (List (List Int) → Bool → O β) → O β
abbrev Y57 (β : Type) := Nat → Int → List (Int × Int) → Int → List (List Int) → (List (List Int) → O β) → O β
abbrev Y58 (β : Type) := Nat → Int → List (Int × Int) → Int → Int → List (List Int) → (Int → List (Int × Int) → Int → List (List Int) → O β) → O β
abbrev Y59 (β : Type) := Bool → ByteArray → (ByteArray → O β) → O β
abbrev Y60 (β : Type) := Nat → Int → Int → Int → Int → Int → Int → Bool → Bool → (Bool → Bool → O β) → O β
abbrev Y61 (β : Type) := Nat → Int → Int → Int → Int → Int → Int → (Bool → O β) → O β → O β
abbrev Y62 (β : Type) := Nat → Int → Int → Int → Int → List (Int × Int) → (List (Int × Int) → O β) → O β
abbrev Y63 (β : Type) := Nat → Int → Int → Int → Int → Int → Int → Int → List (Int × Int) → (Int → Int → Int → Int → List (Int × Int) → O β) → O β
abbrev Y64 (β : Type) := Int → (List (Int × Int)) → (Int → Int → O β) → O β
abbrev Y65 (β : Type) := Nat → List Int → Int → Int → Int → Int → (List Int → Bool → O β) → O β
abbrev Y66 (β : Type) := (List Int → Int → Int → Int → Int → (List Int → Bool → O β) → O β) → Nat → List Int → Int → Int → Int → Int → (Bool → List Int → O β) → O β → O β
abbrev Y67 (β : Type) := Nat → List (Int × Int) → List (Int × Int) → Int → Int → Int → Int → List Int → (List (Int × Int) → Int → Int → List Int → O β) → O β
abbrev Y68 (β : Type) := Nat → List (Int × Int) → Int → Int → Int → Int → List Int → (List (Int × Int) → O β) → O β → O β
abbrev Y69 (β : Type) := Nat → List (Int × Int) → Int → Int → List (Int × Int) → List Int → (List (Int × Int) → O β) → O β
abbrev Y70 (β : Type) := List Int → Int → Int → Int → Int → (List Int → Bool → O β) → O β
abbrev Y71 (β : Type) := Nat → List (Int × Int) → List (Int × Int) → Int → Int → Int → Int → List (Int × Int) → (List (Int × Int) → O β) → O β
abbrev Y72 (β : Type) := Int → Int → (Int → Int → Mp → Mp → O β) → O β
abbrev Y73 (β : Type) := Int → Int → Int → Int → (Int → Int → O β) → O β
abbrev Y74 (β : Type) := Nat → Int → Int → Int → Int → Mp → Mp → (Int → Int → Int → Mp → Mp → O β) → O β
abbrev Y75 (β : Type) := (Int → Int → Int → Int → Mp → Mp → (Int → Int → Int → Mp → Mp → O β) → O β) → Nat → Int → Int → Int → Int → Int → Mp → Mp → Int → Int → (Int → Int → Int → Mp → Mp → Int → Int → O β) → O β
abbrev Y76 (β : Type) := Int → Int → Int → Int → Mp → Mp → (Int → Int → Int → Mp → Mp → O β) → O β
abbrev Y77 (β : Type) := Nat → Int → Int → Int → Int → Int → Mp → Mp → Int → Int → (Int → Int → Int → Mp → Mp → O β) → (Int → Int → Mp → Mp → O β) → O β
abbrev Y78 (β : Type) := Nat → Int → Int → Int → Int → Mp → Mp → (ByteArray → Int → Int → Mp → Mp → O β) → O β
abbrev Y79 (β : Type) := Int → Int → Int → Int → Mp → Mp → (ByteArray → Int → Int → Mp → Mp → O β) → O β
abbrev Y80 (β : Type) := Nat → Int → Int → Int → Int → List Int → (List Int → O β) → O β
abbrev Y81 (β : Type) := Int → (List (Int × Int)) → ByteArray → (ByteArray → O β) → O β
abbrev Y82 (β : Type) := Nat → Int → ByteArray → List (Int × Int) → Int → Int → List ByteArray → (ByteArray → List ByteArray → O β) → O β
abbrev Y83 (β : Type) := Nat → Int → Int → Int → Int → Int → Int → List (Int × Int) → (Int → Int → List (Int × Int) → O β) → O β
abbrev Y84 (β : Type) := Nat → Int → Int → List Int → (ByteArray → O β) → O β
abbrev Y85 (β : Type) := Nat → List Int → Int → Int → Int → Int → (ByteArray → O β) → (List Int → Int → Int → O β) → O β
abbrev Y86 (β : Type) := (Int → Int → List Int → (ByteArray → O β) → O β) → Nat → List Int → Int → Int → Int → Int → List Int → (ByteArray → O β) → O β → O β
abbrev Y87 (β : Type) := (Int → Int → List Int → (ByteArray → O β) → O β) → Nat → List Int → Int → Int → Int → List Int → Int → Int → Int → Int → List Int → (ByteArray → O β) → (List Int → Int → Int → Int → Int → List Int → O β) → O β
abbrev Y88 (β : Type) := (Int → Int → List Int → (ByteArray → O β) → O β) → Nat → List Int → Int → Int → Int → Int → Int → List Int → Int → Int → List Int → Int → Int → Int → Int → List Int → (ByteArray → O β) → (List Int → Int → Int → Int → List Int → Int → Int → Int → Int → List Int → O β) → O β
abbrev Y89 (β : Type) := Int → Int → List Int → (ByteArray → O β) → O β
abbrev Y90 (β : Type) := Nat → Int → Int → Bool → Bool → List (Int × Int) → Int → Int → (Bool → O β) → (Bool → Bool → O β) → O β
abbrev Y91 (β : Type) := Int → (List (Int × Int)) → (List (List Int) → O β) → O β
abbrev Y92 (β : Type) := Nat → Int → List (Int × Int) → Int → Int → List (List Int) → (List (List Int) → O β) → O β
abbrev Y93 (β : Type) := Nat → Int → List (Int × Int) → Int → Int → Int → Int → Int → List (List Int) → (Int → List (Int × Int) → Int → Int → List (List Int) → O β) → O β
abbrev Y94 (β : Type) := List ByteArray → List ByteArray → (List ByteArray → List ByteArray → O β) → O β
abbrev Y95 (β : Type) := Bool → ByteArray → List ByteArray → (List ByteArray → O β) → (List ByteArray → O β) → O β
abbrev Y96 (β : Type) := List ByteArray → (ByteArray → List ByteArray → O β) → O β
def tn : Nat → List TV → List TV
 | 0, l => l
 | n + 1, l => ac :: tn n l
variable {β : Type}
abbrev stB (L : Lay) (E : Env β) (f : Func) (i : Nat) (s : St) (rec_ : St → O β) (K : Exit → St → O β) : O β := ev L E (ah f) (lp f i).body (lp f i).ex ((lp f i).lv (ah f)) s (Q9 (fun s' => rec_ (s'.tidy ((lp f i).lv (ah f)))) K)
variable (zq0 : Y0 β) (zq1 zq2 : Y1 β) (zq3 : Y2 β) (zq4 : Y0 β) (zq5 zq6 : Y1 β) (zq8 : Y4 β) (zq9 : Y3 β) (zq10 : Y5 β) (zq11 : Y6 β) (zq12 : Y7 β) (zq13 : Y8 β) (zq15 : Y9 β) (zq16 : Y1 β) (zq18 : Y11 β) (zq19 : Y10 β) (zq20 : Y12 β) (zq22 : Y13 β) (zq23 : Y7 β) (zq25 : Y15 β) (zq26 : Y14 β) (zq28 : Y12 β) (zq29 : Y1 β) (zq30 : Y0 β) (zq32 : Y17 β) (zq33 : Y8 β) (zq34 : Y18 β) (zq36 : Y19 β) (zq37 : Y18 β) (zq39 : Y22 β) (zq41 : Y21 β) (zq42 : Y20 β) (zq44 : Y24 β) (zq47 : Y27 β) (zq49 : Y26 β) (zq50 zq51 : Y25 β) (zq53 : Y29 β) (zq55 : Y28 β) (zq56 : Y25 β) (zq58 : Y31 β) (zq59 : Y30 β) (zq61 : Y32 β) (zq64 : Y30 β) (zq66 : Y34 β) (zq69 : Y36 β) (zq70 : Y35 β) (zq72 : Y37 β) (zq74 : Y13 β) (zq75 : Y7 β) (zq76 : Y1 β) (zq78 : Y39 β) (zq79 : Y38 β) (zq81 : Y41 β) (zq82 : Y40 β) (zq84 : Y42 β) (zq85 : Y6 β) (zq87 : Y44 β) (zq88 : Y43 β) (zq90 : Y46 β) (zq91 : Y45 β) (zq92 : Y47 β) (zq94 : Y49 β) (zq96 : Y52 β) (zq98 : Y51 β) (zq100 : Y50 β) (zq103 : Y53 β) (zq104 : Y35 β) (zq106 : Y55 β) (zq107 : Y54 β) (zq109 : Y58 β) (zq111 : Y57 β) (zq112 : Y56 β) (zq113 : Y6 β) (zq114 : Y59 β) (zq115 : Y40 β) (zq116 : Y0 β) (zq117 : Y1 β) (zq119 : Y60 β) (zq120 : Y30 β) (zq121 : Y18 β) (zq123 : Y61 β) (zq124 : Y18 β) (zq126 : Y63 β) (zq128 : Y62 β) (zq129 : Y20 β) (zq130 : Y64 β) (zq132 : Y66 β) (zq135 : Y70 β) (zq137 : Y67 β) (zq139 : Y69 β) (zq141 : Y68 β) (zq142 : Y20 β) (zq144 : Y71 β) (zq145 : Y25 β) (zq146 : Y72 β) (zq147 : Y45 β) (zq148 : Y73 β) (zq150 : Y75 β) (zq153 : Y76 β) (zq155 : Y77 β) (zq156 : Y76 β) (zq160 : Y79 β) (zq161 : Y35 β) (zq162 : Y12 β) (zq164 : Y80 β) (zq165 : Y38 β) (zq167 : Y82 β) (zq168 : Y81 β) (zq170 : Y83 β) (zq171 : Y40 β) (zq172 : Y43 β) (zq173 : Y12 β) (zq174 : Y0 β) (zq176 : Y85 β) (zq178 : Y88 β) (zq180 : Y87 β) (zq182 : Y86 β) (zq185 : Y89 β) (zq186 : Y35 β) (zq187 zq188 : Y6 β) (zq190 : Y90 β) (zq191 : Y54 β) (zq193 : Y93 β) (zq195 : Y92 β) (zq196 : Y91 β) (zq197 : Y6 β) (zq198 : Y94 β) (zq199 : Y95 β) (zq200 : Y96 β) (zq201 : Y40 β)
def zb0 (N : Nat) (a0 c0 : Int) (k : Bool → O β) : O β :=
(gd ((decide (0 ≤ c0)))
(k (((bits .and .i64 (dr .i64 a0 c0) 1) == 1))))
def zj0 (N : Nat) (a0 c0 : Int) (k : Bool → O β) : O β := zb0 N a0 c0 k
def zb1 (N : Nat) (a0 a1 a2 : Int) (k : Bool → O β) : O β :=
k (((bits .and .i64 a2 a0) == a1))
def zj1 (N : Nat) (a0 a1 a2 : Int) (k : Bool → O β) : O β := zb1 N a0 a1 a2 k
def zb2 (N : Nat) (a0 a1 c0 : Int) (k : Bool → O β) : O β :=
zq1 a0 a1 c0 fun r3 =>
k r3
def zj2 (N : Nat) (a0 a1 c0 : Int) (k : Bool → O β) : O β := zb2 (zj1 N) N a0 a1 c0 k
def zb3 (N : Nat) (a0 : Int) (k : Bool → O β) : O β :=
(cond ((decide (a0 ≥ 0)))
(k ((decide (a0 ≤ 5))))
(k false))
def zj3 (N : Nat) (a0 : Int) (k : Bool → O β) : O β := zb3 N a0 k
def zb4 (N : Nat) (a0 a1 : Int) (k : Bool → O β) : O β :=
(cond ((decide (a1 ≥ 0)))
((gd ((decide (0 ≤ a0)))
(k ((decide (a1 < (bb .i64 1 a0)))))))
(k false))
def zj4 (N : Nat) (a0 a1 : Int) (k : Bool → O β) : O β := zb4 N a0 a1 k
def zb5 (N : Nat) (a0 a1 a2 : Int) (k : Bool → O β) : O β :=
zq3 a0 fun r4 =>
(cond r4
(zq4 a0 a1 fun r5 =>
(cond r5
((cond ((decide (a2 ≥ 0)))
(k (((bits .andNot .i64 a2 a1) == 0)))
(k false)))
(k false)))
(k false))
def zj5 (N : Nat) (a0 a1 a2 : Int) (k : Bool → O β) : O β := zb5 (zj3 N) (zj4 N) N a0 a1 a2 k
def zb6 (N : Nat) (a0 a1 c0 : Int) (k : Bool → O β) : O β :=
zq5 c0 a0 a1 fun r3 =>
k (!r3)
def zj6 (N : Nat) (a0 a1 c0 : Int) (k : Bool → O β) : O β := zb6 (zj5 N) N a0 a1 c0 k
def zb7 (N : Nat) (a1 : (Int → Int → (Bool → O β) → O β)) (v0 : List (Int × Int)) (v1 v2 : Int) (rec_ : List (Int × Int) → Int → Int → O β) (k0 : Int → O β) (k1 : O β) : O β :=
(cond ((decide (v2 < v1)))
((gd ((decide (0 ≤ v2)))
((gd ((decide (v2 < (v0.length : Int))))
(a1 ((rd (0, 0) v0 v2).1) ((rd (0, 0) v0 v2).2) fun r3 =>
(cond r3
(k0 v2)
(rec_ v0 v1 ((w64 (v2 + 1))))))))))
(k1 ))
def zj7 (N : Nat) (a1 : (Int → Int → (Bool → O β) → O β)) (v0 : List (Int × Int)) (v1 v2 : Int) (rec_ : List (Int × Int) → Int → Int → O β) (k0 : Int → O β) (k1 : O β) : O β := zb7 N a1 v0 v1 v2 rec_ k0 k1
def zj8 (N : Nat) (a1 : (Int → Int → (Bool → O β) → O β)) : Nat → List (Int × Int) → Int → Int → (Int → O β) → (O β) → O β
 | 0, _, _, _, _, _ => none
 | F + 1, v0, v1, v2, k0, k1 => zj7 N a1 v0 v1 v2 (fun v0 v1 v2 => zj8 N a1 F v0 v1 v2 k0 k1) k0 k1
def zb9 (N : Nat) (a0 : List (Int × Int)) (a1 : (Int → Int → (Bool → O β) → O β)) (k : Int → O β) : O β :=
zq8 a1 N a0 ((a0.length : Int)) 0 (fun e4_0 =>
k e4_0) (k (-1))
def zj9 (N : Nat) (a0 : List (Int × Int)) (a1 : (Int → Int → (Bool → O β) → O β)) (k : Int → O β) : O β := zb9 (zj8 N) N a0 a1 k
def KL (N : Nat) (a0 : List (Int × Int)) (a1 : (Int → Int → (Bool → O β) → O β)) (k : Bool → O β) : O β :=
zq9 a0 a1 fun r3 =>
k ((decide (r3 ≥ 0)))
def tD (N : Nat) (a0 : List (Int × Int)) (a1 : (Int → Int → (Bool → O β) → O β)) (k : Bool → O β) : O β := KL (zj9 N) N a0 a1 k
def P7 (N : Nat) (a0 : Int) (c0 : List (Int × Int)) (k : Bool → O β) : O β :=
zq10 c0 (fun x0 x1 k => zq2 x0 x1 a0 k) fun r2 =>
k r2
def il (N : Nat) (a0 : Int) (c0 : List (Int × Int)) (k : Bool → O β) : O β := P7 (zj2 N) (tD N) N a0 c0 k
def CJ (N : Nat) (a0 a1 : Int) (k : Int → O β) : O β :=
(gd ((decide (0 ≤ a0)))
(k ((bb .i64 1 a0))))
def db (N : Nat) (a0 a1 : Int) (k : Int → O β) : O β := CJ N a0 a1 k
def KW (N : Nat) (a0 a1 a2 : Int) (k : Int → O β) : O β :=
(gd ((decide (0 ≤ a2)))
(k ((bits .and .i64 (dr .i64 a1 a2) 1))))
def eD (N : Nat) (a0 a1 a2 : Int) (k : Int → O β) : O β := KW N a0 a1 a2 k
def P8 (N : Nat) (v0 v1 v2 v3 v4 v5 : Int) (rec_ : Int → Int → Int → Int → Int → Int → O β) (k0 : Int → O β) : O β :=
(cond ((decide (v5 < v4)))
((cond (((bits .andNot .i64 v5 v0) == 0))
(zq13 v1 v2 v5 fun r3 =>
rec_ v0 v1 v2 ((bits .xor .i64 v3 r3)) v4 ((w64 (v5 + 1))))
(rec_ v0 v1 v2 v3 v4 ((w64 (v5 + 1))))))
(k0 v3))
def Uv (N : Nat) (v0 v1 v2 v3 v4 v5 : Int) (rec_ : Int → Int → Int → Int → Int → Int → O β) (k0 : Int → O β) : O β := P8 (eD N) N v0 v1 v2 v3 v4 v5 rec_ k0
def tE (N : Nat) : Nat → Int → Int → Int → Int → Int → Int → (Int → O β) → O β
 | 0, _, _, _, _, _, _, _ => none
 | F + 1, v0, v1, v2, v3, v4, v5, k0 => Uv N v0 v1 v2 v3 v4 v5 (fun v0 v1 v2 v3 v4 v5 => tE N F v0 v1 v2 v3 v4 v5 k0) k0
def T2 (N : Nat) (a0 c0 c1 : Int) (k : Bool → O β) : O β :=
zq12 c0 c1 fun r2 =>
zq15 N a0 c0 c1 0 r2 0 (fun e4_0 =>
k ((e4_0 == 1)))
def iZ (N : Nat) (a0 c0 c1 : Int) (k : Bool → O β) : O β := T2 (db N) (tE N) N a0 c0 c1 k
def K9 (N : Nat) (a1 : (Int → (Bool → O β) → O β)) (v0 v1 v2 v3 v4 v5 : Int) (rec_ : Int → Int → Int → Int → Int → Int → O β) (k0 : Int → Int → Int → Int → O β) : O β :=
(cond ((decide (v1 < v0)))
(a1 v1 fun r4 =>
(cond r4
((gd ((decide (0 ≤ v1)))
(rec_ v0 ((w64 (v1 + 1))) v2 v3 v4 ((bits .or .i64 v5 (bb .i64 1 v1))))))
(rec_ v0 ((w64 (v1 + 1))) v2 v3 v4 v5)))
(k0 v2 v3 v4 v5))
def WT (N : Nat) (a1 : (Int → (Bool → O β) → O β)) (v0 v1 v2 v3 v4 v5 : Int) (rec_ : Int → Int → Int → Int → Int → Int → O β) (k0 : Int → Int → Int → Int → O β) : O β := K9 N a1 v0 v1 v2 v3 v4 v5 rec_ k0
def mV (N : Nat) (a1 : (Int → (Bool → O β) → O β)) : Nat → Int → Int → Int → Int → Int → Int → (Int → Int → Int → Int → O β) → O β
 | 0, _, _, _, _, _, _, _ => none
 | F + 1, v0, v1, v2, v3, v4, v5, k0 => WT N a1 v0 v1 v2 v3 v4 v5 (fun v0 v1 v2 v3 v4 v5 => mV N a1 F v0 v1 v2 v3 v4 v5 k0) k0
def Lj (N : Nat) (a0 : Int) (a1 : (Int → (Bool → O β) → O β)) (k : Int → Int → O β) : O β :=
(gd ((decide (0 ≤ a0)))
(zq18 a1 N ((bb .i64 1 a0)) 0 0 0 a0 0 (fun e5_0 e5_1 e5_2 e5_3 =>
k e5_2 e5_3)))
def pH (N : Nat) (a0 : Int) (a1 : (Int → (Bool → O β) → O β)) (k : Int → Int → O β) : O β := Lj (mV N) N a0 a1 k
def T3 (N : Nat) (a0 a1 : Int) (k : Int → Int → O β) : O β :=
zq19 a0 (fun x0 k => zq0 x0 a1 k) fun r4 r5 =>
k r4 r5
def tF (N : Nat) (a0 a1 : Int) (k : Int → Int → O β) : O β := T3 (zj0 N) (pH N) N a0 a1 k
def P9 (N : Nat) (v0 v1 v2 v3 : Int) (rec_ : Int → Int → Int → Int → O β) (k0 : Int → O β) : O β :=
(gd ((decide (0 ≤ v0)))
((cond ((decide (v3 < (bb .i64 1 v0))))
((gd ((decide (0 ≤ v1)))
((cond (((bits .and .i64 (dr .i64 v3 v1) 1) == 1))
((gd ((decide (0 ≤ v3)))
(rec_ v0 v1 ((bits .or .i64 v2 (bb .i64 1 v3))) ((w64 (v3 + 1))))))
(rec_ v0 v1 v2 ((w64 (v3 + 1))))))))
(k0 v2))))
def Uw (N : Nat) (v0 v1 v2 v3 : Int) (rec_ : Int → Int → Int → Int → O β) (k0 : Int → O β) : O β := P9 N v0 v1 v2 v3 rec_ k0
def tG (N : Nat) : Nat → Int → Int → Int → Int → (Int → O β) → O β
 | 0, _, _, _, _, _ => none
 | F + 1, v0, v1, v2, v3, k0 => Uw N v0 v1 v2 v3 (fun v0 v1 v2 v3 => tG N F v0 v1 v2 v3 k0) k0
def WS (N : Nat) (a0 a1 : Int) (k : Int → O β) : O β :=
zq22 N a0 a1 0 0 (fun e3_0 =>
k e3_0)
def xw (N : Nat) (a0 a1 : Int) (k : Int → O β) : O β := WS (tG N) N a0 a1 k
def Qa (N : Nat) (v0 : List Int) (v1 v2 v3 : Int) (rec_ : List Int → Int → Int → Int → O β) (k0 : Int → O β) (k1 : O β) : O β :=
(cond ((decide (v3 < v2)))
((gd ((decide (0 ≤ v3)))
((gd ((decide (v3 < (v0.length : Int))))
((cond ((v1 == (rd 0 v0 v3)))
(k0 v3)
(rec_ v0 v1 v2 ((w64 (v3 + 1))))))))))
(k1 ))
def LN (N : Nat) (v0 : List Int) (v1 v2 v3 : Int) (rec_ : List Int → Int → Int → Int → O β) (k0 : Int → O β) (k1 : O β) : O β := Qa N v0 v1 v2 v3 rec_ k0 k1
def sU (N : Nat) : Nat → List Int → Int → Int → Int → (Int → O β) → (O β) → O β
 | 0, _, _, _, _, _, _ => none
 | F + 1, v0, v1, v2, v3, k0, k1 => LN N v0 v1 v2 v3 (fun v0 v1 v2 v3 => sU N F v0 v1 v2 v3 k0 k1) k0 k1
def T4 (N : Nat) (a0 : List Int) (a1 : Int) (k : Int → O β) : O β :=
zq25 N a0 a1 ((a0.length : Int)) 0 (fun e3_0 =>
k e3_0) (k (-1))
def LO (N : Nat) (a0 : List Int) (a1 : Int) (k : Int → O β) : O β := T4 (sU N) N a0 a1 k
def T5 (N : Nat) (a0 : List Int) (a1 : Int) (k : Bool → O β) : O β :=
zq26 a0 a1 fun r3 =>
k ((decide (r3 ≥ 0)))
def Qv (N : Nat) (a0 : List Int) (a1 : Int) (k : Bool → O β) : O β := T5 (LO N) N a0 a1 k
def T6 (N : Nat) (a0 a1 : Int) (k : Int → Int → O β) : O β :=
k a0 a1
def LP (N : Nat) (a0 a1 : Int) (k : Int → Int → O β) : O β := T6 N a0 a1 k
def Qb (N : Nat) (a0 a1 a2 : Int) (k : Bool → O β) : O β :=
(cond ((decide (a0 ≥ a1)))
(k ((decide (a0 ≤ a2))))
(k false))
def mW (N : Nat) (a0 a1 a2 : Int) (k : Bool → O β) : O β := Qb N a0 a1 a2 k
def T7 (N : Nat) (a0 a1 : Int) (k : Bool → O β) : O β :=
zq29 a0 0 5 fun r3 =>
(cond r3
((gd ((decide (0 ≤ a0)))
((gd ((decide (0 ≤ (bb .u64 1 a0))))
(zq29 a1 0 ((w64 ((bb .i64 1 (bb .u64 1 a0)) - 1))) fun r4 =>
k r4)))))
(k false))
def du (N : Nat) (a0 a1 : Int) (k : Bool → O β) : O β := T7 (mW N) N a0 a1 k
def Qc (N : Nat) (v0 v1 v2 v3 v4 : Int) (rec_ : Int → Int → Int → Int → Int → O β) (k0 : Int → O β) : O β :=
(gd ((decide (0 ≤ v0)))
((cond ((decide (v2 < (bb .i64 1 v0))))
((cond (((bits .and .i64 v2 v3) == v4))
((gd ((decide (0 ≤ v2)))
(rec_ v0 ((bits .or .i64 v1 (bb .i64 1 v2))) ((w64 (v2 + 1))) v3 v4)))
(rec_ v0 v1 ((w64 (v2 + 1))) v3 v4)))
(k0 v1))))
def Ux (N : Nat) (v0 v1 v2 v3 v4 : Int) (rec_ : Int → Int → Int → Int → Int → O β) (k0 : Int → O β) : O β := Qc N v0 v1 v2 v3 v4 rec_ k0
def tH (N : Nat) : Nat → Int → Int → Int → Int → Int → (Int → O β) → O β
 | 0, _, _, _, _, _, _ => none
 | F + 1, v0, v1, v2, v3, v4, k0 => Ux N v0 v1 v2 v3 v4 (fun v0 v1 v2 v3 v4 => tH N F v0 v1 v2 v3 v4 k0) k0
def T8 (N : Nat) (a0 a1 a2 : Int) (k : Int → O β) : O β :=
zq32 N a0 0 0 a1 a2 (fun e4_0 =>
k e4_0)
def jg (N : Nat) (a0 a1 a2 : Int) (k : Int → O β) : O β := T8 (tH N) N a0 a1 a2 k
def T9 (N : Nat) (a0 a1 a2 a3 : Int) (k : Bool → O β) : O β :=
zq33 a0 a2 a3 fun r5 =>
k (((bits .and .i64 r5 a1) == r5))
def AK (N : Nat) (a0 a1 a2 a3 : Int) (k : Bool → O β) : O β := T9 (jg N) N a0 a1 a2 a3 k
def Qd (N : Nat) (v0 v1 v2 v3 v4 : Int) (rec_ : Int → Int → Int → Int → Int → O β) (k0 : Bool → O β) (k1 : O β) : O β :=
(cond ((decide (v0 < v1)))
((gd ((decide (0 ≤ v0)))
((cond (((bits .and .i64 v3 (bb .i64 1 v0)) != 0))
(zq34 v1 v2 ((w64 (v3 - (bb .i64 1 v0)))) ((w64 (v4 - (bits .and .i64 v4 (bb .i64 1 v0))))) fun r6 =>
(cond r6
(k0 false)
(rec_ ((w64 (v0 + 1))) v1 v2 v3 v4)))
(rec_ ((w64 (v0 + 1))) v1 v2 v3 v4)))))
(k1 ))
def Uy (N : Nat) (v0 v1 v2 v3 v4 : Int) (rec_ : Int → Int → Int → Int → Int → O β) (k0 : Bool → O β) (k1 : O β) : O β := Qd (AK N) N v0 v1 v2 v3 v4 rec_ k0 k1
def tI (N : Nat) : Nat → Int → Int → Int → Int → Int → (Bool → O β) → (O β) → O β
 | 0, _, _, _, _, _, _, _ => none
 | F + 1, v0, v1, v2, v3, v4, k0, k1 => Uy N v0 v1 v2 v3 v4 (fun v0 v1 v2 v3 v4 => tI N F v0 v1 v2 v3 v4 k0 k1) k0 k1
def Ua (N : Nat) (a0 a1 a2 a3 : Int) (k : Bool → O β) : O β :=
zq34 a0 a1 a2 a3 fun r5 =>
(cond (!r5)
(k false)
(zq36 N 0 a0 a1 a2 a3 (fun e7_0 =>
k e7_0) (k true)))
def AL (N : Nat) (a0 a1 a2 a3 : Int) (k : Bool → O β) : O β := Ua (AK N) (tI N) N a0 a1 a2 a3 k
def Qe (N : Nat) (v0 v1 v2 v3 : Int) (v4 : List (Int × Int)) (rec_ : Int → Int → Int → Int → List (Int × Int) → O β) (k0 : Int → Int → Int → List (Int × Int) → O β) : O β :=
(cond ((decide (v1 ≤ v0)))
((cond (((bits .and .i64 v1 v0) == v1))
(zq37 v2 v3 v0 v1 fun r3 =>
(cond r3
((gd ((decide ((v4.length + ((([] : List (Int × Int)) ++ [(v0, v1)])).length) * 16 ≤ 140737488355328)))
(rec_ v0 ((w64 (v1 + 1))) v2 v3 ((v4 ++ (([] : List (Int × Int)) ++ [(v0, v1)]))))))
(rec_ v0 ((w64 (v1 + 1))) v2 v3 v4)))
(rec_ v0 ((w64 (v1 + 1))) v2 v3 v4)))
(k0 v0 v2 v3 v4))
def Uz (N : Nat) (v0 v1 v2 v3 : Int) (v4 : List (Int × Int)) (rec_ : Int → Int → Int → Int → List (Int × Int) → O β) (k0 : Int → Int → Int → List (Int × Int) → O β) : O β := Qe (AL N) N v0 v1 v2 v3 v4 rec_ k0
def sV (N : Nat) : Nat → Int → Int → Int → Int → List (Int × Int) → (Int → Int → Int → List (Int × Int) → O β) → O β
 | 0, _, _, _, _, _, _ => none
 | F + 1, v0, v1, v2, v3, v4, k0 => Uz N v0 v1 v2 v3 v4 (fun v0 v1 v2 v3 v4 => sV N F v0 v1 v2 v3 v4 k0) k0
def Qf (N : Nat) (v0 v1 v2 : Int) (v3 : List (Int × Int)) (rec_ : Int → Int → Int → List (Int × Int) → O β) (k0 : List (Int × Int) → O β) : O β :=
(gd ((decide (0 ≤ v1)))
((cond ((decide (v0 < (bb .i64 1 v1))))
(zq39 N v0 0 v1 v2 v3 (fun e4_0 e4_1 e4_2 e4_3 =>
rec_ ((w64 (e4_0 + 1))) e4_1 e4_2 e4_3))
(k0 v3))))
def UA (N : Nat) (v0 v1 v2 : Int) (v3 : List (Int × Int)) (rec_ : Int → Int → Int → List (Int × Int) → O β) (k0 : List (Int × Int) → O β) : O β := Qf (sV N) N v0 v1 v2 v3 rec_ k0
def oU (N : Nat) : Nat → Int → Int → Int → List (Int × Int) → (List (Int × Int) → O β) → O β
 | 0, _, _, _, _, _ => none
 | F + 1, v0, v1, v2, v3, k0 => UA N v0 v1 v2 v3 (fun v0 v1 v2 v3 => oU N F v0 v1 v2 v3 k0) k0
def Ub (N : Nat) (a0 a1 : Int) (k : List (Int × Int) → O β) : O β :=
zq41 N 0 a0 a1 (([] : List (Int × Int))) (fun e5_0 =>
k e5_0)
def mX (N : Nat) (a0 a1 : Int) (k : List (Int × Int) → O β) : O β := Ub (oU N) N a0 a1 k
def Qg (N : Nat) (self : Int → Int → List (Int × Int) → Int → Int → Int → (List (Int × Int) → Bool → O β) → O β) (v0 : List (Int × Int)) (v1 v2 v3 v4 v5 : Int) (rec_ : List (Int × Int) → Int → Int → Int → Int → Int → O β) (k0 : Bool → List (Int × Int) → O β) (k1 : O β) : O β :=
(cond ((decide (v3 < (v0.length : Int))))
((gd ((decide (0 ≤ v3)))
((gd ((decide (v3 < (v0.length : Int))))
(zq33 v4 ((rd (0, 0) v0 v3).1) ((rd (0, 0) v0 v3).2) fun r8 =>
(cond (((bits .and .i64 r8 v1) == 0))
(rec_ v0 v1 v2 ((w64 (v3 + 1))) v4 v5)
(self v4 v5 v0 ((w64 (v3 + 1))) ((w64 (v1 - (bits .and .i64 v1 r8)))) ((w64 (v2 - 1))) fun r9 r10 =>
(cond r10
((gd ((decide (0 ≤ v3)))
((gd ((decide (v3 < (v0.length : Int))))
((gd ((decide ((((([] : List (Int × Int)) ++ [((rd (0, 0) v0 v3).1, (rd (0, 0) v0 v3).2)])).length + r9.length) * 16 ≤ 140737488355328)))
(k0 true (((([] : List (Int × Int)) ++ [((rd (0, 0) v0 v3).1, (rd (0, 0) v0 v3).2)]) ++ r9)))))))))
(rec_ v0 v1 v2 ((w64 (v3 + 1))) v4 v5)))))))))
(k1 ))
def UB (N : Nat) (self : Int → Int → List (Int × Int) → Int → Int → Int → (List (Int × Int) → Bool → O β) → O β) (v0 : List (Int × Int)) (v1 v2 v3 v4 v5 : Int) (rec_ : List (Int × Int) → Int → Int → Int → Int → Int → O β) (k0 : Bool → List (Int × Int) → O β) (k1 : O β) : O β := Qg (jg N) N self v0 v1 v2 v3 v4 v5 rec_ k0 k1
def tJ (N : Nat) (self : Int → Int → List (Int × Int) → Int → Int → Int → (List (Int × Int) → Bool → O β) → O β) : Nat → List (Int × Int) → Int → Int → Int → Int → Int → (Bool → List (Int × Int) → O β) → (O β) → O β
 | 0, _, _, _, _, _, _, _, _ => none
 | F + 1, v0, v1, v2, v3, v4, v5, k0, k1 => UB N self v0 v1 v2 v3 v4 v5 (fun v0 v1 v2 v3 v4 v5 => tJ N self F v0 v1 v2 v3 v4 v5 k0 k1) k0 k1
def Hp (N : Nat) (self : Int → Int → List (Int × Int) → Int → Int → Int → (List (Int × Int) → Bool → O β) → O β) (a0 a1 : Int) (a2 : List (Int × Int)) (a3 a4 a5 : Int) (k : List (Int × Int) → Bool → O β) : O β :=
(cond ((a4 == 0))
(k (([] : List (Int × Int))) true)
((cond ((a5 == 0))
(k (([] : List (Int × Int))) false)
(zq44 self N a2 a4 a5 a3 a0 a1 (fun e11_0 e11_1 =>
k e11_1 e11_0) (k (([] : List (Int × Int))) false)))))
def LQ (N : Nat) (self : Int → Int → List (Int × Int) → Int → Int → Int → (List (Int × Int) → Bool → O β) → O β) (a0 a1 : Int) (a2 : List (Int × Int)) (a3 a4 a5 : Int) (k : List (Int × Int) → Bool → O β) : O β := Hp (tJ N) N self a0 a1 a2 a3 a4 a5 k
def la (N : Nat) : Nat → Int → Int → List (Int × Int) → Int → Int → Int → (List (Int × Int) → Bool → O β) → O β
 | 0, _, _, _, _, _, _, _ => none
 | F + 1, a0, a1, a2, a3, a4, a5, k => LQ N (la N F) a0 a1 a2 a3 a4 a5 k
def Ys (N : Nat) (a0 a1 : Int) (a2 : List (Int × Int)) (a3 a4 a5 : Int) (k : List (Int × Int) → Bool → O β) : O β := la N N a0 a1 a2 a3 a4 a5 k
def Lo (N : Nat) (v0 v1 v2 : Int) (v3 : List (Int × Int)) (rec_ : Int → Int → Int → List (Int × Int) → O β) (k0 : Bool → List (Int × Int) → O β) (k1 : O β) : O β :=
(cond ((decide (v0 ≤ 8)))
(zq47 v1 v2 v3 0 v2 v0 fun r6 r7 =>
(cond r7
(k0 true r6)
(rec_ ((w64 (v0 + 1))) v1 v2 v3)))
(k1 ))
def Qw (N : Nat) (v0 v1 v2 : Int) (v3 : List (Int × Int)) (rec_ : Int → Int → Int → List (Int × Int) → O β) (k0 : Bool → List (Int × Int) → O β) (k1 : O β) : O β := Lo (Ys N) N v0 v1 v2 v3 rec_ k0 k1
def sW (N : Nat) : Nat → Int → Int → Int → List (Int × Int) → (Bool → List (Int × Int) → O β) → (O β) → O β
 | 0, _, _, _, _, _, _ => none
 | F + 1, v0, v1, v2, v3, k0, k1 => Qw N v0 v1 v2 v3 (fun v0 v1 v2 v3 => sW N F v0 v1 v2 v3 k0 k1) k0 k1
def Uc (N : Nat) (a0 a1 : Int) (k : List (Int × Int) → Bool → O β) : O β :=
zq30 a0 a1 fun r4 =>
(cond (!r4)
(k (([] : List (Int × Int))) false)
((cond ((decide (a0 > 4)))
(k (([] : List (Int × Int))) false)
(zq42 a0 a1 fun r5 =>
zq49 N 0 a0 a1 r5 (fun e8_0 e8_1 =>
k e8_1 e8_0) (k (([] : List (Int × Int))) false)))))
def Hq (N : Nat) (a0 a1 : Int) (k : List (Int × Int) → Bool → O β) : O β := Uc (du N) (mX N) (sW N) N a0 a1 k
def Ud (N : Nat) (a0 a1 : Int) (k : List (Int × Int) → Bool → O β) : O β :=
zq30 a0 a1 fun r4 =>
(cond (!r4)
(k (([] : List (Int × Int))) false)
(zq42 a0 a1 fun r5 =>
k r5 true))
def LR (N : Nat) (a0 a1 : Int) (k : List (Int × Int) → Bool → O β) : O β := Ud (du N) (mX N) N a0 a1 k
def Qh (N : Nat) (v0 v1 v2 v3 v4 : Int) (v5 : List (Int × Int)) (v6 : List (Int × Int)) (rec_ : Int → Int → Int → Int → Int → List (Int × Int) → List (Int × Int) → O β) (k0 : Int → Int → Int → Int → List (Int × Int) → List (Int × Int) → O β) : O β :=
(cond ((decide (v2 < (v6.length : Int))))
((cond ((v2 != v0))
((gd ((decide (0 ≤ v2)))
((gd ((decide (v2 < (v6.length : Int))))
(zq33 v3 ((rd (0, 0) v6 v2).1) ((rd (0, 0) v6 v2).2) fun r7 =>
rec_ v0 ((w64 (v1 - (bits .and .i64 v1 r7)))) ((w64 (v2 + 1))) v3 v4 v5 v6)))))
(rec_ v0 v1 ((w64 (v2 + 1))) v3 v4 v5 v6)))
(k0 v0 v1 v3 v4 v5 v6))
def UC (N : Nat) (v0 v1 v2 v3 v4 : Int) (v5 : List (Int × Int)) (v6 : List (Int × Int)) (rec_ : Int → Int → Int → Int → Int → List (Int × Int) → List (Int × Int) → O β) (k0 : Int → Int → Int → Int → List (Int × Int) → List (Int × Int) → O β) : O β := Qh (jg N) N v0 v1 v2 v3 v4 v5 v6 rec_ k0
def sX (N : Nat) : Nat → Int → Int → Int → Int → Int → List (Int × Int) → List (Int × Int) → (Int → Int → Int → Int → List (Int × Int) → List (Int × Int) → O β) → O β
 | 0, _, _, _, _, _, _, _, _ => none
 | F + 1, v0, v1, v2, v3, v4, v5, v6, k0 => UC N v0 v1 v2 v3 v4 v5 v6 (fun v0 v1 v2 v3 v4 v5 v6 => sX N F v0 v1 v2 v3 v4 v5 v6 k0) k0
def Qi (N : Nat) (v0 v1 v2 : Int) (v3 : List (Int × Int)) (v4 : List (Int × Int)) (rec_ : Int → Int → Int → List (Int × Int) → List (Int × Int) → O β) (k0 : List (Int × Int) → O β) : O β :=
(cond ((decide (v0 < (v4.length : Int))))
((gd ((decide (0 ≤ v0)))
((gd ((decide (v0 < (v4.length : Int))))
(zq33 v1 ((rd (0, 0) v4 v0).1) ((rd (0, 0) v4 v0).2) fun r6 =>
zq53 N v0 r6 0 v1 v2 v3 v4 (fun e8_0 e8_1 e8_2 e8_3 e8_4 e8_5 =>
(cond ((decide (e8_1 > 0)))
((gd ((decide (0 ≤ e8_0)))
((gd ((decide (e8_0 < (e8_5.length : Int))))
((gd ((decide ((e8_4.length + ((([] : List (Int × Int)) ++ [((rd (0, 0) e8_5 e8_0).1, (rd (0, 0) e8_5 e8_0).2)])).length) * 16 ≤ 140737488355328)))
(rec_ ((w64 (e8_0 + 1))) e8_2 e8_3 ((e8_4 ++ (([] : List (Int × Int)) ++ [((rd (0, 0) e8_5 e8_0).1, (rd (0, 0) e8_5 e8_0).2)]))) e8_5)))))))
(rec_ ((w64 (e8_0 + 1))) e8_2 e8_3 e8_4 e8_5))))))))
(k0 v3))
def UD (N : Nat) (v0 v1 v2 : Int) (v3 : List (Int × Int)) (v4 : List (Int × Int)) (rec_ : Int → Int → Int → List (Int × Int) → List (Int × Int) → O β) (k0 : List (Int × Int) → O β) : O β := Qi (jg N) (sX N) N v0 v1 v2 v3 v4 rec_ k0
def sY (N : Nat) : Nat → Int → Int → Int → List (Int × Int) → List (Int × Int) → (List (Int × Int) → O β) → O β
 | 0, _, _, _, _, _, _ => none
 | F + 1, v0, v1, v2, v3, v4, k0 => UD N v0 v1 v2 v3 v4 (fun v0 v1 v2 v3 v4 => sY N F v0 v1 v2 v3 v4 k0) k0
def Ue (N : Nat) (a0 a1 : Int) (k : List (Int × Int) → Bool → O β) : O β :=
zq30 a0 a1 fun r4 =>
(cond (!r4)
(k (([] : List (Int × Int))) false)
(zq42 a0 a1 fun r5 =>
zq55 N 0 a0 a1 (([] : List (Int × Int))) r5 (fun e9_0 =>
k e9_0 true)))
def Hr (N : Nat) (a0 a1 : Int) (k : List (Int × Int) → Bool → O β) : O β := Ue (du N) (mX N) (sY N) N a0 a1 k
def Uf (N : Nat) (v0 v1 v2 v3 v4 v5 : Int) (rec_ : Int → Int → Int → Int → Int → Int → O β) (k0 k1 : Int → O β) : O β :=
(gd ((decide (0 ≤ v4)))
((cond ((decide (v3 < (bb .i64 1 v4))))
((cond (((bits .and .i64 v3 v0) != v1))
(rec_ v0 v1 v2 ((w64 (v3 + 1))) v4 v5)
((gd ((decide (0 ≤ v3)))
((cond ((decide (v2 ≥ 0)))
((cond ((v2 != (bits .and .i64 (dr .i64 v5 v3) 1)))
(k0 2)
(rec_ v0 v1 ((bits .and .i64 (dr .i64 v5 v3) 1)) ((w64 (v3 + 1))) v4 v5)))
(rec_ v0 v1 ((bits .and .i64 (dr .i64 v5 v3) 1)) ((w64 (v3 + 1))) v4 v5)))))))
(k1 v2))))
def WU (N : Nat) (v0 v1 v2 v3 v4 v5 : Int) (rec_ : Int → Int → Int → Int → Int → Int → O β) (k0 k1 : Int → O β) : O β := Uf N v0 v1 v2 v3 v4 v5 rec_ k0 k1
def xx (N : Nat) : Nat → Int → Int → Int → Int → Int → Int → (Int → O β) → (Int → O β) → O β
 | 0, _, _, _, _, _, _, _, _ => none
 | F + 1, v0, v1, v2, v3, v4, v5, k0, k1 => WU N v0 v1 v2 v3 v4 v5 (fun v0 v1 v2 v3 v4 v5 => xx N F v0 v1 v2 v3 v4 v5 k0 k1) k0 k1
def Ug (N : Nat) (a0 a1 a2 a3 : Int) (k : Int → O β) : O β :=
zq58 N a2 a3 (-1) 0 a0 a1 (fun e5_0 =>
k e5_0) (fun e6_0 =>
k e6_0)
def sZ (N : Nat) (a0 a1 a2 a3 : Int) (k : Int → O β) : O β := Ug (xx N) N a0 a1 a2 a3 k
def Qj (N : Nat) (self : Int → Int → Int → Int → (Int → O β) → O β) (v0 v1 v2 v3 v4 v5 : Int) (rec_ : Int → Int → Int → Int → Int → Int → O β) (k0 : Int → O β) : O β :=
(cond ((decide (v3 < v4)))
((gd ((decide (0 ≤ v3)))
((cond (((bits .and .i64 v0 (bb .i64 1 v3)) == 0))
(self v4 v5 ((bits .or .i64 v0 (bb .i64 1 v3))) v1 fun r6 =>
self v4 v5 ((bits .or .i64 v0 (bb .i64 1 v3))) ((bits .or .i64 v1 (bb .i64 1 v3))) fun r7 =>
rec_ v0 v1 ((mnI v2 (w64 (1 + (mxI r6 r7))))) ((w64 (v3 + 1))) v4 v5)
(rec_ v0 v1 v2 ((w64 (v3 + 1))) v4 v5)))))
(k0 v2))
def UE (N : Nat) (self : Int → Int → Int → Int → (Int → O β) → O β) (v0 v1 v2 v3 v4 v5 : Int) (rec_ : Int → Int → Int → Int → Int → Int → O β) (k0 : Int → O β) : O β := Qj N self v0 v1 v2 v3 v4 v5 rec_ k0
def tK (N : Nat) (self : Int → Int → Int → Int → (Int → O β) → O β) : Nat → Int → Int → Int → Int → Int → Int → (Int → O β) → O β
 | 0, _, _, _, _, _, _, _ => none
 | F + 1, v0, v1, v2, v3, v4, v5, k0 => UE N self v0 v1 v2 v3 v4 v5 (fun v0 v1 v2 v3 v4 v5 => tK N self F v0 v1 v2 v3 v4 v5 k0) k0
def Uh (N : Nat) (self : Int → Int → Int → Int → (Int → O β) → O β) (a0 a1 a2 a3 : Int) (k : Int → O β) : O β :=
zq59 a0 a1 a2 a3 fun r5 =>
(cond ((decide (r5 < 2)))
(k 0)
(zq61 self N a2 a3 10 0 a0 a1 (fun e8_0 =>
k e8_0)))
def WV (N : Nat) (self : Int → Int → Int → Int → (Int → O β) → O β) (a0 a1 a2 a3 : Int) (k : Int → O β) : O β := Uh (sZ N) (tK N) N self a0 a1 a2 a3 k
def nV (N : Nat) : Nat → Int → Int → Int → Int → (Int → O β) → O β
 | 0, _, _, _, _, _ => none
 | F + 1, a0, a1, a2, a3, k => WV N (nV N F) a0 a1 a2 a3 k
def UF (N : Nat) (a0 a1 a2 a3 : Int) (k : Int → O β) : O β := nV N N a0 a1 a2 a3 k
def Ui (N : Nat) (self : Int → Int → Int → Int → (ByteArray → O β) → O β) (v0 v1 v2 v3 v4 v5 : Int) (rec_ : Int → Int → Int → Int → Int → Int → O β) (k0 : ByteArray → O β) (k1 : O β) : O β :=
(cond ((decide (v3 < v4)))
((gd ((decide (0 ≤ v3)))
((cond (((bits .and .i64 v0 (bb .i64 1 v3)) == 0))
(zq64 v4 v5 ((bits .or .i64 v0 (bb .i64 1 v3))) v1 fun r7 =>
zq64 v4 v5 ((bits .or .i64 v0 (bb .i64 1 v3))) ((bits .or .i64 v1 (bb .i64 1 v3))) fun r8 =>
(cond (((w64 (1 + (mxI r7 r8))) == v2))
((gd ((decide (0 ≤ (w64 (v3 + 1)))))
((gd ((decide ((w64 (v3 + 1)) ≤ (((aj [97, 98, 99, 100, 101])).size : Int))))
((gd ((decide (0 ≤ v3)))
((gd ((decide (v3 ≤ (w64 (v3 + 1)))))
(self v4 v5 ((bits .or .i64 v0 (bb .i64 1 v3))) v1 fun r9 =>
(gd ((decide (((((aj [97, 98, 99, 100, 101])).extract (Int.toNat v3) (Int.toNat (w64 (v3 + 1))))).size + r9.size ≤ 9223372036854775807)))
(self v4 v5 ((bits .or .i64 v0 (bb .i64 1 v3))) ((bits .or .i64 v1 (bb .i64 1 v3))) fun r10 =>
(gd ((decide ((((((aj [97, 98, 99, 100, 101])).extract (Int.toNat v3) (Int.toNat (w64 (v3 + 1)))) ++ r9)).size + r10.size ≤ 9223372036854775807)))
(k0 ((((((aj [97, 98, 99, 100, 101])).extract (Int.toNat v3) (Int.toNat (w64 (v3 + 1)))) ++ r9) ++ r10)))))))))))))))
(rec_ v0 v1 v2 ((w64 (v3 + 1))) v4 v5)))
(rec_ v0 v1 v2 ((w64 (v3 + 1))) v4 v5)))))
(k1 ))
def WW (N : Nat) (self : Int → Int → Int → Int → (ByteArray → O β) → O β) (v0 v1 v2 v3 v4 v5 : Int) (rec_ : Int → Int → Int → Int → Int → Int → O β) (k0 : ByteArray → O β) (k1 : O β) : O β := Ui (UF N) N self v0 v1 v2 v3 v4 v5 rec_ k0 k1
def tL (N : Nat) (self : Int → Int → Int → Int → (ByteArray → O β) → O β) : Nat → Int → Int → Int → Int → Int → Int → (ByteArray → O β) → (O β) → O β
 | 0, _, _, _, _, _, _, _, _ => none
 | F + 1, v0, v1, v2, v3, v4, v5, k0, k1 => WW N self v0 v1 v2 v3 v4 v5 (fun v0 v1 v2 v3 v4 v5 => tL N self F v0 v1 v2 v3 v4 v5 k0 k1) k0 k1
def Uj (N : Nat) (self : Int → Int → Int → Int → (ByteArray → O β) → O β) (a0 a1 a2 a3 : Int) (k : ByteArray → O β) : O β :=
zq59 a0 a1 a2 a3 fun r5 =>
(cond ((decide (r5 < 2)))
((gd ((decide (0 ≤ (w64 (r5 + 1)))))
((gd ((decide ((w64 (r5 + 1)) ≤ (((aj [48, 49])).size : Int))))
((gd ((decide (0 ≤ r5)))
((gd ((decide (r5 ≤ (w64 (r5 + 1)))))
(k ((((aj [48, 49])).extract (Int.toNat r5) (Int.toNat (w64 (r5 + 1))))))))))))))
(zq64 a0 a1 a2 a3 fun r6 =>
zq66 self N a2 a3 r6 0 a0 a1 (fun e11_0 =>
k e11_0) (k ByteArray.empty)))
def WX (N : Nat) (self : Int → Int → Int → Int → (ByteArray → O β) → O β) (a0 a1 a2 a3 : Int) (k : ByteArray → O β) : O β := Uj (sZ N) (UF N) (tL N) N self a0 a1 a2 a3 k
def nW (N : Nat) : Nat → Int → Int → Int → Int → (ByteArray → O β) → O β
 | 0, _, _, _, _, _ => none
 | F + 1, a0, a1, a2, a3, k => WX N (nW N F) a0 a1 a2 a3 k
def Yt (N : Nat) (a0 a1 a2 a3 : Int) (k : ByteArray → O β) : O β := nW N N a0 a1 a2 a3 k
def Uk (N : Nat) (a0 a1 : Int) (k : ByteArray → Bool → O β) : O β :=
zq30 a0 a1 fun r4 =>
(cond (!r4)
(k ByteArray.empty false)
((cond ((decide (a0 > 4)))
(k ByteArray.empty false)
(zq69 a0 a1 0 0 fun r5 =>
k r5 true))))
def Hs (N : Nat) (a0 a1 : Int) (k : ByteArray → Bool → O β) : O β := Uk (du N) (Yt N) N a0 a1 k
def Qk (N : Nat) (v0 v1 v2 v3 v4 v5 : Int) (rec_ : Int → Int → Int → Int → Int → Int → O β) (k0 : Int → Int → Int → Int → Int → O β) : O β :=
(cond ((decide (v3 ≤ v1)))
((cond (((bits .and .i64 v3 v1) == v3))
((gd ((decide (0 ≤ v3)))
(rec_ v0 v1 ((w64 (v2 + (bits .and .i64 (dr .i64 v5 v3) 1)))) ((w64 (v3 + 1))) v4 v5)))
(rec_ v0 v1 v2 ((w64 (v3 + 1))) v4 v5)))
(k0 v0 v1 v2 v4 v5))
def UG (N : Nat) (v0 v1 v2 v3 v4 v5 : Int) (rec_ : Int → Int → Int → Int → Int → Int → O β) (k0 : Int → Int → Int → Int → Int → O β) : O β := Qk N v0 v1 v2 v3 v4 v5 rec_ k0
def s6 (N : Nat) : Nat → Int → Int → Int → Int → Int → Int → (Int → Int → Int → Int → Int → O β) → O β
 | 0, _, _, _, _, _, _, _ => none
 | F + 1, v0, v1, v2, v3, v4, v5, k0 => UG N v0 v1 v2 v3 v4 v5 (fun v0 v1 v2 v3 v4 v5 => s6 N F v0 v1 v2 v3 v4 v5 k0) k0
def Ql (N : Nat) (v0 v1 v2 v3 : Int) (rec_ : Int → Int → Int → Int → O β) (k0 : Int → O β) : O β :=
(gd ((decide (0 ≤ v2)))
((cond ((decide (v1 < (bb .i64 1 v2))))
(zq72 N v0 v1 0 0 v2 v3 (fun e3_0 e3_1 e3_2 e3_3 e3_4 =>
(gd ((decide (0 ≤ e3_1)))
(rec_ ((bits .or .i64 e3_0 (bb .i64 (tA e3_2 2) e3_1))) ((w64 (e3_1 + 1))) e3_3 e3_4))))
(k0 v0))))
def UH (N : Nat) (v0 v1 v2 v3 : Int) (rec_ : Int → Int → Int → Int → O β) (k0 : Int → O β) : O β := Ql (s6 N) N v0 v1 v2 v3 rec_ k0
def tc (N : Nat) : Nat → Int → Int → Int → Int → (Int → O β) → O β
 | 0, _, _, _, _, _ => none
 | F + 1, v0, v1, v2, v3, k0 => UH N v0 v1 v2 v3 (fun v0 v1 v2 v3 => tc N F v0 v1 v2 v3 k0) k0
def Ul (N : Nat) (a0 a1 : Int) (k : Int → O β) : O β :=
zq74 N 0 0 a0 a1 (fun e4_0 =>
k e4_0)
def CK (N : Nat) (a0 a1 : Int) (k : Int → O β) : O β := Ul (tc N) N a0 a1 k
def Um (N : Nat) (a0 a1 a2 : Int) (k : Bool → O β) : O β :=
zq29 a0 0 5 fun r4 =>
(cond r4
((gd ((decide (0 ≤ a0)))
(zq29 a1 0 ((w64 ((bb .i64 1 a0) - 1))) fun r5 =>
(cond r5
(zq29 a2 0 a1 fun r6 =>
(cond r6
(k (((bits .and .i64 a2 a1) == a2)))
(k false)))
(k false)))))
(k false))
def oV (N : Nat) (a0 a1 a2 : Int) (k : Bool → O β) : O β := Um (mW N) N a0 a1 a2 k
def Lp (N : Nat) (v0 : Int) (v1 : ByteArray) (v2 v3 v4 : Int) (rec_ : Int → ByteArray → Int → Int → Int → O β) (k0 : Int → ByteArray → Int → Int → O β) : O β :=
zq76 v0 v3 v4 fun r4 =>
(cond r4
((cond ((decide (v2 < v0)))
((gd ((decide (0 ≤ v2)))
((cond (((bits .and .i64 (dr .i64 v3 v2) 1) == 0))
(rec_ v0 v1 ((w64 (v2 + 1))) v3 v4)
((gd ((decide (0 ≤ v2)))
((cond (((bits .and .i64 (dr .i64 v4 v2) 1) == 0))
((gd ((decide (v1.size + ((aj [33])).size ≤ 9223372036854775807)))
((gd ((decide (0 ≤ (w64 (v2 + 1)))))
((gd ((decide ((w64 (v2 + 1)) ≤ (((aj [97, 98, 99, 100, 101])).size : Int))))
((gd ((decide (0 ≤ v2)))
((gd ((decide (v2 ≤ (w64 (v2 + 1)))))
((gd ((decide (((v1 ++ (aj [33]))).size + ((((aj [97, 98, 99, 100, 101])).extract (Int.toNat v2) (Int.toNat (w64 (v2 + 1))))).size ≤ 9223372036854775807)))
(rec_ v0 (((v1 ++ (aj [33])) ++ (((aj [97, 98, 99, 100, 101])).extract (Int.toNat v2) (Int.toNat (w64 (v2 + 1)))))) ((w64 (v2 + 1))) v3 v4)))))))))))))
((gd ((decide (0 ≤ (w64 (v2 + 1)))))
((gd ((decide ((w64 (v2 + 1)) ≤ (((aj [97, 98, 99, 100, 101])).size : Int))))
((gd ((decide (0 ≤ v2)))
((gd ((decide (v2 ≤ (w64 (v2 + 1)))))
((gd ((decide (v1.size + ((((aj [97, 98, 99, 100, 101])).extract (Int.toNat v2) (Int.toNat (w64 (v2 + 1))))).size ≤ 9223372036854775807)))
(rec_ v0 ((v1 ++ (((aj [97, 98, 99, 100, 101])).extract (Int.toNat v2) (Int.toNat (w64 (v2 + 1)))))) ((w64 (v2 + 1))) v3 v4)))))))))))))))))))
(k0 v0 v1 v3 v4)))
(k0 v0 v1 v3 v4))
def Qx (N : Nat) (v0 : Int) (v1 : ByteArray) (v2 v3 v4 : Int) (rec_ : Int → ByteArray → Int → Int → Int → O β) (k0 : Int → ByteArray → Int → Int → O β) : O β := Lp (oV N) N v0 v1 v2 v3 v4 rec_ k0
def td (N : Nat) : Nat → Int → ByteArray → Int → Int → Int → (Int → ByteArray → Int → Int → O β) → O β
 | 0, _, _, _, _, _, _ => none
 | F + 1, v0, v1, v2, v3, v4, k0 => Qx N v0 v1 v2 v3 v4 (fun v0 v1 v2 v3 v4 => td N F v0 v1 v2 v3 v4 k0) k0
def Un (N : Nat) (a0 a1 a2 : Int) (k : ByteArray → O β) : O β :=
zq78 N a0 ByteArray.empty 0 a1 a2 (fun e5_0 e5_1 e5_2 e5_3 =>
(cond ((e5_1.toList == ByteArray.empty.toList))
(zq76 e5_0 e5_2 e5_3 fun r6 =>
(cond r6
(k ((aj [49])))
(k e5_1)))
(k e5_1)))
def te (N : Nat) (a0 a1 a2 : Int) (k : ByteArray → O β) : O β := Un (oV N) (td N) N a0 a1 a2 k
def Qm (N : Nat) (v0 : ByteArray) (v1 v2 v3 v4 : Int) (rec_ : ByteArray → Int → Int → Int → Int → O β) (k0 : ByteArray → O β) : O β :=
(gd ((decide (0 ≤ v3)))
((cond ((decide (v2 < (bb .i64 1 v3))))
((gd ((decide (0 ≤ v2)))
((cond (((bits .and .i64 (dr .i64 v1 v2) 1) == 0))
(rec_ v0 v1 ((w64 (v2 + 1))) v3 v4)
((cond ((!(v0.toList == ByteArray.empty.toList)))
((gd ((decide (v0.size + ((aj [43])).size ≤ 9223372036854775807)))
(zq79 v3 v2 v2 fun r5 =>
(gd ((decide (((v0 ++ (aj [43]))).size + r5.size ≤ 9223372036854775807)))
(rec_ (((v0 ++ (aj [43])) ++ r5)) v1 ((w64 (v2 + 1))) v3 v4)))))
(zq79 v3 v2 v2 fun r6 =>
(gd ((decide (v0.size + r6.size ≤ 9223372036854775807)))
(rec_ ((v0 ++ r6)) v1 ((w64 (v2 + 1))) v3 v4)))))))))
(k0 v0))))
def UI (N : Nat) (v0 : ByteArray) (v1 v2 v3 v4 : Int) (rec_ : ByteArray → Int → Int → Int → Int → O β) (k0 : ByteArray → O β) : O β := Qm (te N) N v0 v1 v2 v3 v4 rec_ k0
def tM (N : Nat) : Nat → ByteArray → Int → Int → Int → Int → (ByteArray → O β) → O β
 | 0, _, _, _, _, _, _ => none
 | F + 1, v0, v1, v2, v3, v4, k0 => UI N v0 v1 v2 v3 v4 (fun v0 v1 v2 v3 v4 => tM N F v0 v1 v2 v3 v4 k0) k0
def Uo (N : Nat) (a0 a1 : Int) (k : ByteArray → O β) : O β :=
zq30 a0 a1 fun r3 =>
(cond (!r3)
(k ByteArray.empty)
(zq75 a0 a1 fun r4 =>
zq81 N ByteArray.empty r4 0 a0 a1 (fun e7_0 =>
(cond ((e7_0.toList == ByteArray.empty.toList))
(k ((aj [48])))
(k e7_0)))))
def Ht (N : Nat) (a0 a1 : Int) (k : ByteArray → O β) : O β := Uo (du N) (CK N) (tM N) N a0 a1 k
def Qn (N : Nat) (v0 : Int) (v1 : List (Int × Int)) (v2 : Int) (rec_ : Int → List (Int × Int) → Int → O β) (k0 : Bool → O β) (k1 : Int → List (Int × Int) → O β) : O β :=
(cond ((decide (v2 < (v1.length : Int))))
((gd ((decide (0 ≤ v2)))
((gd ((decide (v2 < (v1.length : Int))))
(zq76 v0 ((rd (0, 0) v1 v2).1) ((rd (0, 0) v1 v2).2) fun r3 =>
(cond (!r3)
(k0 false)
(rec_ v0 v1 ((w64 (v2 + 1))))))))))
(k1 v0 v1))
def UJ (N : Nat) (v0 : Int) (v1 : List (Int × Int)) (v2 : Int) (rec_ : Int → List (Int × Int) → Int → O β) (k0 : Bool → O β) (k1 : Int → List (Int × Int) → O β) : O β := Qn (oV N) N v0 v1 v2 rec_ k0 k1
def tN (N : Nat) : Nat → Int → List (Int × Int) → Int → (Bool → O β) → (Int → List (Int × Int) → O β) → O β
 | 0, _, _, _, _, _ => none
 | F + 1, v0, v1, v2, k0, k1 => UJ N v0 v1 v2 (fun v0 v1 v2 => tN N F v0 v1 v2 k0 k1) k0 k1
def Up (N : Nat) (a0 : Int) (a1 : List (Int × Int)) (k : Bool → O β) : O β :=
zq84 N a0 a1 0 (fun e4_0 =>
k e4_0) (fun e5_0 e5_1 =>
zq29 e5_0 0 5 fun r6 =>
(cond r6
(k ((decide ((e5_1.length : Int) ≤ 40))))
(k false)))
def nX (N : Nat) (a0 : Int) (a1 : List (Int × Int)) (k : Bool → O β) : O β := Up (mW N) (tN N) N a0 a1 k
def Qo (N : Nat) (v0 : Int) (v1 : List (Int × Int)) (v2 : ByteArray) (v3 : Int) (rec_ : Int → List (Int × Int) → ByteArray → Int → O β) (k0 : Int → List (Int × Int) → ByteArray → O β) : O β :=
(cond ((decide (v3 < (v1.length : Int))))
(zq85 v0 v1 fun r3 =>
(cond r3
((cond ((decide (v3 > 0)))
((gd ((decide (v2.size + ((aj [124])).size ≤ 9223372036854775807)))
((gd ((decide (0 ≤ v3)))
((gd ((decide (v3 < (v1.length : Int))))
(zq79 v0 ((rd (0, 0) v1 v3).1) ((rd (0, 0) v1 v3).2) fun r4 =>
(gd ((decide (((v2 ++ (aj [124]))).size + r4.size ≤ 9223372036854775807)))
(rec_ v0 v1 (((v2 ++ (aj [124])) ++ r4)) ((w64 (v3 + 1))))))))))))
((gd ((decide (0 ≤ v3)))
((gd ((decide (v3 < (v1.length : Int))))
(zq79 v0 ((rd (0, 0) v1 v3).1) ((rd (0, 0) v1 v3).2) fun r5 =>
(gd ((decide (v2.size + r5.size ≤ 9223372036854775807)))
(rec_ v0 v1 ((v2 ++ r5)) ((w64 (v3 + 1))))))))))))
(k0 v0 v1 v2)))
(k0 v0 v1 v2))
def UK (N : Nat) (v0 : Int) (v1 : List (Int × Int)) (v2 : ByteArray) (v3 : Int) (rec_ : Int → List (Int × Int) → ByteArray → Int → O β) (k0 : Int → List (Int × Int) → ByteArray → O β) : O β := Qo (te N) (nX N) N v0 v1 v2 v3 rec_ k0
def tO (N : Nat) : Nat → Int → List (Int × Int) → ByteArray → Int → (Int → List (Int × Int) → ByteArray → O β) → O β
 | 0, _, _, _, _, _ => none
 | F + 1, v0, v1, v2, v3, k0 => UK N v0 v1 v2 v3 (fun v0 v1 v2 v3 => tO N F v0 v1 v2 v3 k0) k0
def Uq (N : Nat) (a0 : Int) (a1 : List (Int × Int)) (k : ByteArray → O β) : O β :=
zq87 N a0 a1 ByteArray.empty 0 (fun e6_0 e6_1 e6_2 =>
(cond ((e6_2.toList == ByteArray.empty.toList))
(zq85 e6_0 e6_1 fun r7 =>
(cond r7
(k ((aj [48])))
(k e6_2)))
(k e6_2)))
def Hu (N : Nat) (a0 : Int) (a1 : List (Int × Int)) (k : ByteArray → O β) : O β := Uq (nX N) (tO N) N a0 a1 k
def Ur (N : Nat) (v0 : Int) (v1 : ByteArray) (v2 : Bool) (rec_ : Int → ByteArray → Bool → O β) (k0 : ByteArray → Bool → O β) : O β :=
(cond ((v0 != 0))
((cond ((decide ((tA v0 10) < 0)))
((gd ((decide (((aj ((([] : List Int) ++ [(w8 ((w64 (48 + (w64 (0 - (tA v0 10)))))))])))).size + v1.size ≤ 9223372036854775807)))
(rec_ ((JV .i64 v0 10)) (((aj ((([] : List Int) ++ [(w8 ((w64 (48 + (w64 (0 - (tA v0 10)))))))]))) ++ v1)) v2)))
((gd ((decide (((aj ((([] : List Int) ++ [(w8 ((w64 (48 + (tA v0 10)))))])))).size + v1.size ≤ 9223372036854775807)))
(rec_ ((JV .i64 v0 10)) (((aj ((([] : List Int) ++ [(w8 ((w64 (48 + (tA v0 10)))))]))) ++ v1)) v2)))))
(k0 v1 v2))
def WY (N : Nat) (v0 : Int) (v1 : ByteArray) (v2 : Bool) (rec_ : Int → ByteArray → Bool → O β) (k0 : ByteArray → Bool → O β) : O β := Ur N v0 v1 v2 rec_ k0
def tP (N : Nat) : Nat → Int → ByteArray → Bool → (ByteArray → Bool → O β) → O β
 | 0, _, _, _, _ => none
 | F + 1, v0, v1, v2, k0 => WY N v0 v1 v2 (fun v0 v1 v2 => tP N F v0 v1 v2 k0) k0
def Us (N : Nat) (a0 : Int) (k : ByteArray → O β) : O β :=
(cond ((a0 == 0))
(k ((aj [48])))
(zq90 N a0 ByteArray.empty ((decide (a0 < 0))) (fun e2_0 e2_1 =>
(cond e2_1
((gd ((decide (((aj [45])).size + e2_0.size ≤ 9223372036854775807)))
(k (((aj [45]) ++ e2_0)))))
(k e2_0)))))
def Hv (N : Nat) (a0 : Int) (k : ByteArray → O β) : O β := Us (tP N) N a0 k
def Ut (N : Nat) (a0 : Int) (k : Int → O β) : O β :=
(gd ((decide (0 ≤ a0)))
((gd ((decide (0 ≤ (bb .u64 1 a0))))
(k ((w64 ((bb .i64 1 (bb .u64 1 a0)) - 1)))))))
def oW (N : Nat) (a0 : Int) (k : Int → O β) : O β := Ut N a0 k
def Qp (N : Nat) (v0 : List Int) (v1 v2 v3 : Int) (rec_ : List Int → Int → Int → Int → O β) (k0 : ByteArray → O β) (k1 : List Int → Int → Int → O β) : O β :=
(cond ((decide (v3 < v1)))
((gd ((decide (0 ≤ v2)))
((gd ((decide (v2 < (v0.length : Int))))
((cond (((rd 0 v0 v2) == 1))
(zq23 v1 v3 fun r5 =>
(cond ((v2 == r5))
((gd ((decide (0 ≤ (w64 (v3 + 1)))))
((gd ((decide ((w64 (v3 + 1)) ≤ (((aj [97, 98, 99, 100, 101])).size : Int))))
((gd ((decide (0 ≤ v3)))
((gd ((decide (v3 ≤ (w64 (v3 + 1)))))
(k0 ((((aj [97, 98, 99, 100, 101])).extract (Int.toNat v3) (Int.toNat (w64 (v3 + 1))))))))))))))
(zq92 v1 fun r6 =>
zq23 v1 v3 fun r7 =>
(cond ((v2 == (w64 (r6 - r7))))
((gd ((decide (0 ≤ (w64 (v3 + 1)))))
((gd ((decide ((w64 (v3 + 1)) ≤ (((aj [97, 98, 99, 100, 101])).size : Int))))
((gd ((decide (0 ≤ v3)))
((gd ((decide (v3 ≤ (w64 (v3 + 1)))))
((gd ((decide (((aj [33])).size + ((((aj [97, 98, 99, 100, 101])).extract (Int.toNat v3) (Int.toNat (w64 (v3 + 1))))).size ≤ 9223372036854775807)))
(k0 (((aj [33]) ++ (((aj [97, 98, 99, 100, 101])).extract (Int.toNat v3) (Int.toNat (w64 (v3 + 1)))))))))))))))))
(rec_ v0 v1 v2 ((w64 (v3 + 1))))))))
(k1 v0 v1 v2)))))))
(k1 v0 v1 v2))
def LS (N : Nat) (v0 : List Int) (v1 v2 v3 : Int) (rec_ : List Int → Int → Int → Int → O β) (k0 : ByteArray → O β) (k1 : List Int → Int → Int → O β) : O β := Qp (xw N) (oW N) N v0 v1 v2 v3 rec_ k0 k1
def tf (N : Nat) : Nat → List Int → Int → Int → Int → (ByteArray → O β) → (List Int → Int → Int → O β) → O β
 | 0, _, _, _, _, _, _ => none
 | F + 1, v0, v1, v2, v3, k0, k1 => LS N v0 v1 v2 v3 (fun v0 v1 v2 v3 => tf N F v0 v1 v2 v3 k0 k1) k0 k1
def Qq (N : Nat) (self : List Int → Int → Int → (ByteArray → O β) → O β) (v0 : List Int) (v1 v2 v3 v4 v5 : Int) (rec_ : List Int → Int → Int → Int → Int → Int → O β) (k0 : ByteArray → O β) (k1 : List Int → Int → Int → Int → Int → O β) : O β :=
zq92 v1 fun r11 =>
(cond ((decide (v5 < r11)))
((gd ((decide (0 ≤ v4)))
((gd ((decide (v4 < (v0.length : Int))))
((gd ((decide (0 ≤ v5)))
((gd ((decide (v5 < (v0.length : Int))))
((gd ((decide (0 ≤ v2)))
((gd ((decide (v2 < (v0.length : Int))))
((cond (((w64 ((rd 0 v0 v4) + (rd 0 v0 v5))) != (rd 0 v0 v2)))
(rec_ v0 v1 v2 v3 v4 ((w64 (v5 + 1))))
((cond ((v3 == 0))
((cond (((bits .and .i64 v4 v5) == v2))
(self v0 v1 v4 fun r12 =>
(gd ((decide (((aj [38])).size + r12.size ≤ 9223372036854775807)))
(self v0 v1 v5 fun r13 =>
(gd ((decide ((((aj [38]) ++ r12)).size + r13.size ≤ 9223372036854775807)))
(k0 ((((aj [38]) ++ r12) ++ r13)))))))
((cond ((v3 == 1))
((cond (((bits .or .i64 v4 v5) == v2))
(self v0 v1 v4 fun r14 =>
(gd ((decide (((aj [124])).size + r14.size ≤ 9223372036854775807)))
(self v0 v1 v5 fun r15 =>
(gd ((decide ((((aj [124]) ++ r14)).size + r15.size ≤ 9223372036854775807)))
(k0 ((((aj [124]) ++ r14) ++ r15)))))))
(rec_ v0 v1 v2 v3 v4 ((w64 (v5 + 1))))))
(rec_ v0 v1 v2 v3 v4 ((w64 (v5 + 1))))))))
((cond ((v3 == 1))
((cond (((bits .or .i64 v4 v5) == v2))
(self v0 v1 v4 fun r16 =>
(gd ((decide (((aj [124])).size + r16.size ≤ 9223372036854775807)))
(self v0 v1 v5 fun r17 =>
(gd ((decide ((((aj [124]) ++ r16)).size + r17.size ≤ 9223372036854775807)))
(k0 ((((aj [124]) ++ r16) ++ r17)))))))
(rec_ v0 v1 v2 v3 v4 ((w64 (v5 + 1))))))
(rec_ v0 v1 v2 v3 v4 ((w64 (v5 + 1))))))))))))))))))))))
(k1 v0 v1 v2 v3 v4))
def LT (N : Nat) (self : List Int → Int → Int → (ByteArray → O β) → O β) (v0 : List Int) (v1 v2 v3 v4 v5 : Int) (rec_ : List Int → Int → Int → Int → Int → Int → O β) (k0 : ByteArray → O β) (k1 : List Int → Int → Int → Int → Int → O β) : O β := Qq (oW N) N self v0 v1 v2 v3 v4 v5 rec_ k0 k1
def tg (N : Nat) (self : List Int → Int → Int → (ByteArray → O β) → O β) : Nat → List Int → Int → Int → Int → Int → Int → (ByteArray → O β) → (List Int → Int → Int → Int → Int → O β) → O β
 | 0, _, _, _, _, _, _, _, _ => none
 | F + 1, v0, v1, v2, v3, v4, v5, k0, k1 => LT N self v0 v1 v2 v3 v4 v5 (fun v0 v1 v2 v3 v4 v5 => tg N self F v0 v1 v2 v3 v4 v5 k0 k1) k0 k1
def Qr (N : Nat) (self : List Int → Int → Int → (ByteArray → O β) → O β) (v0 : List Int) (v1 v2 v3 v4 : Int) (rec_ : List Int → Int → Int → Int → Int → O β) (k0 : ByteArray → O β) (k1 : List Int → Int → Int → Int → O β) : O β :=
zq92 v1 fun r10 =>
(cond ((decide (v4 < r10)))
((gd ((decide (0 ≤ v4)))
((gd ((decide (v4 < (v0.length : Int))))
((gd ((decide (0 ≤ v2)))
((gd ((decide (v2 < (v0.length : Int))))
((cond ((decide ((rd 0 v0 v4) ≥ (rd 0 v0 v2))))
(rec_ v0 v1 v2 v3 ((w64 (v4 + 1))))
(zq96 self N v0 v1 v2 v3 v4 1 (fun e18_0 =>
k0 e18_0) (fun e19_0 e19_1 e19_2 e19_3 e19_4 =>
rec_ e19_0 e19_1 e19_2 e19_3 ((w64 (e19_4 + 1)))))))))))))))
(k1 v0 v1 v2 v3))
def LU (N : Nat) (self : List Int → Int → Int → (ByteArray → O β) → O β) (v0 : List Int) (v1 v2 v3 v4 : Int) (rec_ : List Int → Int → Int → Int → Int → O β) (k0 : ByteArray → O β) (k1 : List Int → Int → Int → Int → O β) : O β := Qr (oW N) (tg N) N self v0 v1 v2 v3 v4 rec_ k0 k1
def oX (N : Nat) (self : List Int → Int → Int → (ByteArray → O β) → O β) : Nat → List Int → Int → Int → Int → Int → (ByteArray → O β) → (List Int → Int → Int → Int → O β) → O β
 | 0, _, _, _, _, _, _, _ => none
 | F + 1, v0, v1, v2, v3, v4, k0, k1 => LU N self v0 v1 v2 v3 v4 (fun v0 v1 v2 v3 v4 => oX N self F v0 v1 v2 v3 v4 k0 k1) k0 k1
def Qs (N : Nat) (self : List Int → Int → Int → (ByteArray → O β) → O β) (v0 : List Int) (v1 v2 v3 : Int) (rec_ : List Int → Int → Int → Int → O β) (k0 : ByteArray → O β) (k1 : O β) : O β :=
(cond ((decide (v3 < 2)))
(zq98 self N v0 v1 v2 v3 1 (fun e20_0 =>
k0 e20_0) (fun e21_0 e21_1 e21_2 e21_3 =>
rec_ e21_0 e21_1 e21_2 ((w64 (e21_3 + 1)))))
(k1 ))
def LV (N : Nat) (self : List Int → Int → Int → (ByteArray → O β) → O β) (v0 : List Int) (v1 v2 v3 : Int) (rec_ : List Int → Int → Int → Int → O β) (k0 : ByteArray → O β) (k1 : O β) : O β := Qs (oX N) N self v0 v1 v2 v3 rec_ k0 k1
def ik (N : Nat) (self : List Int → Int → Int → (ByteArray → O β) → O β) : Nat → List Int → Int → Int → Int → (ByteArray → O β) → (O β) → O β
 | 0, _, _, _, _, _, _ => none
 | F + 1, v0, v1, v2, v3, k0, k1 => LV N self v0 v1 v2 v3 (fun v0 v1 v2 v3 => ik N self F v0 v1 v2 v3 k0 k1) k0 k1
def KM (N : Nat) (self : List Int → Int → Int → (ByteArray → O β) → O β) (a0 : List Int) (a1 a2 : Int) (k : ByteArray → O β) : O β :=
(cond ((a2 == 0))
(k ((aj [48])))
(zq92 a1 fun r4 =>
(cond ((a2 == r4))
(k ((aj [49])))
(zq94 N a0 a1 a2 0 (fun e8_0 =>
k e8_0) (fun e9_0 e9_1 e9_2 =>
zq100 self N e9_0 e9_1 e9_2 0 (fun e22_0 =>
k e22_0) (k ByteArray.empty))))))
def Lt (N : Nat) (self : List Int → Int → Int → (ByteArray → O β) → O β) (a0 : List Int) (a1 a2 : Int) (k : ByteArray → O β) : O β := KM (oW N) (tf N) (ik N) N self a0 a1 a2 k
def c8 (N : Nat) : Nat → List Int → Int → Int → (ByteArray → O β) → O β
 | 0, _, _, _, _ => none
 | F + 1, a0, a1, a2, k => Lt N (c8 N F) a0 a1 a2 k
def Ri (N : Nat) (a0 : List Int) (a1 a2 : Int) (k : ByteArray → O β) : O β := c8 N N a0 a1 a2 k
def KN (N : Nat) (a0 a1 : Int) (k : ByteArray → Bool → O β) : O β :=
zq30 a0 a1 fun r4 =>
(cond (!r4)
(k ByteArray.empty false)
((cond ((decide (a0 > 3)))
(k ByteArray.empty false)
(lX N a0 fun r5 =>
zq103 r5 a0 a1 fun r6 =>
k r6 true))))
def vq (N : Nat) (a0 a1 : Int) (k : ByteArray → Bool → O β) : O β := KN (du N) (Ri N) N a0 a1 k
def Es (N : Nat) (v0 : List (Int × Int)) (v1 v2 : Int) (v3 v4 : Bool) (v5 : Int) (rec_ : List (Int × Int) → Int → Int → Bool → Bool → Int → O β) (k0 : Bool → O β) (k1 : Bool → Bool → O β) : O β :=
(cond ((decide (v5 < (v0.length : Int))))
((gd ((decide (0 ≤ v5)))
((gd ((decide (v5 < (v0.length : Int))))
((gd ((decide (0 ≤ v5)))
((gd ((decide (v5 < (v0.length : Int))))
((gd ((decide (0 ≤ v5)))
((gd ((decide (v5 < (v0.length : Int))))
((gd ((decide (0 ≤ v5)))
((gd ((decide (v5 < (v0.length : Int))))
((cond (((bits .and .i64 v1 (rd (0, 0) v0 v5).1) == (rd (0, 0) v0 v5).2))
((cond (((bits .and .i64 v2 (rd (0, 0) v0 v5).1) == (rd (0, 0) v0 v5).2))
(k0 false)
((cond v3
((cond v4
(rec_ v0 v1 v2 true true ((w64 (v5 + 1))))
(rec_ v0 v1 v2 true (((bits .and .i64 v2 (rd (0, 0) v0 v5).1) == (rd (0, 0) v0 v5).2)) ((w64 (v5 + 1))))))
((cond v4
(rec_ v0 v1 v2 (((bits .and .i64 v1 (rd (0, 0) v0 v5).1) == (rd (0, 0) v0 v5).2)) true ((w64 (v5 + 1))))
(rec_ v0 v1 v2 (((bits .and .i64 v1 (rd (0, 0) v0 v5).1) == (rd (0, 0) v0 v5).2)) (((bits .and .i64 v2 (rd (0, 0) v0 v5).1) == (rd (0, 0) v0 v5).2)) ((w64 (v5 + 1))))))))))
((cond v3
((cond v4
(rec_ v0 v1 v2 true true ((w64 (v5 + 1))))
(rec_ v0 v1 v2 true (((bits .and .i64 v2 (rd (0, 0) v0 v5).1) == (rd (0, 0) v0 v5).2)) ((w64 (v5 + 1))))))
((cond v4
(rec_ v0 v1 v2 (((bits .and .i64 v1 (rd (0, 0) v0 v5).1) == (rd (0, 0) v0 v5).2)) true ((w64 (v5 + 1))))
(rec_ v0 v1 v2 (((bits .and .i64 v1 (rd (0, 0) v0 v5).1) == (rd (0, 0) v0 v5).2)) (((bits .and .i64 v2 (rd (0, 0) v0 v5).1) == (rd (0, 0) v0 v5).2)) ((w64 (v5 + 1))))))))))))))))))))))))))
(k1 v3 v4))
def Lu (N : Nat) (v0 : List (Int × Int)) (v1 v2 : Int) (v3 v4 : Bool) (v5 : Int) (rec_ : List (Int × Int) → Int → Int → Bool → Bool → Int → O β) (k0 : Bool → O β) (k1 : Bool → Bool → O β) : O β := Es N v0 v1 v2 v3 v4 v5 rec_ k0 k1
def l0 (N : Nat) : Nat → List (Int × Int) → Int → Int → Bool → Bool → Int → (Bool → O β) → (Bool → Bool → O β) → O β
 | 0, _, _, _, _, _, _, _, _ => none
 | F + 1, v0, v1, v2, v3, v4, v5, k0, k1 => Lu N v0 v1 v2 v3 v4 v5 (fun v0 v1 v2 v3 v4 v5 => l0 N F v0 v1 v2 v3 v4 v5 k0 k1) k0 k1
def KO (N : Nat) (a0 : List (Int × Int)) (a1 a2 : Int) (k : Bool → O β) : O β :=
zq106 N a0 a1 a2 false false 0 (fun e4_0 =>
k e4_0) (fun e5_0 e5_1 =>
(cond e5_0
(k e5_1)
(k false)))
def py (N : Nat) (a0 : List (Int × Int)) (a1 a2 : Int) (k : Bool → O β) : O β := KO (l0 N) N a0 a1 a2 k
def Et (N : Nat) (v0 : Int) (v1 : List (Int × Int)) (v2 v3 : Int) (v4 : List (List Int)) (rec_ : Int → List (Int × Int) → Int → Int → List (List Int) → O β) (k0 : Int → List (Int × Int) → Int → List (List Int) → O β) : O β :=
(cond ((decide (v3 < v0)))
((gd ((decide (0 ≤ v3)))
((cond (((bits .and .i64 (dr .i64 v2 v3) 1) == 0))
((gd ((decide (0 ≤ v3)))
(zq107 v1 v2 ((bits .or .i64 v2 (bb .i64 1 v3))) fun r5 =>
(cond r5
((gd ((decide (0 ≤ v3)))
((gd ((decide ((v4.length + ((([] : List (List Int)) ++ [((([] : List Int) ++ [v2]) ++ [(bits .or .i64 v2 (bb .i64 1 v3))])])).length) * 24 ≤ 140737488355328)))
(rec_ v0 v1 v2 ((w64 (v3 + 1))) ((v4 ++ (([] : List (List Int)) ++ [((([] : List Int) ++ [v2]) ++ [(bits .or .i64 v2 (bb .i64 1 v3))])]))))))))
(rec_ v0 v1 v2 ((w64 (v3 + 1))) v4)))))
(rec_ v0 v1 v2 ((w64 (v3 + 1))) v4)))))
(k0 v0 v1 v2 v4))
def Lv (N : Nat) (v0 : Int) (v1 : List (Int × Int)) (v2 v3 : Int) (v4 : List (List Int)) (rec_ : Int → List (Int × Int) → Int → Int → List (List Int) → O β) (k0 : Int → List (Int × Int) → Int → List (List Int) → O β) : O β := Et (py N) N v0 v1 v2 v3 v4 rec_ k0
def kU (N : Nat) : Nat → Int → List (Int × Int) → Int → Int → List (List Int) → (Int → List (Int × Int) → Int → List (List Int) → O β) → O β
 | 0, _, _, _, _, _, _ => none
 | F + 1, v0, v1, v2, v3, v4, k0 => Lv N v0 v1 v2 v3 v4 (fun v0 v1 v2 v3 v4 => kU N F v0 v1 v2 v3 v4 k0) k0
def Eu (N : Nat) (v0 : Int) (v1 : List (Int × Int)) (v2 : Int) (v3 : List (List Int)) (rec_ : Int → List (Int × Int) → Int → List (List Int) → O β) (k0 : List (List Int) → O β) : O β :=
(gd ((decide (0 ≤ v0)))
((cond ((decide (v2 < (bb .i64 1 v0))))
(zq109 N v0 v1 v2 0 v3 (fun e6_0 e6_1 e6_2 e6_3 =>
rec_ e6_0 e6_1 ((w64 (e6_2 + 1))) e6_3))
(k0 v3))))
def Lw (N : Nat) (v0 : Int) (v1 : List (Int × Int)) (v2 : Int) (v3 : List (List Int)) (rec_ : Int → List (Int × Int) → Int → List (List Int) → O β) (k0 : List (List Int) → O β) : O β := Eu (kU N) N v0 v1 v2 v3 rec_ k0
def im (N : Nat) : Nat → Int → List (Int × Int) → Int → List (List Int) → (List (List Int) → O β) → O β
 | 0, _, _, _, _, _ => none
 | F + 1, v0, v1, v2, v3, k0 => Lw N v0 v1 v2 v3 (fun v0 v1 v2 v3 => im N F v0 v1 v2 v3 k0) k0
def KP (N : Nat) (a0 : Int) (a1 : List (Int × Int)) (k : List (List Int) → Bool → O β) : O β :=
zq85 a0 a1 fun r4 =>
(cond (!r4)
(k (([] : List (List Int))) false)
(zq111 N a0 a1 0 (([] : List (List Int))) (fun e7_0 =>
k e7_0 true)))
def vt (N : Nat) (a0 : Int) (a1 : List (Int × Int)) (k : List (List Int) → Bool → O β) : O β := KP (nX N) (im N) N a0 a1 k
def KQ (N : Nat) (a0 : Int) (a1 : List (Int × Int)) (k : Bool → O β) : O β :=
zq112 a0 a1 fun r3 r4 =>
(cond r4
(k (((r3.length : Int) == 0)))
(k false))
def vu (N : Nat) (a0 : Int) (a1 : List (Int × Int)) (k : Bool → O β) : O β := KQ (vt N) N a0 a1 k
def KR (N : Nat) (a0 : Bool) (a1 : ByteArray) (k : ByteArray → O β) : O β :=
(cond a0
(k a1)
(k ByteArray.empty))
def AC (N : Nat) (a0 : Bool) (a1 : ByteArray) (k : ByteArray → O β) : O β := KR N a0 a1 k
def At (N : Nat) (a0 a1 : Int) (k : ByteArray → O β) : O β :=
zq30 a0 a1 fun r3 =>
(cond (!r3)
(k ByteArray.empty)
((cond ((decide (a0 > 4)))
(k ByteArray.empty)
(zq50 a0 a1 fun r4 r5 =>
zq51 a0 a1 fun r6 r7 =>
zq56 a0 a1 fun r8 r9 =>
zq70 a0 a1 fun r10 r11 =>
zq82 a0 a1 fun r12 =>
(gd ((decide (((aj [102, 111, 114, 109, 115, 32, 97, 110, 102, 32])).size + r12.size ≤ 9223372036854775807)))
((gd ((decide ((((aj [102, 111, 114, 109, 115, 32, 97, 110, 102, 32]) ++ r12)).size + ((aj [32, 115, 117, 109, 32])).size ≤ 9223372036854775807)))
(zq88 a0 r4 fun r13 =>
(gd ((decide (((((aj [102, 111, 114, 109, 115, 32, 97, 110, 102, 32]) ++ r12) ++ (aj [32, 115, 117, 109, 32]))).size + r13.size ≤ 9223372036854775807)))
((gd ((decide ((((((aj [102, 111, 114, 109, 115, 32, 97, 110, 102, 32]) ++ r12) ++ (aj [32, 115, 117, 109, 32])) ++ r13)).size + ((aj [32, 112, 114, 105, 109, 101, 115, 32])).size ≤ 9223372036854775807)))
(zq91 ((r6.length : Int)) fun r14 =>
(gd ((decide (((((((aj [102, 111, 114, 109, 115, 32, 97, 110, 102, 32]) ++ r12) ++ (aj [32, 115, 117, 109, 32])) ++ r13) ++ (aj [32, 112, 114, 105, 109, 101, 115, 32]))).size + r14.size ≤ 9223372036854775807)))
((gd ((decide ((((((((aj [102, 111, 114, 109, 115, 32, 97, 110, 102, 32]) ++ r12) ++ (aj [32, 115, 117, 109, 32])) ++ r13) ++ (aj [32, 112, 114, 105, 109, 101, 115, 32])) ++ r14)).size + ((aj [32, 101, 115, 115, 101, 110, 116, 105, 97, 108, 32])).size ≤ 9223372036854775807)))
(zq91 ((r8.length : Int)) fun r15 =>
(gd ((decide (((((((((aj [102, 111, 114, 109, 115, 32, 97, 110, 102, 32]) ++ r12) ++ (aj [32, 115, 117, 109, 32])) ++ r13) ++ (aj [32, 112, 114, 105, 109, 101, 115, 32])) ++ r14) ++ (aj [32, 101, 115, 115, 101, 110, 116, 105, 97, 108, 32]))).size + r15.size ≤ 9223372036854775807)))
((gd ((decide ((((((((((aj [102, 111, 114, 109, 115, 32, 97, 110, 102, 32]) ++ r12) ++ (aj [32, 115, 117, 109, 32])) ++ r13) ++ (aj [32, 112, 114, 105, 109, 101, 115, 32])) ++ r14) ++ (aj [32, 101, 115, 115, 101, 110, 116, 105, 97, 108, 32])) ++ r15)).size + ((aj [32, 116, 114, 101, 101, 32])).size ≤ 9223372036854775807)))
((gd ((decide (((((((((((aj [102, 111, 114, 109, 115, 32, 97, 110, 102, 32]) ++ r12) ++ (aj [32, 115, 117, 109, 32])) ++ r13) ++ (aj [32, 112, 114, 105, 109, 101, 115, 32])) ++ r14) ++ (aj [32, 101, 115, 115, 101, 110, 116, 105, 97, 108, 32])) ++ r15) ++ (aj [32, 116, 114, 101, 101, 32]))).size + r10.size ≤ 9223372036854775807)))
((cond ((decide (a0 ≤ 3)))
(zq104 a0 a1 fun r16 r17 =>
(gd ((decide ((((((((((((aj [102, 111, 114, 109, 115, 32, 97, 110, 102, 32]) ++ r12) ++ (aj [32, 115, 117, 109, 32])) ++ r13) ++ (aj [32, 112, 114, 105, 109, 101, 115, 32])) ++ r14) ++ (aj [32, 101, 115, 115, 101, 110, 116, 105, 97, 108, 32])) ++ r15) ++ (aj [32, 116, 114, 101, 101, 32])) ++ r10)).size + ((aj [32, 102, 111, 114, 109, 117, 108, 97, 32])).size ≤ 9223372036854775807)))
((gd ((decide (((((((((((((aj [102, 111, 114, 109, 115, 32, 97, 110, 102, 32]) ++ r12) ++ (aj [32, 115, 117, 109, 32])) ++ r13) ++ (aj [32, 112, 114, 105, 109, 101, 115, 32])) ++ r14) ++ (aj [32, 101, 115, 115, 101, 110, 116, 105, 97, 108, 32])) ++ r15) ++ (aj [32, 116, 114, 101, 101, 32])) ++ r10) ++ (aj [32, 102, 111, 114, 109, 117, 108, 97, 32]))).size + r16.size ≤ 9223372036854775807)))
(zq113 a0 r4 fun r18 =>
zq114 r18 ((aj [32, 102, 114, 101, 101])) fun r19 =>
(gd ((decide ((((((((((((((aj [102, 111, 114, 109, 115, 32, 97, 110, 102, 32]) ++ r12) ++ (aj [32, 115, 117, 109, 32])) ++ r13) ++ (aj [32, 112, 114, 105, 109, 101, 115, 32])) ++ r14) ++ (aj [32, 101, 115, 115, 101, 110, 116, 105, 97, 108, 32])) ++ r15) ++ (aj [32, 116, 114, 101, 101, 32])) ++ r10) ++ (aj [32, 102, 111, 114, 109, 117, 108, 97, 32])) ++ r16)).size + r19.size ≤ 9223372036854775807)))
(k ((((((((((((((aj [102, 111, 114, 109, 115, 32, 97, 110, 102, 32]) ++ r12) ++ (aj [32, 115, 117, 109, 32])) ++ r13) ++ (aj [32, 112, 114, 105, 109, 101, 115, 32])) ++ r14) ++ (aj [32, 101, 115, 115, 101, 110, 116, 105, 97, 108, 32])) ++ r15) ++ (aj [32, 116, 114, 101, 101, 32])) ++ r10) ++ (aj [32, 102, 111, 114, 109, 117, 108, 97, 32])) ++ r16) ++ r19)))))))))
(zq113 a0 r4 fun r20 =>
zq114 r20 ((aj [32, 102, 114, 101, 101])) fun r21 =>
(gd ((decide ((((((((((((aj [102, 111, 114, 109, 115, 32, 97, 110, 102, 32]) ++ r12) ++ (aj [32, 115, 117, 109, 32])) ++ r13) ++ (aj [32, 112, 114, 105, 109, 101, 115, 32])) ++ r14) ++ (aj [32, 101, 115, 115, 101, 110, 116, 105, 97, 108, 32])) ++ r15) ++ (aj [32, 116, 114, 101, 101, 32])) ++ r10)).size + r21.size ≤ 9223372036854775807)))
(k ((((((((((((aj [102, 111, 114, 109, 115, 32, 97, 110, 102, 32]) ++ r12) ++ (aj [32, 115, 117, 109, 32])) ++ r13) ++ (aj [32, 112, 114, 105, 109, 101, 115, 32])) ++ r14) ++ (aj [32, 101, 115, 115, 101, 110, 116, 105, 97, 108, 32])) ++ r15) ++ (aj [32, 116, 114, 101, 101, 32])) ++ r10) ++ r21))))))))))))))))))))))))))))
def nS (N : Nat) (a0 a1 : Int) (k : ByteArray → O β) : O β := At (du N) (Hq N) (LR N) (Hr N) (Hs N) (Ht N) (Hu N) (Hv N) (vq N) (vu N) (AC N) N a0 a1 k
def KS (N : Nat) (a0 a1 : Int) (k : Bool → O β) : O β :=
zq3 a0 fun r3 =>
(cond r3
((cond ((decide (a1 ≥ 0)))
(zq12 a0 a1 fun r4 =>
(gd ((decide (0 ≤ r4)))
(k (((dr .i64 a1 r4) == 0)))))
(k false)))
(k false))
def fO (N : Nat) (a0 a1 : Int) (k : Bool → O β) : O β := KS (zj3 N) (db N) N a0 a1 k
def sR (N : Nat) (a0 a1 a2 : Int) (k : Bool → O β) : O β :=
zq116 a0 a1 fun r4 =>
(cond r4
(k ((decide (a0 ≤ a2))))
(k false))
def el (N : Nat) (a0 a1 a2 : Int) (k : Bool → O β) : O β := sR (fO N) N a0 a1 a2 k
def Au (N : Nat) (v0 v1 v2 v3 v4 v5 : Int) (v6 v7 : Bool) (rec_ : Int → Int → Int → Int → Int → Int → Bool → Bool → O β) (k0 : Bool → Bool → O β) : O β :=
(cond ((decide (v3 < v2)))
((cond (((bits .and .i64 v3 v0) == v1))
(zq13 v4 v5 v3 fun r6 =>
(gd ((decide (0 ≤ r6)))
((gd ((decide (r6 < 2)))
((cond ((r6 == 0))
(rec_ v0 v1 v2 ((w64 (v3 + 1))) v4 v5 true v7)
(rec_ v0 v1 v2 ((w64 (v3 + 1))) v4 v5 v6 true)))))))
(rec_ v0 v1 v2 ((w64 (v3 + 1))) v4 v5 v6 v7)))
(k0 v6 v7))
def ES (N : Nat) (v0 v1 v2 v3 v4 v5 : Int) (v6 v7 : Bool) (rec_ : Int → Int → Int → Int → Int → Int → Bool → Bool → O β) (k0 : Bool → Bool → O β) : O β := Au (eD N) N v0 v1 v2 v3 v4 v5 v6 v7 rec_ k0
def jb (N : Nat) : Nat → Int → Int → Int → Int → Int → Int → Bool → Bool → (Bool → Bool → O β) → O β
 | 0, _, _, _, _, _, _, _, _, _ => none
 | F + 1, v0, v1, v2, v3, v4, v5, v6, v7, k0 => ES N v0 v1 v2 v3 v4 v5 v6 v7 (fun v0 v1 v2 v3 v4 v5 v6 v7 => jb N F v0 v1 v2 v3 v4 v5 v6 v7 k0) k0
def Ev (N : Nat) (a0 a1 a2 a3 : Int) (k : Int → O β) : O β :=
zq12 a0 a1 fun r5 =>
zq119 N a2 a3 r5 0 a0 a1 false false (fun e7_0 e7_1 =>
(cond e7_0
((cond e7_1
(k 2)
((cond e7_1
(k 1)
(k 0)))))
((cond e7_1
(k 1)
(k 0)))))
def fP (N : Nat) (a0 a1 a2 a3 : Int) (k : Int → O β) : O β := Ev (db N) (jb N) N a0 a1 a2 a3 k
def KT (N : Nat) (a0 a1 a2 a3 : Int) (k : Bool → O β) : O β :=
zq120 a0 a1 a2 a3 fun r5 =>
k ((r5 == 1))
def pz (N : Nat) (a0 a1 a2 a3 : Int) (k : Bool → O β) : O β := KT (fP N) N a0 a1 a2 a3 k
def Ew (N : Nat) (v0 v1 v2 v3 v4 v5 : Int) (rec_ : Int → Int → Int → Int → Int → Int → O β) (k0 : Bool → O β) (k1 : O β) : O β :=
(cond ((decide (v1 < v0)))
((gd ((decide (0 ≤ v1)))
((cond (((bits .and .i64 v4 (bb .i64 1 v1)) != 0))
(zq121 v2 v3 ((bits .andNot .i64 v4 (bb .i64 1 v1))) ((bits .andNot .i64 v5 (bb .i64 1 v1))) fun r6 =>
(cond r6
(k0 false)
(rec_ v0 ((w64 (v1 + 1))) v2 v3 v4 v5)))
(rec_ v0 ((w64 (v1 + 1))) v2 v3 v4 v5)))))
(k1 ))
def Lx (N : Nat) (v0 v1 v2 v3 v4 v5 : Int) (rec_ : Int → Int → Int → Int → Int → Int → O β) (k0 : Bool → O β) (k1 : O β) : O β := Ew (pz N) N v0 v1 v2 v3 v4 v5 rec_ k0 k1
def l3 (N : Nat) : Nat → Int → Int → Int → Int → Int → Int → (Bool → O β) → (O β) → O β
 | 0, _, _, _, _, _, _, _, _ => none
 | F + 1, v0, v1, v2, v3, v4, v5, k0, k1 => Lx N v0 v1 v2 v3 v4 v5 (fun v0 v1 v2 v3 v4 v5 => l3 N F v0 v1 v2 v3 v4 v5 k0 k1) k0 k1
def KU (N : Nat) (a0 a1 a2 a3 : Int) (k : Bool → O β) : O β :=
zq121 a0 a1 a2 a3 fun r5 =>
(cond (!r5)
(k false)
(zq123 N a0 0 a0 a1 a2 a3 (fun e7_0 =>
k e7_0) (k true)))
def pA (N : Nat) (a0 a1 a2 a3 : Int) (k : Bool → O β) : O β := KU (pz N) (l3 N) N a0 a1 a2 a3 k
def Ex (N : Nat) (v0 v1 v2 v3 v4 v5 v6 : Int) (v7 : List (Int × Int)) (rec_ : Int → Int → Int → Int → Int → Int → Int → List (Int × Int) → O β) (k0 : Int → Int → Int → Int → List (Int × Int) → O β) : O β :=
(cond ((decide (v4 < v3)))
((cond (((bits .andNot .i64 v4 v0) == 0))
(zq124 v5 v6 v0 v4 fun r4 =>
(cond r4
((gd ((decide ((v7.length + ((([] : List (Int × Int)) ++ [(v0, v4)])).length) * 16 ≤ 140737488355328)))
(rec_ v0 v1 v2 v3 ((w64 (v4 + 1))) v5 v6 ((v7 ++ (([] : List (Int × Int)) ++ [(v0, v4)]))))))
(rec_ v0 v1 v2 v3 ((w64 (v4 + 1))) v5 v6 v7)))
(rec_ v0 v1 v2 v3 ((w64 (v4 + 1))) v5 v6 v7)))
(k0 v1 v2 v5 v6 v7))
def Ly (N : Nat) (v0 v1 v2 v3 v4 v5 v6 : Int) (v7 : List (Int × Int)) (rec_ : Int → Int → Int → Int → Int → Int → Int → List (Int × Int) → O β) (k0 : Int → Int → Int → Int → List (Int × Int) → O β) : O β := Ex (pA N) N v0 v1 v2 v3 v4 v5 v6 v7 rec_ k0
def kV (N : Nat) : Nat → Int → Int → Int → Int → Int → Int → Int → List (Int × Int) → (Int → Int → Int → Int → List (Int × Int) → O β) → O β
 | 0, _, _, _, _, _, _, _, _, _ => none
 | F + 1, v0, v1, v2, v3, v4, v5, v6, v7, k0 => Ly N v0 v1 v2 v3 v4 v5 v6 v7 (fun v0 v1 v2 v3 v4 v5 v6 v7 => kV N F v0 v1 v2 v3 v4 v5 v6 v7 k0) k0
def Ey (N : Nat) (v0 v1 v2 v3 : Int) (v4 : List (Int × Int)) (rec_ : Int → Int → Int → Int → List (Int × Int) → O β) (k0 : List (Int × Int) → O β) : O β :=
(cond ((decide (v1 < v0)))
(zq126 N v1 v0 v1 ((w64 (v1 + 1))) 0 v2 v3 v4 (fun e5_0 e5_1 e5_2 e5_3 e5_4 =>
rec_ e5_0 ((w64 (e5_1 + 1))) e5_2 e5_3 e5_4))
(k0 v4))
def Lz (N : Nat) (v0 v1 v2 v3 : Int) (v4 : List (Int × Int)) (rec_ : Int → Int → Int → Int → List (Int × Int) → O β) (k0 : List (Int × Int) → O β) : O β := Ey (kV N) N v0 v1 v2 v3 v4 rec_ k0
def io (N : Nat) : Nat → Int → Int → Int → Int → List (Int × Int) → (List (Int × Int) → O β) → O β
 | 0, _, _, _, _, _, _ => none
 | F + 1, v0, v1, v2, v3, v4, k0 => Lz N v0 v1 v2 v3 v4 (fun v0 v1 v2 v3 v4 => io N F v0 v1 v2 v3 v4 k0) k0
def KV (N : Nat) (a0 a1 : Int) (k : List (Int × Int) → O β) : O β :=
zq12 a0 a1 fun r3 =>
zq128 N r3 0 a0 a1 (([] : List (Int × Int))) (fun e6_0 =>
k e6_0)
def ep (N : Nat) (a0 a1 : Int) (k : List (Int × Int) → O β) : O β := KV (db N) (io N) N a0 a1 k
def Ez (N : Nat) (a0 : Int) (a1 : List (Int × Int)) (k : Int → Int → O β) : O β :=
zq19 a0 (fun x0 k => zq11 x0 a1 k) fun r4 r5 =>
k r4 r5
def fy (N : Nat) (a0 : Int) (a1 : List (Int × Int)) (k : Int → Int → O β) : O β := Ez (il N) (pH N) N a0 a1 k
def EA (N : Nat) (self : List Int → Int → Int → Int → Int → (List Int → Bool → O β) → O β) (v0 : List Int) (v1 v2 v3 v4 : Int) (rec_ : List Int → Int → Int → Int → Int → O β) (k0 : Bool → List Int → O β) (k1 : O β) : O β :=
(cond ((decide (v4 ≤ (w64 ((v0.length : Int) - v3)))))
((gd ((decide (0 ≤ v4)))
((gd ((decide (v4 < (v0.length : Int))))
((cond (((bits .andNot .i64 (rd 0 v0 v4) v2) == 0))
(rec_ v0 v1 v2 v3 ((w64 (v4 + 1))))
((gd ((decide (0 ≤ v4)))
((gd ((decide (v4 < (v0.length : Int))))
(self v0 v1 ((bits .or .i64 v2 (rd 0 v0 v4))) ((w64 (v4 + 1))) ((w64 (v3 - 1))) fun r7 r8 =>
(cond r8
((gd ((decide ((((([] : List Int) ++ [v4])).length + r7.length) * 8 ≤ 140737488355328)))
(k0 true (((([] : List Int) ++ [v4]) ++ r7)))))
(rec_ v0 v1 v2 v3 ((w64 (v4 + 1))))))))))))))))
(k1 ))
def LA (N : Nat) (self : List Int → Int → Int → Int → Int → (List Int → Bool → O β) → O β) (v0 : List Int) (v1 v2 v3 v4 : Int) (rec_ : List Int → Int → Int → Int → Int → O β) (k0 : Bool → List Int → O β) (k1 : O β) : O β := EA N self v0 v1 v2 v3 v4 rec_ k0 k1
def l4 (N : Nat) (self : List Int → Int → Int → Int → Int → (List Int → Bool → O β) → O β) : Nat → List Int → Int → Int → Int → Int → (Bool → List Int → O β) → (O β) → O β
 | 0, _, _, _, _, _, _, _ => none
 | F + 1, v0, v1, v2, v3, v4, k0, k1 => LA N self v0 v1 v2 v3 v4 (fun v0 v1 v2 v3 v4 => l4 N self F v0 v1 v2 v3 v4 k0 k1) k0 k1
def EB (N : Nat) (self : List Int → Int → Int → Int → Int → (List Int → Bool → O β) → O β) (a0 : List Int) (a1 a2 a3 a4 : Int) (k : List Int → Bool → O β) : O β :=
(cond ((a4 == 0))
(k (([] : List Int)) ((a2 == a1)))
(zq132 self N a0 a1 a2 a4 a3 (fun e9_0 e9_1 =>
k e9_1 e9_0) (k (([] : List Int)) false)))
def LB (N : Nat) (self : List Int → Int → Int → Int → Int → (List Int → Bool → O β) → O β) (a0 : List Int) (a1 a2 a3 a4 : Int) (k : List Int → Bool → O β) : O β := EB (l4 N) N self a0 a1 a2 a3 a4 k
def ec (N : Nat) : Nat → List Int → Int → Int → Int → Int → (List Int → Bool → O β) → O β
 | 0, _, _, _, _, _, _ => none
 | F + 1, a0, a1, a2, a3, a4, k => LB N (ec N F) a0 a1 a2 a3 a4 k
def Rj (N : Nat) (a0 : List Int) (a1 a2 a3 a4 : Int) (k : List Int → Bool → O β) : O β := ec N N a0 a1 a2 a3 a4 k
def EC (N : Nat) (v0 : List (Int × Int)) (v1 : List (Int × Int)) (v2 v3 v4 v5 : Int) (v6 : List Int) (rec_ : List (Int × Int) → List (Int × Int) → Int → Int → Int → Int → List Int → O β) (k0 : List (Int × Int) → Int → Int → List Int → O β) : O β :=
(cond ((decide (v3 < v2)))
((gd ((decide (0 ≤ v3)))
((gd ((decide (v3 < (v1.length : Int))))
(zq130 v4 ((([] : List (Int × Int)) ++ [((rd (0, 0) v1 v3).1, (rd (0, 0) v1 v3).2)])) fun r4 r5 =>
(gd ((decide (0 ≤ v3)))
((gd ((decide (v3 < (v6.length : Int))))
(rec_ v0 v1 v2 ((w64 (v3 + 1))) v4 v5 ((wr v6 v3 r5)))))))))))
(k0 v0 v4 v5 v6))
def LC (N : Nat) (v0 : List (Int × Int)) (v1 : List (Int × Int)) (v2 v3 v4 v5 : Int) (v6 : List Int) (rec_ : List (Int × Int) → List (Int × Int) → Int → Int → Int → Int → List Int → O β) (k0 : List (Int × Int) → Int → Int → List Int → O β) : O β := EC (fy N) N v0 v1 v2 v3 v4 v5 v6 rec_ k0
def jc (N : Nat) : Nat → List (Int × Int) → List (Int × Int) → Int → Int → Int → Int → List Int → (List (Int × Int) → Int → Int → List Int → O β) → O β
 | 0, _, _, _, _, _, _, _, _ => none
 | F + 1, v0, v1, v2, v3, v4, v5, v6, k0 => LC N v0 v1 v2 v3 v4 v5 v6 (fun v0 v1 v2 v3 v4 v5 v6 => jc N F v0 v1 v2 v3 v4 v5 v6 k0) k0
def ED (N : Nat) (v0 : List (Int × Int)) (v1 v2 : Int) (v3 : List (Int × Int)) (v4 : List Int) (rec_ : List (Int × Int) → Int → Int → List (Int × Int) → List Int → O β) (k0 : List (Int × Int) → O β) : O β :=
(cond ((decide (v2 < v1)))
((gd ((decide (0 ≤ v2)))
((gd ((decide (v2 < (v4.length : Int))))
((gd ((decide (0 ≤ (rd 0 v4 v2))))
((gd ((decide ((rd 0 v4 v2) < (v0.length : Int))))
((gd ((decide ((v3.length + ((([] : List (Int × Int)) ++ [((rd (0, 0) v0 (rd 0 v4 v2)).1, (rd (0, 0) v0 (rd 0 v4 v2)).2)])).length) * 16 ≤ 140737488355328)))
(rec_ v0 v1 ((w64 (v2 + 1))) ((v3 ++ (([] : List (Int × Int)) ++ [((rd (0, 0) v0 (rd 0 v4 v2)).1, (rd (0, 0) v0 (rd 0 v4 v2)).2)]))) v4)))))))))))
(k0 v3))
def LD (N : Nat) (v0 : List (Int × Int)) (v1 v2 : Int) (v3 : List (Int × Int)) (v4 : List Int) (rec_ : List (Int × Int) → Int → Int → List (Int × Int) → List Int → O β) (k0 : List (Int × Int) → O β) : O β := ED N v0 v1 v2 v3 v4 rec_ k0
def ip (N : Nat) : Nat → List (Int × Int) → Int → Int → List (Int × Int) → List Int → (List (Int × Int) → O β) → O β
 | 0, _, _, _, _, _, _ => none
 | F + 1, v0, v1, v2, v3, v4, k0 => LD N v0 v1 v2 v3 v4 (fun v0 v1 v2 v3 v4 => ip N F v0 v1 v2 v3 v4 k0) k0
def KX (N : Nat) (v0 : List (Int × Int)) (v1 v2 v3 v4 : Int) (v5 : List Int) (rec_ : List (Int × Int) → Int → Int → Int → Int → List Int → O β) (k0 : List (Int × Int) → O β) (k1 : O β) : O β :=
(cond ((decide (v2 < v1)))
(zq135 v5 v4 0 0 v2 fun r7 r8 =>
(cond r8
(zq139 N v0 ((r7.length : Int)) 0 (([] : List (Int × Int))) r7 (fun e9_0 =>
k0 e9_0))
(rec_ v0 v1 ((w64 (v2 + 1))) v3 v4 v5)))
(k1 ))
def Rk (N : Nat) (v0 : List (Int × Int)) (v1 v2 v3 v4 : Int) (v5 : List Int) (rec_ : List (Int × Int) → Int → Int → Int → Int → List Int → O β) (k0 : List (Int × Int) → O β) (k1 : O β) : O β := KX (Rj N) (ip N) N v0 v1 v2 v3 v4 v5 rec_ k0 k1
def kW (N : Nat) : Nat → List (Int × Int) → Int → Int → Int → Int → List Int → (List (Int × Int) → O β) → (O β) → O β
 | 0, _, _, _, _, _, _, _, _ => none
 | F + 1, v0, v1, v2, v3, v4, v5, k0, k1 => Rk N v0 v1 v2 v3 v4 v5 (fun v0 v1 v2 v3 v4 v5 => kW N F v0 v1 v2 v3 v4 v5 k0 k1) k0 k1
def KY (N : Nat) (a0 a1 : Int) (k : List (Int × Int) → O β) : O β :=
zq129 a0 a1 fun r3 =>
(gd ((decide (0 ≤ (r3.length : Int))))
((gd ((decide ((r3.length : Int) ≤ (r3.length : Int))))
((gd ((decide (8 * (r3.length : Int) ≤ 281474976710656)))
(zq137 N r3 r3 ((r3.length : Int)) 0 a0 a1 ((List.replicate (Int.toNat (r3.length : Int)) (0 : Int))) (fun e6_0 e6_1 e6_2 e6_3 =>
zq141 N e6_0 ((w64 ((e6_0.length : Int) + 1))) 0 e6_1 e6_2 e6_3 (fun e10_0 =>
k e10_0) (k (([] : List (Int × Int)))))))))))
def vv (N : Nat) (a0 a1 : Int) (k : List (Int × Int) → O β) : O β := KY (ep N) (jc N) (kW N) N a0 a1 k
def EE (N : Nat) (v0 : List (Int × Int)) (v1 : List (Int × Int)) (v2 v3 v4 v5 : Int) (v6 : List (Int × Int)) (rec_ : List (Int × Int) → List (Int × Int) → Int → Int → Int → Int → List (Int × Int) → O β) (k0 : List (Int × Int) → O β) : O β :=
(cond ((decide (v3 < v2)))
((gd ((decide (0 ≤ v3)))
((gd ((decide (v3 < (v1.length : Int))))
((gd ((decide (0 ≤ v3)))
((gd ((decide (v3 ≤ (v0.length : Int))))
((gd ((decide (0 ≤ (w64 (v3 + 1)))))
((gd ((decide ((w64 (v3 + 1)) ≤ (v0.length : Int))))
(aX N ((List.drop 0 (List.take (Int.toNat v3) v0))) fun r6 =>
(gd ((decide ((r6.length + ((List.drop (Int.toNat (w64 (v3 + 1))) (List.take v0.length v0))).length) * 16 ≤ 140737488355328)))
(zq130 v4 ((r6 ++ (List.drop (Int.toNat (w64 (v3 + 1))) (List.take v0.length v0)))) fun r7 r8 =>
(cond ((!((r7 == v4) && (r8 == v5))))
((gd ((decide ((v6.length + ((([] : List (Int × Int)) ++ [((rd (0, 0) v1 v3).1, (rd (0, 0) v1 v3).2)])).length) * 16 ≤ 140737488355328)))
(rec_ v0 v1 v2 ((w64 (v3 + 1))) v4 v5 ((v6 ++ (([] : List (Int × Int)) ++ [((rd (0, 0) v1 v3).1, (rd (0, 0) v1 v3).2)]))))))
(rec_ v0 v1 v2 ((w64 (v3 + 1))) v4 v5 v6)))))))))))))))))
(k0 v6))
def LE (N : Nat) (v0 : List (Int × Int)) (v1 : List (Int × Int)) (v2 v3 v4 v5 : Int) (v6 : List (Int × Int)) (rec_ : List (Int × Int) → List (Int × Int) → Int → Int → Int → Int → List (Int × Int) → O β) (k0 : List (Int × Int) → O β) : O β := EE (fy N) N v0 v1 v2 v3 v4 v5 v6 rec_ k0
def l5 (N : Nat) : Nat → List (Int × Int) → List (Int × Int) → Int → Int → Int → Int → List (Int × Int) → (List (Int × Int) → O β) → O β
 | 0, _, _, _, _, _, _, _, _ => none
 | F + 1, v0, v1, v2, v3, v4, v5, v6, k0 => LE N v0 v1 v2 v3 v4 v5 v6 (fun v0 v1 v2 v3 v4 v5 v6 => l5 N F v0 v1 v2 v3 v4 v5 v6 k0) k0
def KZ (N : Nat) (a0 a1 : Int) (k : List (Int × Int) → Bool → O β) : O β :=
zq116 a0 a1 fun r4 =>
(cond (!r4)
(k (([] : List (Int × Int))) false)
(zq129 a0 a1 fun r5 =>
zq144 N r5 r5 ((r5.length : Int)) 0 a0 a1 (([] : List (Int × Int))) (fun e9_0 =>
k e9_0 true)))
def vA (N : Nat) (a0 a1 : Int) (k : List (Int × Int) → Bool → O β) : O β := KZ (fO N) (ep N) (l5 N) N a0 a1 k
def K0 (N : Nat) (a0 a1 : Int) (k0 : Int → Int → Mp → Mp → O β) : O β :=
k0 a0 a1 (([] : Mp)) (([] : Mp))
def AD (N : Nat) (a0 a1 : Int) (k0 : Int → Int → Mp → Mp → O β) : O β := K0 N a0 a1 k0
def K1 (N : Nat) (a0 : Int) (k : ByteArray → O β) : O β :=
strconv_Itoa N a0 fun r2 =>
k r2
def dx (N : Nat) (a0 : Int) (k : ByteArray → O β) : O β := K1 N a0 k
def EF (N : Nat) (a0 a1 a2 a3 : Int) (k : Int → Int → O β) : O β :=
(gd ((decide (0 ≤ a2)))
((gd ((decide (0 ≤ a2)))
(k ((bits .or .i64 a0 (bb .i64 1 a2))) ((bits .or .i64 a1 (bb .i64 a3 a2)))))))
def er (N : Nat) (a0 a1 a2 a3 : Int) (k : Int → Int → O β) : O β := EF N a0 a1 a2 a3 k
def Av (N : Nat) (self : Int → Int → Int → Int → Mp → Mp → (Int → Int → Int → Mp → Mp → O β) → O β) (v0 v1 v2 v3 v4 : Int) (v5 v6 : Mp) (v7 v8 : Int) (rec_ : Int → Int → Int → Int → Int → Mp → Mp → Int → Int → O β) (k0 : Int → Int → Int → Mp → Mp → Int → Int → O β) : O β :=
(cond ((decide (v2 < v1)))
((gd ((decide (0 ≤ v2)))
((cond (((bits .and .i64 (dr .i64 v7 v2) 1) == 0))
(zq148 v7 v8 v2 0 fun r7 r8 =>
self r7 r8 v3 v4 v5 v6 (fun r9_0 r9_1 r9_2 r9_3 r9_4 =>
zq148 v7 v8 v2 1 fun r10 r11 =>
self r10 r11 r9_1 r9_2 r9_3 r9_4 (fun r12_0 r12_1 r12_2 r12_3 r12_4 =>
rec_ ((mnI v0 (w64 (1 + (mxI r9_0 r12_0))))) v1 ((w64 (v2 + 1))) r12_1 r12_2 r12_3 r12_4 v7 v8)))
(rec_ v0 v1 ((w64 (v2 + 1))) v3 v4 v5 v6 v7 v8)))))
(k0 v0 v3 v4 v5 v6 v7 v8))
def ET (N : Nat) (self : Int → Int → Int → Int → Mp → Mp → (Int → Int → Int → Mp → Mp → O β) → O β) (v0 v1 v2 v3 v4 : Int) (v5 v6 : Mp) (v7 v8 : Int) (rec_ : Int → Int → Int → Int → Int → Mp → Mp → Int → Int → O β) (k0 : Int → Int → Int → Mp → Mp → Int → Int → O β) : O β := Av (er N) N self v0 v1 v2 v3 v4 v5 v6 v7 v8 rec_ k0
def kX (N : Nat) (self : Int → Int → Int → Int → Mp → Mp → (Int → Int → Int → Mp → Mp → O β) → O β) : Nat → Int → Int → Int → Int → Int → Mp → Mp → Int → Int → (Int → Int → Int → Mp → Mp → Int → Int → O β) → O β
 | 0, _, _, _, _, _, _, _, _, _, _ => none
 | F + 1, v0, v1, v2, v3, v4, v5, v6, v7, v8, k0 => ET N self v0 v1 v2 v3 v4 v5 v6 v7 v8 (fun v0 v1 v2 v3 v4 v5 v6 v7 v8 => kX N self F v0 v1 v2 v3 v4 v5 v6 v7 v8 k0) k0
def K2 (N : Nat) (self : Int → Int → Int → Int → Mp → Mp → (Int → Int → Int → Mp → Mp → O β) → O β) (a0 a1 a2 a3 : Int) (a4 a5 : Mp) (k0 : Int → Int → Int → Mp → Mp → O β) : O β :=
(cond ((iJ ⟨true, false⟩ a4 a0 a1))
(k0 ((eU ⟨true, false⟩ a4 a0 a1)) a2 a3 a4 a5)
(zq120 a2 a3 a0 a1 fun r6 =>
(cond ((r6 == 2))
(zq150 self N a2 a2 0 a2 a3 a4 a5 a0 a1 (fun e13_0 e13_1 e13_2 e13_3 e13_4 e13_5 e13_6 =>
k0 e13_0 e13_1 e13_2 ((jD ⟨true, false⟩ e13_3 e13_5 e13_6 e13_0)) e13_4))
(k0 0 a2 a3 ((jD ⟨true, false⟩ a4 a0 a1 0)) a5))))
def Rl (N : Nat) (self : Int → Int → Int → Int → Mp → Mp → (Int → Int → Int → Mp → Mp → O β) → O β) (a0 a1 a2 a3 : Int) (a4 a5 : Mp) (k0 : Int → Int → Int → Mp → Mp → O β) : O β := K2 (fP N) (kX N) N self a0 a1 a2 a3 a4 a5 k0
def fQ (N : Nat) : Nat → Int → Int → Int → Int → Mp → Mp → (Int → Int → Int → Mp → Mp → O β) → O β
 | 0, _, _, _, _, _, _, _ => none
 | F + 1, a0, a1, a2, a3, a4, a5, k0 => Rl N (fQ N F) a0 a1 a2 a3 a4 a5 k0
def LF (N : Nat) (a0 a1 a2 a3 : Int) (a4 a5 : Mp) (k0 : Int → Int → Int → Mp → Mp → O β) : O β := fQ N N a0 a1 a2 a3 a4 a5 k0
def Aw (N : Nat) (v0 v1 v2 v3 v4 : Int) (v5 v6 : Mp) (v7 v8 : Int) (rec_ : Int → Int → Int → Int → Int → Mp → Mp → Int → Int → O β) (k0 : Int → Int → Int → Mp → Mp → O β) (k1 : Int → Int → Mp → Mp → O β) : O β :=
(cond ((decide (v2 < v1)))
((cond ((decide (v0 > 0)))
((gd ((decide (0 ≤ v2)))
((cond (((bits .and .i64 (dr .i64 v7 v2) 1) == 0))
(zq148 v7 v8 v2 0 fun r15 r16 =>
zq153 r15 r16 v3 v4 v5 v6 (fun r17_0 r17_1 r17_2 r17_3 r17_4 =>
(cond ((decide (r17_0 < v0)))
(zq148 v7 v8 v2 1 fun r18 r19 =>
zq153 r18 r19 r17_1 r17_2 r17_3 r17_4 (fun r20_0 r20_1 r20_2 r20_3 r20_4 =>
(cond ((decide (r20_0 < v0)))
(k0 v2 r20_1 r20_2 r20_3 r20_4)
(rec_ v0 v1 ((w64 (v2 + 1))) r20_1 r20_2 r20_3 r20_4 v7 v8))))
(rec_ v0 v1 ((w64 (v2 + 1))) r17_1 r17_2 r17_3 r17_4 v7 v8))))
(rec_ v0 v1 ((w64 (v2 + 1))) v3 v4 v5 v6 v7 v8)))))
(rec_ v0 v1 ((w64 (v2 + 1))) v3 v4 v5 v6 v7 v8)))
(k1 v3 v4 v5 v6))
def EU (N : Nat) (v0 v1 v2 v3 v4 : Int) (v5 v6 : Mp) (v7 v8 : Int) (rec_ : Int → Int → Int → Int → Int → Mp → Mp → Int → Int → O β) (k0 : Int → Int → Int → Mp → Mp → O β) (k1 : Int → Int → Mp → Mp → O β) : O β := Aw (er N) (LF N) N v0 v1 v2 v3 v4 v5 v6 v7 v8 rec_ k0 k1
def iq (N : Nat) : Nat → Int → Int → Int → Int → Int → Mp → Mp → Int → Int → (Int → Int → Int → Mp → Mp → O β) → (Int → Int → Mp → Mp → O β) → O β
 | 0, _, _, _, _, _, _, _, _, _, _, _ => none
 | F + 1, v0, v1, v2, v3, v4, v5, v6, v7, v8, k0, k1 => EU N v0 v1 v2 v3 v4 v5 v6 v7 v8 (fun v0 v1 v2 v3 v4 v5 v6 v7 v8 => iq N F v0 v1 v2 v3 v4 v5 v6 v7 v8 k0 k1) k0 k1
def K3 (N : Nat) (a0 a1 a2 a3 : Int) (a4 a5 : Mp) (k0 : Int → Int → Int → Mp → Mp → O β) : O β :=
zq153 a0 a1 a2 a3 a4 a5 (fun r14_0 r14_1 r14_2 r14_3 r14_4 =>
zq155 N r14_0 r14_1 0 r14_1 r14_2 r14_3 r14_4 a0 a1 (fun e21_0 e21_1 e21_2 e21_3 e21_4 =>
k0 e21_0 e21_1 e21_2 e21_3 e21_4) (fun e22_0 e22_1 e22_2 e22_3 =>
k0 (-1) e22_0 e22_1 e22_2 e22_3))
def vB (N : Nat) (a0 a1 a2 a3 : Int) (a4 a5 : Mp) (k0 : Int → Int → Int → Mp → Mp → O β) : O β := K3 (LF N) (iq N) N a0 a1 a2 a3 a4 a5 k0
def AE (s0 : ByteArray) (s1 s2 : Int) (s3 s4 : Mp) (u0 : ByteArray) (u1 u2 : Int) (u3 u4 : Mp) (K : O β) : O β :=
(gd (decide (s0 = u0)) (gd (s1 == u1) (gd (s2 == u2) (gd (s3 == u3) (gd (s4 == u4) K)))))
def K4 (N : Nat) (self : Int → Int → Int → Int → Mp → Mp → (ByteArray → Int → Int → Mp → Mp → O β) → O β) (a0 a1 a2 a3 : Int) (a4 a5 : Mp) (k0 : ByteArray → Int → Int → Mp → Mp → O β) : O β :=
zq156 a0 a1 a2 a3 a4 a5 (fun r6_0 r6_1 r6_2 r6_3 r6_4 =>
(cond ((decide (r6_0 < 0)))
(zq120 r6_1 r6_2 a0 a1 fun r7 =>
zq147 r7 fun r8 =>
k0 r8 r6_1 r6_2 r6_3 r6_4)
(zq148 a0 a1 r6_0 0 fun r9 r10 =>
self r9 r10 r6_1 r6_2 r6_3 r6_4 (fun r11_0 r11_1 r11_2 r11_3 r11_4 =>
(gd ((decide (((aj ((([] : List Int) ++ [(w8 (97 + (w8 (r6_0))))])))).size + r11_0.size ≤ 9223372036854775807)))
(zq148 a0 a1 r6_0 1 fun r12 r13 =>
self r12 r13 r11_1 r11_2 r11_3 r11_4 (fun r14_0 r14_1 r14_2 r14_3 r14_4 =>
(gd ((decide ((((aj ((([] : List Int) ++ [(w8 (97 + (w8 (r6_0))))]))) ++ r11_0)).size + r14_0.size ≤ 9223372036854775807)))
(zq148 a0 a1 r6_0 0 fun r15 r16 =>
self r15 r16 r6_1 r6_2 r6_3 r6_4 (fun r17_0 r17_1 r17_2 r17_3 r17_4 =>
(gd ((decide (((aj ((([] : List Int) ++ [(w8 (97 + (w8 (r6_0))))])))).size + r17_0.size ≤ 9223372036854775807)))
(zq148 a0 a1 r6_0 1 fun r18 r19 =>
self r18 r19 r17_1 r17_2 r17_3 r17_4 (fun r20_0 r20_1 r20_2 r20_3 r20_4 =>
(gd ((decide ((((aj ((([] : List Int) ++ [(w8 (97 + (w8 (r6_0))))]))) ++ r17_0)).size + r20_0.size ≤ 9223372036854775807)))
(self r15 r16 r6_1 r6_2 r6_3 r6_4 (fun r21_0 r21_1 r21_2 r21_3 r21_4 =>
(gd ((decide (((aj ((([] : List Int) ++ [(w8 (97 + (w8 (r6_0))))])))).size + r21_0.size ≤ 9223372036854775807)))
(zq148 a0 a1 r6_0 1 fun r22 r23 =>
self r22 r23 r21_1 r21_2 r21_3 r21_4 (fun r24_0 r24_1 r24_2 r24_3 r24_4 =>
(gd ((decide ((((aj ((([] : List Int) ++ [(w8 (97 + (w8 (r6_0))))]))) ++ r21_0)).size + r24_0.size ≤ 9223372036854775807)))
(zq148 a0 a1 r6_0 1 fun r25 r26 =>
(gd ((decide (((aj ((([] : List Int) ++ [(w8 (97 + (w8 (r6_0))))])))).size + r21_0.size ≤ 9223372036854775807)))
(self r25 r26 r21_1 r21_2 r21_3 r21_4 (fun r27_0 r27_1 r27_2 r27_3 r27_4 =>
(gd ((decide ((((aj ((([] : List Int) ++ [(w8 (97 + (w8 (r6_0))))]))) ++ r21_0)).size + r27_0.size ≤ 9223372036854775807)))
(self r25 r26 r21_1 r21_2 r21_3 r21_4 (fun r28_0 r28_1 r28_2 r28_3 r28_4 =>
(gd ((decide (((aj ((([] : List Int) ++ [(w8 (97 + (w8 (r6_0))))])))).size + r21_0.size ≤ 9223372036854775807)))
((gd ((decide ((((aj ((([] : List Int) ++ [(w8 (97 + (w8 (r6_0))))]))) ++ r21_0)).size + r28_0.size ≤ 9223372036854775807)))
((AE ((((aj ((([] : List Int) ++ [(w8 (97 + (w8 (r6_0))))]))) ++ r21_0) ++ r27_0)) r27_1 r27_2 r27_3 r27_4 ((((aj ((([] : List Int) ++ [(w8 (97 + (w8 (r6_0))))]))) ++ r21_0) ++ r28_0)) r28_1 r28_2 r28_3 r28_4
((AE ((((aj ((([] : List Int) ++ [(w8 (97 + (w8 (r6_0))))]))) ++ r21_0) ++ r24_0)) r24_1 r24_2 r24_3 r24_4 ((((aj ((([] : List Int) ++ [(w8 (97 + (w8 (r6_0))))]))) ++ r21_0) ++ r27_0)) r27_1 r27_2 r27_3 r27_4
((AE ((((aj ((([] : List Int) ++ [(w8 (97 + (w8 (r6_0))))]))) ++ r17_0) ++ r20_0)) r20_1 r20_2 r20_3 r20_4 ((((aj ((([] : List Int) ++ [(w8 (97 + (w8 (r6_0))))]))) ++ r21_0) ++ r24_0)) r24_1 r24_2 r24_3 r24_4
((AE ((((aj ((([] : List Int) ++ [(w8 (97 + (w8 (r6_0))))]))) ++ r11_0) ++ r14_0)) r14_1 r14_2 r14_3 r14_4 ((((aj ((([] : List Int) ++ [(w8 (97 + (w8 (r6_0))))]))) ++ r17_0) ++ r20_0)) r20_1 r20_2 r20_3 r20_4
(k0 ((((aj ((([] : List Int) ++ [(w8 (97 + (w8 (r6_0))))]))) ++ r11_0) ++ r14_0)) r14_1 r14_2 r14_3 r14_4)))))))))))))))))))))))))))))))))))))))
def Rm (N : Nat) (self : Int → Int → Int → Int → Mp → Mp → (ByteArray → Int → Int → Mp → Mp → O β) → O β) (a0 a1 a2 a3 : Int) (a4 a5 : Mp) (k0 : ByteArray → Int → Int → Mp → Mp → O β) : O β := K4 (fP N) (dx N) (er N) (vB N) N self a0 a1 a2 a3 a4 a5 k0
def nT (N : Nat) : Nat → Int → Int → Int → Int → Mp → Mp → (ByteArray → Int → Int → Mp → Mp → O β) → O β
 | 0, _, _, _, _, _, _, _ => none
 | F + 1, a0, a1, a2, a3, a4, a5, k0 => Rm N (nT N F) a0 a1 a2 a3 a4 a5 k0
def Rn (N : Nat) (a0 a1 a2 a3 : Int) (a4 a5 : Mp) (k0 : ByteArray → Int → Int → Mp → Mp → O β) : O β := nT N N a0 a1 a2 a3 a4 a5 k0
def K5 (N : Nat) (a0 a1 : Int) (k : ByteArray → Bool → O β) : O β :=
zq117 a0 a1 4 fun r4 =>
(cond (!r4)
(k ByteArray.empty false)
(zq146 a0 a1 (fun r5_0 r5_1 r5_2 r5_3 =>
zq160 0 0 r5_0 r5_1 r5_2 r5_3 (fun r6_0 r6_1 r6_2 r6_3 r6_4 =>
k r6_0 true))))
def vC (N : Nat) (a0 a1 : Int) (k : ByteArray → Bool → O β) : O β := K5 (el N) (AD N) (Rn N) N a0 a1 k
def K6 (N : Nat) (a0 a1 : Int) (k : Int → Int → O β) : O β :=
zq19 a0 (fun x0 k => zq16 x0 a0 a1 k) fun r4 r5 =>
k r4 r5
def sS (N : Nat) (a0 a1 : Int) (k : Int → Int → O β) : O β := K6 (iZ N) (pH N) N a0 a1 k
def EG (N : Nat) (v0 v1 v2 v3 : Int) (v4 : List Int) (rec_ : Int → Int → Int → Int → List Int → O β) (k0 : List Int → O β) : O β :=
(cond ((decide (v1 < v0)))
((gd ((decide (0 ≤ v1)))
((cond (((bits .and .i64 (dr .i64 v2 v1) 1) == 0))
(rec_ v0 ((w64 (v1 + 1))) v2 v3 v4)
((gd ((decide (0 ≤ v1)))
((cond (((bits .and .i64 (dr .i64 v3 v1) 1) == 0))
((gd ((decide ((v4.length + ((([] : List Int) ++ [33])).length) * 1 ≤ 140737488355328)))
((gd ((decide ((((v4 ++ (([] : List Int) ++ [33]))).length + ((([] : List Int) ++ [(w8 (97 + (w8 (v1))))])).length) * 1 ≤ 140737488355328)))
(rec_ v0 ((w64 (v1 + 1))) v2 v3 (((v4 ++ (([] : List Int) ++ [33])) ++ (([] : List Int) ++ [(w8 (97 + (w8 (v1))))]))))))))
((gd ((decide ((v4.length + ((([] : List Int) ++ [(w8 (97 + (w8 (v1))))])).length) * 1 ≤ 140737488355328)))
(rec_ v0 ((w64 (v1 + 1))) v2 v3 ((v4 ++ (([] : List Int) ++ [(w8 (97 + (w8 (v1))))]))))))))))))))
(k0 v4))
def LG (N : Nat) (v0 v1 v2 v3 : Int) (v4 : List Int) (rec_ : Int → Int → Int → Int → List Int → O β) (k0 : List Int → O β) : O β := EG N v0 v1 v2 v3 v4 rec_ k0
def l6 (N : Nat) : Nat → Int → Int → Int → Int → List Int → (List Int → O β) → O β
 | 0, _, _, _, _, _, _ => none
 | F + 1, v0, v1, v2, v3, v4, k0 => LG N v0 v1 v2 v3 v4 (fun v0 v1 v2 v3 v4 => l6 N F v0 v1 v2 v3 v4 k0) k0
def K7 (N : Nat) (a0 a1 a2 : Int) (k : ByteArray → O β) : O β :=
zq5 a0 a1 a2 fun r4 =>
(cond (!r4)
(k ByteArray.empty)
(zq164 N a0 0 a1 a2 (([] : List Int)) (fun e5_0 =>
(cond (((e5_0.length : Int) == 0))
(k ((aj [49])))
(k ((aj e5_0)))))))
def sT (N : Nat) (a0 a1 a2 : Int) (k : ByteArray → O β) : O β := K7 (zj5 N) (l6 N) N a0 a1 a2 k
def EH (N : Nat) (v0 : Int) (v1 : ByteArray) (v2 : List (Int × Int)) (v3 v4 : Int) (v5 : List ByteArray) (rec_ : Int → ByteArray → List (Int × Int) → Int → Int → List ByteArray → O β) (k0 : ByteArray → List ByteArray → O β) : O β :=
(cond ((decide (v4 < v3)))
((gd ((decide (0 ≤ v4)))
((gd ((decide (v4 < (v2.length : Int))))
(zq165 v0 ((rd (0, 0) v2 v4).1) ((rd (0, 0) v2 v4).2) fun r4 =>
(gd ((decide (0 ≤ v4)))
((gd ((decide (v4 < (v5.length : Int))))
(rec_ v0 v1 v2 v3 ((w64 (v4 + 1))) ((wr v5 v4 r4)))))))))))
(k0 v1 v5))
def LH (N : Nat) (v0 : Int) (v1 : ByteArray) (v2 : List (Int × Int)) (v3 v4 : Int) (v5 : List ByteArray) (rec_ : Int → ByteArray → List (Int × Int) → Int → Int → List ByteArray → O β) (k0 : ByteArray → List ByteArray → O β) : O β := EH (sT N) N v0 v1 v2 v3 v4 v5 rec_ k0
def l7 (N : Nat) : Nat → Int → ByteArray → List (Int × Int) → Int → Int → List ByteArray → (ByteArray → List ByteArray → O β) → O β
 | 0, _, _, _, _, _, _, _ => none
 | F + 1, v0, v1, v2, v3, v4, v5, k0 => LH N v0 v1 v2 v3 v4 v5 (fun v0 v1 v2 v3 v4 v5 => l7 N F v0 v1 v2 v3 v4 v5 k0) k0
def K8 (N : Nat) (a0 : Int) (a1 : List (Int × Int)) (a2 : ByteArray) (k : ByteArray → O β) : O β :=
(gd ((decide (0 ≤ (a1.length : Int))))
((gd ((decide ((a1.length : Int) ≤ (a1.length : Int))))
((gd ((decide (16 * (a1.length : Int) ≤ 281474976710656)))
(zq167 N a0 a2 a1 ((a1.length : Int)) 0 ((List.replicate (Int.toNat (a1.length : Int)) ByteArray.empty)) (fun e5_0 e5_1 =>
strings_Join N e5_1 e5_0 fun r6 =>
k r6)))))))
def kY (N : Nat) (a0 : Int) (a1 : List (Int × Int)) (a2 : ByteArray) (k : ByteArray → O β) : O β := K8 (l7 N) N a0 a1 a2 k
def EI (N : Nat) (v0 v1 v2 v3 v4 v5 : Int) (v6 : List (Int × Int)) (rec_ : Int → Int → Int → Int → Int → Int → List (Int × Int) → O β) (k0 : Int → Int → List (Int × Int) → O β) : O β :=
(cond ((decide (v1 < v0)))
(zq13 v4 v5 v1 fun r7 =>
(cond ((r7 == 1))
((gd ((decide ((v6.length + ((([] : List (Int × Int)) ++ [(v1, v1)])).length) * 16 ≤ 140737488355328)))
(rec_ v0 ((w64 (v1 + 1))) v2 v3 v4 v5 ((v6 ++ (([] : List (Int × Int)) ++ [(v1, v1)]))))))
(rec_ v0 ((w64 (v1 + 1))) v2 v3 v4 v5 v6)))
(k0 v2 v3 v6))
def LI (N : Nat) (v0 v1 v2 v3 v4 v5 : Int) (v6 : List (Int × Int)) (rec_ : Int → Int → Int → Int → Int → Int → List (Int × Int) → O β) (k0 : Int → Int → List (Int × Int) → O β) : O β := EI (eD N) N v0 v1 v2 v3 v4 v5 v6 rec_ k0
def l8 (N : Nat) : Nat → Int → Int → Int → Int → Int → Int → List (Int × Int) → (Int → Int → List (Int × Int) → O β) → O β
 | 0, _, _, _, _, _, _, _, _ => none
 | F + 1, v0, v1, v2, v3, v4, v5, v6, k0 => LI N v0 v1 v2 v3 v4 v5 v6 (fun v0 v1 v2 v3 v4 v5 v6 => l8 N F v0 v1 v2 v3 v4 v5 v6 k0) k0
def La (N : Nat) (a0 a1 : Int) (k : ByteArray → O β) : O β :=
zq116 a0 a1 fun r3 =>
(cond (!r3)
(k ByteArray.empty)
(zq162 a0 a1 fun r4 r5 =>
zq12 r4 r5 fun r6 =>
zq170 N r6 0 a0 a1 r4 r5 (([] : List (Int × Int))) (fun e8_0 e8_1 e8_2 =>
(cond (((e8_2.length : Int) == 0))
(k ((aj [48])))
(zq168 e8_0 e8_2 ((aj [43])) fun r9 =>
k r9)))))
def vD (N : Nat) (a0 a1 : Int) (k : ByteArray → O β) : O β := La (db N) (fO N) (sS N) (kY N) (l8 N) N a0 a1 k
def Lb (N : Nat) (a0 : Int) (a1 : List (Int × Int)) (k : ByteArray → O β) : O β :=
(cond (((a1.length : Int) == 0))
(k ((aj [48])))
(zq168 a0 a1 ((aj [124])) fun r3 =>
k r3))
def vE (N : Nat) (a0 : Int) (a1 : List (Int × Int)) (k : ByteArray → O β) : O β := Lb (kY N) N a0 a1 k
def Lc (N : Nat) (a0 a1 : Int) (k : Int → Int → O β) : O β :=
zq12 a0 a1 fun r4 =>
(gd ((decide (0 ≤ r4)))
(k a0 ((bits .xor .i64 a1 (w64 ((bb .i64 1 r4) - 1))))))
def ir (N : Nat) (a0 a1 : Int) (k : Int → Int → O β) : O β := Lc (db N) N a0 a1 k
def Ld (N : Nat) (a0 a1 : Int) (k : Bool → O β) : O β :=
(cond ((a1 == 0))
(k true)
(zq173 a0 a1 fun r3 r4 =>
k ((r4 == 0))))
def l9 (N : Nat) (a0 a1 : Int) (k : Bool → O β) : O β := Ld (ir N) N a0 a1 k
def EJ (N : Nat) (v0 : List Int) (v1 v2 v3 v4 : Int) (rec_ : List Int → Int → Int → Int → Int → O β) (k0 : ByteArray → O β) (k1 : List Int → Int → Int → O β) : O β :=
(cond ((decide (v2 < v1)))
(zq20 v3 v2 fun r7 r8 =>
(cond (((v3 == r7) && (v4 == r8)))
(k0 ((aj ((([] : List Int) ++ [(w8 (97 + (w8 (v2))))])))))
(zq173 r7 r8 fun r9 r10 =>
(cond (((v3 == r9) && (v4 == r10)))
((gd ((decide (((aj [33])).size + ((aj ((([] : List Int) ++ [(w8 (97 + (w8 (v2))))])))).size ≤ 9223372036854775807)))
(k0 (((aj [33]) ++ (aj ((([] : List Int) ++ [(w8 (97 + (w8 (v2))))]))))))))
(rec_ v0 v1 ((w64 (v2 + 1))) v3 v4)))))
(k1 v0 v3 v4))
def AF (N : Nat) (v0 : List Int) (v1 v2 v3 v4 : Int) (rec_ : List Int → Int → Int → Int → Int → O β) (k0 : ByteArray → O β) (k1 : List Int → Int → Int → O β) : O β := EJ (tF N) (ir N) N v0 v1 v2 v3 v4 rec_ k0 k1
def kZ (N : Nat) : Nat → List Int → Int → Int → Int → Int → (ByteArray → O β) → (List Int → Int → Int → O β) → O β
 | 0, _, _, _, _, _, _, _ => none
 | F + 1, v0, v1, v2, v3, v4, k0, k1 => AF N v0 v1 v2 v3 v4 (fun v0 v1 v2 v3 v4 => kZ N F v0 v1 v2 v3 v4 k0 k1) k0 k1
def EK (N : Nat) (self : Int → Int → List Int → (ByteArray → O β) → O β) (v0 : List Int) (v1 v2 v3 v4 v5 : Int) (v6 : List Int) (v7 v8 : Int) (v9 : List Int) (v10 v11 v12 v13 : Int) (v14 : List Int) (rec_ : List Int → Int → Int → Int → Int → Int → List Int → Int → Int → List Int → Int → Int → Int → Int → List Int → O β) (k0 : ByteArray → O β) (k1 : List Int → Int → Int → Int → List Int → Int → Int → Int → Int → List Int → O β) : O β :=
(cond ((decide (v11 < v10)))
((gd ((decide (0 ≤ v11)))
((gd ((decide (v11 < (v9.length : Int))))
((cond ((v1 == 124))
((cond ((decide ((rd 0 v9 v11) ≥ 1)))
((gd ((decide (0 ≤ v13)))
((gd ((decide (v13 < (v0.length : Int))))
((cond (((w64 (v3 + (rd 0 v9 v11))) == (rd 0 v0 v13)))
((cond (((bits .or .i64 v2 v11) == v13))
(self v12 v2 v0 fun r13 =>
self v12 v11 v0 fun r14 =>
(gd ((decide (((aj ((([] : List Int) ++ [v1])))).size + r13.size ≤ 9223372036854775807)))
((gd ((decide ((((aj ((([] : List Int) ++ [v1]))) ++ r13)).size + r14.size ≤ 9223372036854775807)))
(k0 ((((aj ((([] : List Int) ++ [v1]))) ++ r13) ++ r14)))))))
(rec_ v0 v1 v2 v3 v4 v5 v6 v7 v8 v9 v10 ((w64 (v11 + 1))) v12 v13 v14)))
(rec_ v0 v1 v2 v3 v4 v5 v6 v7 v8 v9 v10 ((w64 (v11 + 1))) v12 v13 v14)))))))
(rec_ v0 v1 v2 v3 v4 v5 v6 v7 v8 v9 v10 ((w64 (v11 + 1))) v12 v13 v14)))
((cond ((decide ((rd 0 v9 v11) ≥ 1)))
((gd ((decide (0 ≤ v13)))
((gd ((decide (v13 < (v0.length : Int))))
((cond (((w64 (v3 + (rd 0 v9 v11))) == (rd 0 v0 v13)))
((cond (((bits .and .i64 v2 v11) == v13))
(self v12 v2 v0 fun r15 =>
self v12 v11 v0 fun r16 =>
(gd ((decide (((aj ((([] : List Int) ++ [v1])))).size + r15.size ≤ 9223372036854775807)))
((gd ((decide ((((aj ((([] : List Int) ++ [v1]))) ++ r15)).size + r16.size ≤ 9223372036854775807)))
(k0 ((((aj ((([] : List Int) ++ [v1]))) ++ r15) ++ r16)))))))
(rec_ v0 v1 v2 v3 v4 v5 v6 v7 v8 v9 v10 ((w64 (v11 + 1))) v12 v13 v14)))
(rec_ v0 v1 v2 v3 v4 v5 v6 v7 v8 v9 v10 ((w64 (v11 + 1))) v12 v13 v14)))))))
(rec_ v0 v1 v2 v3 v4 v5 v6 v7 v8 v9 v10 ((w64 (v11 + 1))) v12 v13 v14)))))))))
(k1 v0 v1 v4 v5 v6 v7 v8 v12 v13 v14))
def AG (N : Nat) (self : Int → Int → List Int → (ByteArray → O β) → O β) (v0 : List Int) (v1 v2 v3 v4 v5 : Int) (v6 : List Int) (v7 v8 : Int) (v9 : List Int) (v10 v11 v12 v13 : Int) (v14 : List Int) (rec_ : List Int → Int → Int → Int → Int → Int → List Int → Int → Int → List Int → Int → Int → Int → Int → List Int → O β) (k0 : ByteArray → O β) (k1 : List Int → Int → Int → Int → List Int → Int → Int → Int → Int → List Int → O β) : O β := EK N self v0 v1 v2 v3 v4 v5 v6 v7 v8 v9 v10 v11 v12 v13 v14 rec_ k0 k1
def k8 (N : Nat) (self : Int → Int → List Int → (ByteArray → O β) → O β) : Nat → List Int → Int → Int → Int → Int → Int → List Int → Int → Int → List Int → Int → Int → Int → Int → List Int → (ByteArray → O β) → (List Int → Int → Int → Int → List Int → Int → Int → Int → Int → List Int → O β) → O β
 | 0, _, _, _, _, _, _, _, _, _, _, _, _, _, _, _, _, _ => none
 | F + 1, v0, v1, v2, v3, v4, v5, v6, v7, v8, v9, v10, v11, v12, v13, v14, k0, k1 => AG N self v0 v1 v2 v3 v4 v5 v6 v7 v8 v9 v10 v11 v12 v13 v14 (fun v0 v1 v2 v3 v4 v5 v6 v7 v8 v9 v10 v11 v12 v13 v14 => k8 N self F v0 v1 v2 v3 v4 v5 v6 v7 v8 v9 v10 v11 v12 v13 v14 k0 k1) k0 k1
def EL (N : Nat) (self : Int → Int → List Int → (ByteArray → O β) → O β) (v0 : List Int) (v1 v2 v3 : Int) (v4 : List Int) (v5 v6 v7 v8 : Int) (v9 : List Int) (rec_ : List Int → Int → Int → Int → List Int → Int → Int → Int → Int → List Int → O β) (k0 : ByteArray → O β) (k1 : List Int → Int → Int → Int → Int → List Int → O β) : O β :=
(cond ((decide (v6 < v5)))
((gd ((decide (0 ≤ v6)))
((gd ((decide (v6 < (v4.length : Int))))
((cond ((decide ((rd 0 v4 v6) < 1)))
(rec_ v0 v1 v2 v3 v4 v5 ((w64 (v6 + 1))) v7 v8 v9)
((gd ((decide (0 ≤ v8)))
((gd ((decide (v8 < (v0.length : Int))))
((cond ((decide ((rd 0 v4 v6) ≥ (rd 0 v0 v8))))
(rec_ v0 v1 v2 v3 v4 v5 ((w64 (v6 + 1))) v7 v8 v9)
(zq178 self N v0 v1 v6 ((rd 0 v4 v6)) v2 v3 v4 v5 v6 v0 ((v0.length : Int)) 0 v7 v8 v9 (fun e17_0 =>
k0 e17_0) (fun e18_0 e18_1 e18_2 e18_3 e18_4 e18_5 e18_6 e18_7 e18_8 e18_9 =>
rec_ e18_0 e18_1 e18_2 e18_3 e18_4 e18_5 ((w64 (e18_6 + 1))) e18_7 e18_8 e18_9))))))))))))))
(k1 v0 v2 v3 v7 v8 v9))
def AH (N : Nat) (self : Int → Int → List Int → (ByteArray → O β) → O β) (v0 : List Int) (v1 v2 v3 : Int) (v4 : List Int) (v5 v6 v7 v8 : Int) (v9 : List Int) (rec_ : List Int → Int → Int → Int → List Int → Int → Int → Int → Int → List Int → O β) (k0 : ByteArray → O β) (k1 : List Int → Int → Int → Int → Int → List Int → O β) : O β := EL (k8 N) N self v0 v1 v2 v3 v4 v5 v6 v7 v8 v9 rec_ k0 k1
def iu (N : Nat) (self : Int → Int → List Int → (ByteArray → O β) → O β) : Nat → List Int → Int → Int → Int → List Int → Int → Int → Int → Int → List Int → (ByteArray → O β) → (List Int → Int → Int → Int → Int → List Int → O β) → O β
 | 0, _, _, _, _, _, _, _, _, _, _, _, _ => none
 | F + 1, v0, v1, v2, v3, v4, v5, v6, v7, v8, v9, k0, k1 => AH N self v0 v1 v2 v3 v4 v5 v6 v7 v8 v9 (fun v0 v1 v2 v3 v4 v5 v6 v7 v8 v9 => iu N self F v0 v1 v2 v3 v4 v5 v6 v7 v8 v9 k0 k1) k0 k1
def EM (N : Nat) (self : Int → Int → List Int → (ByteArray → O β) → O β) (v0 : List Int) (v1 v2 v3 v4 : Int) (v5 : List Int) (rec_ : List Int → Int → Int → Int → Int → List Int → O β) (k0 : ByteArray → O β) (k1 : O β) : O β :=
(cond ((decide (v2 < v1)))
((gd ((decide (0 ≤ v2)))
((gd ((decide (v2 < (v5.length : Int))))
(zq180 self N v0 ((rd 0 v5 v2)) v1 v2 v0 ((v0.length : Int)) 0 v3 v4 v5 (fun e19_0 =>
k0 e19_0) (fun e20_0 e20_1 e20_2 e20_3 e20_4 e20_5 =>
rec_ e20_0 e20_1 ((w64 (e20_2 + 1))) e20_3 e20_4 e20_5))))))
(k1 ))
def AI (N : Nat) (self : Int → Int → List Int → (ByteArray → O β) → O β) (v0 : List Int) (v1 v2 v3 v4 : Int) (v5 : List Int) (rec_ : List Int → Int → Int → Int → Int → List Int → O β) (k0 : ByteArray → O β) (k1 : O β) : O β := EM (iu N) N self v0 v1 v2 v3 v4 v5 rec_ k0 k1
def fR (N : Nat) (self : Int → Int → List Int → (ByteArray → O β) → O β) : Nat → List Int → Int → Int → Int → Int → List Int → (ByteArray → O β) → (O β) → O β
 | 0, _, _, _, _, _, _, _, _ => none
 | F + 1, v0, v1, v2, v3, v4, v5, k0, k1 => AI N self v0 v1 v2 v3 v4 v5 (fun v0 v1 v2 v3 v4 v5 => fR N self F v0 v1 v2 v3 v4 v5 k0 k1) k0 k1
def Lf (N : Nat) (self : Int → Int → List Int → (ByteArray → O β) → O β) (a0 a1 : Int) (a2 : List Int) (k : ByteArray → O β) : O β :=
zq174 a0 a1 fun r4 =>
(cond r4
(zq13 a0 a1 0 fun r5 =>
zq147 r5 fun r6 =>
k r6)
((gd ((decide (0 ≤ a1)))
((gd ((decide (a1 < (a2.length : Int))))
((cond (((rd 0 a2 a1) == 1))
(zq176 N a2 a0 0 a0 a1 (fun e11_0 =>
k e11_0) (fun e12_0 e12_1 e12_2 =>
zq182 self N e12_0 (((((([] : List Int) ++ [38]) ++ [124])).length : Int)) 0 e12_1 e12_2 (((([] : List Int) ++ [38]) ++ [124])) (fun e21_0 =>
k e21_0) (k ByteArray.empty)))
(zq182 self N a2 (((((([] : List Int) ++ [38]) ++ [124])).length : Int)) 0 a0 a1 (((([] : List Int) ++ [38]) ++ [124])) (fun e23_0 =>
k e23_0) (k ByteArray.empty)))))))))
def LJ (N : Nat) (self : Int → Int → List Int → (ByteArray → O β) → O β) (a0 a1 : Int) (a2 : List Int) (k : ByteArray → O β) : O β := Lf (eD N) (dx N) (l9 N) (kZ N) (fR N) N self a0 a1 a2 k
def cL (N : Nat) : Nat → Int → Int → List Int → (ByteArray → O β) → O β
 | 0, _, _, _, _ => none
 | F + 1, a0, a1, a2, k => LJ N (cL N F) a0 a1 a2 k
def Ro (N : Nat) (a0 a1 : Int) (a2 : List Int) (k : ByteArray → O β) : O β := cL N N a0 a1 a2 k
def Lg (N : Nat) (a0 a1 : Int) (k : ByteArray → Bool → O β) : O β :=
zq117 a0 a1 3 fun r4 =>
(cond (!r4)
(k ByteArray.empty false)
(iL N a0 fun r5 =>
zq185 a0 a1 r5 fun r6 =>
k r6 true))
def vF (N : Nat) (a0 a1 : Int) (k : ByteArray → Bool → O β) : O β := Lg (el N) (Ro N) N a0 a1 k
def Lh (N : Nat) (a0 : Int) (a1 : List (Int × Int)) (k : Bool → O β) : O β :=
zq3 a0 fun r3 =>
(cond r3
(zq10 a1 (fun x0 x1 k => zq6 x0 x1 a0 k) fun r4 =>
k (!r4))
(k false))
def AJ (N : Nat) (a0 : Int) (a1 : List (Int × Int)) (k : Bool → O β) : O β := Lh (zj3 N) (zj6 N) (tD N) N a0 a1 k
def Li (N : Nat) (a0 : Int) (a1 : List (Int × Int)) (k : Bool → O β) : O β :=
zq187 a0 a1 fun r3 =>
(cond r3
(k ((decide ((a1.length : Int) ≤ 40))))
(k false))
def vG (N : Nat) (a0 : Int) (a1 : List (Int × Int)) (k : Bool → O β) : O β := Li (AJ N) N a0 a1 k
def EN (N : Nat) (v0 v1 : Int) (v2 v3 : Bool) (v4 : List (Int × Int)) (v5 v6 : Int) (rec_ : Int → Int → Bool → Bool → List (Int × Int) → Int → Int → O β) (k0 : Bool → O β) (k1 : Bool → Bool → O β) : O β :=
(cond ((decide (v6 < v5)))
((gd ((decide (0 ≤ v6)))
((gd ((decide (v6 < (v4.length : Int))))
(zq1 ((rd (0, 0) v4 v6).1) ((rd (0, 0) v4 v6).2) v0 fun r4 =>
zq1 ((rd (0, 0) v4 v6).1) ((rd (0, 0) v4 v6).2) v1 fun r5 =>
(cond r4
((cond r5
(k0 false)
((cond v2
((cond v3
(rec_ v0 v1 true true v4 v5 ((w64 (v6 + 1))))
(rec_ v0 v1 true r5 v4 v5 ((w64 (v6 + 1))))))
((cond v3
(rec_ v0 v1 r4 true v4 v5 ((w64 (v6 + 1))))
(rec_ v0 v1 r4 r5 v4 v5 ((w64 (v6 + 1))))))))))
((cond v2
((cond v3
(rec_ v0 v1 true true v4 v5 ((w64 (v6 + 1))))
(rec_ v0 v1 true r5 v4 v5 ((w64 (v6 + 1))))))
((cond v3
(rec_ v0 v1 r4 true v4 v5 ((w64 (v6 + 1))))
(rec_ v0 v1 r4 r5 v4 v5 ((w64 (v6 + 1))))))))))))))
(k1 v2 v3))
def LK (N : Nat) (v0 v1 : Int) (v2 v3 : Bool) (v4 : List (Int × Int)) (v5 v6 : Int) (rec_ : Int → Int → Bool → Bool → List (Int × Int) → Int → Int → O β) (k0 : Bool → O β) (k1 : Bool → Bool → O β) : O β := EN (zj1 N) N v0 v1 v2 v3 v4 v5 v6 rec_ k0 k1
def ma (N : Nat) : Nat → Int → Int → Bool → Bool → List (Int × Int) → Int → Int → (Bool → O β) → (Bool → Bool → O β) → O β
 | 0, _, _, _, _, _, _, _, _, _ => none
 | F + 1, v0, v1, v2, v3, v4, v5, v6, k0, k1 => LK N v0 v1 v2 v3 v4 v5 v6 (fun v0 v1 v2 v3 v4 v5 v6 => ma N F v0 v1 v2 v3 v4 v5 v6 k0 k1) k0 k1
def Lk (N : Nat) (a0 : List (Int × Int)) (a1 a2 : Int) (k : Bool → O β) : O β :=
zq190 N a1 a2 false false a0 ((a0.length : Int)) 0 (fun e6_0 =>
k e6_0) (fun e7_0 e7_1 =>
(cond e7_0
(k e7_1)
(k false)))
def pB (N : Nat) (a0 : List (Int × Int)) (a1 a2 : Int) (k : Bool → O β) : O β := Lk (ma N) N a0 a1 a2 k
def EO (N : Nat) (v0 : Int) (v1 : List (Int × Int)) (v2 v3 v4 v5 v6 : Int) (v7 : List (List Int)) (rec_ : Int → List (Int × Int) → Int → Int → Int → Int → Int → List (List Int) → O β) (k0 : Int → List (Int × Int) → Int → Int → List (List Int) → O β) : O β :=
(cond ((decide (v6 < v5)))
((gd ((decide (0 ≤ v6)))
((cond ((decide (v2 < (bits .xor .i64 v2 (bb .i64 1 v6)))))
(zq191 v1 v2 ((bits .xor .i64 v2 (bb .i64 1 v6))) fun r3 =>
(cond r3
((gd ((decide ((v7.length + ((([] : List (List Int)) ++ [((([] : List Int) ++ [v2]) ++ [(bits .xor .i64 v2 (bb .i64 1 v6))])])).length) * 24 ≤ 140737488355328)))
(rec_ v0 v1 v2 v3 v4 v5 ((w64 (v6 + 1))) ((v7 ++ (([] : List (List Int)) ++ [((([] : List Int) ++ [v2]) ++ [(bits .xor .i64 v2 (bb .i64 1 v6))])]))))))
(rec_ v0 v1 v2 v3 v4 v5 ((w64 (v6 + 1))) v7)))
(rec_ v0 v1 v2 v3 v4 v5 ((w64 (v6 + 1))) v7)))))
(k0 v0 v1 v3 v4 v7))
def LL (N : Nat) (v0 : Int) (v1 : List (Int × Int)) (v2 v3 v4 v5 v6 : Int) (v7 : List (List Int)) (rec_ : Int → List (Int × Int) → Int → Int → Int → Int → Int → List (List Int) → O β) (k0 : Int → List (Int × Int) → Int → Int → List (List Int) → O β) : O β := EO (pB N) N v0 v1 v2 v3 v4 v5 v6 v7 rec_ k0
def k9 (N : Nat) : Nat → Int → List (Int × Int) → Int → Int → Int → Int → Int → List (List Int) → (Int → List (Int × Int) → Int → Int → List (List Int) → O β) → O β
 | 0, _, _, _, _, _, _, _, _, _ => none
 | F + 1, v0, v1, v2, v3, v4, v5, v6, v7, k0 => LL N v0 v1 v2 v3 v4 v5 v6 v7 (fun v0 v1 v2 v3 v4 v5 v6 v7 => k9 N F v0 v1 v2 v3 v4 v5 v6 v7 k0) k0
def EP (N : Nat) (v0 : Int) (v1 : List (Int × Int)) (v2 v3 : Int) (v4 : List (List Int)) (rec_ : Int → List (Int × Int) → Int → Int → List (List Int) → O β) (k0 : List (List Int) → O β) : O β :=
(cond ((decide (v3 < v2)))
(zq193 N v0 v1 v3 v2 v3 v0 0 v4 (fun e4_0 e4_1 e4_2 e4_3 e4_4 =>
rec_ e4_0 e4_1 e4_2 ((w64 (e4_3 + 1))) e4_4))
(k0 v4))
def LM (N : Nat) (v0 : Int) (v1 : List (Int × Int)) (v2 v3 : Int) (v4 : List (List Int)) (rec_ : Int → List (Int × Int) → Int → Int → List (List Int) → O β) (k0 : List (List Int) → O β) : O β := EP (k9 N) N v0 v1 v2 v3 v4 rec_ k0
def iv (N : Nat) : Nat → Int → List (Int × Int) → Int → Int → List (List Int) → (List (List Int) → O β) → O β
 | 0, _, _, _, _, _, _ => none
 | F + 1, v0, v1, v2, v3, v4, k0 => LM N v0 v1 v2 v3 v4 (fun v0 v1 v2 v3 v4 => iv N F v0 v1 v2 v3 v4 k0) k0
def Ll (N : Nat) (a0 : Int) (a1 : List (Int × Int)) (k : List (List Int) → O β) : O β :=
(gd ((decide (0 ≤ a0)))
(zq195 N a0 a1 ((bb .i64 1 a0)) 0 (([] : List (List Int))) (fun e5_0 =>
k e5_0)))
def vH (N : Nat) (a0 : Int) (a1 : List (Int × Int)) (k : List (List Int) → O β) : O β := Ll (iv N) N a0 a1 k
def Lm (N : Nat) (a0 : Int) (a1 : List (Int × Int)) (k : Bool → O β) : O β :=
zq188 a0 a1 fun r3 =>
(cond r3
(zq196 a0 a1 fun r4 =>
k (((r4.length : Int) == 0)))
(k false))
def vI (N : Nat) (a0 : Int) (a1 : List (Int × Int)) (k : Bool → O β) : O β := Lm (vG N) (vH N) N a0 a1 k
def Ax (N : Nat) (a0 a1 : List ByteArray) (k0 : List ByteArray → List ByteArray → O β) : O β :=
(gd ((decide ((a1.length + a0.length) * 16 ≤ 140737488355328)))
(k0 a0 ((a1 ++ a0))))
def mb (N : Nat) (a0 a1 : List ByteArray) (k0 : List ByteArray → List ByteArray → O β) : O β := Ax N a0 a1 k0
def EQ (N : Nat) (a0 : Bool) (a1 : ByteArray) (a2 : List ByteArray) (k0 k1 : List ByteArray → O β) : O β :=
(cond a0
(zq198 ((([] : List ByteArray) ++ [a1])) a2 (fun r19_0 r19_1 =>
k0 r19_1))
(k1 a2))
def vJ (N : Nat) (a0 : Bool) (a1 : ByteArray) (a2 : List ByteArray) (k0 k1 : List ByteArray → O β) : O β := EQ (mb N) N a0 a1 a2 k0 k1
def Ln (N : Nat) (a0 : List ByteArray) (k0 : ByteArray → List ByteArray → O β) : O β :=
strings_Join N a0 ((aj [32])) fun r21 =>
k0 r21 a0
def vK (N : Nat) (a0 : List ByteArray) (k0 : ByteArray → List ByteArray → O β) : O β := Ln N a0 k0
def Ay (N : Nat) (a0 a1 : Int) (k : ByteArray → O β) : O β :=
zq117 a0 a1 4 fun r3 =>
(cond (!r3)
(k ByteArray.empty)
(zq142 a0 a1 fun r4 =>
zq145 a0 a1 fun r5 r6 =>
zq161 a0 a1 fun r7 r8 =>
zq171 a0 a1 fun r9 =>
zq172 a0 r4 fun r10 =>
zq129 a0 a1 fun r11 =>
zq147 ((r11.length : Int)) fun r12 =>
zq147 ((r5.length : Int)) fun r13 =>
zq198 ((((((((((((([] : List ByteArray) ++ [(aj [102, 111, 114, 109, 115])]) ++ [(aj [97, 110, 102])]) ++ [r9]) ++ [(aj [115, 117, 109])]) ++ [r10]) ++ [(aj [112, 114, 105, 109, 101, 115])]) ++ [r12]) ++ [(aj [101, 115, 115, 101, 110, 116, 105, 97, 108])]) ++ [r13]) ++ [(aj [116, 114, 101, 101])]) ++ [r7])) (([] : List ByteArray)) (fun r14_0 r14_1 =>
zq186 a0 a1 fun r15 r16 =>
(cond r16
(zq198 (((([] : List ByteArray) ++ [(aj [102, 111, 114, 109, 117, 108, 97])]) ++ [r15])) r14_1 (fun r17_0 r17_1 =>
zq197 a0 r4 fun r18 =>
zq199 r18 ((aj [102, 114, 101, 101])) r17_1 (fun r19_0 =>
zq200 r19_0 (fun r20_0 r20_1 =>
k r20_0)) (fun r21_0 =>
zq200 r21_0 (fun r22_0 r22_1 =>
k r22_0))))
(zq197 a0 r4 fun r23 =>
zq199 r23 ((aj [102, 114, 101, 101])) r14_1 (fun r24_0 =>
zq200 r24_0 (fun r25_0 r25_1 =>
k r25_0)) (fun r26_0 =>
zq200 r26_0 (fun r27_0 r27_1 =>
k r27_0)))))))
def nU (N : Nat) (a0 a1 : Int) (k : ByteArray → O β) : O β := Ay (el N) (ep N) (vv N) (vA N) (dx N) (vC N) (vD N) (vE N) (vF N) (vI N) (mb N) (vJ N) (vK N) N a0 a1 k
def b5 (N : Nat) (a0 a1 : Int) (k : Bool → O β) : O β :=
zq28 a0 a1 fun r3 r4 =>
zq115 r3 r4 fun r5 =>
zq28 a0 a1 fun r6 r7 =>
zq201 r6 r7 fun r8 =>
(cond ((!(r8.toList == r5.toList)))
(k false)
(k true))
def cA (N : Nat) (a0 a1 : Int) (k : Bool → O β) : O β := b5 (LP N) (nS N) (nU N) N a0 a1 k
end Go.Proofs.YtemihnclhcobnaaGreatDoor
