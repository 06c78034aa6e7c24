/- The texts of the functions that the claims cY: plain Lean, no program. -/
import Derived.Test.YtemihnclhcobnaaGreatDoorSizT
namespace Go.Proofs.YtemihnclhcobnaaGreatDoor
set_option linter.unusedSimpArgs false
open Go.Rv
set_option linter.unusedVariables false
set_option maxRecDepth 100000
abbrev O := Option
abbrev Y0 (β : Type) := Int -> Int -> (Bool -> O β) -> O β
abbrev Y1 (β : Type) := Int -> ByteArray -> (Bool -> O β) -> O β
abbrev Y2 (β : Type) := Int -> Int -> (Int -> O β) -> O β
abbrev Y3 (β : Type) := Int -> Int -> Int -> (Int -> O β) -> O β
abbrev Y4 (β : Type) := Int -> Int -> Int -> (Bool -> O β) -> O β
abbrev Y5 (β : Type) := Nat -> Int -> Int -> Int -> Int -> Int -> Int -> (Int -> O β) -> O β
abbrev Y6 (β : Type) := Int -> (Bool -> O β) -> O β
abbrev Y7 (β : Type) := (List (Int × Int)) -> (Int -> Int -> (Bool -> O β) -> O β) -> (Int -> O β) -> O β
abbrev Y8 (β : Type) := (Int -> Int -> (Bool -> O β) -> O β) -> Nat -> List (Int × Int) -> Int -> Int -> (Int -> O β) -> O β -> O β
abbrev Y9 (β : Type) := (List (Int × Int)) -> (Int -> Int -> (Bool -> O β) -> O β) -> (Bool -> O β) -> O β
abbrev Y10 (β : Type) := Int -> (List (Int × Int)) -> (Bool -> O β) -> O β
abbrev Y11 (β : Type) := Int -> (Int -> Int -> O β) -> O β
abbrev Y12 (β : Type) := Tr -> (Int -> O β) -> O β
abbrev Y13 (β : Type) := Tr -> Int -> (Int -> Int -> O β) -> O β
abbrev Y14 (β : Type) := Nat -> Tr -> Int -> Int -> (Tr -> Int -> O β) -> O β
abbrev Y15 (β : Type) := Int -> Tr -> (Bool -> O β) -> O β
abbrev Y16 (β : Type) := Int -> (Int -> (Bool -> O β) -> O β) -> (Int -> Int -> O β) -> O β
abbrev Y17 (β : Type) := (Int -> (Bool -> O β) -> O β) -> Nat -> Int -> Int -> Int -> Int -> Int -> Int -> (Int -> Int -> Int -> Int -> O β) -> O β
abbrev Y18 (β : Type) := Int -> Int -> (Int -> Int -> O β) -> O β
abbrev Y19 (β : Type) := Nat -> Int -> Int -> Int -> Int -> (Int -> O β) -> O β
abbrev Y20 (β : Type) := List Int -> Int -> (Int -> O β) -> O β
abbrev Y21 (β : Type) := Nat -> List Int -> Int -> Int -> Int -> (Int -> O β) -> O β -> O β
abbrev Y22 (β : Type) := List Int -> Int -> (Bool -> O β) -> O β
abbrev Y23 (β : Type) := ByteArray -> (Int -> Int -> Bool -> O β) -> O β
abbrev Y24 (β : Type) := Nat -> ByteArray -> Int -> Int -> Int -> (Bool -> Int -> Int -> O β) -> (Int -> Int -> O β) -> O β
abbrev Y25 (β : Type) := Nat -> ByteArray -> Int -> Int -> Int -> Int -> Int -> (Bool -> Int -> Int -> O β) -> (Int -> Int -> Int -> Int -> O β) -> O β
abbrev Y26 (β : Type) := Int -> Int -> Int -> (ByteArray -> O β) -> O β
abbrev Y27 (β : Type) := Nat -> Int -> ByteArray -> Int -> Int -> Int -> (Int -> ByteArray -> Int -> Int -> O β) -> O β
abbrev Y28 (β : Type) := Int -> ByteArray -> (Int -> Int -> Bool -> O β) -> O β
abbrev Y29 (β : Type) := Nat -> Int -> ByteArray -> Bool -> Int -> Int -> Int -> Int -> Int -> (Bool -> Int -> Int -> O β) -> (Int -> ByteArray -> Int -> Int -> Int -> Int -> O β) -> O β
abbrev Y30 (β : Type) := Nat -> Int -> Int -> Int -> Int -> Int -> Int -> (Int -> Int -> Int -> Int -> Int -> O β) -> O β
abbrev Y31 (β : Type) := Int -> Int -> (ByteArray -> O β) -> O β
abbrev Y32 (β : Type) := Nat -> ByteArray -> Int -> Int -> Int -> Int -> (ByteArray -> O β) -> O β
abbrev Y33 (β : Type) := Nat -> Int -> ByteArray -> Int -> ByteArray -> Int -> Int -> Int -> (Bool -> Int -> Int -> O β) -> (Int -> ByteArray -> Int -> Int -> Int -> O β) -> O β
abbrev Y34 (β : Type) := Nat -> Int -> List (Int × Int) -> Int -> (Bool -> O β) -> (Int -> List (Int × Int) -> O β) -> O β
abbrev Y35 (β : Type) := Int -> ByteArray -> (List (Int × Int) -> Bool -> O β) -> O β
abbrev Y36 (β : Type) := Nat -> Int -> ByteArray -> ByteArray -> Int -> List (Int × Int) -> (Bool -> List (Int × Int) -> O β) -> (Int -> ByteArray -> List (Int × Int) -> O β) -> O β
abbrev Y37 (β : Type) := Nat -> Int -> Int -> Int -> Int -> Int -> (Int -> O β) -> O β
abbrev Y38 (β : Type) := Int -> (List (Int × Int)) -> (Int -> Int -> Bool -> O β) -> O β
abbrev Y39 (β : Type) := Nat -> Int -> List (Int × Int) -> Int -> Int -> Int -> Int -> (Bool -> Int -> Int -> O β) -> (Int -> Int -> Int -> Int -> O β) -> O β
abbrev Y40 (β : Type) := Nat -> ByteArray -> Int -> Int -> (Int -> O β) -> O β
abbrev Y41 (β : Type) := ByteArray -> (Bool -> O β) -> O β
abbrev Y42 (β : Type) := ByteArray -> Int -> Int -> (Int -> O β) -> O β
abbrev Y43 (β : Type) := Nat -> ByteArray -> Int -> (Int -> O β) -> O β
abbrev Y44 (β : Type) := ByteArray -> Int -> (Int -> Int -> O β) -> O β
abbrev Y45 (β : Type) := Nat -> ByteArray -> Int -> Int -> Int -> (ByteArray -> Int -> Int -> O β) -> O β
abbrev Y46 (β : Type) := ByteArray -> Int -> (Int -> O β) -> O β
abbrev Y47 (β : Type) := ByteArray -> Int -> (Int -> Int -> Bool -> O β) -> O β
abbrev Y48 (β : Type) := Nat -> ByteArray -> Int -> Int -> Int -> Int -> (Bool -> Int -> Int -> O β) -> (ByteArray -> Int -> Int -> Int -> O β) -> O β
abbrev Y49 (β : Type) := Nat -> ByteArray -> Int -> Int -> Int -> Int -> Int -> (Int -> Int -> Int -> Int -> O β) -> O β
abbrev Y50 (β : Type) := Nat -> ByteArray -> Int -> Int -> (Bool -> O β) -> O β
abbrev Y51 (β : Type) := ByteArray -> Int -> Int -> (Bool -> O β) -> O β
abbrev Y52 (β : Type) := ByteArray -> Int -> ByteArray -> (Int -> Int -> Bool -> O β) -> O β
abbrev Y53 (β : Type) := Nat -> ByteArray -> Int -> Int -> Int -> (ByteArray -> O β) -> O β
abbrev Y54 (β : Type) := Int -> Int -> Int -> Int -> (Bool -> O β) -> O β
abbrev Y55 (β : Type) := Nat -> Int -> Int -> Int -> Int -> Int -> (Bool -> O β) -> O β -> O β
abbrev Y56 (β : Type) := Int -> Int -> (List (Int × Int) -> O β) -> O β
abbrev Y57 (β : Type) := Nat -> Int -> Int -> Int -> List (Int × Int) -> (List (Int × Int) -> O β) -> O β
abbrev Y58 (β : Type) := Nat -> Int -> Int -> Int -> Int -> List (Int × Int) -> (Int -> Int -> Int -> List (Int × Int) -> O β) -> O β
abbrev Y59 (β : Type) := Nat -> Int -> Int -> List (Int × Int) -> Int -> Int -> Int -> (List (Int × Int) -> Bool -> O β) -> O β
abbrev Y60 (β : Type) := (Int -> Int -> List (Int × Int) -> Int -> Int -> Int -> (List (Int × Int) -> Bool -> O β) -> O β) -> Nat -> List (Int × Int) -> Int -> Int -> Int -> Int -> Int -> (Bool -> List (Int × Int) -> O β) -> O β -> O β
abbrev Y61 (β : Type) := Int -> Int -> (List (Int × Int) -> Bool -> O β) -> O β
abbrev Y62 (β : Type) := Nat -> Int -> Int -> Int -> List (Int × Int) -> (Bool -> List (Int × Int) -> O β) -> O β -> O β
abbrev Y63 (β : Type) := Int -> Int -> List (Int × Int) -> Int -> Int -> Int -> (List (Int × Int) -> Bool -> O β) -> O β
abbrev Y64 (β : Type) := Int -> (List (Int × Int)) -> (ByteArray -> O β) -> O β
abbrev Y65 (β : Type) := Nat -> Int -> List (Int × Int) -> ByteArray -> Int -> (Int -> List (Int × Int) -> ByteArray -> O β) -> O β
abbrev Y66 (β : Type) := Int -> Int -> Int -> Int -> (Int -> O β) -> O β
abbrev Y67 (β : Type) := Nat -> Int -> Int -> Int -> Int -> Int -> Int -> (Int -> O β) -> (Int -> O β) -> O β
abbrev Y68 (β : Type) := (Int -> Int -> Int -> Int -> (Int -> O β) -> O β) -> Nat -> Int -> Int -> Int -> Int -> Int -> Int -> (Int -> O β) -> O β
abbrev Y69 (β : Type) := Nat -> Int -> Int -> Int -> Int -> (ByteArray -> O β) -> O β
abbrev Y70 (β : Type) := (Int -> Int -> Int -> Int -> (ByteArray -> O β) -> O β) -> Nat -> Int -> Int -> Int -> Int -> Int -> Int -> (ByteArray -> O β) -> O β -> O β
abbrev Y71 (β : Type) := Int -> Int -> (ByteArray -> Bool -> O β) -> O β
abbrev Y72 (β : Type) := Int -> Int -> Int -> Int -> (ByteArray -> O β) -> O β
abbrev Y73 (β : Type) := Int -> (Int -> O β) -> O β
abbrev Y74 (β : Type) := Nat -> List Int -> Int -> Int -> (ByteArray -> O β) -> O β
abbrev Y75 (β : Type) := Nat -> List Int -> Int -> Int -> Int -> (ByteArray -> O β) -> (List Int -> Int -> Int -> O β) -> O β
abbrev Y76 (β : Type) := (List Int -> Int -> Int -> (ByteArray -> O β) -> O β) -> Nat -> List Int -> Int -> Int -> Int -> (ByteArray -> O β) -> O β -> O β
abbrev Y77 (β : Type) := (List Int -> Int -> Int -> (ByteArray -> O β) -> O β) -> Nat -> List Int -> Int -> Int -> Int -> Int -> (ByteArray -> O β) -> (List Int -> Int -> Int -> Int -> O β) -> O β
abbrev Y78 (β : Type) := (List Int -> Int -> Int -> (ByteArray -> O β) -> O β) -> Nat -> List Int -> Int -> Int -> Int -> Int -> Int -> (ByteArray -> O β) -> (List Int -> Int -> Int -> Int -> Int -> O β) -> O β
abbrev Y79 (β : Type) := List Int -> Int -> Int -> (ByteArray -> O β) -> O β
abbrev Y80 (β : Type) := ByteArray -> Int -> Int -> (ByteArray -> Bool -> O β) -> O β
abbrev Y81 (β : Type) := ByteArray -> ByteArray -> Int -> ByteArray -> (ByteArray -> Bool -> O β) -> O β
abbrev Y82 (β : Type) := ByteArray -> Int -> ByteArray -> (Bool -> O β) -> O β
abbrev Y83 (β : Type) := Nat -> Int -> Int -> Int -> Int -> List Int -> (List Int -> O β) -> O β
abbrev Y84 (β : Type) := Nat -> Int -> ByteArray -> Int -> Int -> (Bool -> Int -> Int -> O β) -> (Int -> Int -> O β) -> O β
abbrev Y85 (β : Type) := Nat -> Int -> ByteArray -> Int -> Int -> Int -> Int -> Int -> Int -> Int -> (Int -> ByteArray -> Int -> Int -> Int -> Int -> O β) -> O β
abbrev Y86 (β : Type) := Int -> (List (Int × Int)) -> ByteArray -> (ByteArray -> O β) -> O β
abbrev Y87 (β : Type) := Nat -> Int -> ByteArray -> List (Int × Int) -> Int -> Int -> List ByteArray -> (ByteArray -> List ByteArray -> O β) -> O β
abbrev Y88 (β : Type) := Nat -> Int -> Int -> Int -> Int -> Int -> Int -> List (Int × Int) -> (Int -> Int -> List (Int × Int) -> O β) -> O β
abbrev Y89 (β : Type) := Nat -> Int -> ByteArray -> Int -> Int -> Int -> Int -> Int -> Int -> List ByteArray -> (Bool -> Int -> Int -> O β) -> (ByteArray -> Int -> Int -> Int -> Int -> O β) -> O β
abbrev Y90 (β : Type) := Nat -> Int -> Int -> Int -> List (Int × Int) -> List ByteArray -> (Bool -> List (Int × Int) -> O β) -> (Int -> List (Int × Int) -> O β) -> O β
abbrev Y91 (β : Type) := Int -> (List (Int × Int)) -> (Int -> Int -> O β) -> O β
abbrev Y92 (β : Type) := Nat -> ByteArray -> Int -> (Tr -> ByteArray -> O β) -> O β
abbrev Y93 (β : Type) := ByteArray -> (Tr -> Bool -> O β) -> O β
abbrev Y94 (β : Type) := ByteArray -> Int -> (Tr -> ByteArray -> O β) -> O β
abbrev Y95 (β : Type) := Nat -> Tr -> Int -> (Bool -> O β) -> O β
abbrev Y96 (β : Type) := ByteArray -> Int -> (Tr -> Int -> Int -> Bool -> O β) -> O β
abbrev Y97 (β : Type) := Tr -> Int -> (Bool -> O β) -> O β
abbrev Y98 (β : Type) := Nat -> ByteArray -> (Tr -> ByteArray -> O β) -> O β
abbrev Y99 (β : Type) := ByteArray -> (Tr -> ByteArray -> O β) -> O β
abbrev acY (β : Type) := Tr -> (Bool -> O β) -> O β
abbrev acZ (β : Type) := Int -> Int -> (Int -> Int -> Bool -> O β) -> O β
abbrev afD (β : Type) := Nat -> Tr -> Int -> (Int -> Int -> Bool -> O β) -> O β
abbrev afE (β : Type) := Tr -> Int -> (Int -> Int -> Bool -> O β) -> O β
abbrev ac0 (β : Type) := Nat -> Int -> Int -> Int -> Int -> Int -> Int -> Bool -> Bool -> (Bool -> Bool -> O β) -> O β
abbrev ac1 (β : Type) := Nat -> Int -> Int -> Int -> Int -> Int -> Int -> (Bool -> O β) -> O β -> O β
abbrev ac2 (β : Type) := Nat -> Int -> Int -> Int -> Int -> List (Int × Int) -> (List (Int × Int) -> O β) -> O β
abbrev ac3 (β : Type) := Nat -> Int -> Int -> Int -> Int -> Int -> Int -> Int -> List (Int × Int) -> (Int -> Int -> Int -> Int -> List (Int × Int) -> O β) -> O β
abbrev ac4 (β : Type) := Nat -> List Int -> Int -> Int -> Int -> Int -> (List Int -> Bool -> O β) -> O β
abbrev ac5 (β : Type) := (List Int -> Int -> Int -> Int -> Int -> (List Int -> Bool -> O β) -> O β) -> Nat -> List Int -> Int -> Int -> Int -> Int -> (Bool -> List Int -> O β) -> O β -> O β
abbrev ac6 (β : Type) := Nat -> List (Int × Int) -> List (Int × Int) -> Int -> Int -> Int -> Int -> List Int -> (List (Int × Int) -> Int -> Int -> List Int -> O β) -> O β
abbrev ac7 (β : Type) := Nat -> List (Int × Int) -> Int -> Int -> Int -> Int -> List Int -> (List (Int × Int) -> O β) -> O β -> O β
abbrev ac8 (β : Type) := Nat -> List (Int × Int) -> Int -> Int -> List (Int × Int) -> List Int -> (List (Int × Int) -> O β) -> O β
abbrev afF (β : Type) := List Int -> Int -> Int -> Int -> Int -> (List Int -> Bool -> O β) -> O β
abbrev Yq (β : Type) := Int -> Int -> (Int -> Int -> Mp -> Mp -> O β) -> O β
abbrev RI (β : Type) := Int -> (ByteArray -> O β) -> O β
abbrev Yr (β : Type) := Int -> Int -> Int -> Int -> (Int -> Int -> O β) -> O β
abbrev ac9 (β : Type) := Nat -> Int -> Int -> Int -> Int -> Mp -> Mp -> (Int -> Int -> Int -> Mp -> Mp -> O β) -> O β
abbrev ada (β : Type) := (Int -> Int -> Int -> Int -> Mp -> Mp -> (Int -> Int -> Int -> Mp -> Mp -> O β) -> O β) -> Nat -> Int -> Int -> Int -> Int -> Int -> Mp -> Mp -> Int -> Int -> (Int -> Int -> Int -> Mp -> Mp -> Int -> Int -> O β) -> O β
abbrev Ys (β : Type) := Int -> Int -> Int -> Int -> Mp -> Mp -> (Int -> Int -> Int -> Mp -> Mp -> O β) -> O β
abbrev adb (β : Type) := Nat -> Int -> Int -> Int -> Int -> Int -> Mp -> Mp -> Int -> Int -> (Int -> Int -> Int -> Mp -> Mp -> O β) -> (Int -> Int -> Mp -> Mp -> O β) -> O β
abbrev afG (β : Type) := Nat -> Int -> Int -> Int -> Int -> Mp -> Mp -> (ByteArray -> Int -> Int -> Mp -> Mp -> O β) -> O β
abbrev afH (β : Type) := Int -> Int -> Int -> Int -> Mp -> Mp -> (ByteArray -> Int -> Int -> Mp -> Mp -> O β) -> O β
abbrev adc (β : Type) := Nat -> Int -> Int -> List Int -> (ByteArray -> O β) -> O β
abbrev ade (β : Type) := Nat -> List Int -> Int -> Int -> Int -> Int -> (ByteArray -> O β) -> (List Int -> Int -> Int -> O β) -> O β
abbrev adf (β : Type) := (Int -> Int -> List Int -> (ByteArray -> O β) -> O β) -> Nat -> List Int -> Int -> Int -> Int -> Int -> List Int -> (ByteArray -> O β) -> O β -> O β
abbrev adg (β : Type) := (Int -> Int -> List Int -> (ByteArray -> O β) -> O β) -> Nat -> List Int -> Int -> Int -> Int -> List Int -> Int -> Int -> Int -> Int -> List Int -> (ByteArray -> O β) -> (List Int -> Int -> Int -> Int -> Int -> List Int -> O β) -> O β
abbrev adh (β : Type) := (Int -> Int -> List Int -> (ByteArray -> O β) -> O β) -> Nat -> List Int -> Int -> Int -> Int -> Int -> Int -> List Int -> Int -> Int -> List Int -> Int -> Int -> Int -> Int -> List Int -> (ByteArray -> O β) -> (List Int -> Int -> Int -> Int -> List Int -> Int -> Int -> Int -> Int -> List Int -> O β) -> O β
abbrev afI (β : Type) := Int -> Int -> List Int -> (ByteArray -> O β) -> O β
def tn : Nat -> List TV -> List TV
 | 0, l => l
 | n + 1, l => ac :: tn n l
variable {β : Type}
abbrev stB (L : Lay) (E : Env β) (f : Func) (i : Nat) (s : St) (rec_ : St -> O β) (K : Exit -> St -> O β) : O β := ev L E (ai f) (lp f i).body (lp f i).ex ((lp f i).lv (ai f)) s (WT (fun s' => rec_ (s'.tidy ((lp f i).lv (ai f)))) K)
variable (zq0 : Y0 β) (zq1 : Y1 β) (zq2 : Y2 β) (zq3 : Y3 β) (zq5 : Y5 β) (zq6 : Y4 β) (zq7 : Y6 β) (zq8 : Y0 β) (zq9 ag8 ajn ag9 : Y4 β) (ahK : Y8 β) (ah0 : Y7 β) (ahF : Y9 β) (agZ : Y10 β) (ahB : Y11 β) (ahw : Y12 β) (aiX : Y14 β) (ajx : Y13 β) (ag0 ag1 : Y15 β) (ag7 : Y17 β) (ag4 : Y16 β) (aho : Y18 β) (ai6 : Y19 β) (ahH : Y2 β) (ai7 : Y21 β) (ajD : Y20 β) (agV : Y4 β) (aii : Y25 β) (aij : Y24 β) (ai8 : Y23 β) (ahd : Y4 β) (ai9 : Y27 β) (ahe : Y26 β) (aja : Y29 β) (ahr : Y28 β) (aik : Y30 β) (ail : Y19 β) (ahC : Y2 β) (ag5 : Y0 β) (ajc : Y32 β) (ahI : Y31 β) (ajd : Y33 β) (aje : Y28 β) (ajf : Y34 β) (ahs : Y10 β) (ajg : Y36 β) (ajh : Y35 β) (aji : Y37 β) (ahh : Y3 β) (ajj : Y39 β) (ajk : Y38 β) (ajU : Y42 β) (ain : Y41 β) (ajV : Y46 β) (ajl : Y45 β) (aio : Y44 β) (aip : Y48 β) (aiq : Y49 β) (ajm : Y47 β) (ajG : Y46 β) (ah5 : Y41 β) (ajW : Y51 β) (air : Y48 β) (ais : Y49 β) (ajF : Y47 β) (ait : Y52 β) (aiu : Y53 β) (aiv : Y31 β) (ahZ : Y54 β) (aiw : Y55 β) (ah6 : Y54 β) (ah7 : Y58 β) (ah8 : Y57 β) (ah9 : Y56 β) (aix : Y60 β) (ajJ : Y63 β) (aiy : Y62 β) (aiz : Y61 β) (aiA : Y65 β) (aiB : Y64 β) (aiC : Y67 β) (ahy : Y66 β) (aiD : Y68 β) (ajH : Y66 β) (aiE : Y70 β) (ajK : Y72 β) (aiF : Y71 β) (ahj : Y73 β) (ahP : Y75 β) (ahQ : Y78 β) (ahR : Y77 β) (ahS : Y76 β) (ajL : Y79 β) (aiG : Y71 β) (ajo : Y80 β) (ajp : Y81 β) (aiH : Y82 β) (ahi : Y0 β) (aiI : Y83 β) (ahE : Y31 β) (aiJ : Y84 β) (aiK : Y23 β) (ahf : Y6 β) (aiL : Y83 β) (aht : Y26 β) (aiM : Y85 β) (ahz : Y28 β) (ahu : Y18 β) (aiN : Y87 β) (ahG : Y86 β) (aiO : Y88 β) (ahA : Y31 β) (aiP : Y89 β) (aiQ : Y28 β) (ahT aiR : Y10 β) (aiS : Y90 β) (aiT : Y35 β) (ahv : Y91 β) (aiU : Y38 β) (ajM : Y94 β) (ajq : Y93 β) (ajN : Y97 β) (ajr : Y96 β) (ajs : Y47 β) (ajO : Y99 β) (ajt : Y93 β) (aju : acY β) (ajv : acZ β) (ahg : Y18 β) (ajP : afE β) (ajw : Y47 β) (aiV : Y52 β) (ahl : Y4 β) (aiW : ac0 β) (ahk : Y66 β) (ahU : Y54 β) (aiY : ac1 β) (aie : Y54 β) (aif : ac3 β) (aig : ac2 β) (ahV : Y56 β) (aiZ : ac5 β) (ajQ : afF β) (ah1 : ac6 β) (ah2 : ac8 β) (ah3 : ac7 β) (ai0 : Y56 β) (ai1 : Y64 β) (ai2 : Yq β) (ahn : RI β) (aha : Yr β) (ai3 : ada β) (ajI : Ys β) (ai4 : adb β) (ajy : Ys β) (ajR : afH β) (ai5 : Y71 β) (ahL : Y0 β) (ahW : ade β) (ahX : adh β) (ahY : adg β) (ahM : adf β) (ajS : afI β) (ajz : Y71 β) (ajA : Y80 β) (ajB : Y81 β) (ajC : Y82 β)
variable (N : Nat)
def zb0 (N : Nat) (a0 c0 : Int) (k : Bool -> O β) : O β :=
(gd (decide (0 <= c0))
(k ((bits .and .i64 (cW .i64 a0 c0) 1) == 1)))
def zj0 := zb0 (β := β) N
def zb1 (N : Nat) (a0 : Int) (c0 : ByteArray) (k : Bool -> O β) : O β :=
(gd (decide (0 <= a0))
(gd (decide (a0 < (c0.size : Int)))
(k ((bt c0 a0) == 49))))
def zj1 := zb1 (β := β) N
def zb2 (N : Nat) (a0 a1 : Int) (k : Int -> O β) : O β :=
(gd (decide (0 <= a0))
(k (aW .i64 1 a0)))
def zj2 := zb2 (β := β) N
def zb3 (N : Nat) (a0 a1 a2 : Int) (k : Int -> O β) : O β :=
(gd (decide (0 <= a2))
(k (bits .and .i64 (cW .i64 a1 a2) 1)))
def zj3 := zb3 (β := β) N
def zb4 (N : Nat) (v0 v1 v2 v3 v4 v5 : Int) (rec_ : Int -> Int -> Int -> Int -> Int -> Int -> O β) (k0 : Int -> O β) : O β :=
(cond (decide (v5 < v4))
(cond ((bits .andNot .i64 v5 v0) == 0)
(zq3 v1 v2 v5 fun r3 =>
rec_ v0 v1 v2 (bits .xor .i64 v3 r3) v4 (w64 (v5 + 1)))
(rec_ v0 v1 v2 v3 v4 (w64 (v5 + 1))))
(k0 v3))
def zj4 := zb4 (β := β) (zj3 N) N
def zj5 (N : Nat) : Nat -> Int -> Int -> Int -> Int -> Int -> Int -> (Int -> O β) -> O β
 | 0, _, _, _, _, _, _, _ => none
 | F + 1, v0, v1, v2, v3, v4, v5, k0 => zj4 N v0 v1 v2 v3 v4 v5 (fun v0 v1 v2 v3 v4 v5 => zj5 N F v0 v1 v2 v3 v4 v5 k0) k0
def zb6 (a0 c0 c1 : Int) (k : Bool -> O β) : O β :=
zq2 c0 c1 fun r2 =>
zq5 N a0 c0 c1 0 r2 0 (fun aA =>
k (aA == 1))
def zj6 := zb6 (β := β) (zj2 N) (zj5 N) N
def zb7 (N : Nat) (a0 : Int) (k : Bool -> O β) : O β :=
(cond (decide (a0 >= 0))
(k (decide (a0 <= 5)))
(k false))
def zj7 := zb7 (β := β) N
def zb8 (N : Nat) (a0 a1 : Int) (k : Bool -> O β) : O β :=
(cond (decide (a1 >= 0))
(gd (decide (0 <= a0))
(k (decide (a1 < (aW .i64 1 a0)))))
(k false))
def zj8 := zb8 (β := β) N
def zb9 (N : Nat) (a0 a1 a2 : Int) (k : Bool -> O β) : O β :=
zq7 a0 fun r4 =>
(cond r4
(zq8 a0 a1 fun r5 =>
(cond r5
(cond (decide (a2 >= 0))
(k ((bits .andNot .i64 a2 a1) == 0))
(k false))
(k false)))
(k false))
def zj9 := zb9 (β := β) (zj7 N) (zj8 N) N
def Vv (N : Nat) (a0 a1 c0 : Int) (k : Bool -> O β) : O β :=
zq9 c0 a0 a1 fun r3 =>
k (!r3)
def gP := Vv (β := β) (zj9 N) N
def Vw (N : Nat) (a0 a1 a2 : Int) (k : Bool -> O β) : O β :=
k ((bits .and .i64 a2 a0) == a1)
def Lj := Vw (β := β) N
def Vx (N : Nat) (a0 a1 c0 : Int) (k : Bool -> O β) : O β :=
ajn a0 a1 c0 fun r3 =>
k r3
def iS := Vx (β := β) (Lj N) N
def FF (N : Nat) (a1 : (Int -> Int -> (Bool -> O β) -> O β)) (v0 : List (Int × Int)) (v1 v2 : Int) (rec_ : List (Int × Int) -> Int -> Int -> O β) (k0 : Int -> O β) (k1 : O β) : O β :=
(cond (decide (v2 < v1))
(gd (decide (0 <= v2))
(gd (decide (v2 < (v0.length : Int)))
(a1 ((rd (0, 0) v0 v2).1) ((rd (0, 0) v0 v2).2) fun r3 =>
(cond r3
(k0 v2)
(rec_ v0 v1 (w64 (v2 + 1)))))))
(k1 ))
def Qi := FF (β := β) N
def mO (N : Nat) (a1 : (Int -> Int -> (Bool -> O β) -> O β)) : Nat -> List (Int × Int) -> Int -> Int -> (Int -> O β) -> (O β) -> O β
 | 0, _, _, _, _, _ => none
 | F + 1, v0, v1, v2, k0, k1 => Qi N a1 v0 v1 v2 (fun v0 v1 v2 => mO N a1 F v0 v1 v2 k0 k1) k0 k1
def Pt (a0 : List (Int × Int)) (a1 : (Int -> Int -> (Bool -> O β) -> O β)) (k : Int -> O β) : O β :=
ahK a1 N a0 (a0.length : Int) 0 (fun aA =>
k aA) (k (-1))
def FG := Pt (β := β) (mO N) N
def PA (N : Nat) (a0 : List (Int × Int)) (a1 : (Int -> Int -> (Bool -> O β) -> O β)) (k : Bool -> O β) : O β :=
ah0 a0 a1 fun r3 =>
k (decide (r3 >= 0))
def wv := PA (β := β) (FG N) N
def Vy (N : Nat) (a0 : Int) (c0 : List (Int × Int)) (k : Bool -> O β) : O β :=
ahF c0 (fun x0 x1 k => ag9 x0 x1 a0 k) fun r2 =>
k r2
def c8 := Vy (β := β) (iS N) (wv N) N
def aaQ (N : Nat) (a0 : Int) (k0 : Int -> Int -> O β) : O β :=
k0 (w64 (w8 (a0 - 97))) a0
def vH := aaQ (β := β) N
def Vz (N : Nat) (a0 : Tr) (k0 : Int -> O β) : O β :=
(gd (!(Tr.isNil a0))
(gd (!(Tr.isNil a0))
(gd (!(Tr.isNil a0))
(k0 (w64 (w8 ((Tr.a a0) - 97)))))))
def rF := Vz (β := β) N
def aaR (N : Nat) (v0 : Tr) (v1 v2 : Int) (rec_ : Tr -> Int -> Int -> O β) (k0 : Tr -> Int -> O β) : O β :=
(gd (!(Tr.isNil v0))
(gd (!(Tr.isNil v0))
(gd (!(Tr.isNil v0))
(cond (!(Tr.isNil (Tr.l v0)))
(ahw v0 (fun r4_0 =>
(gd (decide (0 <= r4_0))
(cond ((bits .and .i64 (cW .i64 v1 r4_0) 1) == 0)
(gd (!(Tr.isNil v0))
(gd (!(Tr.isNil v0))
(gd (!(Tr.isNil v0))
(rec_ (Tr.l v0) v1 (w64 (v2 + 1))))))
(gd (!(Tr.isNil v0))
(gd (!(Tr.isNil v0))
(gd (!(Tr.isNil v0))
(rec_ (Tr.r v0) v1 (w64 (v2 + 1))))))))))
(k0 v0 v2)))))
def aet := aaR (β := β) (rF N) N
def Ax (N : Nat) : Nat -> Tr -> Int -> Int -> (Tr -> Int -> O β) -> O β
 | 0, _, _, _, _ => none
 | F + 1, v0, v1, v2, k0 => aet N v0 v1 v2 (fun v0 v1 v2 => Ax N F v0 v1 v2 k0) k0
def aaS (a0 : Tr) (a1 : Int) (k : Int -> Int -> O β) : O β :=
aiX N a0 a1 0 (fun aA aB =>
(gd (!(Tr.isNil aA))
(gd (!(Tr.isNil aA))
(gd (!(Tr.isNil aA))
(k (w64 (w8 ((Tr.a aA) - 48))) aB)))))
def Qz := aaS (β := β) (Ax N) N
def aaT (N : Nat) (a0 : Int) (c0 : Tr) (k : Bool -> O β) : O β :=
ajx c0 a0 fun r2 r3 =>
k (r2 == 1)
def dc := aaT (β := β) (Qz N) N
def aaU (N : Nat) (a0 : Int) (c0 : Tr) (k : Bool -> O β) : O β :=
(gd (!(Tr.isNil c0))
(gd (!(Tr.isNil c0))
(gd (!(Tr.isNil c0))
(k ((Tr.a c0) == 49)))))
def de := aaU (β := β) N
def Do (N : Nat) (a1 : (Int -> (Bool -> O β) -> O β)) (v0 v1 v2 v3 v4 v5 : Int) (rec_ : Int -> Int -> Int -> Int -> Int -> Int -> O β) (k0 : Int -> Int -> Int -> Int -> O β) : O β :=
(cond (decide (v1 < v0))
(a1 v1 fun r4 =>
(cond r4
(gd (decide (0 <= v1))
(rec_ v0 (w64 (v1 + 1)) v2 v3 v4 (bits .or .i64 v5 (aW .i64 1 v1))))
(rec_ v0 (w64 (v1 + 1)) v2 v3 v4 v5)))
(k0 v2 v3 v4 v5))
def aeu := Do (β := β) N
def eR (N : Nat) (a1 : (Int -> (Bool -> O β) -> O β)) : Nat -> Int -> Int -> Int -> Int -> Int -> Int -> (Int -> Int -> Int -> Int -> O β) -> O β
 | 0, _, _, _, _, _, _, _ => none
 | F + 1, v0, v1, v2, v3, v4, v5, k0 => aeu N a1 v0 v1 v2 v3 v4 v5 (fun v0 v1 v2 v3 v4 v5 => eR N a1 F v0 v1 v2 v3 v4 v5 k0) k0
def Dp (a0 : Int) (a1 : (Int -> (Bool -> O β) -> O β)) (k : Int -> Int -> O β) : O β :=
(gd (decide (0 <= a0))
(ag7 a1 N (aW .i64 1 a0) 0 0 0 a0 0 (fun aA aB aC aD =>
k aC aD)))
def fS := Dp (β := β) (eR N) N
def VA (N : Nat) (a0 a1 : Int) (k : Int -> Int -> O β) : O β :=
ag4 a0 (fun x0 k => zq0 x0 a1 k) fun r4 r5 =>
k r4 r5
def pT := VA (β := β) (zj0 N) (fS N) N
def VB (N : Nat) (v0 v1 v2 v3 : Int) (rec_ : Int -> Int -> Int -> Int -> O β) (k0 : Int -> O β) : O β :=
(gd (decide (0 <= v0))
(cond (decide (v3 < (aW .i64 1 v0)))
(gd (decide (0 <= v1))
(cond ((bits .and .i64 (cW .i64 v3 v1) 1) == 1)
(gd (decide (0 <= v3))
(rec_ v0 v1 (bits .or .i64 v2 (aW .i64 1 v3)) (w64 (v3 + 1))))
(rec_ v0 v1 v2 (w64 (v3 + 1)))))
(k0 v2)))
def abc := VB (β := β) N
def ww (N : Nat) : Nat -> Int -> Int -> Int -> Int -> (Int -> O β) -> O β
 | 0, _, _, _, _, _ => none
 | F + 1, v0, v1, v2, v3, k0 => abc N v0 v1 v2 v3 (fun v0 v1 v2 v3 => ww N F v0 v1 v2 v3 k0) k0
def aeq (a0 a1 : Int) (k : Int -> O β) : O β :=
ai6 N a0 a1 0 0 (fun aA =>
k aA)
def Ay := aeq (β := β) (ww N) N
def VC (N : Nat) (v0 : List Int) (v1 v2 v3 : Int) (rec_ : List Int -> Int -> Int -> Int -> O β) (k0 : Int -> O β) (k1 : O β) : O β :=
(cond (decide (v3 < v2))
(gd (decide (0 <= v3))
(gd (decide (v3 < (v0.length : Int)))
(cond (v1 == (rd 0 v0 v3))
(k0 v3)
(rec_ v0 v1 v2 (w64 (v3 + 1))))))
(k1 ))
def QF := VC (β := β) N
def vN (N : Nat) : Nat -> List Int -> Int -> Int -> Int -> (Int -> O β) -> (O β) -> O β
 | 0, _, _, _, _, _, _ => none
 | F + 1, v0, v1, v2, v3, k0, k1 => QF N v0 v1 v2 v3 (fun v0 v1 v2 v3 => vN N F v0 v1 v2 v3 k0 k1) k0 k1
def aaV (a0 : List Int) (a1 : Int) (k : Int -> O β) : O β :=
ai7 N a0 a1 (a0.length : Int) 0 (fun aA =>
k aA) (k (-1))
def QG := aaV (β := β) (vN N) N
def aaW (N : Nat) (a0 : List Int) (a1 : Int) (k : Bool -> O β) : O β :=
ajD a0 a1 fun r3 =>
k (decide (r3 >= 0))
def VV := aaW (β := β) (QG N) N
def VD (N : Nat) (a0 a1 a2 : Int) (k : Bool -> O β) : O β :=
(cond (decide (a0 >= a1))
(k (decide (a0 <= a2)))
(k false))
def bK := VD (β := β) N
def VE (N : Nat) (v0 : ByteArray) (v1 v2 v3 v4 v5 : Int) (rec_ : ByteArray -> Int -> Int -> Int -> Int -> Int -> O β) (k0 : Bool -> Int -> Int -> O β) (k1 : Int -> Int -> Int -> Int -> O β) : O β :=
(cond (decide (v3 < (v0.size : Int)))
(gd (decide (0 <= v3))
(gd (decide (v3 < (v0.size : Int)))
(cond ((bt v0 v3) == 49)
(gd (decide (0 <= v3))
(rec_ v0 v1 (bits .or .i64 v2 (aW .i64 1 v3)) (w64 (v3 + 1)) v4 v5))
(cond ((bt v0 v3) == 48)
(rec_ v0 v1 v2 (w64 (v3 + 1)) v4 v5)
(k0 false 0 0)))))
(k1 v1 v2 v4 v5))
def abd := VE (β := β) N
def rG (N : Nat) : Nat -> ByteArray -> Int -> Int -> Int -> Int -> Int -> (Bool -> Int -> Int -> O β) -> (Int -> Int -> Int -> Int -> O β) -> O β
 | 0, _, _, _, _, _, _, _, _ => none
 | F + 1, v0, v1, v2, v3, v4, v5, k0, k1 => abd N v0 v1 v2 v3 v4 v5 (fun v0 v1 v2 v3 v4 v5 => rG N F v0 v1 v2 v3 v4 v5 k0 k1) k0 k1
def P4 (v0 : ByteArray) (v1 v2 v3 : Int) (rec_ : ByteArray -> Int -> Int -> Int -> O β) (k0 : Bool -> Int -> Int -> O β) (k1 : Int -> Int -> O β) : O β :=
(cond (decide (v1 <= 5))
(gd (decide (0 <= v1))
(cond ((v0.size : Int) != (aW .i64 1 v1))
(rec_ v0 (w64 (v1 + 1)) v2 v3)
(aii N v0 v1 0 0 v2 v3 (fun aA aB aC =>
k0 aA aB aC) (fun aD aE aF aG =>
k0 true aD aE))))
(k1 v2 v3))
def VW := P4 (β := β) (rG N) N
def oG (N : Nat) : Nat -> ByteArray -> Int -> Int -> Int -> (Bool -> Int -> Int -> O β) -> (Int -> Int -> O β) -> O β
 | 0, _, _, _, _, _, _ => none
 | F + 1, v0, v1, v2, v3, k0, k1 => VW N v0 v1 v2 v3 (fun v0 v1 v2 v3 => oG N F v0 v1 v2 v3 k0 k1) k0 k1
def VF (a0 : ByteArray) (k : Int -> Int -> Bool -> O β) : O β :=
aij N a0 0 0 0 (fun aA aB aC =>
k aB aC aA) (fun aD aE =>
k 0 0 false)
def DK := VF (β := β) (oG N) N
def VG (N : Nat) (a0 a1 a2 : Int) (k : Bool -> O β) : O β :=
agV a0 0 5 fun r4 =>
(cond r4
(gd (decide (0 <= a0))
(agV a1 0 (w64 ((aW .i64 1 a0) - 1)) fun r5 =>
(cond r5
(agV a2 0 a1 fun r6 =>
(cond r6
(k ((bits .and .i64 a2 a1) == a2))
(k false)))
(k false))))
(k false))
def jK := VG (β := β) (bK N) N
def Lf (N : Nat) (v0 : Int) (v1 : ByteArray) (v2 v3 v4 : Int) (rec_ : Int -> ByteArray -> Int -> Int -> Int -> O β) (k0 : Int -> ByteArray -> Int -> Int -> O β) : O β :=
ahd v0 v3 v4 fun r4 =>
(cond r4
(cond (decide (v2 < v0))
(gd (decide (0 <= v2))
(cond ((bits .and .i64 (cW .i64 v3 v2) 1) == 0)
(rec_ v0 v1 (w64 (v2 + 1)) v3 v4)
(gd (decide (0 <= v2))
(cond ((bits .and .i64 (cW .i64 v4 v2) 1) == 0)
(gd (decide (v1.size + (aq [33]).size <= 9223372036854775807))
(gd (decide (0 <= (w64 (v2 + 1))))
(gd (decide ((w64 (v2 + 1)) <= ((aq [97, 98, 99, 100, 101]).size : Int)))
(gd (decide (0 <= v2))
(gd (decide (v2 <= (w64 (v2 + 1))))
(gd (decide ((v1 ++ (aq [33])).size + ((aq [97, 98, 99, 100, 101]).extract (Int.toNat v2) (Int.toNat (w64 (v2 + 1)))).size <= 9223372036854775807))
(rec_ v0 ((v1 ++ (aq [33])) ++ ((aq [97, 98, 99, 100, 101]).extract (Int.toNat v2) (Int.toNat (w64 (v2 + 1))))) (w64 (v2 + 1)) v3 v4)))))))
(gd (decide (0 <= (w64 (v2 + 1))))
(gd (decide ((w64 (v2 + 1)) <= ((aq [97, 98, 99, 100, 101]).size : Int)))
(gd (decide (0 <= v2))
(gd (decide (v2 <= (w64 (v2 + 1))))
(gd (decide (v1.size + ((aq [97, 98, 99, 100, 101]).extract (Int.toNat v2) (Int.toNat (w64 (v2 + 1)))).size <= 9223372036854775807))
(rec_ v0 (v1 ++ ((aq [97, 98, 99, 100, 101]).extract (Int.toNat v2) (Int.toNat (w64 (v2 + 1))))) (w64 (v2 + 1)) v3 v4))))))))))
(k0 v0 v1 v3 v4))
(k0 v0 v1 v3 v4))
def QH := Lf (β := β) (jK N) N
def rH (N : Nat) : Nat -> Int -> ByteArray -> Int -> Int -> Int -> (Int -> ByteArray -> Int -> Int -> O β) -> O β
 | 0, _, _, _, _, _, _ => none
 | F + 1, v0, v1, v2, v3, v4, k0 => QH N v0 v1 v2 v3 v4 (fun v0 v1 v2 v3 v4 => rH N F v0 v1 v2 v3 v4 k0) k0
def VH (a0 a1 a2 : Int) (k : ByteArray -> O β) : O β :=
ai9 N a0 ByteArray.empty 0 a1 a2 (fun aA aB aC aD =>
(cond (aB.toList == ByteArray.empty.toList)
(ahd aA aC aD fun r6 =>
(cond r6
(k (aq [49]))
(k aB)))
(k aB)))
def ja := VH (β := β) (jK N) (rH N) N
def Dq (N : Nat) (v0 : Int) (v1 : ByteArray) (v2 : Bool) (v3 v4 v5 v6 v7 : Int) (rec_ : Int -> ByteArray -> Bool -> Int -> Int -> Int -> Int -> Int -> O β) (k0 : Bool -> Int -> Int -> O β) (k1 : Int -> ByteArray -> Int -> Int -> Int -> Int -> O β) : O β :=
(cond (decide (v3 < (v1.size : Int)))
(cond (!(v1.toList == (aq [49]).toList))
(gd (decide (0 <= v3))
(gd (decide (v3 < (v1.size : Int)))
(cond ((bt v1 v3) == 33)
(rec_ v0 v1 true (w64 (v3 + 1)) v4 v5 v6 v7)
(gd (decide (0 <= v3))
(gd (decide (v3 < (v1.size : Int)))
(agV v0 0 5 fun r5 =>
(cond (!r5)
(k0 false 0 0)
(agV (w64 ((w64 (bt v1 v3)) - 97)) 0 (w64 (v0 - 1)) fun r6 =>
(cond (!r6)
(k0 false 0 0)
(gd (decide (0 <= (w64 ((w64 (bt v1 v3)) - 97))))
(cond (!v2)
(gd (decide (0 <= (w64 ((w64 (bt v1 v3)) - 97))))
(rec_ v0 v1 false (w64 (v3 + 1)) v4 v5 (bits .or .i64 v6 (aW .i64 1 (w64 ((w64 (bt v1 v3)) - 97)))) (bits .or .i64 v7 (aW .i64 1 (w64 ((w64 (bt v1 v3)) - 97))))))
(rec_ v0 v1 false (w64 (v3 + 1)) v4 v5 (bits .or .i64 v6 (aW .i64 1 (w64 ((w64 (bt v1 v3)) - 97)))) v7))))))))))))
(k1 v0 v1 v4 v5 v6 v7))
(k1 v0 v1 v4 v5 v6 v7))
def FH := Dq (β := β) (bK N) N
def l7 (N : Nat) : Nat -> Int -> ByteArray -> Bool -> Int -> Int -> Int -> Int -> Int -> (Bool -> Int -> Int -> O β) -> (Int -> ByteArray -> Int -> Int -> Int -> Int -> O β) -> O β
 | 0, _, _, _, _, _, _, _, _, _, _ => none
 | F + 1, v0, v1, v2, v3, v4, v5, v6, v7, k0, k1 => FH N v0 v1 v2 v3 v4 v5 v6 v7 (fun v0 v1 v2 v3 v4 v5 v6 v7 => l7 N F v0 v1 v2 v3 v4 v5 v6 v7 k0 k1) k0 k1
def VI (a0 : Int) (a1 : ByteArray) (k : Int -> Int -> Bool -> O β) : O β :=
aja N a0 a1 false 0 0 0 0 0 (fun aA aB aC =>
k aB aC aA) (fun aD aE aF aG aH aI =>
(cond (aE.toList == ByteArray.empty.toList)
(k 0 0 false)
(ahe aD aH aI fun r9 =>
(cond (!(r9.toList == aE.toList))
(k 0 0 false)
(k aH aI true)))))
def oH := VI (β := β) (ja N) (l7 N) N
def VJ (N : Nat) (v0 v1 v2 v3 v4 v5 : Int) (rec_ : Int -> Int -> Int -> Int -> Int -> Int -> O β) (k0 : Int -> Int -> Int -> Int -> Int -> O β) : O β :=
(cond (decide (v3 <= v1))
(cond ((bits .and .i64 v3 v1) == v3)
(gd (decide (0 <= v3))
(rec_ v0 v1 (w64 (v2 + (bits .and .i64 (cW .i64 v5 v3) 1))) (w64 (v3 + 1)) v4 v5))
(rec_ v0 v1 v2 (w64 (v3 + 1)) v4 v5))
(k0 v0 v1 v2 v4 v5))
def abe := VJ (β := β) N
def vO (N : Nat) : Nat -> Int -> Int -> Int -> Int -> Int -> Int -> (Int -> Int -> Int -> Int -> Int -> O β) -> O β
 | 0, _, _, _, _, _, _, _ => none
 | F + 1, v0, v1, v2, v3, v4, v5, k0 => abe N v0 v1 v2 v3 v4 v5 (fun v0 v1 v2 v3 v4 v5 => vO N F v0 v1 v2 v3 v4 v5 k0) k0
def VK (v0 v1 v2 v3 : Int) (rec_ : Int -> Int -> Int -> Int -> O β) (k0 : Int -> O β) : O β :=
(gd (decide (0 <= v2))
(cond (decide (v1 < (aW .i64 1 v2)))
(aik N v0 v1 0 0 v2 v3 (fun aA aB aC aD aE =>
(gd (decide (0 <= aB))
(rec_ (bits .or .i64 aA (aW .i64 (Te aC 2) aB)) (w64 (aB + 1)) aD aE))))
(k0 v0)))
def abf := VK (β := β) (vO N) N
def vP (N : Nat) : Nat -> Int -> Int -> Int -> Int -> (Int -> O β) -> O β
 | 0, _, _, _, _, _ => none
 | F + 1, v0, v1, v2, v3, k0 => abf N v0 v1 v2 v3 (fun v0 v1 v2 v3 => vP N F v0 v1 v2 v3 k0) k0
def aaX (a0 a1 : Int) (k : Int -> O β) : O β :=
ail N 0 0 a0 a1 (fun aA =>
k aA)
def pU := aaX (β := β) (vP N) N
def aaY (N : Nat) (a0 a1 : Int) (k : Bool -> O β) : O β :=
agV a0 0 5 fun r3 =>
(cond r3
(gd (decide (0 <= a0))
(gd (decide (0 <= (aW .u64 1 a0)))
(agV a1 0 (w64 ((aW .i64 1 (aW .u64 1 a0)) - 1)) fun r4 =>
k r4)))
(k false))
def eT := aaY (β := β) (bK N) N
def VL (N : Nat) (v0 : ByteArray) (v1 v2 v3 v4 : Int) (rec_ : ByteArray -> Int -> Int -> Int -> Int -> O β) (k0 : ByteArray -> O β) : O β :=
(gd (decide (0 <= v3))
(cond (decide (v2 < (aW .i64 1 v3)))
(gd (decide (0 <= v2))
(cond ((bits .and .i64 (cW .i64 v1 v2) 1) == 0)
(rec_ v0 v1 (w64 (v2 + 1)) v3 v4)
(cond (!(v0.toList == ByteArray.empty.toList))
(gd (decide (v0.size + (aq [43]).size <= 9223372036854775807))
(ahe v3 v2 v2 fun r5 =>
(gd (decide ((v0 ++ (aq [43])).size + r5.size <= 9223372036854775807))
(rec_ ((v0 ++ (aq [43])) ++ r5) v1 (w64 (v2 + 1)) v3 v4))))
(ahe v3 v2 v2 fun r6 =>
(gd (decide (v0.size + r6.size <= 9223372036854775807))
(rec_ (v0 ++ r6) v1 (w64 (v2 + 1)) v3 v4))))))
(k0 v0)))
def abg := VL (β := β) (ja N) N
def wy (N : Nat) : Nat -> ByteArray -> Int -> Int -> Int -> Int -> (ByteArray -> O β) -> O β
 | 0, _, _, _, _, _, _ => none
 | F + 1, v0, v1, v2, v3, v4, k0 => abg N v0 v1 v2 v3 v4 (fun v0 v1 v2 v3 v4 => wy N F v0 v1 v2 v3 v4 k0) k0
def aaZ (a0 a1 : Int) (k : ByteArray -> O β) : O β :=
ag5 a0 a1 fun r3 =>
(cond (!r3)
(k ByteArray.empty)
(ahC a0 a1 fun r4 =>
ajc N ByteArray.empty r4 0 a0 a1 (fun aA =>
(cond (aA.toList == ByteArray.empty.toList)
(k (aq [48]))
(k aA)))))
def qQ := aaZ (β := β) (pU N) (eT N) (wy N) N
def Lg (N : Nat) (v0 : Int) (v1 : ByteArray) (v2 : Int) (v3 : ByteArray) (v4 v5 v6 : Int) (rec_ : Int -> ByteArray -> Int -> ByteArray -> Int -> Int -> Int -> O β) (k0 : Bool -> Int -> Int -> O β) (k1 : Int -> ByteArray -> Int -> Int -> Int -> O β) : O β :=
(cond (decide (v4 <= (v1.size : Int)))
(cond (!(v1.toList == (aq [48]).toList))
(cond (decide (v4 < (v1.size : Int)))
(gd (decide (0 <= v4))
(gd (decide (v4 < (v1.size : Int)))
(cond ((bt v1 v4) != 43)
(gd (decide (0 <= (w64 (v4 + 1))))
(gd (decide ((w64 (v4 + 1)) <= (v1.size : Int)))
(gd (decide (0 <= v4))
(gd (decide (v4 <= (w64 (v4 + 1))))
(gd (decide (v3.size + (v1.extract (Int.toNat v4) (Int.toNat (w64 (v4 + 1)))).size <= 9223372036854775807))
(rec_ v0 v1 v2 (v3 ++ (v1.extract (Int.toNat v4) (Int.toNat (w64 (v4 + 1))))) (w64 (v4 + 1)) v5 v6))))))
(ahr v0 v3 fun r6 r7 r8 =>
(cond (!r8)
(k0 false 0 0)
(cond (r6 != r7)
(k0 false 0 0)
(gd (decide (0 <= r6))
(rec_ v0 v1 (bits .or .i64 v2 (aW .i64 1 r6)) ByteArray.empty (w64 (v4 + 1)) v5 v6))))))))
(ahr v0 v3 fun r9 r10 r11 =>
(cond (!r11)
(k0 false 0 0)
(cond (r9 != r10)
(k0 false 0 0)
(gd (decide (0 <= r9))
(rec_ v0 v1 (bits .or .i64 v2 (aW .i64 1 r9)) ByteArray.empty (w64 (v4 + 1)) v5 v6))))))
(k1 v0 v1 v2 v5 v6))
(k1 v0 v1 v2 v5 v6))
def Lk := Lg (β := β) (oH N) N
def jV (N : Nat) : Nat -> Int -> ByteArray -> Int -> ByteArray -> Int -> Int -> Int -> (Bool -> Int -> Int -> O β) -> (Int -> ByteArray -> Int -> Int -> Int -> O β) -> O β
 | 0, _, _, _, _, _, _, _, _, _ => none
 | F + 1, v0, v1, v2, v3, v4, v5, v6, k0, k1 => Lk N v0 v1 v2 v3 v4 v5 v6 (fun v0 v1 v2 v3 v4 v5 v6 => jV N F v0 v1 v2 v3 v4 v5 v6 k0 k1) k0 k1
def P5 (a0 : Int) (a1 : ByteArray) (k : Int -> Int -> Bool -> O β) : O β :=
agV a0 0 5 fun r5 =>
(cond (!r5)
(k 0 0 false)
(cond (decide ((a1.size : Int) > 200))
(k 0 0 false)
(ajd N a0 a1 0 ByteArray.empty 0 0 0 (fun aA aB aC =>
k aB aC aA) (fun aD aE aF aG aH =>
ahC aD aF fun r14 =>
ahI aD r14 fun r15 =>
(cond (!(r15.toList == aE.toList))
(k 0 0 false)
(k aD r14 true))))))
def wz := P5 (β := β) (bK N) (pU N) (qQ N) (jV N) N
def VM (N : Nat) (v0 : Int) (v1 : List (Int × Int)) (v2 : Int) (rec_ : Int -> List (Int × Int) -> Int -> O β) (k0 : Bool -> O β) (k1 : Int -> List (Int × Int) -> O β) : O β :=
(cond (decide (v2 < (v1.length : Int)))
(gd (decide (0 <= v2))
(gd (decide (v2 < (v1.length : Int)))
(ahd v0 ((rd (0, 0) v1 v2).1) ((rd (0, 0) v1 v2).2) fun r3 =>
(cond (!r3)
(k0 false)
(rec_ v0 v1 (w64 (v2 + 1)))))))
(k1 v0 v1))
def abh := VM (β := β) (jK N) N
def wA (N : Nat) : Nat -> Int -> List (Int × Int) -> Int -> (Bool -> O β) -> (Int -> List (Int × Int) -> O β) -> O β
 | 0, _, _, _, _, _ => none
 | F + 1, v0, v1, v2, k0, k1 => abh N v0 v1 v2 (fun v0 v1 v2 => wA N F v0 v1 v2 k0 k1) k0 k1
def aa0 (a0 : Int) (a1 : List (Int × Int)) (k : Bool -> O β) : O β :=
ajf N a0 a1 0 (fun aA =>
k aA) (fun aB aC =>
agV aB 0 5 fun r6 =>
(cond r6
(k (decide ((aC.length : Int) <= 40)))
(k false)))
def oI := aa0 (β := β) (bK N) (wA N) N
def Lh (N : Nat) (v0 : Int) (v1 v2 : ByteArray) (v3 : Int) (v4 : List (Int × Int)) (rec_ : Int -> ByteArray -> ByteArray -> Int -> List (Int × Int) -> O β) (k0 : Bool -> List (Int × Int) -> O β) (k1 : Int -> ByteArray -> List (Int × Int) -> O β) : O β :=
(cond (decide (v3 <= (v1.size : Int)))
(cond (decide ((v1.size : Int) <= 200))
(cond (decide (v3 < (v1.size : Int)))
(gd (decide (0 <= v3))
(gd (decide (v3 < (v1.size : Int)))
(cond ((bt v1 v3) != 124)
(gd (decide (0 <= (w64 (v3 + 1))))
(gd (decide ((w64 (v3 + 1)) <= (v1.size : Int)))
(gd (decide (0 <= v3))
(gd (decide (v3 <= (w64 (v3 + 1))))
(gd (decide (v2.size + (v1.extract (Int.toNat v3) (Int.toNat (w64 (v3 + 1)))).size <= 9223372036854775807))
(rec_ v0 v1 (v2 ++ (v1.extract (Int.toNat v3) (Int.toNat (w64 (v3 + 1))))) (w64 (v3 + 1)) v4))))))
(ahr v0 v2 fun r5 r6 r7 =>
(cond (!r7)
(k0 false ([] : List (Int × Int)))
(gd (decide ((v4.length + (([] : List (Int × Int)) ++ [(r5, r6)]).length) * 16 <= 140737488355328))
(rec_ v0 v1 ByteArray.empty (w64 (v3 + 1)) (v4 ++ (([] : List (Int × Int)) ++ [(r5, r6)])))))))))
(ahr v0 v2 fun r8 r9 r10 =>
(cond (!r10)
(k0 false ([] : List (Int × Int)))
(gd (decide ((v4.length + (([] : List (Int × Int)) ++ [(r8, r9)]).length) * 16 <= 140737488355328))
(rec_ v0 v1 ByteArray.empty (w64 (v3 + 1)) (v4 ++ (([] : List (Int × Int)) ++ [(r8, r9)])))))))
(k1 v0 v1 v4))
(k1 v0 v1 v4))
def Ll := Lh (β := β) (oH N) N
def pV (N : Nat) : Nat -> Int -> ByteArray -> ByteArray -> Int -> List (Int × Int) -> (Bool -> List (Int × Int) -> O β) -> (Int -> ByteArray -> List (Int × Int) -> O β) -> O β
 | 0, _, _, _, _, _, _, _ => none
 | F + 1, v0, v1, v2, v3, v4, k0, k1 => Ll N v0 v1 v2 v3 v4 (fun v0 v1 v2 v3 v4 => pV N F v0 v1 v2 v3 v4 k0 k1) k0 k1
def P6 (a0 : Int) (a1 : ByteArray) (k : List (Int × Int) -> Bool -> O β) : O β :=
(cond (a1.toList == (aq [48]).toList)
(agV a0 0 5 fun r4 =>
k ([] : List (Int × Int)) r4)
(ajg N a0 a1 ByteArray.empty 0 ([] : List (Int × Int)) (fun aA aB =>
k aB aA) (fun aC aD aE =>
(cond (decide ((aD.size : Int) > 200))
(k ([] : List (Int × Int)) false)
(ahs aC aE fun r13 =>
(cond (!r13)
(k ([] : List (Int × Int)) false)
(k aE true)))))))
def vQ := P6 (β := β) (bK N) (oI N) (pV N) N
def VN (N : Nat) (v0 v1 v2 v3 v4 : Int) (rec_ : Int -> Int -> Int -> Int -> Int -> O β) (k0 : Int -> O β) : O β :=
(gd (decide (0 <= v0))
(cond (decide (v2 < (aW .i64 1 v0)))
(cond ((bits .and .i64 v2 v3) == v4)
(gd (decide (0 <= v2))
(rec_ v0 (bits .or .i64 v1 (aW .i64 1 v2)) (w64 (v2 + 1)) v3 v4))
(rec_ v0 v1 (w64 (v2 + 1)) v3 v4))
(k0 v1)))
def abi := VN (β := β) N
def wB (N : Nat) : Nat -> Int -> Int -> Int -> Int -> Int -> (Int -> O β) -> O β
 | 0, _, _, _, _, _, _ => none
 | F + 1, v0, v1, v2, v3, v4, k0 => abi N v0 v1 v2 v3 v4 (fun v0 v1 v2 v3 v4 => wB N F v0 v1 v2 v3 v4 k0) k0
def aa1 (a0 a1 a2 : Int) (k : Int -> O β) : O β :=
aji N a0 0 0 a1 a2 (fun aA =>
k aA)
def oJ := aa1 (β := β) (wB N) N
def VO (N : Nat) (v0 : Int) (v1 : List (Int × Int)) (v2 v3 v4 v5 : Int) (rec_ : Int -> List (Int × Int) -> Int -> Int -> Int -> Int -> O β) (k0 : Bool -> Int -> Int -> O β) (k1 : Int -> Int -> Int -> Int -> O β) : O β :=
(cond (decide (v3 < (v1.length : Int)))
(gd (decide (0 <= v3))
(gd (decide (v3 < (v1.length : Int)))
(ahd v0 ((rd (0, 0) v1 v3).1) ((rd (0, 0) v1 v3).2) fun r5 =>
(cond (!r5)
(k0 false 0 0)
(gd (decide (0 <= v3))
(gd (decide (v3 < (v1.length : Int)))
(ahh v0 ((rd (0, 0) v1 v3).1) ((rd (0, 0) v1 v3).2) fun r6 =>
rec_ v0 v1 (bits .or .i64 v2 r6) (w64 (v3 + 1)) v4 v5)))))))
(k1 v0 v2 v4 v5))
def abj := VO (β := β) (jK N) (oJ N) N
def vR (N : Nat) : Nat -> Int -> List (Int × Int) -> Int -> Int -> Int -> Int -> (Bool -> Int -> Int -> O β) -> (Int -> Int -> Int -> Int -> O β) -> O β
 | 0, _, _, _, _, _, _, _, _ => none
 | F + 1, v0, v1, v2, v3, v4, v5, k0, k1 => abj N v0 v1 v2 v3 v4 v5 (fun v0 v1 v2 v3 v4 v5 => vR N F v0 v1 v2 v3 v4 v5 k0 k1) k0 k1
def aa2 (a0 : Int) (a1 : List (Int × Int)) (k : Int -> Int -> Bool -> O β) : O β :=
ajj N a0 a1 0 0 0 0 (fun aA aB aC =>
k aB aC aA) (fun aD aE aF aG =>
agV aD 0 5 fun r9 =>
(cond (!r9)
(k 0 0 false)
(k aD aE true)))
def FI := aa2 (β := β) (bK N) (vR N) N
def aa3 (N : Nat) (self : ByteArray -> Int -> Int -> (Int -> O β) -> O β) (a0 : ByteArray) (a1 a2 : Int) (k : Int -> O β) : O β :=
(cond (decide (a1 >= (a0.size : Int)))
(k (-1))
(gd (decide (0 <= a1))
(gd (decide (a1 < (a0.size : Int)))
(cond ((bt a0 a1) == 48)
(k (w64 (a1 + 1)))
(gd (decide (0 <= a1))
(gd (decide (a1 < (a0.size : Int)))
(cond ((bt a0 a1) == 49)
(k (w64 (a1 + 1)))
(gd (decide (0 <= a1))
(gd (decide (a1 < (a0.size : Int)))
(agV (w64 ((w64 (bt a0 a1)) - 97)) 0 4 fun r4 =>
(cond (!r4)
(k (-1))
(gd (decide (0 <= (w64 ((w64 (bt a0 a1)) - 97))))
(cond ((bits .and .i64 (cW .i64 a2 (w64 ((w64 (bt a0 a1)) - 97))) 1) == 1)
(k (-1))
(gd (decide (0 <= (w64 ((w64 (bt a0 a1)) - 97))))
(self a0 (w64 (a1 + 1)) (bits .or .i64 a2 (aW .i64 1 (w64 ((w64 (bt a0 a1)) - 97)))) fun r5 =>
(cond (decide (r5 < 0))
(k (-1))
(gd (decide (0 <= (w64 ((w64 (bt a0 a1)) - 97))))
(self a0 r5 (bits .or .i64 a2 (aW .i64 1 (w64 ((w64 (bt a0 a1)) - 97)))) fun r6 =>
k r6))))))))))))))))))
def aev := aa3 (β := β) (bK N) N
def Az (N : Nat) : Nat -> ByteArray -> Int -> Int -> (Int -> O β) -> O β
 | 0, _, _, _, _ => none
 | F + 1, a0, a1, a2, k => aev N (Az N F) a0 a1 a2 k
def aew := Az (β := β) N N
def aa4 (N : Nat) (a0 : ByteArray) (k : Bool -> O β) : O β :=
(cond (decide ((a0.size : Int) <= 63))
(cond (decide ((a0.size : Int) > 0))
(ajU a0 0 0 fun r2 =>
k (r2 == (a0.size : Int)))
(k false))
(k false))
def DL := aa4 (β := β) (aew N) N
def aa5 (N : Nat) (self : ByteArray -> Int -> (Int -> O β) -> O β) (a0 : ByteArray) (a1 : Int) (k : Int -> O β) : O β :=
(gd (decide (0 <= a1))
(gd (decide (a1 < (a0.size : Int)))
(cond ((bt a0 a1) == 48)
(k (w64 (a1 + 1)))
(gd (decide (0 <= a1))
(gd (decide (a1 < (a0.size : Int)))
(cond ((bt a0 a1) == 49)
(k (w64 (a1 + 1)))
(self a0 (w64 (a1 + 1)) fun r3 =>
self a0 r3 fun r4 =>
k r4)))))))
def aex := aa5 (β := β) N
def wC (N : Nat) : Nat -> ByteArray -> Int -> (Int -> O β) -> O β
 | 0, _, _, _ => none
 | F + 1, a0, a1, k => aex N (wC N F) a0 a1 k
def aey := wC (β := β) N N
def aa6 (N : Nat) (v0 : ByteArray) (v1 v2 v3 : Int) (rec_ : ByteArray -> Int -> Int -> Int -> O β) (k0 : ByteArray -> Int -> Int -> O β) : O β :=
(gd (decide (0 <= v2))
(gd (decide (v2 < (v0.size : Int)))
(cond ((bt v0 v2) != 48)
(gd (decide (0 <= v2))
(gd (decide (v2 < (v0.size : Int)))
(cond ((bt v0 v2) != 49)
(gd (decide (0 <= v2))
(gd (decide (v2 < (v0.size : Int)))
(gd (decide (0 <= (w8 ((bt v0 v2) - 97))))
(cond ((bits .and .i64 (cW .i64 v1 (w8 ((bt v0 v2) - 97))) 1) == 1)
(ajV v0 (w64 (v2 + 1)) fun r4 =>
rec_ v0 v1 r4 (w64 (v3 + 1)))
(rec_ v0 v1 (w64 (v2 + 1)) (w64 (v3 + 1)))))))
(k0 v0 v2 v3))))
(k0 v0 v2 v3))))
def aez := aa6 (β := β) (aey N) N
def AA (N : Nat) : Nat -> ByteArray -> Int -> Int -> Int -> (ByteArray -> Int -> Int -> O β) -> O β
 | 0, _, _, _, _, _ => none
 | F + 1, v0, v1, v2, v3, k0 => aez N v0 v1 v2 v3 (fun v0 v1 v2 v3 => AA N F v0 v1 v2 v3 k0) k0
def aa7 (a0 : ByteArray) (a1 : Int) (k : Int -> Int -> O β) : O β :=
ajl N a0 a1 0 0 (fun aA aB aC =>
(gd (decide (0 <= aB))
(gd (decide (aB < (aA.size : Int)))
(k (w64 (w8 ((bt aA aB) - 48))) aC))))
def FJ := aa7 (β := β) (AA N) N
def VP (N : Nat) (v0 : ByteArray) (v1 v2 v3 v4 : Int) (rec_ : ByteArray -> Int -> Int -> Int -> Int -> O β) (k0 : Bool -> Int -> Int -> O β) (k1 : ByteArray -> Int -> Int -> Int -> O β) : O β :=
(cond (decide (v2 < (v0.size : Int)))
(gd (decide (0 <= v2))
(gd (decide (v2 < (v0.size : Int)))
(cond (decide ((bt v0 v2) >= 97))
(gd (decide (0 <= v2))
(gd (decide (v2 < (v0.size : Int)))
(cond (decide ((w64 (w8 ((bt v0 v2) - 97))) >= v1))
(k0 false 0 0)
(rec_ v0 v1 (w64 (v2 + 1)) v3 v4))))
(rec_ v0 v1 (w64 (v2 + 1)) v3 v4))))
(k1 v0 v1 v3 v4))
def abk := VP (β := β) N
def vS (N : Nat) : Nat -> ByteArray -> Int -> Int -> Int -> Int -> (Bool -> Int -> Int -> O β) -> (ByteArray -> Int -> Int -> Int -> O β) -> O β
 | 0, _, _, _, _, _, _, _ => none
 | F + 1, v0, v1, v2, v3, v4, k0, k1 => abk N v0 v1 v2 v3 v4 (fun v0 v1 v2 v3 v4 => vS N F v0 v1 v2 v3 v4 k0 k1) k0 k1
def VQ (N : Nat) (v0 : ByteArray) (v1 v2 v3 v4 v5 : Int) (rec_ : ByteArray -> Int -> Int -> Int -> Int -> Int -> O β) (k0 : Int -> Int -> Int -> Int -> O β) : O β :=
(gd (decide (0 <= v1))
(cond (decide (v3 < (aW .i64 1 v1)))
(aio v0 v3 fun r9 r10 =>
(gd (decide (0 <= v3))
(rec_ v0 v1 (bits .or .i64 v2 (aW .i64 r9 v3)) (w64 (v3 + 1)) v4 v5)))
(k0 v1 v2 v4 v5)))
def abl := VQ (β := β) (FJ N) N
def vU (N : Nat) : Nat -> ByteArray -> Int -> Int -> Int -> Int -> Int -> (Int -> Int -> Int -> Int -> O β) -> O β
 | 0, _, _, _, _, _, _, _ => none
 | F + 1, v0, v1, v2, v3, v4, v5, k0 => abl N v0 v1 v2 v3 v4 v5 (fun v0 v1 v2 v3 v4 v5 => vU N F v0 v1 v2 v3 v4 v5 k0) k0
def P7 (a0 : ByteArray) (a1 : Int) (k : Int -> Int -> Bool -> O β) : O β :=
ain a0 fun r5 =>
(cond (!r5)
(k 0 0 false)
(agV a1 0 5 fun r6 =>
(cond (!r6)
(k 0 0 false)
(aip N a0 a1 0 0 0 (fun aA aB aC =>
k aB aC aA) (fun aD aE aF aG =>
aiq N aD aE 0 0 aF aG (fun aH aI aJ aK =>
k aH aI true))))))
def AB := P7 (β := β) (bK N) (DL N) (vS N) (vU N) N
def aa8 (N : Nat) (self : ByteArray -> Int -> (Int -> O β) -> O β) (a0 : ByteArray) (a1 : Int) (k : Int -> O β) : O β :=
(cond (decide (a1 >= (a0.size : Int)))
(k (-1))
(gd (decide (0 <= a1))
(gd (decide (a1 < (a0.size : Int)))
(cond ((bt a0 a1) == 97)
(cond ((bt a0 a1) == 97)
(k (w64 (a1 + 1)))
(cond ((bt a0 a1) == 33)
(self a0 (w64 (a1 + 1)) fun r3 =>
k r3)
(cond ((bt a0 a1) == 38)
(cond ((bt a0 a1) == 38)
(self a0 (w64 (a1 + 1)) fun r4 =>
(cond (decide (r4 < 0))
(k (-1))
(self a0 r4 fun r5 =>
k r5)))
(k (-1)))
(cond ((bt a0 a1) == 124)
(cond ((bt a0 a1) == 124)
(self a0 (w64 (a1 + 1)) fun r6 =>
(cond (decide (r6 < 0))
(k (-1))
(self a0 r6 fun r7 =>
k r7)))
(k (-1)))
(cond ((bt a0 a1) == 94)
(self a0 (w64 (a1 + 1)) fun r8 =>
(cond (decide (r8 < 0))
(k (-1))
(self a0 r8 fun r9 =>
k r9)))
(k (-1)))))))
(cond ((bt a0 a1) == 98)
(cond ((bt a0 a1) == 98)
(k (w64 (a1 + 1)))
(cond ((bt a0 a1) == 33)
(self a0 (w64 (a1 + 1)) fun r10 =>
k r10)
(cond ((bt a0 a1) == 38)
(cond ((bt a0 a1) == 38)
(self a0 (w64 (a1 + 1)) fun r11 =>
(cond (decide (r11 < 0))
(k (-1))
(self a0 r11 fun r12 =>
k r12)))
(k (-1)))
(cond ((bt a0 a1) == 124)
(cond ((bt a0 a1) == 124)
(self a0 (w64 (a1 + 1)) fun r13 =>
(cond (decide (r13 < 0))
(k (-1))
(self a0 r13 fun r14 =>
k r14)))
(k (-1)))
(cond ((bt a0 a1) == 94)
(self a0 (w64 (a1 + 1)) fun r15 =>
(cond (decide (r15 < 0))
(k (-1))
(self a0 r15 fun r16 =>
k r16)))
(k (-1)))))))
(cond ((bt a0 a1) == 99)
(cond ((bt a0 a1) == 99)
(k (w64 (a1 + 1)))
(cond ((bt a0 a1) == 33)
(self a0 (w64 (a1 + 1)) fun r17 =>
k r17)
(cond ((bt a0 a1) == 38)
(cond ((bt a0 a1) == 38)
(self a0 (w64 (a1 + 1)) fun r18 =>
(cond (decide (r18 < 0))
(k (-1))
(self a0 r18 fun r19 =>
k r19)))
(k (-1)))
(cond ((bt a0 a1) == 124)
(cond ((bt a0 a1) == 124)
(self a0 (w64 (a1 + 1)) fun r20 =>
(cond (decide (r20 < 0))
(k (-1))
(self a0 r20 fun r21 =>
k r21)))
(k (-1)))
(cond ((bt a0 a1) == 94)
(self a0 (w64 (a1 + 1)) fun r22 =>
(cond (decide (r22 < 0))
(k (-1))
(self a0 r22 fun r23 =>
k r23)))
(k (-1)))))))
(cond ((bt a0 a1) == 100)
(cond ((bt a0 a1) == 100)
(k (w64 (a1 + 1)))
(cond ((bt a0 a1) == 33)
(self a0 (w64 (a1 + 1)) fun r24 =>
k r24)
(cond ((bt a0 a1) == 38)
(cond ((bt a0 a1) == 38)
(self a0 (w64 (a1 + 1)) fun r25 =>
(cond (decide (r25 < 0))
(k (-1))
(self a0 r25 fun r26 =>
k r26)))
(k (-1)))
(cond ((bt a0 a1) == 124)
(cond ((bt a0 a1) == 124)
(self a0 (w64 (a1 + 1)) fun r27 =>
(cond (decide (r27 < 0))
(k (-1))
(self a0 r27 fun r28 =>
k r28)))
(k (-1)))
(cond ((bt a0 a1) == 94)
(self a0 (w64 (a1 + 1)) fun r29 =>
(cond (decide (r29 < 0))
(k (-1))
(self a0 r29 fun r30 =>
k r30)))
(k (-1)))))))
(cond ((bt a0 a1) == 101)
(cond ((bt a0 a1) == 101)
(k (w64 (a1 + 1)))
(cond ((bt a0 a1) == 33)
(self a0 (w64 (a1 + 1)) fun r31 =>
k r31)
(cond ((bt a0 a1) == 38)
(cond ((bt a0 a1) == 38)
(self a0 (w64 (a1 + 1)) fun r32 =>
(cond (decide (r32 < 0))
(k (-1))
(self a0 r32 fun r33 =>
k r33)))
(k (-1)))
(cond ((bt a0 a1) == 124)
(cond ((bt a0 a1) == 124)
(self a0 (w64 (a1 + 1)) fun r34 =>
(cond (decide (r34 < 0))
(k (-1))
(self a0 r34 fun r35 =>
k r35)))
(k (-1)))
(cond ((bt a0 a1) == 94)
(self a0 (w64 (a1 + 1)) fun r36 =>
(cond (decide (r36 < 0))
(k (-1))
(self a0 r36 fun r37 =>
k r37)))
(k (-1)))))))
(cond ((bt a0 a1) == 48)
(cond ((bt a0 a1) == 48)
(k (w64 (a1 + 1)))
(cond ((bt a0 a1) == 33)
(self a0 (w64 (a1 + 1)) fun r38 =>
k r38)
(cond ((bt a0 a1) == 38)
(cond ((bt a0 a1) == 38)
(self a0 (w64 (a1 + 1)) fun r39 =>
(cond (decide (r39 < 0))
(k (-1))
(self a0 r39 fun r40 =>
k r40)))
(k (-1)))
(cond ((bt a0 a1) == 124)
(cond ((bt a0 a1) == 124)
(self a0 (w64 (a1 + 1)) fun r41 =>
(cond (decide (r41 < 0))
(k (-1))
(self a0 r41 fun r42 =>
k r42)))
(k (-1)))
(cond ((bt a0 a1) == 94)
(self a0 (w64 (a1 + 1)) fun r43 =>
(cond (decide (r43 < 0))
(k (-1))
(self a0 r43 fun r44 =>
k r44)))
(k (-1)))))))
(cond ((bt a0 a1) == 49)
(k (w64 (a1 + 1)))
(cond ((bt a0 a1) == 33)
(self a0 (w64 (a1 + 1)) fun r45 =>
k r45)
(cond ((bt a0 a1) == 38)
(cond ((bt a0 a1) == 38)
(self a0 (w64 (a1 + 1)) fun r46 =>
(cond (decide (r46 < 0))
(k (-1))
(self a0 r46 fun r47 =>
k r47)))
(k (-1)))
(cond ((bt a0 a1) == 124)
(cond ((bt a0 a1) == 124)
(self a0 (w64 (a1 + 1)) fun r48 =>
(cond (decide (r48 < 0))
(k (-1))
(self a0 r48 fun r49 =>
k r49)))
(k (-1)))
(cond ((bt a0 a1) == 94)
(self a0 (w64 (a1 + 1)) fun r50 =>
(cond (decide (r50 < 0))
(k (-1))
(self a0 r50 fun r51 =>
k r51)))
(k (-1))))))))))))))))
def aeA := aa8 (β := β) N
def oK (N : Nat) : Nat -> ByteArray -> Int -> (Int -> O β) -> O β
 | 0, _, _, _ => none
 | F + 1, a0, a1, k => aeA N (oK N F) a0 a1 k
def VX := oK (β := β) N N
def aa9 (N : Nat) (a0 : ByteArray) (k : Bool -> O β) : O β :=
(cond (decide ((a0.size : Int) <= 60))
(cond (decide ((a0.size : Int) > 0))
(ajG a0 0 fun r2 =>
k (r2 == (a0.size : Int)))
(k false))
(k false))
def wD := aa9 (β := β) (VX N) N
def aba (N : Nat) (self : ByteArray -> Int -> Int -> (Bool -> O β) -> O β) (a0 : ByteArray) (a1 a2 : Int) (k : Bool -> O β) : O β :=
(gd (decide (0 <= a1))
(gd (decide (a1 < (a0.size : Int)))
(cond ((bt a0 a1) == 48)
(k false)
(cond ((bt a0 a1) == 49)
(k true)
(cond ((bt a0 a1) == 33)
(self a0 (w64 (a1 + 1)) a2 fun r4 =>
k (!r4))
(cond ((bt a0 a1) == 38)
(self a0 (w64 (a1 + 1)) a2 fun r5 =>
(cond r5
(ajG a0 (w64 (a1 + 1)) fun r6 =>
self a0 r6 a2 fun r7 =>
k r7)
(k false)))
(cond ((bt a0 a1) == 124)
(self a0 (w64 (a1 + 1)) a2 fun r8 =>
(cond r8
(k true)
(ajG a0 (w64 (a1 + 1)) fun r9 =>
self a0 r9 a2 fun r10 =>
k r10)))
(cond ((bt a0 a1) == 94)
(self a0 (w64 (a1 + 1)) a2 fun r11 =>
ajG a0 (w64 (a1 + 1)) fun r12 =>
self a0 r12 a2 fun r13 =>
k (!(r11 == r13)))
(gd (decide (0 <= a1))
(gd (decide (a1 < (a0.size : Int)))
(gd (decide (0 <= (w8 ((bt a0 a1) - 97))))
(k ((bits .and .i64 (cW .i64 a2 (w8 ((bt a0 a1) - 97))) 1) == 1)))))))))))))
def aeB := aba (β := β) (VX N) N
def vV (N : Nat) : Nat -> ByteArray -> Int -> Int -> (Bool -> O β) -> O β
 | 0, _, _, _, _ => none
 | F + 1, a0, a1, a2, k => aeB N (vV N F) a0 a1 a2 k
def aeC := vV (β := β) N N
def VR (N : Nat) (v0 : ByteArray) (v1 v2 v3 v4 : Int) (rec_ : ByteArray -> Int -> Int -> Int -> Int -> O β) (k0 : Bool -> Int -> Int -> O β) (k1 : ByteArray -> Int -> Int -> Int -> O β) : O β :=
(cond (decide (v2 < (v0.size : Int)))
(gd (decide (0 <= v2))
(gd (decide (v2 < (v0.size : Int)))
(cond (decide ((bt v0 v2) >= 97))
(gd (decide (0 <= v2))
(gd (decide (v2 < (v0.size : Int)))
(cond (decide ((bt v0 v2) <= 101))
(gd (decide (0 <= v2))
(gd (decide (v2 < (v0.size : Int)))
(cond (decide ((w64 (w8 ((bt v0 v2) - 97))) >= v1))
(k0 false 0 0)
(rec_ v0 v1 (w64 (v2 + 1)) v3 v4))))
(rec_ v0 v1 (w64 (v2 + 1)) v3 v4))))
(rec_ v0 v1 (w64 (v2 + 1)) v3 v4))))
(k1 v0 v1 v3 v4))
def abm := VR (β := β) N
def vW (N : Nat) : Nat -> ByteArray -> Int -> Int -> Int -> Int -> (Bool -> Int -> Int -> O β) -> (ByteArray -> Int -> Int -> Int -> O β) -> O β
 | 0, _, _, _, _, _, _, _ => none
 | F + 1, v0, v1, v2, v3, v4, k0, k1 => abm N v0 v1 v2 v3 v4 (fun v0 v1 v2 v3 v4 => vW N F v0 v1 v2 v3 v4 k0 k1) k0 k1
def VS (N : Nat) (v0 : ByteArray) (v1 v2 v3 v4 v5 : Int) (rec_ : ByteArray -> Int -> Int -> Int -> Int -> Int -> O β) (k0 : Int -> Int -> Int -> Int -> O β) : O β :=
(gd (decide (0 <= v1))
(cond (decide (v3 < (aW .i64 1 v1)))
(ajW v0 0 v3 fun r9 =>
(cond r9
(gd (decide (0 <= v3))
(rec_ v0 v1 (bits .or .i64 v2 (aW .i64 1 v3)) (w64 (v3 + 1)) v4 v5))
(rec_ v0 v1 v2 (w64 (v3 + 1)) v4 v5)))
(k0 v1 v2 v4 v5)))
def abn := VS (β := β) (aeC N) N
def vX (N : Nat) : Nat -> ByteArray -> Int -> Int -> Int -> Int -> Int -> (Int -> Int -> Int -> Int -> O β) -> O β
 | 0, _, _, _, _, _, _, _ => none
 | F + 1, v0, v1, v2, v3, v4, v5, k0 => abn N v0 v1 v2 v3 v4 v5 (fun v0 v1 v2 v3 v4 v5 => vX N F v0 v1 v2 v3 v4 v5 k0) k0
def Li (a0 : ByteArray) (a1 : Int) (k : Int -> Int -> Bool -> O β) : O β :=
ah5 a0 fun r5 =>
(cond (!r5)
(k 0 0 false)
(agV a1 0 5 fun r6 =>
(cond (!r6)
(k 0 0 false)
(air N a0 a1 0 0 0 (fun aA aB aC =>
k aB aC aA) (fun aD aE aF aG =>
ais N aD aE 0 0 aF aG (fun aH aI aJ aK =>
k aH aI true))))))
def vY := Li (β := β) (bK N) (wD N) (vW N) (vX N) N
def HF (N : Nat) (a0 : ByteArray) (a1 : Int) (a2 : ByteArray) (k : Int -> Int -> Bool -> O β) : O β :=
agV a1 0 4 fun r6 =>
(cond (!r6)
(k 0 0 false)
(cond (a0.toList == (aq [116, 97, 98, 108, 101]).toList)
(ai8 a2 fun r7 r8 r9 =>
(cond (!r9)
(k 0 0 false)
(cond (r7 != a1)
(k 0 0 false)
(k r7 r8 true))))
(cond (a0.toList == (aq [97, 110, 102]).toList)
(aje a1 a2 fun r10 r11 r12 =>
k r10 r11 r12)
(cond (a0.toList == (aq [115, 117, 109]).toList)
(ajh a1 a2 fun r13 r14 =>
(cond (!r14)
(k 0 0 false)
(ajk a1 r13 fun r15 r16 r17 =>
k r15 r16 r17)))
(cond (a0.toList == (aq [116, 114, 101, 101]).toList)
(ajm a2 a1 fun r18 r19 r20 =>
k r18 r19 r20)
(cond (a0.toList == (aq [102, 111, 114, 109, 117, 108, 97]).toList)
(ajF a2 a1 fun r21 r22 r23 =>
k r21 r22 r23)
(k 0 0 false)))))))
def vF := HF (β := β) (bK N) (DK N) (wz N) (vQ N) (FI N) (AB N) (vY N) N
def HG (N : Nat) (v0 : ByteArray) (v1 v2 v3 : Int) (rec_ : ByteArray -> Int -> Int -> Int -> O β) (k0 : ByteArray -> O β) : O β :=
ag5 v2 v3 fun r3 =>
(cond r3
(gd (decide (0 <= v2))
(cond (decide (v1 < (aW .i64 1 v2)))
(gd (decide (0 <= v1))
(cond ((bits .and .i64 (cW .i64 v3 v1) 1) == 1)
(gd (decide (v0.size + (aq [49]).size <= 9223372036854775807))
(rec_ (v0 ++ (aq [49])) (w64 (v1 + 1)) v2 v3))
(gd (decide (v0.size + (aq [48]).size <= 9223372036854775807))
(rec_ (v0 ++ (aq [48])) (w64 (v1 + 1)) v2 v3))))
(k0 v0)))
(k0 v0))
def Qb := HG (β := β) (eT N) N
def m3 (N : Nat) : Nat -> ByteArray -> Int -> Int -> Int -> (ByteArray -> O β) -> O β
 | 0, _, _, _, _, _ => none
 | F + 1, v0, v1, v2, v3, k0 => Qb N v0 v1 v2 v3 (fun v0 v1 v2 v3 => m3 N F v0 v1 v2 v3 k0) k0
def W1 (a0 a1 : Int) (k : ByteArray -> O β) : O β :=
aiu N ByteArray.empty 0 a0 a1 (fun aA =>
k aA)
def Du := W1 (β := β) (m3 N) N
def Pg (N : Nat) (a0 a1 a2 a3 : Int) (k : Bool -> O β) : O β :=
ahh a0 a2 a3 fun r5 =>
k ((bits .and .i64 r5 a1) == r5)
def rx := Pg (β := β) (oJ N) N
def HH (N : Nat) (v0 v1 v2 v3 v4 : Int) (rec_ : Int -> Int -> Int -> Int -> Int -> O β) (k0 : Bool -> O β) (k1 : O β) : O β :=
(cond (decide (v0 < v1))
(gd (decide (0 <= v0))
(cond ((bits .and .i64 v3 (aW .i64 1 v0)) != 0)
(ahZ v1 v2 (w64 (v3 - (aW .i64 1 v0))) (w64 (v4 - (bits .and .i64 v4 (aW .i64 1 v0)))) fun r6 =>
(cond r6
(k0 false)
(rec_ (w64 (v0 + 1)) v1 v2 v3 v4)))
(rec_ (w64 (v0 + 1)) v1 v2 v3 v4)))
(k1 ))
def Qc := HH (β := β) (rx N) N
def m4 (N : Nat) : Nat -> Int -> Int -> Int -> Int -> Int -> (Bool -> O β) -> (O β) -> O β
 | 0, _, _, _, _, _, _, _ => none
 | F + 1, v0, v1, v2, v3, v4, k0, k1 => Qc N v0 v1 v2 v3 v4 (fun v0 v1 v2 v3 v4 => m4 N F v0 v1 v2 v3 v4 k0 k1) k0 k1
def Ph (a0 a1 a2 a3 : Int) (k : Bool -> O β) : O β :=
ahZ a0 a1 a2 a3 fun r5 =>
(cond (!r5)
(k false)
(aiw N 0 a0 a1 a2 a3 (fun aA =>
k aA) (k true)))
def ry := Ph (β := β) (rx N) (m4 N) N
def HI (N : Nat) (v0 v1 v2 v3 : Int) (v4 : List (Int × Int)) (rec_ : Int -> Int -> Int -> Int -> List (Int × Int) -> O β) (k0 : Int -> Int -> Int -> List (Int × Int) -> O β) : O β :=
(cond (decide (v1 <= v0))
(cond ((bits .and .i64 v1 v0) == v1)
(ah6 v2 v3 v0 v1 fun r3 =>
(cond r3
(gd (decide ((v4.length + (([] : List (Int × Int)) ++ [(v0, v1)]).length) * 16 <= 140737488355328))
(rec_ v0 (w64 (v1 + 1)) v2 v3 (v4 ++ (([] : List (Int × Int)) ++ [(v0, v1)]))))
(rec_ v0 (w64 (v1 + 1)) v2 v3 v4)))
(rec_ v0 (w64 (v1 + 1)) v2 v3 v4))
(k0 v0 v2 v3 v4))
def Qd := HI (β := β) (ry N) N
def lS (N : Nat) : Nat -> Int -> Int -> Int -> Int -> List (Int × Int) -> (Int -> Int -> Int -> List (Int × Int) -> O β) -> O β
 | 0, _, _, _, _, _, _ => none
 | F + 1, v0, v1, v2, v3, v4, k0 => Qd N v0 v1 v2 v3 v4 (fun v0 v1 v2 v3 v4 => lS N F v0 v1 v2 v3 v4 k0) k0
def HJ (v0 v1 v2 : Int) (v3 : List (Int × Int)) (rec_ : Int -> Int -> Int -> List (Int × Int) -> O β) (k0 : List (Int × Int) -> O β) : O β :=
(gd (decide (0 <= v1))
(cond (decide (v0 < (aW .i64 1 v1)))
(ah7 N v0 0 v1 v2 v3 (fun aA aB aC aD =>
rec_ (w64 (aA + 1)) aB aC aD))
(k0 v3)))
def Qe := HJ (β := β) (lS N) N
def iR (N : Nat) : Nat -> Int -> Int -> Int -> List (Int × Int) -> (List (Int × Int) -> O β) -> O β
 | 0, _, _, _, _, _ => none
 | F + 1, v0, v1, v2, v3, k0 => Qe N v0 v1 v2 v3 (fun v0 v1 v2 v3 => iR N F v0 v1 v2 v3 k0) k0
def Pi (a0 a1 : Int) (k : List (Int × Int) -> O β) : O β :=
ah8 N 0 a0 a1 ([] : List (Int × Int)) (fun aA =>
k aA)
def vG := Pi (β := β) (iR N) N
def HK (N : Nat) (self : Int -> Int -> List (Int × Int) -> Int -> Int -> Int -> (List (Int × Int) -> Bool -> O β) -> O β) (v0 : List (Int × Int)) (v1 v2 v3 v4 v5 : Int) (rec_ : List (Int × Int) -> Int -> Int -> Int -> Int -> Int -> O β) (k0 : Bool -> List (Int × Int) -> O β) (k1 : O β) : O β :=
(cond (decide (v3 < (v0.length : Int)))
(gd (decide (0 <= v3))
(gd (decide (v3 < (v0.length : Int)))
(ahh v4 ((rd (0, 0) v0 v3).1) ((rd (0, 0) v0 v3).2) fun r8 =>
(cond ((bits .and .i64 r8 v1) == 0)
(rec_ v0 v1 v2 (w64 (v3 + 1)) v4 v5)
(self v4 v5 v0 (w64 (v3 + 1)) (w64 (v1 - (bits .and .i64 v1 r8))) (w64 (v2 - 1)) fun r9 r10 =>
(cond r10
(gd (decide (0 <= v3))
(gd (decide (v3 < (v0.length : Int)))
(gd (decide (((([] : List (Int × Int)) ++ [((rd (0, 0) v0 v3).1, (rd (0, 0) v0 v3).2)]).length + r9.length) * 16 <= 140737488355328))
(k0 true ((([] : List (Int × Int)) ++ [((rd (0, 0) v0 v3).1, (rd (0, 0) v0 v3).2)]) ++ r9)))))
(rec_ v0 v1 v2 (w64 (v3 + 1)) v4 v5)))))))
(k1 ))
def Qf := HK (β := β) (oJ N) N
def m5 (N : Nat) (self : Int -> Int -> List (Int × Int) -> Int -> Int -> Int -> (List (Int × Int) -> Bool -> O β) -> O β) : Nat -> List (Int × Int) -> Int -> Int -> Int -> Int -> Int -> (Bool -> List (Int × Int) -> O β) -> (O β) -> O β
 | 0, _, _, _, _, _, _, _, _ => none
 | F + 1, v0, v1, v2, v3, v4, v5, k0, k1 => Qf N self v0 v1 v2 v3 v4 v5 (fun v0 v1 v2 v3 v4 v5 => m5 N self F v0 v1 v2 v3 v4 v5 k0 k1) k0 k1
def yi (self : Int -> Int -> List (Int × Int) -> Int -> Int -> Int -> (List (Int × Int) -> Bool -> O β) -> O β) (a0 a1 : Int) (a2 : List (Int × Int)) (a3 a4 a5 : Int) (k : List (Int × Int) -> Bool -> O β) : O β :=
(cond (a4 == 0)
(k ([] : List (Int × Int)) true)
(cond (a5 == 0)
(k ([] : List (Int × Int)) false)
(aix self N a2 a4 a5 a3 a0 a1 (fun aA aB =>
k aB aA) (k ([] : List (Int × Int)) false))))
def Dv := yi (β := β) (m5 N) N
def eD (N : Nat) : Nat -> Int -> Int -> List (Int × Int) -> Int -> Int -> Int -> (List (Int × Int) -> Bool -> O β) -> O β
 | 0, _, _, _, _, _, _, _ => none
 | F + 1, a0, a1, a2, a3, a4, a5, k => Dv N (eD N F) a0 a1 a2 a3 a4 a5 k
def aer := eD (β := β) N N
def Df (N : Nat) (v0 v1 v2 : Int) (v3 : List (Int × Int)) (rec_ : Int -> Int -> Int -> List (Int × Int) -> O β) (k0 : Bool -> List (Int × Int) -> O β) (k1 : O β) : O β :=
(cond (decide (v0 <= 8))
(ajJ v1 v2 v3 0 v2 v0 fun r6 r7 =>
(cond r7
(k0 true r6)
(rec_ (w64 (v0 + 1)) v1 v2 v3)))
(k1 ))
def Im := Df (β := β) (aer N) N
def lT (N : Nat) : Nat -> Int -> Int -> Int -> List (Int × Int) -> (Bool -> List (Int × Int) -> O β) -> (O β) -> O β
 | 0, _, _, _, _, _, _ => none
 | F + 1, v0, v1, v2, v3, k0, k1 => Im N v0 v1 v2 v3 (fun v0 v1 v2 v3 => lT N F v0 v1 v2 v3 k0 k1) k0 k1
def Pj (a0 a1 : Int) (k : List (Int × Int) -> Bool -> O β) : O β :=
ag5 a0 a1 fun r4 =>
(cond (!r4)
(k ([] : List (Int × Int)) false)
(cond (decide (a0 > 4))
(k ([] : List (Int × Int)) false)
(ah9 a0 a1 fun r5 =>
aiy N 0 a0 a1 r5 (fun aA aB =>
k aB aA) (k ([] : List (Int × Int)) false))))
def yl := Pj (β := β) (eT N) (vG N) (lT N) N
def HL (N : Nat) (v0 : Int) (v1 : List (Int × Int)) (v2 : ByteArray) (v3 : Int) (rec_ : Int -> List (Int × Int) -> ByteArray -> Int -> O β) (k0 : Int -> List (Int × Int) -> ByteArray -> O β) : O β :=
(cond (decide (v3 < (v1.length : Int)))
(ahs v0 v1 fun r3 =>
(cond r3
(cond (decide (v3 > 0))
(gd (decide (v2.size + (aq [124]).size <= 9223372036854775807))
(gd (decide (0 <= v3))
(gd (decide (v3 < (v1.length : Int)))
(ahe v0 ((rd (0, 0) v1 v3).1) ((rd (0, 0) v1 v3).2) fun r4 =>
(gd (decide ((v2 ++ (aq [124])).size + r4.size <= 9223372036854775807))
(rec_ v0 v1 ((v2 ++ (aq [124])) ++ r4) (w64 (v3 + 1))))))))
(gd (decide (0 <= v3))
(gd (decide (v3 < (v1.length : Int)))
(ahe v0 ((rd (0, 0) v1 v3).1) ((rd (0, 0) v1 v3).2) fun r5 =>
(gd (decide (v2.size + r5.size <= 9223372036854775807))
(rec_ v0 v1 (v2 ++ r5) (w64 (v3 + 1))))))))
(k0 v0 v1 v2)))
(k0 v0 v1 v2))
def Qg := HL (β := β) (ja N) (oI N) N
def m6 (N : Nat) : Nat -> Int -> List (Int × Int) -> ByteArray -> Int -> (Int -> List (Int × Int) -> ByteArray -> O β) -> O β
 | 0, _, _, _, _, _ => none
 | F + 1, v0, v1, v2, v3, k0 => Qg N v0 v1 v2 v3 (fun v0 v1 v2 v3 => m6 N F v0 v1 v2 v3 k0) k0
def Pk (a0 : Int) (a1 : List (Int × Int)) (k : ByteArray -> O β) : O β :=
aiA N a0 a1 ByteArray.empty 0 (fun aA aB aC =>
(cond (aC.toList == ByteArray.empty.toList)
(ahs aA aB fun r7 =>
(cond r7
(k (aq [48]))
(k aC)))
(k aC)))
def ym := Pk (β := β) (oI N) (m6 N) N
def Pl (N : Nat) (v0 v1 v2 v3 v4 v5 : Int) (rec_ : Int -> Int -> Int -> Int -> Int -> Int -> O β) (k0 k1 : Int -> O β) : O β :=
(gd (decide (0 <= v4))
(cond (decide (v3 < (aW .i64 1 v4)))
(cond ((bits .and .i64 v3 v0) != v1)
(rec_ v0 v1 v2 (w64 (v3 + 1)) v4 v5)
(gd (decide (0 <= v3))
(cond (decide (v2 >= 0))
(cond (v2 != (bits .and .i64 (cW .i64 v5 v3) 1))
(k0 2)
(rec_ v0 v1 (bits .and .i64 (cW .i64 v5 v3) 1) (w64 (v3 + 1)) v4 v5))
(rec_ v0 v1 (bits .and .i64 (cW .i64 v5 v3) 1) (w64 (v3 + 1)) v4 v5))))
(k1 v2)))
def W3 := Pl (β := β) N
def pL (N : Nat) : Nat -> Int -> Int -> Int -> Int -> Int -> Int -> (Int -> O β) -> (Int -> O β) -> O β
 | 0, _, _, _, _, _, _, _, _ => none
 | F + 1, v0, v1, v2, v3, v4, v5, k0, k1 => W3 N v0 v1 v2 v3 v4 v5 (fun v0 v1 v2 v3 v4 v5 => pL N F v0 v1 v2 v3 v4 v5 k0 k1) k0 k1
def Pm (a0 a1 a2 a3 : Int) (k : Int -> O β) : O β :=
aiC N a2 a3 (-1) 0 a0 a1 (fun aA =>
k aA) (fun aB =>
k aB)
def lU := Pm (β := β) (pL N) N
def HM (N : Nat) (self : Int -> Int -> Int -> Int -> (Int -> O β) -> O β) (v0 v1 v2 v3 v4 v5 : Int) (rec_ : Int -> Int -> Int -> Int -> Int -> Int -> O β) (k0 : Int -> O β) : O β :=
(cond (decide (v3 < v4))
(gd (decide (0 <= v3))
(cond ((bits .and .i64 v0 (aW .i64 1 v3)) == 0)
(self v4 v5 (bits .or .i64 v0 (aW .i64 1 v3)) v1 fun r6 =>
self v4 v5 (bits .or .i64 v0 (aW .i64 1 v3)) (bits .or .i64 v1 (aW .i64 1 v3)) fun r7 =>
rec_ v0 v1 (mnI v2 (w64 (1 + (mxI r6 r7)))) (w64 (v3 + 1)) v4 v5)
(rec_ v0 v1 v2 (w64 (v3 + 1)) v4 v5)))
(k0 v2))
def Qh := HM (β := β) N
def m7 (N : Nat) (self : Int -> Int -> Int -> Int -> (Int -> O β) -> O β) : Nat -> Int -> Int -> Int -> Int -> Int -> Int -> (Int -> O β) -> O β
 | 0, _, _, _, _, _, _, _ => none
 | F + 1, v0, v1, v2, v3, v4, v5, k0 => Qh N self v0 v1 v2 v3 v4 v5 (fun v0 v1 v2 v3 v4 v5 => m7 N self F v0 v1 v2 v3 v4 v5 k0) k0
def Pn (self : Int -> Int -> Int -> Int -> (Int -> O β) -> O β) (a0 a1 a2 a3 : Int) (k : Int -> O β) : O β :=
ahy a0 a1 a2 a3 fun r5 =>
(cond (decide (r5 < 2))
(k 0)
(aiD self N a2 a3 10 0 a0 a1 (fun aA =>
k aA)))
def W4 := Pn (β := β) (lU N) (m7 N) N
def gh (N : Nat) : Nat -> Int -> Int -> Int -> Int -> (Int -> O β) -> O β
 | 0, _, _, _, _, _ => none
 | F + 1, a0, a1, a2, a3, k => W4 N (gh N F) a0 a1 a2 a3 k
def Qj := gh (β := β) N N
def Po (N : Nat) (self : Int -> Int -> Int -> Int -> (ByteArray -> O β) -> O β) (v0 v1 v2 v3 v4 v5 : Int) (rec_ : Int -> Int -> Int -> Int -> Int -> Int -> O β) (k0 : ByteArray -> O β) (k1 : O β) : O β :=
(cond (decide (v3 < v4))
(gd (decide (0 <= v3))
(cond ((bits .and .i64 v0 (aW .i64 1 v3)) == 0)
(ajH v4 v5 (bits .or .i64 v0 (aW .i64 1 v3)) v1 fun r7 =>
ajH v4 v5 (bits .or .i64 v0 (aW .i64 1 v3)) (bits .or .i64 v1 (aW .i64 1 v3)) fun r8 =>
(cond ((w64 (1 + (mxI r7 r8))) == v2)
(gd (decide (0 <= (w64 (v3 + 1))))
(gd (decide ((w64 (v3 + 1)) <= ((aq [97, 98, 99, 100, 101]).size : Int)))
(gd (decide (0 <= v3))
(gd (decide (v3 <= (w64 (v3 + 1))))
(self v4 v5 (bits .or .i64 v0 (aW .i64 1 v3)) v1 fun r9 =>
(gd (decide (((aq [97, 98, 99, 100, 101]).extract (Int.toNat v3) (Int.toNat (w64 (v3 + 1)))).size + r9.size <= 9223372036854775807))
(self v4 v5 (bits .or .i64 v0 (aW .i64 1 v3)) (bits .or .i64 v1 (aW .i64 1 v3)) fun r10 =>
(gd (decide ((((aq [97, 98, 99, 100, 101]).extract (Int.toNat v3) (Int.toNat (w64 (v3 + 1)))) ++ r9).size + r10.size <= 9223372036854775807))
(k0 ((((aq [97, 98, 99, 100, 101]).extract (Int.toNat v3) (Int.toNat (w64 (v3 + 1)))) ++ r9) ++ r10))))))))))
(rec_ v0 v1 v2 (w64 (v3 + 1)) v4 v5)))
(rec_ v0 v1 v2 (w64 (v3 + 1)) v4 v5)))
(k1 ))
def W5 := Po (β := β) (Qj N) N
def m8 (N : Nat) (self : Int -> Int -> Int -> Int -> (ByteArray -> O β) -> O β) : Nat -> Int -> Int -> Int -> Int -> Int -> Int -> (ByteArray -> O β) -> (O β) -> O β
 | 0, _, _, _, _, _, _, _, _ => none
 | F + 1, v0, v1, v2, v3, v4, v5, k0, k1 => W5 N self v0 v1 v2 v3 v4 v5 (fun v0 v1 v2 v3 v4 v5 => m8 N self F v0 v1 v2 v3 v4 v5 k0 k1) k0 k1
def Pp (self : Int -> Int -> Int -> Int -> (ByteArray -> O β) -> O β) (a0 a1 a2 a3 : Int) (k : ByteArray -> O β) : O β :=
ahy a0 a1 a2 a3 fun r5 =>
(cond (decide (r5 < 2))
(gd (decide (0 <= (w64 (r5 + 1))))
(gd (decide ((w64 (r5 + 1)) <= ((aq [48, 49]).size : Int)))
(gd (decide (0 <= r5))
(gd (decide (r5 <= (w64 (r5 + 1))))
(k ((aq [48, 49]).extract (Int.toNat r5) (Int.toNat (w64 (r5 + 1)))))))))
(ajH a0 a1 a2 a3 fun r6 =>
aiE self N a2 a3 r6 0 a0 a1 (fun aA =>
k aA) (k ByteArray.empty)))
def W6 := Pp (β := β) (lU N) (Qj N) (m8 N) N
def gj (N : Nat) : Nat -> Int -> Int -> Int -> Int -> (ByteArray -> O β) -> O β
 | 0, _, _, _, _, _ => none
 | F + 1, a0, a1, a2, a3, k => W6 N (gj N F) a0 a1 a2 a3 k
def aes := gj (β := β) N N
def Pq (N : Nat) (a0 a1 : Int) (k : ByteArray -> Bool -> O β) : O β :=
ag5 a0 a1 fun r4 =>
(cond (!r4)
(k ByteArray.empty false)
(cond (decide (a0 > 4))
(k ByteArray.empty false)
(ajK a0 a1 0 0 fun r5 =>
k r5 true)))
def yn := Pq (β := β) (eT N) (aes N) N
def Pr (N : Nat) (a0 : Int) (k : Int -> O β) : O β :=
(gd (decide (0 <= a0))
(gd (decide (0 <= (aW .u64 1 a0)))
(k (w64 ((aW .i64 1 (aW .u64 1 a0)) - 1)))))
def iT := Pr (β := β) N
def HN (N : Nat) (v0 : List Int) (v1 v2 v3 : Int) (rec_ : List Int -> Int -> Int -> Int -> O β) (k0 : ByteArray -> O β) (k1 : List Int -> Int -> Int -> O β) : O β :=
(cond (decide (v3 < v1))
(gd (decide (0 <= v2))
(gd (decide (v2 < (v0.length : Int)))
(cond ((rd 0 v0 v2) == 1)
(ahH v1 v3 fun r5 =>
(cond (v2 == r5)
(gd (decide (0 <= (w64 (v3 + 1))))
(gd (decide ((w64 (v3 + 1)) <= ((aq [97, 98, 99, 100, 101]).size : Int)))
(gd (decide (0 <= v3))
(gd (decide (v3 <= (w64 (v3 + 1))))
(k0 ((aq [97, 98, 99, 100, 101]).extract (Int.toNat v3) (Int.toNat (w64 (v3 + 1)))))))))
(ahj v1 fun r6 =>
ahH v1 v3 fun r7 =>
(cond (v2 == (w64 (r6 - r7)))
(gd (decide (0 <= (w64 (v3 + 1))))
(gd (decide ((w64 (v3 + 1)) <= ((aq [97, 98, 99, 100, 101]).size : Int)))
(gd (decide (0 <= v3))
(gd (decide (v3 <= (w64 (v3 + 1))))
(gd (decide ((aq [33]).size + ((aq [97, 98, 99, 100, 101]).extract (Int.toNat v3) (Int.toNat (w64 (v3 + 1)))).size <= 9223372036854775807))
(k0 ((aq [33]) ++ ((aq [97, 98, 99, 100, 101]).extract (Int.toNat v3) (Int.toNat (w64 (v3 + 1)))))))))))
(rec_ v0 v1 v2 (w64 (v3 + 1)))))))
(k1 v0 v1 v2))))
(k1 v0 v1 v2))
def Dw := HN (β := β) (Ay N) (iT N) N
def lV (N : Nat) : Nat -> List Int -> Int -> Int -> Int -> (ByteArray -> O β) -> (List Int -> Int -> Int -> O β) -> O β
 | 0, _, _, _, _, _, _ => none
 | F + 1, v0, v1, v2, v3, k0, k1 => Dw N v0 v1 v2 v3 (fun v0 v1 v2 v3 => lV N F v0 v1 v2 v3 k0 k1) k0 k1
def HO (N : Nat) (self : List Int -> Int -> Int -> (ByteArray -> O β) -> O β) (v0 : List Int) (v1 v2 v3 v4 v5 : Int) (rec_ : List Int -> Int -> Int -> Int -> Int -> Int -> O β) (k0 : ByteArray -> O β) (k1 : List Int -> Int -> Int -> Int -> Int -> O β) : O β :=
ahj v1 fun r11 =>
(cond (decide (v5 < r11))
(gd (decide (0 <= v4))
(gd (decide (v4 < (v0.length : Int)))
(gd (decide (0 <= v5))
(gd (decide (v5 < (v0.length : Int)))
(gd (decide (0 <= v2))
(gd (decide (v2 < (v0.length : Int)))
(cond ((w64 ((rd 0 v0 v4) + (rd 0 v0 v5))) != (rd 0 v0 v2))
(rec_ v0 v1 v2 v3 v4 (w64 (v5 + 1)))
(cond (v3 == 0)
(cond ((bits .and .i64 v4 v5) == v2)
(self v0 v1 v4 fun r12 =>
(gd (decide ((aq [38]).size + r12.size <= 9223372036854775807))
(self v0 v1 v5 fun r13 =>
(gd (decide (((aq [38]) ++ r12).size + r13.size <= 9223372036854775807))
(k0 (((aq [38]) ++ r12) ++ r13))))))
(cond (v3 == 1)
(cond ((bits .or .i64 v4 v5) == v2)
(self v0 v1 v4 fun r14 =>
(gd (decide ((aq [124]).size + r14.size <= 9223372036854775807))
(self v0 v1 v5 fun r15 =>
(gd (decide (((aq [124]) ++ r14).size + r15.size <= 9223372036854775807))
(k0 (((aq [124]) ++ r14) ++ r15))))))
(rec_ v0 v1 v2 v3 v4 (w64 (v5 + 1))))
(rec_ v0 v1 v2 v3 v4 (w64 (v5 + 1)))))
(cond (v3 == 1)
(cond ((bits .or .i64 v4 v5) == v2)
(self v0 v1 v4 fun r16 =>
(gd (decide ((aq [124]).size + r16.size <= 9223372036854775807))
(self v0 v1 v5 fun r17 =>
(gd (decide (((aq [124]) ++ r16).size + r17.size <= 9223372036854775807))
(k0 (((aq [124]) ++ r16) ++ r17))))))
(rec_ v0 v1 v2 v3 v4 (w64 (v5 + 1))))
(rec_ v0 v1 v2 v3 v4 (w64 (v5 + 1))))))))))))
(k1 v0 v1 v2 v3 v4))
def Dx := HO (β := β) (iT N) N
def lW (N : Nat) (self : List Int -> Int -> Int -> (ByteArray -> O β) -> O β) : Nat -> List Int -> Int -> Int -> Int -> Int -> Int -> (ByteArray -> O β) -> (List Int -> Int -> Int -> Int -> Int -> O β) -> O β
 | 0, _, _, _, _, _, _, _, _ => none
 | F + 1, v0, v1, v2, v3, v4, v5, k0, k1 => Dx N self v0 v1 v2 v3 v4 v5 (fun v0 v1 v2 v3 v4 v5 => lW N self F v0 v1 v2 v3 v4 v5 k0 k1) k0 k1
def HP (self : List Int -> Int -> Int -> (ByteArray -> O β) -> O β) (v0 : List Int) (v1 v2 v3 v4 : Int) (rec_ : List Int -> Int -> Int -> Int -> Int -> O β) (k0 : ByteArray -> O β) (k1 : List Int -> Int -> Int -> Int -> O β) : O β :=
ahj v1 fun r10 =>
(cond (decide (v4 < r10))
(gd (decide (0 <= v4))
(gd (decide (v4 < (v0.length : Int)))
(gd (decide (0 <= v2))
(gd (decide (v2 < (v0.length : Int)))
(cond (decide ((rd 0 v0 v4) >= (rd 0 v0 v2)))
(rec_ v0 v1 v2 v3 (w64 (v4 + 1)))
(ahQ self N v0 v1 v2 v3 v4 1 (fun aA =>
k0 aA) (fun aB aC aD aE aF =>
rec_ aB aC aD aE (w64 (aF + 1)))))))))
(k1 v0 v1 v2 v3))
def Dy := HP (β := β) (iT N) (lW N) N
def iU (N : Nat) (self : List Int -> Int -> Int -> (ByteArray -> O β) -> O β) : Nat -> List Int -> Int -> Int -> Int -> Int -> (ByteArray -> O β) -> (List Int -> Int -> Int -> Int -> O β) -> O β
 | 0, _, _, _, _, _, _, _ => none
 | F + 1, v0, v1, v2, v3, v4, k0, k1 => Dy N self v0 v1 v2 v3 v4 (fun v0 v1 v2 v3 v4 => iU N self F v0 v1 v2 v3 v4 k0 k1) k0 k1
def HQ (self : List Int -> Int -> Int -> (ByteArray -> O β) -> O β) (v0 : List Int) (v1 v2 v3 : Int) (rec_ : List Int -> Int -> Int -> Int -> O β) (k0 : ByteArray -> O β) (k1 : O β) : O β :=
(cond (decide (v3 < 2))
(ahR self N v0 v1 v2 v3 1 (fun aA =>
k0 aA) (fun aB aC aD aE =>
rec_ aB aC aD (w64 (aE + 1))))
(k1 ))
def Dz := HQ (β := β) (iU N) N
def iV (N : Nat) (self : List Int -> Int -> Int -> (ByteArray -> O β) -> O β) : Nat -> List Int -> Int -> Int -> Int -> (ByteArray -> O β) -> (O β) -> O β
 | 0, _, _, _, _, _, _ => none
 | F + 1, v0, v1, v2, v3, k0, k1 => Dz N self v0 v1 v2 v3 (fun v0 v1 v2 v3 => iV N self F v0 v1 v2 v3 k0 k1) k0 k1
def Ps (self : List Int -> Int -> Int -> (ByteArray -> O β) -> O β) (a0 : List Int) (a1 a2 : Int) (k : ByteArray -> O β) : O β :=
(cond (a2 == 0)
(k (aq [48]))
(ahj a1 fun r4 =>
(cond (a2 == r4)
(k (aq [49]))
(ahP N a0 a1 a2 0 (fun aA =>
k aA) (fun aB aC aD =>
ahS self N aB aC aD 0 (fun aE =>
k aE) (k ByteArray.empty))))))
def Qk := Ps (β := β) (iT N) (lV N) (iV N) N
def dr (N : Nat) : Nat -> List Int -> Int -> Int -> (ByteArray -> O β) -> O β
 | 0, _, _, _, _ => none
 | F + 1, a0, a1, a2, k => Qk N (dr N F) a0 a1 a2 k
def W7 := dr (β := β) N N
def Pu (a0 a1 : Int) (k : ByteArray -> Bool -> O β) : O β :=
ag5 a0 a1 fun r4 =>
(cond (!r4)
(k ByteArray.empty false)
(cond (decide (a0 > 3))
(k ByteArray.empty false)
(mY N a0 fun r5 =>
ajL r5 a0 a1 fun r6 =>
k r6 true)))
def yo := Pu (β := β) (eT N) (W7 N) N
def Pv (N : Nat) (a0 : ByteArray) (a1 a2 : Int) (k : ByteArray -> Bool -> O β) : O β :=
ag5 a1 a2 fun r5 =>
(cond (!r5)
(k ByteArray.empty false)
(cond (decide (a1 > 4))
(k ByteArray.empty false)
(cond (a0.toList == (aq [116, 97, 98, 108, 101]).toList)
(aiv a1 a2 fun r6 =>
k r6 true)
(cond (a0.toList == (aq [97, 110, 102]).toList)
(ahI a1 a2 fun r7 =>
k r7 true)
(cond (a0.toList == (aq [115, 117, 109]).toList)
(aiz a1 a2 fun r8 r9 =>
aiB a1 r8 fun r10 =>
k r10 true)
(cond (a0.toList == (aq [116, 114, 101, 101]).toList)
(aiF a1 a2 fun r11 r12 =>
k r11 r12)
(cond (a0.toList == (aq [102, 111, 114, 109, 117, 108, 97]).toList)
(aiG a1 a2 fun r13 r14 =>
k r13 r14)
(k ByteArray.empty false))))))))
def yp := Pv (β := β) (eT N) (qQ N) (Du N) (yl N) (ym N) (yn N) (yo N) N
def Pw (N : Nat) (a0 a1 : ByteArray) (a2 : Int) (a3 : ByteArray) (k : ByteArray -> Bool -> O β) : O β :=
ait a0 a2 a3 fun r6 r7 r8 =>
(cond (!r8)
(k ByteArray.empty false)
(ajo a1 r6 r7 fun r9 r10 =>
k r9 r10))
def yq := Pw (β := β) (vF N) (yp N) N
def Px (N : Nat) (a0 : ByteArray) (a1 : Int) (a2 : ByteArray) (k : Bool -> O β) : O β :=
ajp a0 a0 a1 a2 fun r4 r5 =>
(cond r5
(k (r4.toList == a2.toList))
(k false))
def DA := Px (β := β) (yq N) N
def Py (N : Nat) (a0 a1 : Int) (k : Bool -> O β) : O β :=
zq7 a0 fun r3 =>
(cond r3
(cond (decide (a1 >= 0))
(zq2 a0 a1 fun r4 =>
(gd (decide (0 <= r4))
(k ((cW .i64 a1 r4) == 0))))
(k false))
(k false))
def gm := Py (β := β) (zj2 N) (zj7 N) N
def HR (N : Nat) (v0 v1 v2 v3 : Int) (v4 : List Int) (rec_ : Int -> Int -> Int -> Int -> List Int -> O β) (k0 : List Int -> O β) : O β :=
(cond (decide (v1 < v0))
(zq3 v2 v3 v1 fun r5 =>
(gd (decide (0 <= v1))
(gd (decide (v1 < (v4.length : Int)))
(rec_ v0 (w64 (v1 + 1)) v2 v3 (wr v4 v1 (w8 (48 + (w8 (r5)))))))))
(k0 v4))
def Ql := HR (β := β) (zj3 N) N
def m9 (N : Nat) : Nat -> Int -> Int -> Int -> Int -> List Int -> (List Int -> O β) -> O β
 | 0, _, _, _, _, _, _ => none
 | F + 1, v0, v1, v2, v3, v4, k0 => Ql N v0 v1 v2 v3 v4 (fun v0 v1 v2 v3 v4 => m9 N F v0 v1 v2 v3 v4 k0) k0
def Pz (a0 a1 : Int) (k : ByteArray -> O β) : O β :=
ahi a0 a1 fun r3 =>
(cond (!r3)
(k ByteArray.empty)
(zq2 a0 a1 fun r4 =>
(gd (decide (0 <= r4))
(gd (decide (r4 <= r4))
(gd (decide (1 * r4 <= 281474976710656))
(aiI N ((List.replicate (Int.toNat r4) (0 : Int)).length : Int) 0 a0 a1 (List.replicate (Int.toNat r4) (0 : Int)) (fun aA =>
k (aq aA))))))))
def na := Pz (β := β) (zj2 N) (gm N) (m9 N) N
def Dg (N : Nat) (v0 : Int) (v1 : ByteArray) (v2 v3 : Int) (rec_ : Int -> ByteArray -> Int -> Int -> O β) (k0 : Bool -> Int -> Int -> O β) (k1 : Int -> Int -> O β) : O β :=
(cond (decide (v0 < 6))
(gd (decide (0 <= v0))
(cond ((v1.size : Int) == (aW .i64 1 v0))
(ag4 v0 (fun x0 k => zq1 x0 v1 k) fun r4 r5 =>
ahE r4 r5 fun r6 =>
(cond (!(r6.toList == v1.toList))
(k0 false 0 0)
(k0 true r4 r5)))
(rec_ (w64 (v0 + 1)) v1 v2 v3)))
(k1 v2 v3))
def In := Dg (β := β) (zj1 N) (fS N) (na N) N
def gq (N : Nat) : Nat -> Int -> ByteArray -> Int -> Int -> (Bool -> Int -> Int -> O β) -> (Int -> Int -> O β) -> O β
 | 0, _, _, _, _, _, _ => none
 | F + 1, v0, v1, v2, v3, k0, k1 => In N v0 v1 v2 v3 (fun v0 v1 v2 v3 => gq N F v0 v1 v2 v3 k0 k1) k0 k1
def HS (a0 : ByteArray) (k : Int -> Int -> Bool -> O β) : O β :=
aiJ N 0 a0 0 0 (fun aA aB aC =>
k aB aC aA) (fun aD aE =>
k 0 0 false)
def rz := HS (β := β) (gq N) N
def HT (N : Nat) (a0 : Int) (k : Bool -> O β) : O β :=
(cond (decide (a0 >= 97))
(k (decide (a0 < 102)))
(k false))
def eE := HT (β := β) N
def HU (N : Nat) (v0 v1 v2 v3 : Int) (v4 : List Int) (rec_ : Int -> Int -> Int -> Int -> List Int -> O β) (k0 : List Int -> O β) : O β :=
(cond (decide (v1 < v0))
(gd (decide (0 <= v1))
(cond ((bits .and .i64 (cW .i64 v2 v1) 1) == 0)
(rec_ v0 (w64 (v1 + 1)) v2 v3 v4)
(gd (decide (0 <= v1))
(cond ((bits .and .i64 (cW .i64 v3 v1) 1) == 0)
(gd (decide ((v4.length + (([] : List Int) ++ [33]).length) * 1 <= 140737488355328))
(gd (decide (((v4 ++ (([] : List Int) ++ [33])).length + (([] : List Int) ++ [(w8 (97 + (w8 (v1))))]).length) * 1 <= 140737488355328))
(rec_ v0 (w64 (v1 + 1)) v2 v3 ((v4 ++ (([] : List Int) ++ [33])) ++ (([] : List Int) ++ [(w8 (97 + (w8 (v1))))])))))
(gd (decide ((v4.length + (([] : List Int) ++ [(w8 (97 + (w8 (v1))))]).length) * 1 <= 140737488355328))
(rec_ v0 (w64 (v1 + 1)) v2 v3 (v4 ++ (([] : List Int) ++ [(w8 (97 + (w8 (v1))))]))))))))
(k0 v4))
def Qm := HU (β := β) N
def nb (N : Nat) : Nat -> Int -> Int -> Int -> Int -> List Int -> (List Int -> O β) -> O β
 | 0, _, _, _, _, _, _ => none
 | F + 1, v0, v1, v2, v3, v4, k0 => Qm N v0 v1 v2 v3 v4 (fun v0 v1 v2 v3 v4 => nb N F v0 v1 v2 v3 v4 k0) k0
def PB (a0 a1 a2 : Int) (k : ByteArray -> O β) : O β :=
zq9 a0 a1 a2 fun r4 =>
(cond (!r4)
(k ByteArray.empty)
(aiL N a0 0 a1 a2 ([] : List Int) (fun aA =>
(cond ((aA.length : Int) == 0)
(k (aq [49]))
(k (aq aA))))))
def jO := PB (β := β) (zj9 N) (nb N) N
def HV (N : Nat) (v0 : Int) (v1 : ByteArray) (v2 v3 v4 v5 v6 v7 v8 : Int) (rec_ : Int -> ByteArray -> Int -> Int -> Int -> Int -> Int -> Int -> Int -> O β) (k0 : Int -> ByteArray -> Int -> Int -> Int -> Int -> O β) : O β :=
(cond (decide (v4 < v3))
(gd (decide (0 <= v4))
(gd (decide (v4 < (v1.size : Int)))
(cond ((bt v1 v4) == 33)
(rec_ v0 v1 0 v3 (w64 (v4 + 1)) v5 v6 v7 v8)
(gd (decide (0 <= v4))
(gd (decide (v4 < (v1.size : Int)))
(ahf (bt v1 v4) fun r5 =>
(cond r5
(gd (decide (0 <= v4))
(gd (decide (v4 < (v1.size : Int)))
(gd (decide (0 <= (w8 ((bt v1 v4) - 97))))
(gd (decide (0 <= v4))
(gd (decide (v4 < (v1.size : Int)))
(gd (decide (0 <= (w8 ((bt v1 v4) - 97))))
(rec_ v0 v1 1 v3 (w64 (v4 + 1)) v5 v6 (bits .or .i64 v7 (aW .i64 1 (w8 ((bt v1 v4) - 97)))) (bits .or .i64 v8 (aW .i64 v2 (w8 ((bt v1 v4) - 97)))))))))))
(rec_ v0 v1 v2 v3 (w64 (v4 + 1)) v5 v6 v7 v8))))))))
(k0 v0 v1 v5 v6 v7 v8))
def Qn := HV (β := β) (eE N) N
def nc (N : Nat) : Nat -> Int -> ByteArray -> Int -> Int -> Int -> Int -> Int -> Int -> Int -> (Int -> ByteArray -> Int -> Int -> Int -> Int -> O β) -> O β
 | 0, _, _, _, _, _, _, _, _, _, _ => none
 | F + 1, v0, v1, v2, v3, v4, v5, v6, v7, v8, k0 => Qn N v0 v1 v2 v3 v4 v5 v6 v7 v8 (fun v0 v1 v2 v3 v4 v5 v6 v7 v8 => nc N F v0 v1 v2 v3 v4 v5 v6 v7 v8 k0) k0
def PC (a0 : Int) (a1 : ByteArray) (k : Int -> Int -> Bool -> O β) : O β :=
(cond (!(a1.toList == (aq [49]).toList))
(aiM N a0 a1 1 (a1.size : Int) 0 0 0 0 0 (fun aA aB aC aD aE aF =>
(cond (aB.toList == ByteArray.empty.toList)
(k 0 0 false)
(aht aA aE aF fun r7 =>
(cond (!(r7.toList == aB.toList))
(k 0 0 false)
(k aE aF true))))))
(cond (a1.toList == ByteArray.empty.toList)
(k 0 0 false)
(aht a0 0 0 fun r8 =>
(cond (!(r8.toList == a1.toList))
(k 0 0 false)
(k 0 0 true)))))
def jP := PC (β := β) (jO N) (nc N) N
def PD (N : Nat) (a0 a1 : Int) (k : Int -> Int -> O β) : O β :=
ag4 a0 (fun x0 k => zq6 x0 a0 a1 k) fun r4 r5 =>
k r4 r5
def gr := PD (β := β) (zj6 N) (fS N) N
def HW (N : Nat) (v0 : Int) (v1 : ByteArray) (v2 : List (Int × Int)) (v3 v4 : Int) (v5 : List ByteArray) (rec_ : Int -> ByteArray -> List (Int × Int) -> Int -> Int -> List ByteArray -> O β) (k0 : ByteArray -> List ByteArray -> O β) : O β :=
(cond (decide (v4 < v3))
(gd (decide (0 <= v4))
(gd (decide (v4 < (v2.length : Int)))
(aht v0 ((rd (0, 0) v2 v4).1) ((rd (0, 0) v2 v4).2) fun r4 =>
(gd (decide (0 <= v4))
(gd (decide (v4 < (v5.length : Int)))
(rec_ v0 v1 v2 v3 (w64 (v4 + 1)) (wr v5 v4 r4)))))))
(k0 v1 v5))
def Qo := HW (β := β) (jO N) N
def nd (N : Nat) : Nat -> Int -> ByteArray -> List (Int × Int) -> Int -> Int -> List ByteArray -> (ByteArray -> List ByteArray -> O β) -> O β
 | 0, _, _, _, _, _, _, _ => none
 | F + 1, v0, v1, v2, v3, v4, v5, k0 => Qo N v0 v1 v2 v3 v4 v5 (fun v0 v1 v2 v3 v4 v5 => nd N F v0 v1 v2 v3 v4 v5 k0) k0
def PE (a0 : Int) (a1 : List (Int × Int)) (a2 : ByteArray) (k : ByteArray -> O β) : O β :=
(gd (decide (0 <= (a1.length : Int)))
(gd (decide ((a1.length : Int) <= (a1.length : Int)))
(gd (decide (16 * (a1.length : Int) <= 281474976710656))
(aiN N a0 a2 a1 (a1.length : Int) 0 (List.replicate (Int.toNat (a1.length : Int)) ByteArray.empty) (fun aA aB =>
strings_Join N aB aA fun r6 =>
k r6)))))
def lX := PE (β := β) (nd N) N
def HX (N : Nat) (v0 v1 v2 v3 v4 v5 : Int) (v6 : List (Int × Int)) (rec_ : Int -> Int -> Int -> Int -> Int -> Int -> List (Int × Int) -> O β) (k0 : Int -> Int -> List (Int × Int) -> O β) : O β :=
(cond (decide (v1 < v0))
(zq3 v4 v5 v1 fun r7 =>
(cond (r7 == 1)
(gd (decide ((v6.length + (([] : List (Int × Int)) ++ [(v1, v1)]).length) * 16 <= 140737488355328))
(rec_ v0 (w64 (v1 + 1)) v2 v3 v4 v5 (v6 ++ (([] : List (Int × Int)) ++ [(v1, v1)]))))
(rec_ v0 (w64 (v1 + 1)) v2 v3 v4 v5 v6)))
(k0 v2 v3 v6))
def Qp := HX (β := β) (zj3 N) N
def nf (N : Nat) : Nat -> Int -> Int -> Int -> Int -> Int -> Int -> List (Int × Int) -> (Int -> Int -> List (Int × Int) -> O β) -> O β
 | 0, _, _, _, _, _, _, _, _ => none
 | F + 1, v0, v1, v2, v3, v4, v5, v6, k0 => Qp N v0 v1 v2 v3 v4 v5 v6 (fun v0 v1 v2 v3 v4 v5 v6 => nf N F v0 v1 v2 v3 v4 v5 v6 k0) k0
def PF (a0 a1 : Int) (k : ByteArray -> O β) : O β :=
ahi a0 a1 fun r3 =>
(cond (!r3)
(k ByteArray.empty)
(ahu a0 a1 fun r4 r5 =>
zq2 r4 r5 fun r6 =>
aiO N r6 0 a0 a1 r4 r5 ([] : List (Int × Int)) (fun aA aB aC =>
(cond ((aC.length : Int) == 0)
(k (aq [48]))
(ahG aA aC (aq [43]) fun r9 =>
k r9)))))
def iW := PF (β := β) (zj2 N) (gm N) (gr N) (lX N) (nf N) N
def HY (N : Nat) (v0 : Int) (v1 : ByteArray) (v2 v3 v4 v5 v6 v7 : Int) (v8 : List ByteArray) (rec_ : Int -> ByteArray -> Int -> Int -> Int -> Int -> Int -> Int -> List ByteArray -> O β) (k0 : Bool -> Int -> Int -> O β) (k1 : ByteArray -> Int -> Int -> Int -> Int -> O β) : O β :=
(cond (decide (v3 < v2))
(gd (decide (0 <= v3))
(gd (decide (v3 < (v8.length : Int)))
(ahz v0 (rd ByteArray.empty v8 v3) fun r7 r8 r9 =>
(cond (!r9)
(k0 false 0 0)
(gd (decide (0 <= r7))
(rec_ v0 v1 v2 (w64 (v3 + 1)) v4 v5 v6 (bits .or .i64 v7 (aW .i64 1 r7)) v8))))))
(k1 v1 v4 v5 v6 v7))
def Qq := HY (β := β) (jP N) N
def ng (N : Nat) : Nat -> Int -> ByteArray -> Int -> Int -> Int -> Int -> Int -> Int -> List ByteArray -> (Bool -> Int -> Int -> O β) -> (ByteArray -> Int -> Int -> Int -> Int -> O β) -> O β
 | 0, _, _, _, _, _, _, _, _, _, _, _ => none
 | F + 1, v0, v1, v2, v3, v4, v5, v6, v7, v8, k0, k1 => Qq N v0 v1 v2 v3 v4 v5 v6 v7 v8 (fun v0 v1 v2 v3 v4 v5 v6 v7 v8 => ng N F v0 v1 v2 v3 v4 v5 v6 v7 v8 k0 k1) k0 k1
def Dh (a0 : Int) (a1 : ByteArray) (k : Int -> Int -> Bool -> O β) : O β :=
zq7 a0 fun r5 =>
(cond (!r5)
(k 0 0 false)
(cond (decide ((a1.size : Int) > 200))
(k 0 0 false)
(cond (!(a1.toList == (aq [48]).toList))
(strings_Split N a1 (aq [43]) fun r6 =>
aiP N a0 a1 (r6.length : Int) 0 0 0 a0 0 r6 (fun aA aB aC =>
k aB aC aA) (fun aD aE aF aG aH =>
ahu aG aH fun r12 r13 =>
ahA r12 r13 fun r14 =>
(cond (!(r14.toList == aD.toList))
(k 0 0 false)
(k r12 r13 true))))
(ahu a0 0 fun r15 r16 =>
ahA r15 r16 fun r17 =>
(cond (!(r17.toList == a1.toList))
(k 0 0 false)
(k r15 r16 true))))))
def nh := Dh (β := β) (zj7 N) (gr N) (iW N) (ng N) N
def HZ (N : Nat) (a0 : Int) (a1 : List (Int × Int)) (k : Bool -> O β) : O β :=
zq7 a0 fun r3 =>
(cond r3
(ahF a1 (fun x0 x1 k => ag8 x0 x1 a0 k) fun r4 =>
k (!r4))
(k false))
def pM := HZ (β := β) (zj7 N) (gP N) (wv N) N
def PG (N : Nat) (a0 : Int) (a1 : List (Int × Int)) (k : Bool -> O β) : O β :=
ahT a0 a1 fun r3 =>
(cond r3
(k (decide ((a1.length : Int) <= 40)))
(k false))
def pN := PG (β := β) (pM N) N
def H0 (N : Nat) (v0 v1 v2 : Int) (v3 : List (Int × Int)) (v4 : List ByteArray) (rec_ : Int -> Int -> Int -> List (Int × Int) -> List ByteArray -> O β) (k0 : Bool -> List (Int × Int) -> O β) (k1 : Int -> List (Int × Int) -> O β) : O β :=
(cond (decide (v2 < v1))
(gd (decide (0 <= v2))
(gd (decide (v2 < (v4.length : Int)))
(ahz v0 (rd ByteArray.empty v4 v2) fun r6 r7 r8 =>
(cond (!r8)
(k0 false ([] : List (Int × Int)))
(gd (decide ((v3.length + (([] : List (Int × Int)) ++ [(r6, r7)]).length) * 16 <= 140737488355328))
(rec_ v0 v1 (w64 (v2 + 1)) (v3 ++ (([] : List (Int × Int)) ++ [(r6, r7)])) v4))))))
(k1 v0 v3))
def Qr := H0 (β := β) (jP N) N
def ni (N : Nat) : Nat -> Int -> Int -> Int -> List (Int × Int) -> List ByteArray -> (Bool -> List (Int × Int) -> O β) -> (Int -> List (Int × Int) -> O β) -> O β
 | 0, _, _, _, _, _, _, _ => none
 | F + 1, v0, v1, v2, v3, v4, k0, k1 => Qr N v0 v1 v2 v3 v4 (fun v0 v1 v2 v3 v4 => ni N F v0 v1 v2 v3 v4 k0 k1) k0 k1
def yj (a0 : Int) (a1 : ByteArray) (k : List (Int × Int) -> Bool -> O β) : O β :=
zq7 a0 fun r4 =>
(cond (!r4)
(k ([] : List (Int × Int)) false)
(cond (decide ((a1.size : Int) > 200))
(k ([] : List (Int × Int)) false)
(cond (a1.toList == (aq [48]).toList)
(k ([] : List (Int × Int)) true)
(strings_Split N a1 (aq [124]) fun r5 =>
aiS N a0 (r5.length : Int) 0 ([] : List (Int × Int)) r5 (fun aA aB =>
k aB aA) (fun aC aD =>
aiR aC aD fun r11 =>
(cond (!r11)
(k ([] : List (Int × Int)) false)
(k aD true)))))))
def lY := yj (β := β) (zj7 N) (pN N) (ni N) N
def H1 (N : Nat) (a0 : Int) (a1 : List (Int × Int)) (k : Int -> Int -> O β) : O β :=
ag4 a0 (fun x0 k => agZ x0 a1 k) fun r4 r5 =>
k r4 r5
def iX := H1 (β := β) (c8 N) (fS N) N
def PH (N : Nat) (a0 : Int) (a1 : List (Int × Int)) (k : Int -> Int -> Bool -> O β) : O β :=
ahT a0 a1 fun r5 =>
(cond (!r5)
(k 0 0 false)
(ahv a0 a1 fun r6 r7 =>
k r6 r7 true))
def vI := PH (β := β) (pM N) (iX N) N
def H2 (N : Nat) (self : ByteArray -> Int -> (Tr -> ByteArray -> O β) -> O β) (a0 : ByteArray) (a1 : Int) (k : Tr -> ByteArray -> O β) : O β :=
(cond (a0.toList == ByteArray.empty.toList)
(k Tr.nil ByteArray.empty)
(gd (decide (0 < (a0.size : Int)))
(gd (decide (1 <= (a0.size : Int)))
(cond ((bt a0 0) == 48)
(k (Tr.node (bt a0 0) 0 Tr.nil Tr.nil) (a0.extract (Int.toNat 1) a0.size))
(cond ((bt a0 0) == 49)
(k (Tr.node (bt a0 0) 0 Tr.nil Tr.nil) (a0.extract (Int.toNat 1) a0.size))
(ahf (bt a0 0) fun r4 =>
(cond (!r4)
(k Tr.nil ByteArray.empty)
(ahB (bt a0 0) (fun r5_0 r5_1 =>
(gd (decide (0 <= r5_0))
(cond ((bits .and .i64 (cW .i64 a1 r5_0) 1) == 1)
(k Tr.nil ByteArray.empty)
(ahB r5_1 (fun r6_0 r6_1 =>
(gd (decide (0 <= r6_0))
(self (a0.extract (Int.toNat 1) a0.size) (bits .or .i64 a1 (aW .i64 1 r6_0)) fun r7 r8 =>
(cond (Tr.isNil r7)
(k Tr.nil ByteArray.empty)
(self r8 (bits .or .i64 a1 (aW .i64 1 r6_0)) fun r9 r10 =>
(cond (Tr.isNil r9)
(k Tr.nil ByteArray.empty)
(k (Tr.node r6_1 0 r7 r9) r10)))))))))))))))))))
def Qs := H2 (β := β) (vH N) (eE N) N
def nj (N : Nat) : Nat -> ByteArray -> Int -> (Tr -> ByteArray -> O β) -> O β
 | 0, _, _, _ => none
 | F + 1, a0, a1, k => Qs N (nj N F) a0 a1 k
def Qt := nj (β := β) N N
def H3 (N : Nat) (a0 : ByteArray) (k : Tr -> Bool -> O β) : O β :=
ajM a0 0 fun r3 r4 =>
(cond (!(Tr.isNil r3))
(k r3 (r4.toList == ByteArray.empty.toList))
(k r3 false))
def vJ := H3 (β := β) (Qt N) N
def PI (N : Nat) (self : Tr -> Int -> (Bool -> O β) -> O β) (a0 : Tr) (a1 : Int) (k : Bool -> O β) : O β :=
(gd (!(Tr.isNil a0))
(gd (!(Tr.isNil a0))
(gd (!(Tr.isNil a0))
(cond (Tr.isNil (Tr.l a0))
(k true)
(ahw a0 (fun r3_0 =>
(cond (decide (r3_0 < a1))
(gd (!(Tr.isNil a0))
(gd (!(Tr.isNil a0))
(gd (!(Tr.isNil a0))
(self (Tr.l a0) a1 fun r4 =>
(cond r4
(gd (!(Tr.isNil a0))
(gd (!(Tr.isNil a0))
(gd (!(Tr.isNil a0))
(self (Tr.r a0) a1 fun r5 =>
k r5))))
(k false))))))
(k false))))))))
def W8 := PI (β := β) (rF N) N
def pO (N : Nat) : Nat -> Tr -> Int -> (Bool -> O β) -> O β
 | 0, _, _, _ => none
 | F + 1, a0, a1, k => W8 N (pO N F) a0 a1 k
def W9 := pO (β := β) N N
def Di (N : Nat) (a0 : ByteArray) (a1 : Int) (k : Tr -> Int -> Int -> Bool -> O β) : O β :=
ajq a0 fun r6 r7 =>
(cond (!r7)
(k Tr.nil 0 0 false)
(zq7 a1 fun r8 =>
(cond (!r8)
(k Tr.nil 0 0 false)
(ajN r6 a1 fun r9 =>
(cond (!r9)
(k Tr.nil 0 0 false)
(ag4 a1 (fun x0 k => ag0 x0 r6 k) fun r10 r11 =>
k r6 r10 r11 true))))))
def vK := Di (β := β) (zj7 N) (dc N) (fS N) (vJ N) (W9 N) N
def Dj (N : Nat) (a0 : ByteArray) (a1 : Int) (k : Int -> Int -> Bool -> O β) : O β :=
ajr a0 a1 fun r5 r6 r7 r8 =>
k r6 r7 r8
def pP := Dj (β := β) (vK N) N
def H4 (N : Nat) (self : ByteArray -> (Tr -> ByteArray -> O β) -> O β) (a0 : ByteArray) (k : Tr -> ByteArray -> O β) : O β :=
(cond (a0.toList == ByteArray.empty.toList)
(k Tr.nil ByteArray.empty)
(gd (decide (0 < (a0.size : Int)))
(gd (decide (1 <= (a0.size : Int)))
(ahf (bt a0 0) fun r3 =>
(cond r3
(k (Tr.node (bt a0 0) 0 Tr.nil Tr.nil) (a0.extract (Int.toNat 1) a0.size))
(cond ((bt a0 0) == 48)
(k (Tr.node (bt a0 0) 0 Tr.nil Tr.nil) (a0.extract (Int.toNat 1) a0.size))
(cond ((bt a0 0) == 49)
(k (Tr.node (bt a0 0) 0 Tr.nil Tr.nil) (a0.extract (Int.toNat 1) a0.size))
(cond ((bt a0 0) == 33)
(self (a0.extract (Int.toNat 1) a0.size) fun r4 r5 =>
(cond (Tr.isNil r4)
(k Tr.nil ByteArray.empty)
(k (Tr.node (bt a0 0) 0 r4 Tr.nil) r5)))
(cond ((bt a0 0) == 38)
(self (a0.extract (Int.toNat 1) a0.size) fun r6 r7 =>
(cond (Tr.isNil r6)
(k Tr.nil ByteArray.empty)
(self r7 fun r8 r9 =>
(cond (Tr.isNil r8)
(k Tr.nil ByteArray.empty)
(k (Tr.node (bt a0 0) 0 r6 r8) r9)))))
(cond ((bt a0 0) == 124)
(self (a0.extract (Int.toNat 1) a0.size) fun r10 r11 =>
(cond (Tr.isNil r10)
(k Tr.nil ByteArray.empty)
(self r11 fun r12 r13 =>
(cond (Tr.isNil r12)
(k Tr.nil ByteArray.empty)
(k (Tr.node (bt a0 0) 0 r10 r12) r13)))))
(cond ((bt a0 0) == 94)
(self (a0.extract (Int.toNat 1) a0.size) fun r14 r15 =>
(cond (Tr.isNil r14)
(k Tr.nil ByteArray.empty)
(self r15 fun r16 r17 =>
(cond (Tr.isNil r16)
(k Tr.nil ByteArray.empty)
(k (Tr.node (bt a0 0) 0 r14 r16) r17)))))
(k Tr.nil ByteArray.empty))))))))))))
def Qu := H4 (β := β) (eE N) N
def jQ (N : Nat) : Nat -> ByteArray -> (Tr -> ByteArray -> O β) -> O β
 | 0, _, _ => none
 | F + 1, a0, k => Qu N (jQ N F) a0 k
def Xa := jQ (β := β) N N
def H5 (N : Nat) (a0 : ByteArray) (k : Tr -> Bool -> O β) : O β :=
(cond (decide ((a0.size : Int) > 60))
(k Tr.nil false)
(ajO a0 fun r3 r4 =>
(cond (!(Tr.isNil r3))
(k r3 (r4.toList == ByteArray.empty.toList))
(k r3 false))))
def vL := H5 (β := β) (Xa N) N
def W2 (N : Nat) (a0 : Tr) (k : Bool -> O β) : O β :=
(gd (!(Tr.isNil a0))
(gd (!(Tr.isNil a0))
(gd (!(Tr.isNil a0))
(k (Tr.isNil (Tr.l a0))))))
def DB := W2 (β := β) N
def PJ (N : Nat) (a0 a1 : Int) (k : Int -> Int -> Bool -> O β) : O β :=
zq7 a0 fun r5 =>
(cond (!r5)
(k 0 0 false)
(cond (decide (a1 < 0))
(k 0 0 false)
(cond (decide (a1 >= a0))
(k 0 0 false)
(aho a0 a1 fun r6 r7 =>
k r6 r7 true))))
def DC := PJ (β := β) (zj7 N) (pT N) N
def H6 (N : Nat) (a0 a1 : Int) (k : Int -> Int -> O β) : O β :=
zq2 a0 a1 fun r4 =>
(gd (decide (0 <= r4))
(k a0 (bits .xor .i64 a1 (w64 ((aW .i64 1 r4) - 1)))))
def eF := H6 (β := β) (zj2 N) N
def PK (N : Nat) (self : Tr -> Int -> (Int -> Int -> Bool -> O β) -> O β) (a0 : Tr) (a1 : Int) (k : Int -> Int -> Bool -> O β) : O β :=
aju a0 fun r5 =>
(cond r5
(gd (!(Tr.isNil a0))
(gd (!(Tr.isNil a0))
(gd (!(Tr.isNil a0))
(ahf (Tr.a a0) fun r6 =>
(cond r6
(gd (!(Tr.isNil a0))
(gd (!(Tr.isNil a0))
(gd (!(Tr.isNil a0))
(ajv a1 (w64 (w8 ((Tr.a a0) - 97))) fun r7 r8 r9 =>
k r7 r8 r9))))
(ag4 a1 (fun x0 k => ag1 x0 a0 k) fun r10 r11 =>
k r10 r11 true))))))
(gd (!(Tr.isNil a0))
(gd (!(Tr.isNil a0))
(gd (!(Tr.isNil a0))
(self (Tr.l a0) a1 fun r12 r13 r14 =>
(cond (!r14)
(k 0 0 false)
(gd (!(Tr.isNil a0))
(gd (!(Tr.isNil a0))
(gd (!(Tr.isNil a0))
(cond ((Tr.a a0) == 33)
(ahg r12 r13 fun r15 r16 =>
k r15 r16 true)
(gd (!(Tr.isNil a0))
(gd (!(Tr.isNil a0))
(gd (!(Tr.isNil a0))
(self (Tr.r a0) a1 fun r17 r18 r19 =>
(cond (!r19)
(k 0 0 false)
(gd (!(Tr.isNil a0))
(gd (!(Tr.isNil a0))
(gd (!(Tr.isNil a0))
(cond ((Tr.a a0) == 38)
(k r12 (bits .and .i64 r13 r18) true)
(cond ((Tr.a a0) == 124)
(k r12 (bits .or .i64 r13 r18) true)
(k r12 (bits .xor .i64 r13 r18) true)))))))))))))))))))))
def Xb := PK (β := β) (de N) (fS N) (eE N) (DB N) (DC N) (eF N) N
def pQ (N : Nat) : Nat -> Tr -> Int -> (Int -> Int -> Bool -> O β) -> O β
 | 0, _, _, _ => none
 | F + 1, a0, a1, k => Xb N (pQ N F) a0 a1 k
def Xc := pQ (β := β) N N
def yk (N : Nat) (a0 : ByteArray) (a1 : Int) (k : Int -> Int -> Bool -> O β) : O β :=
ajt a0 fun r5 r6 =>
(cond (!r6)
(k 0 0 false)
(zq7 a1 fun r7 =>
(cond (!r7)
(k 0 0 false)
(ajP r5 a1 fun r8 r9 r10 =>
k r8 r9 r10))))
def lZ := yk (β := β) (zj7 N) (vL N) (Xc N) N
def H7 (N : Nat) (a0 : ByteArray) (a1 : Int) (a2 : ByteArray) (k : Int -> Int -> Bool -> O β) : O β :=
(cond (decide (a1 < 0))
(k 0 0 false)
(cond (decide (a1 > 4))
(k 0 0 false)
(cond (a0.toList == (aq [116, 97, 98, 108, 101]).toList)
(aiK a2 fun r6 r7 r8 =>
(cond (!r8)
(k 0 0 false)
(cond (r6 != a1)
(k 0 0 false)
(k r6 r7 true))))
(cond (a0.toList == (aq [97, 110, 102]).toList)
(aiQ a1 a2 fun r9 r10 r11 =>
k r9 r10 r11)
(cond (a0.toList == (aq [115, 117, 109]).toList)
(aiT a1 a2 fun r12 r13 =>
(cond (!r13)
(k 0 0 false)
(aiU a1 r12 fun r14 r15 r16 =>
k r14 r15 r16)))
(cond (a0.toList == (aq [116, 114, 101, 101]).toList)
(ajs a2 a1 fun r17 r18 r19 =>
k r17 r18 r19)
(cond (a0.toList == (aq [102, 111, 114, 109, 117, 108, 97]).toList)
(ajw a2 a1 fun r20 r21 r22 =>
k r20 r21 r22)
(k 0 0 false))))))))
def vM := H7 (β := β) (rz N) (nh N) (lY N) (vI N) (pP N) (lZ N) N
def Dk (N : Nat) (a0 a1 a2 : Int) (k : Bool -> O β) : O β :=
ahi a0 a1 fun r4 =>
(cond r4
(k (decide (a0 <= a2)))
(k false))
def gu := Dk (β := β) (gm N) N
def Dl (N : Nat) (v0 v1 v2 v3 v4 v5 : Int) (v6 v7 : Bool) (rec_ : Int -> Int -> Int -> Int -> Int -> Int -> Bool -> Bool -> O β) (k0 : Bool -> Bool -> O β) : O β :=
(cond (decide (v3 < v2))
(cond ((bits .and .i64 v3 v0) == v1)
(zq3 v4 v5 v3 fun r6 =>
(gd (decide (0 <= r6))
(gd (decide (r6 < 2))
(cond (r6 == 0)
(rec_ v0 v1 v2 (w64 (v3 + 1)) v4 v5 true v7)
(rec_ v0 v1 v2 (w64 (v3 + 1)) v4 v5 v6 true)))))
(rec_ v0 v1 v2 (w64 (v3 + 1)) v4 v5 v6 v7))
(k0 v6 v7))
def Io := Dl (β := β) (zj3 N) N
def jR (N : Nat) : Nat -> Int -> Int -> Int -> Int -> Int -> Int -> Bool -> Bool -> (Bool -> Bool -> O β) -> O β
 | 0, _, _, _, _, _, _, _, _, _ => none
 | F + 1, v0, v1, v2, v3, v4, v5, v6, v7, k0 => Io N v0 v1 v2 v3 v4 v5 v6 v7 (fun v0 v1 v2 v3 v4 v5 v6 v7 => jR N F v0 v1 v2 v3 v4 v5 v6 v7 k0) k0
def H8 (a0 a1 a2 a3 : Int) (k : Int -> O β) : O β :=
zq2 a0 a1 fun r5 =>
aiW N a2 a3 r5 0 a0 a1 false false (fun aA aB =>
(cond aA
(cond aB
(k 2)
(cond aB
(k 1)
(k 0)))
(cond aB
(k 1)
(k 0))))
def gv := H8 (β := β) (zj2 N) (jR N) N
def PL (N : Nat) (a0 a1 a2 a3 : Int) (k : Bool -> O β) : O β :=
ahk a0 a1 a2 a3 fun r5 =>
k (r5 == 1)
def rA := PL (β := β) (gv N) N
def H9 (N : Nat) (v0 v1 v2 v3 v4 v5 : Int) (rec_ : Int -> Int -> Int -> Int -> Int -> Int -> O β) (k0 : Bool -> O β) (k1 : O β) : O β :=
(cond (decide (v1 < v0))
(gd (decide (0 <= v1))
(cond ((bits .and .i64 v4 (aW .i64 1 v1)) != 0)
(ahU v2 v3 (bits .andNot .i64 v4 (aW .i64 1 v1)) (bits .andNot .i64 v5 (aW .i64 1 v1)) fun r6 =>
(cond r6
(k0 false)
(rec_ v0 (w64 (v1 + 1)) v2 v3 v4 v5)))
(rec_ v0 (w64 (v1 + 1)) v2 v3 v4 v5)))
(k1 ))
def Qv := H9 (β := β) (rA N) N
def nk (N : Nat) : Nat -> Int -> Int -> Int -> Int -> Int -> Int -> (Bool -> O β) -> (O β) -> O β
 | 0, _, _, _, _, _, _, _, _ => none
 | F + 1, v0, v1, v2, v3, v4, v5, k0, k1 => Qv N v0 v1 v2 v3 v4 v5 (fun v0 v1 v2 v3 v4 v5 => nk N F v0 v1 v2 v3 v4 v5 k0 k1) k0 k1
def PM (a0 a1 a2 a3 : Int) (k : Bool -> O β) : O β :=
ahU a0 a1 a2 a3 fun r5 =>
(cond (!r5)
(k false)
(aiY N a0 0 a0 a1 a2 a3 (fun aA =>
k aA) (k true)))
def rB := PM (β := β) (rA N) (nk N) N
def Ia (N : Nat) (v0 v1 v2 v3 v4 v5 v6 : Int) (v7 : List (Int × Int)) (rec_ : Int -> Int -> Int -> Int -> Int -> Int -> Int -> List (Int × Int) -> O β) (k0 : Int -> Int -> Int -> Int -> List (Int × Int) -> O β) : O β :=
(cond (decide (v4 < v3))
(cond ((bits .andNot .i64 v4 v0) == 0)
(aie v5 v6 v0 v4 fun r4 =>
(cond r4
(gd (decide ((v7.length + (([] : List (Int × Int)) ++ [(v0, v4)]).length) * 16 <= 140737488355328))
(rec_ v0 v1 v2 v3 (w64 (v4 + 1)) v5 v6 (v7 ++ (([] : List (Int × Int)) ++ [(v0, v4)]))))
(rec_ v0 v1 v2 v3 (w64 (v4 + 1)) v5 v6 v7)))
(rec_ v0 v1 v2 v3 (w64 (v4 + 1)) v5 v6 v7))
(k0 v1 v2 v5 v6 v7))
def Qw := Ia (β := β) (rB N) N
def l0 (N : Nat) : Nat -> Int -> Int -> Int -> Int -> Int -> Int -> Int -> List (Int × Int) -> (Int -> Int -> Int -> Int -> List (Int × Int) -> O β) -> O β
 | 0, _, _, _, _, _, _, _, _, _ => none
 | F + 1, v0, v1, v2, v3, v4, v5, v6, v7, k0 => Qw N v0 v1 v2 v3 v4 v5 v6 v7 (fun v0 v1 v2 v3 v4 v5 v6 v7 => l0 N F v0 v1 v2 v3 v4 v5 v6 v7 k0) k0
def Ib (v0 v1 v2 v3 : Int) (v4 : List (Int × Int)) (rec_ : Int -> Int -> Int -> Int -> List (Int × Int) -> O β) (k0 : List (Int × Int) -> O β) : O β :=
(cond (decide (v1 < v0))
(aif N v1 v0 v1 (w64 (v1 + 1)) 0 v2 v3 v4 (fun aA aB aC aD aE =>
rec_ aA (w64 (aB + 1)) aC aD aE))
(k0 v4))
def Qx := Ib (β := β) (l0 N) N
def iY (N : Nat) : Nat -> Int -> Int -> Int -> Int -> List (Int × Int) -> (List (Int × Int) -> O β) -> O β
 | 0, _, _, _, _, _, _ => none
 | F + 1, v0, v1, v2, v3, v4, k0 => Qx N v0 v1 v2 v3 v4 (fun v0 v1 v2 v3 v4 => iY N F v0 v1 v2 v3 v4 k0) k0
def PN (a0 a1 : Int) (k : List (Int × Int) -> O β) : O β :=
zq2 a0 a1 fun r3 =>
aig N r3 0 a0 a1 ([] : List (Int × Int)) (fun aA =>
k aA)
def pR := PN (β := β) (zj2 N) (iY N) N
def Ic (N : Nat) (self : List Int -> Int -> Int -> Int -> Int -> (List Int -> Bool -> O β) -> O β) (v0 : List Int) (v1 v2 v3 v4 : Int) (rec_ : List Int -> Int -> Int -> Int -> Int -> O β) (k0 : Bool -> List Int -> O β) (k1 : O β) : O β :=
(cond (decide (v4 <= (w64 ((v0.length : Int) - v3))))
(gd (decide (0 <= v4))
(gd (decide (v4 < (v0.length : Int)))
(cond ((bits .andNot .i64 (rd 0 v0 v4) v2) == 0)
(rec_ v0 v1 v2 v3 (w64 (v4 + 1)))
(gd (decide (0 <= v4))
(gd (decide (v4 < (v0.length : Int)))
(self v0 v1 (bits .or .i64 v2 (rd 0 v0 v4)) (w64 (v4 + 1)) (w64 (v3 - 1)) fun r7 r8 =>
(cond r8
(gd (decide (((([] : List Int) ++ [v4]).length + r7.length) * 8 <= 140737488355328))
(k0 true ((([] : List Int) ++ [v4]) ++ r7)))
(rec_ v0 v1 v2 v3 (w64 (v4 + 1))))))))))
(k1 ))
def Qy := Ic (β := β) N
def nl (N : Nat) (self : List Int -> Int -> Int -> Int -> Int -> (List Int -> Bool -> O β) -> O β) : Nat -> List Int -> Int -> Int -> Int -> Int -> (Bool -> List Int -> O β) -> (O β) -> O β
 | 0, _, _, _, _, _, _, _ => none
 | F + 1, v0, v1, v2, v3, v4, k0, k1 => Qy N self v0 v1 v2 v3 v4 (fun v0 v1 v2 v3 v4 => nl N self F v0 v1 v2 v3 v4 k0 k1) k0 k1
def Id (self : List Int -> Int -> Int -> Int -> Int -> (List Int -> Bool -> O β) -> O β) (a0 : List Int) (a1 a2 a3 a4 : Int) (k : List Int -> Bool -> O β) : O β :=
(cond (a4 == 0)
(k ([] : List Int) (a2 == a1))
(aiZ self N a0 a1 a2 a4 a3 (fun aA aB =>
k aB aA) (k ([] : List Int) false)))
def QA := Id (β := β) (nl N) N
def eG (N : Nat) : Nat -> List Int -> Int -> Int -> Int -> Int -> (List Int -> Bool -> O β) -> O β
 | 0, _, _, _, _, _, _ => none
 | F + 1, a0, a1, a2, a3, a4, k => QA N (eG N F) a0 a1 a2 a3 a4 k
def Xd := eG (β := β) N N
def Ie (N : Nat) (v0 : List (Int × Int)) (v1 : List (Int × Int)) (v2 v3 v4 v5 : Int) (v6 : List Int) (rec_ : List (Int × Int) -> List (Int × Int) -> Int -> Int -> Int -> Int -> List Int -> O β) (k0 : List (Int × Int) -> Int -> Int -> List Int -> O β) : O β :=
(cond (decide (v3 < v2))
(gd (decide (0 <= v3))
(gd (decide (v3 < (v1.length : Int)))
(ahv v4 (([] : List (Int × Int)) ++ [((rd (0, 0) v1 v3).1, (rd (0, 0) v1 v3).2)]) fun r4 r5 =>
(gd (decide (0 <= v3))
(gd (decide (v3 < (v6.length : Int)))
(rec_ v0 v1 v2 (w64 (v3 + 1)) v4 v5 (wr v6 v3 r5)))))))
(k0 v0 v4 v5 v6))
def QB := Ie (β := β) (iX N) N
def jS (N : Nat) : Nat -> List (Int × Int) -> List (Int × Int) -> Int -> Int -> Int -> Int -> List Int -> (List (Int × Int) -> Int -> Int -> List Int -> O β) -> O β
 | 0, _, _, _, _, _, _, _, _ => none
 | F + 1, v0, v1, v2, v3, v4, v5, v6, k0 => QB N v0 v1 v2 v3 v4 v5 v6 (fun v0 v1 v2 v3 v4 v5 v6 => jS N F v0 v1 v2 v3 v4 v5 v6 k0) k0
def If (N : Nat) (v0 : List (Int × Int)) (v1 v2 : Int) (v3 : List (Int × Int)) (v4 : List Int) (rec_ : List (Int × Int) -> Int -> Int -> List (Int × Int) -> List Int -> O β) (k0 : List (Int × Int) -> O β) : O β :=
(cond (decide (v2 < v1))
(gd (decide (0 <= v2))
(gd (decide (v2 < (v4.length : Int)))
(gd (decide (0 <= (rd 0 v4 v2)))
(gd (decide ((rd 0 v4 v2) < (v0.length : Int)))
(gd (decide ((v3.length + (([] : List (Int × Int)) ++ [((rd (0, 0) v0 (rd 0 v4 v2)).1, (rd (0, 0) v0 (rd 0 v4 v2)).2)]).length) * 16 <= 140737488355328))
(rec_ v0 v1 (w64 (v2 + 1)) (v3 ++ (([] : List (Int × Int)) ++ [((rd (0, 0) v0 (rd 0 v4 v2)).1, (rd (0, 0) v0 (rd 0 v4 v2)).2)])) v4))))))
(k0 v3))
def QC := If (β := β) N
def iZ (N : Nat) : Nat -> List (Int × Int) -> Int -> Int -> List (Int × Int) -> List Int -> (List (Int × Int) -> O β) -> O β
 | 0, _, _, _, _, _, _ => none
 | F + 1, v0, v1, v2, v3, v4, k0 => QC N v0 v1 v2 v3 v4 (fun v0 v1 v2 v3 v4 => iZ N F v0 v1 v2 v3 v4 k0) k0
def PO (v0 : List (Int × Int)) (v1 v2 v3 v4 : Int) (v5 : List Int) (rec_ : List (Int × Int) -> Int -> Int -> Int -> Int -> List Int -> O β) (k0 : List (Int × Int) -> O β) (k1 : O β) : O β :=
(cond (decide (v2 < v1))
(ajQ v5 v4 0 0 v2 fun r7 r8 =>
(cond r8
(ah2 N v0 (r7.length : Int) 0 ([] : List (Int × Int)) r7 (fun aA =>
k0 aA))
(rec_ v0 v1 (w64 (v2 + 1)) v3 v4 v5)))
(k1 ))
def Xe := PO (β := β) (Xd N) (iZ N) N
def l3 (N : Nat) : Nat -> List (Int × Int) -> Int -> Int -> Int -> Int -> List Int -> (List (Int × Int) -> O β) -> (O β) -> O β
 | 0, _, _, _, _, _, _, _, _ => none
 | F + 1, v0, v1, v2, v3, v4, v5, k0, k1 => Xe N v0 v1 v2 v3 v4 v5 (fun v0 v1 v2 v3 v4 v5 => l3 N F v0 v1 v2 v3 v4 v5 k0 k1) k0 k1
def PP (a0 a1 : Int) (k : List (Int × Int) -> O β) : O β :=
ahV a0 a1 fun r3 =>
(gd (decide (0 <= (r3.length : Int)))
(gd (decide ((r3.length : Int) <= (r3.length : Int)))
(gd (decide (8 * (r3.length : Int) <= 281474976710656))
(ah1 N r3 r3 (r3.length : Int) 0 a0 a1 (List.replicate (Int.toNat (r3.length : Int)) (0 : Int)) (fun aA aB aC aD =>
ah3 N aA (w64 ((aA.length : Int) + 1)) 0 aB aC aD (fun aE =>
k aE) (k ([] : List (Int × Int))))))))
def yr := PP (β := β) (pR N) (jS N) (l3 N) N
def PQ (N : Nat) (a0 : Int) (a1 : List (Int × Int)) (k : ByteArray -> O β) : O β :=
(cond ((a1.length : Int) == 0)
(k (aq [48]))
(ahG a0 a1 (aq [124]) fun r3 =>
k r3))
def yt := PQ (β := β) (lX N) N
def PR (N : Nat) (a0 a1 : Int) (k0 : Int -> Int -> Mp -> Mp -> O β) : O β :=
k0 a0 a1 ([] : Mp) ([] : Mp)
def DD := PR (β := β) N
def PS (a0 : Int) (k : ByteArray -> O β) : O β :=
strconv_Itoa N a0 fun r2 =>
k r2
def fQ := PS (β := β) N
def Ig (N : Nat) (a0 a1 a2 a3 : Int) (k : Int -> Int -> O β) : O β :=
(gd (decide (0 <= a2))
(gd (decide (0 <= a2))
(k (bits .or .i64 a0 (aW .i64 1 a2)) (bits .or .i64 a1 (aW .i64 a3 a2)))))
def eO := Ig (β := β) N
def Dm (N : Nat) (self : Int -> Int -> Int -> Int -> Mp -> Mp -> (Int -> Int -> Int -> Mp -> Mp -> O β) -> O β) (v0 v1 v2 v3 v4 : Int) (v5 v6 : Mp) (v7 v8 : Int) (rec_ : Int -> Int -> Int -> Int -> Int -> Mp -> Mp -> Int -> Int -> O β) (k0 : Int -> Int -> Int -> Mp -> Mp -> Int -> Int -> O β) : O β :=
(cond (decide (v2 < v1))
(gd (decide (0 <= v2))
(cond ((bits .and .i64 (cW .i64 v7 v2) 1) == 0)
(aha v7 v8 v2 0 fun r7 r8 =>
self r7 r8 v3 v4 v5 v6 (fun r9_0 r9_1 r9_2 r9_3 r9_4 =>
aha v7 v8 v2 1 fun r10 r11 =>
self r10 r11 r9_1 r9_2 r9_3 r9_4 (fun r12_0 r12_1 r12_2 r12_3 r12_4 =>
rec_ (mnI v0 (w64 (1 + (mxI r9_0 r12_0)))) v1 (w64 (v2 + 1)) r12_1 r12_2 r12_3 r12_4 v7 v8)))
(rec_ v0 v1 (w64 (v2 + 1)) v3 v4 v5 v6 v7 v8)))
(k0 v0 v3 v4 v5 v6 v7 v8))
def Ip := Dm (β := β) (eO N) N
def l4 (N : Nat) (self : Int -> Int -> Int -> Int -> Mp -> Mp -> (Int -> Int -> Int -> Mp -> Mp -> O β) -> O β) : Nat -> Int -> Int -> Int -> Int -> Int -> Mp -> Mp -> Int -> Int -> (Int -> Int -> Int -> Mp -> Mp -> Int -> Int -> O β) -> O β
 | 0, _, _, _, _, _, _, _, _, _, _ => none
 | F + 1, v0, v1, v2, v3, v4, v5, v6, v7, v8, k0 => Ip N self v0 v1 v2 v3 v4 v5 v6 v7 v8 (fun v0 v1 v2 v3 v4 v5 v6 v7 v8 => l4 N self F v0 v1 v2 v3 v4 v5 v6 v7 v8 k0) k0
def PU (self : Int -> Int -> Int -> Int -> Mp -> Mp -> (Int -> Int -> Int -> Mp -> Mp -> O β) -> O β) (a0 a1 a2 a3 : Int) (a4 a5 : Mp) (k0 : Int -> Int -> Int -> Mp -> Mp -> O β) : O β :=
(cond (jq ⟨true, false⟩ a4 a0 a1)
(k0 (fp ⟨true, false⟩ a4 a0 a1) a2 a3 a4 a5)
(ahk a2 a3 a0 a1 fun r6 =>
(cond (r6 == 2)
(ai3 self N a2 a2 0 a2 a3 a4 a5 a0 a1 (fun aA aB aC aD aE aF aG =>
k0 aA aB aC (kj ⟨true, false⟩ aD aF aG aA) aE))
(k0 0 a2 a3 (kj ⟨true, false⟩ a4 a0 a1 0) a5))))
def Xf := PU (β := β) (gv N) (l4 N) N
def gw (N : Nat) : Nat -> Int -> Int -> Int -> Int -> Mp -> Mp -> (Int -> Int -> Int -> Mp -> Mp -> O β) -> O β
 | 0, _, _, _, _, _, _, _ => none
 | F + 1, a0, a1, a2, a3, a4, a5, k0 => Xf N (gw N F) a0 a1 a2 a3 a4 a5 k0
def QD := gw (β := β) N N
def Dn (N : Nat) (v0 v1 v2 v3 v4 : Int) (v5 v6 : Mp) (v7 v8 : Int) (rec_ : Int -> Int -> Int -> Int -> Int -> Mp -> Mp -> Int -> Int -> O β) (k0 : Int -> Int -> Int -> Mp -> Mp -> O β) (k1 : Int -> Int -> Mp -> Mp -> O β) : O β :=
(cond (decide (v2 < v1))
(cond (decide (v0 > 0))
(gd (decide (0 <= v2))
(cond ((bits .and .i64 (cW .i64 v7 v2) 1) == 0)
(aha v7 v8 v2 0 fun r15 r16 =>
ajI r15 r16 v3 v4 v5 v6 (fun r17_0 r17_1 r17_2 r17_3 r17_4 =>
(cond (decide (r17_0 < v0))
(aha v7 v8 v2 1 fun r18 r19 =>
ajI r18 r19 r17_1 r17_2 r17_3 r17_4 (fun r20_0 r20_1 r20_2 r20_3 r20_4 =>
(cond (decide (r20_0 < v0))
(k0 v2 r20_1 r20_2 r20_3 r20_4)
(rec_ v0 v1 (w64 (v2 + 1)) r20_1 r20_2 r20_3 r20_4 v7 v8))))
(rec_ v0 v1 (w64 (v2 + 1)) r17_1 r17_2 r17_3 r17_4 v7 v8))))
(rec_ v0 v1 (w64 (v2 + 1)) v3 v4 v5 v6 v7 v8)))
(rec_ v0 v1 (w64 (v2 + 1)) v3 v4 v5 v6 v7 v8))
(k1 v3 v4 v5 v6))
def Iq := Dn (β := β) (eO N) (QD N) N
def i6 (N : Nat) : Nat -> Int -> Int -> Int -> Int -> Int -> Mp -> Mp -> Int -> Int -> (Int -> Int -> Int -> Mp -> Mp -> O β) -> (Int -> Int -> Mp -> Mp -> O β) -> O β
 | 0, _, _, _, _, _, _, _, _, _, _, _ => none
 | F + 1, v0, v1, v2, v3, v4, v5, v6, v7, v8, k0, k1 => Iq N v0 v1 v2 v3 v4 v5 v6 v7 v8 (fun v0 v1 v2 v3 v4 v5 v6 v7 v8 => i6 N F v0 v1 v2 v3 v4 v5 v6 v7 v8 k0 k1) k0 k1
def PV (a0 a1 a2 a3 : Int) (a4 a5 : Mp) (k0 : Int -> Int -> Int -> Mp -> Mp -> O β) : O β :=
ajI a0 a1 a2 a3 a4 a5 (fun r14_0 r14_1 r14_2 r14_3 r14_4 =>
ai4 N r14_0 r14_1 0 r14_1 r14_2 r14_3 r14_4 a0 a1 (fun aA aB aC aD aE =>
k0 aA aB aC aD aE) (fun aF aG aH aI =>
k0 (-1) aF aG aH aI))
def yu := PV (β := β) (QD N) (i6 N) N
def DE (s0 : ByteArray) (s1 s2 : Int) (s3 s4 : Mp) (u0 : ByteArray) (u1 u2 : Int) (u3 u4 : Mp) (K : O β) : O β :=
(gd (decide (s0 = u0)) (gd (s1 == u1) (gd (s2 == u2) (gd (s3 == u3) (gd (s4 == u4) K)))))
def PW (N : Nat) (self : Int -> Int -> Int -> Int -> Mp -> Mp -> (ByteArray -> Int -> Int -> Mp -> Mp -> O β) -> O β) (a0 a1 a2 a3 : Int) (a4 a5 : Mp) (k0 : ByteArray -> Int -> Int -> Mp -> Mp -> O β) : O β :=
ajy a0 a1 a2 a3 a4 a5 (fun r6_0 r6_1 r6_2 r6_3 r6_4 =>
(cond (decide (r6_0 < 0))
(ahk r6_1 r6_2 a0 a1 fun r7 =>
ahn r7 fun r8 =>
k0 r8 r6_1 r6_2 r6_3 r6_4)
(aha a0 a1 r6_0 0 fun r9 r10 =>
self r9 r10 r6_1 r6_2 r6_3 r6_4 (fun r11_0 r11_1 r11_2 r11_3 r11_4 =>
(gd (decide ((aq (([] : List Int) ++ [(w8 (97 + (w8 (r6_0))))])).size + r11_0.size <= 9223372036854775807))
(aha a0 a1 r6_0 1 fun r12 r13 =>
self r12 r13 r11_1 r11_2 r11_3 r11_4 (fun r14_0 r14_1 r14_2 r14_3 r14_4 =>
(gd (decide (((aq (([] : List Int) ++ [(w8 (97 + (w8 (r6_0))))])) ++ r11_0).size + r14_0.size <= 9223372036854775807))
(aha a0 a1 r6_0 0 fun r15 r16 =>
self r15 r16 r6_1 r6_2 r6_3 r6_4 (fun r17_0 r17_1 r17_2 r17_3 r17_4 =>
(gd (decide ((aq (([] : List Int) ++ [(w8 (97 + (w8 (r6_0))))])).size + r17_0.size <= 9223372036854775807))
(aha a0 a1 r6_0 1 fun r18 r19 =>
self r18 r19 r17_1 r17_2 r17_3 r17_4 (fun r20_0 r20_1 r20_2 r20_3 r20_4 =>
(gd (decide (((aq (([] : List Int) ++ [(w8 (97 + (w8 (r6_0))))])) ++ r17_0).size + r20_0.size <= 9223372036854775807))
(self r15 r16 r6_1 r6_2 r6_3 r6_4 (fun r21_0 r21_1 r21_2 r21_3 r21_4 =>
(gd (decide ((aq (([] : List Int) ++ [(w8 (97 + (w8 (r6_0))))])).size + r21_0.size <= 9223372036854775807))
(aha a0 a1 r6_0 1 fun r22 r23 =>
self r22 r23 r21_1 r21_2 r21_3 r21_4 (fun r24_0 r24_1 r24_2 r24_3 r24_4 =>
(gd (decide (((aq (([] : List Int) ++ [(w8 (97 + (w8 (r6_0))))])) ++ r21_0).size + r24_0.size <= 9223372036854775807))
(aha a0 a1 r6_0 1 fun r25 r26 =>
(gd (decide ((aq (([] : List Int) ++ [(w8 (97 + (w8 (r6_0))))])).size + r21_0.size <= 9223372036854775807))
(self r25 r26 r21_1 r21_2 r21_3 r21_4 (fun r27_0 r27_1 r27_2 r27_3 r27_4 =>
(gd (decide (((aq (([] : List Int) ++ [(w8 (97 + (w8 (r6_0))))])) ++ r21_0).size + r27_0.size <= 9223372036854775807))
(self r25 r26 r21_1 r21_2 r21_3 r21_4 (fun r28_0 r28_1 r28_2 r28_3 r28_4 =>
(gd (decide ((aq (([] : List Int) ++ [(w8 (97 + (w8 (r6_0))))])).size + r21_0.size <= 9223372036854775807))
(gd (decide (((aq (([] : List Int) ++ [(w8 (97 + (w8 (r6_0))))])) ++ r21_0).size + r28_0.size <= 9223372036854775807))
(DE (((aq (([] : List Int) ++ [(w8 (97 + (w8 (r6_0))))])) ++ r21_0) ++ r27_0) r27_1 r27_2 r27_3 r27_4 (((aq (([] : List Int) ++ [(w8 (97 + (w8 (r6_0))))])) ++ r21_0) ++ r28_0) r28_1 r28_2 r28_3 r28_4
(DE (((aq (([] : List Int) ++ [(w8 (97 + (w8 (r6_0))))])) ++ r21_0) ++ r24_0) r24_1 r24_2 r24_3 r24_4 (((aq (([] : List Int) ++ [(w8 (97 + (w8 (r6_0))))])) ++ r21_0) ++ r27_0) r27_1 r27_2 r27_3 r27_4
(DE (((aq (([] : List Int) ++ [(w8 (97 + (w8 (r6_0))))])) ++ r17_0) ++ r20_0) r20_1 r20_2 r20_3 r20_4 (((aq (([] : List Int) ++ [(w8 (97 + (w8 (r6_0))))])) ++ r21_0) ++ r24_0) r24_1 r24_2 r24_3 r24_4
(DE (((aq (([] : List Int) ++ [(w8 (97 + (w8 (r6_0))))])) ++ r11_0) ++ r14_0) r14_1 r14_2 r14_3 r14_4 (((aq (([] : List Int) ++ [(w8 (97 + (w8 (r6_0))))])) ++ r17_0) ++ r20_0) r20_1 r20_2 r20_3 r20_4
(k0 (((aq (([] : List Int) ++ [(w8 (97 + (w8 (r6_0))))])) ++ r11_0) ++ r14_0) r14_1 r14_2 r14_3 r14_4))))))))))))))))))))))))))))))))))
def Xg := PW (β := β) (gv N) (fQ N) (eO N) (yu N) N
def pS (N : Nat) : Nat -> Int -> Int -> Int -> Int -> Mp -> Mp -> (ByteArray -> Int -> Int -> Mp -> Mp -> O β) -> O β
 | 0, _, _, _, _, _, _, _ => none
 | F + 1, a0, a1, a2, a3, a4, a5, k0 => Xg N (pS N F) a0 a1 a2 a3 a4 a5 k0
def Xh := pS (β := β) N N
def PX (N : Nat) (a0 a1 : Int) (k : ByteArray -> Bool -> O β) : O β :=
ahl a0 a1 4 fun r4 =>
(cond (!r4)
(k ByteArray.empty false)
(ai2 a0 a1 (fun r5_0 r5_1 r5_2 r5_3 =>
ajR 0 0 r5_0 r5_1 r5_2 r5_3 (fun r6_0 r6_1 r6_2 r6_3 r6_4 =>
k r6_0 true))))
def yv := PX (β := β) (gu N) (DD N) (Xh N) N
def PY (N : Nat) (a0 a1 : Int) (k : Bool -> O β) : O β :=
(cond (a1 == 0)
(k true)
(ahg a0 a1 fun r3 r4 =>
k (r4 == 0)))
def nm := PY (β := β) (eF N) N
def Ih (N : Nat) (v0 : List Int) (v1 v2 v3 v4 : Int) (rec_ : List Int -> Int -> Int -> Int -> Int -> O β) (k0 : ByteArray -> O β) (k1 : List Int -> Int -> Int -> O β) : O β :=
(cond (decide (v2 < v1))
(aho v3 v2 fun r7 r8 =>
(cond ((v3 == r7) && (v4 == r8))
(k0 (aq (([] : List Int) ++ [(w8 (97 + (w8 (v2))))])))
(ahg r7 r8 fun r9 r10 =>
(cond ((v3 == r9) && (v4 == r10))
(gd (decide ((aq [33]).size + (aq (([] : List Int) ++ [(w8 (97 + (w8 (v2))))])).size <= 9223372036854775807))
(k0 ((aq [33]) ++ (aq (([] : List Int) ++ [(w8 (97 + (w8 (v2))))])))))
(rec_ v0 v1 (w64 (v2 + 1)) v3 v4)))))
(k1 v0 v3 v4))
def DF := Ih (β := β) (pT N) (eF N) N
def l5 (N : Nat) : Nat -> List Int -> Int -> Int -> Int -> Int -> (ByteArray -> O β) -> (List Int -> Int -> Int -> O β) -> O β
 | 0, _, _, _, _, _, _, _ => none
 | F + 1, v0, v1, v2, v3, v4, k0, k1 => DF N v0 v1 v2 v3 v4 (fun v0 v1 v2 v3 v4 => l5 N F v0 v1 v2 v3 v4 k0 k1) k0 k1
def Ii (N : Nat) (self : Int -> Int -> List Int -> (ByteArray -> O β) -> O β) (v0 : List Int) (v1 v2 v3 v4 v5 : Int) (v6 : List Int) (v7 v8 : Int) (v9 : List Int) (v10 v11 v12 v13 : Int) (v14 : List Int) (rec_ : List Int -> Int -> Int -> Int -> Int -> Int -> List Int -> Int -> Int -> List Int -> Int -> Int -> Int -> Int -> List Int -> O β) (k0 : ByteArray -> O β) (k1 : List Int -> Int -> Int -> Int -> List Int -> Int -> Int -> Int -> Int -> List Int -> O β) : O β :=
(cond (decide (v11 < v10))
(gd (decide (0 <= v11))
(gd (decide (v11 < (v9.length : Int)))
(cond (v1 == 124)
(cond (decide ((rd 0 v9 v11) >= 1))
(gd (decide (0 <= v13))
(gd (decide (v13 < (v0.length : Int)))
(cond ((w64 (v3 + (rd 0 v9 v11))) == (rd 0 v0 v13))
(cond ((bits .or .i64 v2 v11) == v13)
(self v12 v2 v0 fun r13 =>
self v12 v11 v0 fun r14 =>
(gd (decide ((aq (([] : List Int) ++ [v1])).size + r13.size <= 9223372036854775807))
(gd (decide (((aq (([] : List Int) ++ [v1])) ++ r13).size + r14.size <= 9223372036854775807))
(k0 (((aq (([] : List Int) ++ [v1])) ++ r13) ++ r14)))))
(rec_ v0 v1 v2 v3 v4 v5 v6 v7 v8 v9 v10 (w64 (v11 + 1)) v12 v13 v14))
(rec_ v0 v1 v2 v3 v4 v5 v6 v7 v8 v9 v10 (w64 (v11 + 1)) v12 v13 v14))))
(rec_ v0 v1 v2 v3 v4 v5 v6 v7 v8 v9 v10 (w64 (v11 + 1)) v12 v13 v14))
(cond (decide ((rd 0 v9 v11) >= 1))
(gd (decide (0 <= v13))
(gd (decide (v13 < (v0.length : Int)))
(cond ((w64 (v3 + (rd 0 v9 v11))) == (rd 0 v0 v13))
(cond ((bits .and .i64 v2 v11) == v13)
(self v12 v2 v0 fun r15 =>
self v12 v11 v0 fun r16 =>
(gd (decide ((aq (([] : List Int) ++ [v1])).size + r15.size <= 9223372036854775807))
(gd (decide (((aq (([] : List Int) ++ [v1])) ++ r15).size + r16.size <= 9223372036854775807))
(k0 (((aq (([] : List Int) ++ [v1])) ++ r15) ++ r16)))))
(rec_ v0 v1 v2 v3 v4 v5 v6 v7 v8 v9 v10 (w64 (v11 + 1)) v12 v13 v14))
(rec_ v0 v1 v2 v3 v4 v5 v6 v7 v8 v9 v10 (w64 (v11 + 1)) v12 v13 v14))))
(rec_ v0 v1 v2 v3 v4 v5 v6 v7 v8 v9 v10 (w64 (v11 + 1)) v12 v13 v14)))))
(k1 v0 v1 v4 v5 v6 v7 v8 v12 v13 v14))
def DG := Ii (β := β) N
def l6 (N : Nat) (self : Int -> Int -> List Int -> (ByteArray -> O β) -> O β) : Nat -> List Int -> Int -> Int -> Int -> Int -> Int -> List Int -> Int -> Int -> List Int -> Int -> Int -> Int -> Int -> List Int -> (ByteArray -> O β) -> (List Int -> Int -> Int -> Int -> List Int -> Int -> Int -> Int -> Int -> List Int -> O β) -> O β
 | 0, _, _, _, _, _, _, _, _, _, _, _, _, _, _, _, _, _ => none
 | F + 1, v0, v1, v2, v3, v4, v5, v6, v7, v8, v9, v10, v11, v12, v13, v14, k0, k1 => DG N self v0 v1 v2 v3 v4 v5 v6 v7 v8 v9 v10 v11 v12 v13 v14 (fun v0 v1 v2 v3 v4 v5 v6 v7 v8 v9 v10 v11 v12 v13 v14 => l6 N self F v0 v1 v2 v3 v4 v5 v6 v7 v8 v9 v10 v11 v12 v13 v14 k0 k1) k0 k1
def Ij (self : Int -> Int -> List Int -> (ByteArray -> O β) -> O β) (v0 : List Int) (v1 v2 v3 : Int) (v4 : List Int) (v5 v6 v7 v8 : Int) (v9 : List Int) (rec_ : List Int -> Int -> Int -> Int -> List Int -> Int -> Int -> Int -> Int -> List Int -> O β) (k0 : ByteArray -> O β) (k1 : List Int -> Int -> Int -> Int -> Int -> List Int -> O β) : O β :=
(cond (decide (v6 < v5))
(gd (decide (0 <= v6))
(gd (decide (v6 < (v4.length : Int)))
(cond (decide ((rd 0 v4 v6) < 1))
(rec_ v0 v1 v2 v3 v4 v5 (w64 (v6 + 1)) v7 v8 v9)
(gd (decide (0 <= v8))
(gd (decide (v8 < (v0.length : Int)))
(cond (decide ((rd 0 v4 v6) >= (rd 0 v0 v8)))
(rec_ v0 v1 v2 v3 v4 v5 (w64 (v6 + 1)) v7 v8 v9)
(ahX self N v0 v1 v6 (rd 0 v4 v6) v2 v3 v4 v5 v6 v0 (v0.length : Int) 0 v7 v8 v9 (fun aA =>
k0 aA) (fun aB aC aD aE aF aG aH aI aJ aK =>
rec_ aB aC aD aE aF aG (w64 (aH + 1)) aI aJ aK))))))))
(k1 v0 v2 v3 v7 v8 v9))
def DH := Ij (β := β) (l6 N) N
def i7 (N : Nat) (self : Int -> Int -> List Int -> (ByteArray -> O β) -> O β) : Nat -> List Int -> Int -> Int -> Int -> List Int -> Int -> Int -> Int -> Int -> List Int -> (ByteArray -> O β) -> (List Int -> Int -> Int -> Int -> Int -> List Int -> O β) -> O β
 | 0, _, _, _, _, _, _, _, _, _, _, _, _ => none
 | F + 1, v0, v1, v2, v3, v4, v5, v6, v7, v8, v9, k0, k1 => DH N self v0 v1 v2 v3 v4 v5 v6 v7 v8 v9 (fun v0 v1 v2 v3 v4 v5 v6 v7 v8 v9 => i7 N self F v0 v1 v2 v3 v4 v5 v6 v7 v8 v9 k0 k1) k0 k1
def Ik (self : Int -> Int -> List Int -> (ByteArray -> O β) -> O β) (v0 : List Int) (v1 v2 v3 v4 : Int) (v5 : List Int) (rec_ : List Int -> Int -> Int -> Int -> Int -> List Int -> O β) (k0 : ByteArray -> O β) (k1 : O β) : O β :=
(cond (decide (v2 < v1))
(gd (decide (0 <= v2))
(gd (decide (v2 < (v5.length : Int)))
(ahY self N v0 (rd 0 v5 v2) v1 v2 v0 (v0.length : Int) 0 v3 v4 v5 (fun aA =>
k0 aA) (fun aB aC aD aE aF aG =>
rec_ aB aC (w64 (aD + 1)) aE aF aG))))
(k1 ))
def DI := Ik (β := β) (i7 N) N
def gx (N : Nat) (self : Int -> Int -> List Int -> (ByteArray -> O β) -> O β) : Nat -> List Int -> Int -> Int -> Int -> Int -> List Int -> (ByteArray -> O β) -> (O β) -> O β
 | 0, _, _, _, _, _, _, _, _ => none
 | F + 1, v0, v1, v2, v3, v4, v5, k0, k1 => DI N self v0 v1 v2 v3 v4 v5 (fun v0 v1 v2 v3 v4 v5 => gx N self F v0 v1 v2 v3 v4 v5 k0 k1) k0 k1
def PZ (self : Int -> Int -> List Int -> (ByteArray -> O β) -> O β) (a0 a1 : Int) (a2 : List Int) (k : ByteArray -> O β) : O β :=
ahL a0 a1 fun r4 =>
(cond r4
(zq3 a0 a1 0 fun r5 =>
ahn r5 fun r6 =>
k r6)
(gd (decide (0 <= a1))
(gd (decide (a1 < (a2.length : Int)))
(cond ((rd 0 a2 a1) == 1)
(ahW N a2 a0 0 a0 a1 (fun aA =>
k aA) (fun aB aC aD =>
ahM self N aB (((([] : List Int) ++ [38]) ++ [124]).length : Int) 0 aC aD ((([] : List Int) ++ [38]) ++ [124]) (fun aE =>
k aE) (k ByteArray.empty)))
(ahM self N a2 (((([] : List Int) ++ [38]) ++ [124]).length : Int) 0 a0 a1 ((([] : List Int) ++ [38]) ++ [124]) (fun aF =>
k aF) (k ByteArray.empty))))))
def QE := PZ (β := β) (zj3 N) (fQ N) (nm N) (l5 N) (gx N) N
def cZ (N : Nat) : Nat -> Int -> Int -> List Int -> (ByteArray -> O β) -> O β
 | 0, _, _, _, _ => none
 | F + 1, a0, a1, a2, k => QE N (cZ N F) a0 a1 a2 k
def Xi := cZ (β := β) N N
def P0 (a0 a1 : Int) (k : ByteArray -> Bool -> O β) : O β :=
ahl a0 a1 3 fun r4 =>
(cond (!r4)
(k ByteArray.empty false)
(jt N a0 fun r5 =>
ajS a0 a1 r5 fun r6 =>
k r6 true))
def yw := P0 (β := β) (gu N) (Xi N) N
def P1 (N : Nat) (a0 : ByteArray) (a1 a2 : Int) (k : ByteArray -> Bool -> O β) : O β :=
ahl a1 a2 4 fun r5 =>
(cond (!r5)
(k ByteArray.empty false)
(cond (a0.toList == (aq [116, 97, 98, 108, 101]).toList)
(ahE a1 a2 fun r6 =>
k r6 true)
(cond (a0.toList == (aq [97, 110, 102]).toList)
(ahA a1 a2 fun r7 =>
k r7 true)
(cond (a0.toList == (aq [115, 117, 109]).toList)
(ai0 a1 a2 fun r8 =>
ai1 a1 r8 fun r9 =>
k r9 true)
(cond (a0.toList == (aq [116, 114, 101, 101]).toList)
(ai5 a1 a2 fun r10 r11 =>
k r10 r11)
(cond (a0.toList == (aq [102, 111, 114, 109, 117, 108, 97]).toList)
(ajz a1 a2 fun r12 r13 =>
k r12 r13)
(k ByteArray.empty false)))))))
def yx := P1 (β := β) (na N) (iW N) (gu N) (yr N) (yt N) (yv N) (yw N) N
def P2 (N : Nat) (a0 a1 : ByteArray) (a2 : Int) (a3 : ByteArray) (k : ByteArray -> Bool -> O β) : O β :=
aiV a0 a2 a3 fun r6 r7 r8 =>
(cond (!r8)
(k ByteArray.empty false)
(ajA a1 r6 r7 fun r9 r10 =>
k r9 r10))
def yy := P2 (β := β) (vM N) (yx N) N
def P3 (N : Nat) (a0 : ByteArray) (a1 : Int) (a2 : ByteArray) (k : Bool -> O β) : O β :=
ajB a0 a0 a1 a2 fun r4 r5 =>
(cond r5
(k (r4.toList == a2.toList))
(k false))
def DJ := P3 (β := β) (yy N) N
def bQ (N : Nat) (a0 : ByteArray) (a1 : Int) (a2 : ByteArray) (k : Bool -> O β) : O β :=
(cond (decide ((a0.size : Int) > 1048576))
(k true)
(cond (decide ((a2.size : Int) > 1048576))
(k true)
(aiH a0 a1 a2 fun r4 =>
ajC a0 a1 a2 fun r5 =>
(cond (!(r5 == r4))
(k false)
(k true)))))
def b9 := bQ (β := β) (DA N) (DJ N) N
end Go.Proofs.YtemihnclhcobnaaGreatDoor
