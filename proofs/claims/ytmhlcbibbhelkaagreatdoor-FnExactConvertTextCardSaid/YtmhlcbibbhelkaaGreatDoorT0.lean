/- The texts of the functions that the claims cZ: plain Lean, no program. -/
import Derived.Test.YtmhlcbibbhelkaaGreatDoorSizT
namespace Go.Proofs.YtmhlcbibbhelkaaGreatDoor
set_option linter.unusedSimpArgs false
open Go.Rv
set_option linter.unusedVariables false
set_option maxRecDepth 100000
abbrev O := Option
abbrev Y0 (β : Type) := Int → Int → (Bool → O β) → O β
abbrev Y1 (β : Type) := Int → ByteArray → (Bool → O β) → O β
abbrev Y2 (β : Type) := Int → Int → (Int → O β) → O β
abbrev Y3 (β : Type) := Int → Int → Int → (Int → O β) → O β
abbrev Y4 (β : Type) := Int → Int → Int → (Bool → O β) → O β
abbrev Y5 (β : Type) := Nat → Int → Int → Int → Int → Int → Int → (Int → O β) → O β
abbrev Y6 (β : Type) := Int → (Bool → O β) → O β
abbrev Y7 (β : Type) := (List (Int × Int)) → (Int → Int → (Bool → O β) → O β) → (Int → O β) → O β
abbrev Y8 (β : Type) := (Int → Int → (Bool → O β) → O β) → Nat → List (Int × Int) → Int → Int → (Int → O β) → O β → O β
abbrev Y9 (β : Type) := (List (Int × Int)) → (Int → Int → (Bool → O β) → O β) → (Bool → O β) → O β
abbrev Y10 (β : Type) := Int → (List (Int × Int)) → (Bool → O β) → O β
abbrev Y11 (β : Type) := Int → (Int → Int → O β) → O β
abbrev Y12 (β : Type) := Tr → (Int → O β) → O β
abbrev Y13 (β : Type) := Tr → Int → (Int → Int → O β) → O β
abbrev Y14 (β : Type) := Nat → Tr → Int → Int → (Tr → Int → O β) → O β
abbrev Y15 (β : Type) := Int → Tr → (Bool → O β) → O β
abbrev Y16 (β : Type) := Int → (Int → (Bool → O β) → O β) → (Int → Int → O β) → O β
abbrev Y17 (β : Type) := (Int → (Bool → O β) → O β) → Nat → Int → Int → Int → Int → Int → Int → (Int → Int → Int → Int → O β) → O β
abbrev Y18 (β : Type) := Int → Int → (Int → Int → O β) → O β
abbrev Y19 (β : Type) := Nat → Int → Int → Int → Int → (Int → O β) → O β
abbrev Y20 (β : Type) := List Int → Int → (Int → O β) → O β
abbrev Y21 (β : Type) := Nat → List Int → Int → Int → Int → (Int → O β) → O β → O β
abbrev Y22 (β : Type) := List Int → Int → (Bool → O β) → O β
abbrev Y23 (β : Type) := ByteArray → (Int → Int → Bool → O β) → O β
abbrev Y24 (β : Type) := Nat → ByteArray → Int → Int → Int → (Bool → Int → Int → O β) → (Int → Int → O β) → O β
abbrev Y25 (β : Type) := Nat → ByteArray → Int → Int → Int → Int → Int → (Bool → Int → Int → O β) → (Int → Int → Int → Int → O β) → O β
abbrev Y26 (β : Type) := Int → Int → Int → (ByteArray → O β) → O β
abbrev Y27 (β : Type) := Nat → Int → ByteArray → Int → Int → Int → (Int → ByteArray → Int → Int → O β) → O β
abbrev Y28 (β : Type) := Int → ByteArray → (Int → Int → Bool → O β) → O β
abbrev Y29 (β : Type) := Nat → Int → ByteArray → Bool → Int → Int → Int → Int → Int → (Bool → Int → Int → O β) → (Int → ByteArray → Int → Int → Int → Int → O β) → O β
abbrev Y30 (β : Type) := Nat → Int → Int → Int → Int → Int → Int → (Int → Int → Int → Int → Int → O β) → O β
abbrev Y31 (β : Type) := Int → Int → (ByteArray → O β) → O β
abbrev Y32 (β : Type) := Nat → ByteArray → Int → Int → Int → Int → (ByteArray → O β) → O β
abbrev Y33 (β : Type) := Nat → Int → ByteArray → Int → ByteArray → Int → Int → Int → (Bool → Int → Int → O β) → (Int → ByteArray → Int → Int → Int → O β) → O β
abbrev Y34 (β : Type) := Nat → Int → List (Int × Int) → Int → (Bool → O β) → (Int → List (Int × Int) → O β) → O β
abbrev Y35 (β : Type) := Int → ByteArray → (List (Int × Int) → Bool → O β) → O β
abbrev Y36 (β : Type) := Nat → Int → ByteArray → ByteArray → Int → List (Int × Int) → (Bool → List (Int × Int) → O β) → (Int → ByteArray → List (Int × Int) → O β) → O β
abbrev Y37 (β : Type) := Nat → Int → Int → Int → Int → Int → (Int → O β) → O β
abbrev Y38 (β : Type) := Int → (List (Int × Int)) → (Int → Int → Bool → O β) → O β
abbrev Y39 (β : Type) := Nat → Int → List (Int × Int) → Int → Int → Int → Int → (Bool → Int → Int → O β) → (Int → Int → Int → Int → O β) → O β
abbrev Y40 (β : Type) := Nat → ByteArray → Int → Int → (Int → O β) → O β
abbrev Y41 (β : Type) := ByteArray → (Bool → O β) → O β
abbrev Y42 (β : Type) := ByteArray → Int → Int → (Int → O β) → O β
abbrev Y43 (β : Type) := Nat → ByteArray → Int → (Int → O β) → O β
abbrev Y44 (β : Type) := ByteArray → Int → (Int → Int → O β) → O β
abbrev Y45 (β : Type) := Nat → ByteArray → Int → Int → Int → (ByteArray → Int → Int → O β) → O β
abbrev Y46 (β : Type) := ByteArray → Int → (Int → O β) → O β
abbrev Y47 (β : Type) := ByteArray → Int → (Int → Int → Bool → O β) → O β
abbrev Y48 (β : Type) := Nat → ByteArray → Int → Int → Int → Int → (Bool → Int → Int → O β) → (ByteArray → Int → Int → Int → O β) → O β
abbrev Y49 (β : Type) := Nat → ByteArray → Int → Int → Int → Int → Int → (Int → Int → Int → Int → O β) → O β
abbrev Y50 (β : Type) := Nat → ByteArray → Int → Int → (Bool → O β) → O β
abbrev Y51 (β : Type) := ByteArray → Int → Int → (Bool → O β) → O β
abbrev Y52 (β : Type) := ByteArray → Int → ByteArray → (Int → Int → Bool → O β) → O β
abbrev Y53 (β : Type) := Nat → ByteArray → Int → Int → Int → (ByteArray → O β) → O β
abbrev Y54 (β : Type) := Int → Int → Int → Int → (Bool → O β) → O β
abbrev Y55 (β : Type) := Nat → Int → Int → Int → Int → Int → (Bool → O β) → O β → O β
abbrev Y56 (β : Type) := Int → Int → (List (Int × Int) → O β) → O β
abbrev Y57 (β : Type) := Nat → Int → Int → Int → List (Int × Int) → (List (Int × Int) → O β) → O β
abbrev Y58 (β : Type) := Nat → Int → Int → Int → Int → List (Int × Int) → (Int → Int → Int → List (Int × Int) → O β) → O β
abbrev Y59 (β : Type) := Nat → Int → Int → List (Int × Int) → Int → Int → Int → (List (Int × Int) → Bool → O β) → O β
abbrev Y60 (β : Type) := (Int → Int → List (Int × Int) → Int → Int → Int → (List (Int × Int) → Bool → O β) → O β) → Nat → List (Int × Int) → Int → Int → Int → Int → Int → (Bool → List (Int × Int) → O β) → O β → O β
abbrev Y61 (β : Type) := Int → Int → (List (Int × Int) → Bool → O β) → O β
abbrev Y62 (β : Type) := Nat → Int → Int → Int → List (Int × Int) → (Bool → List (Int × Int) → O β) → O β → O β
abbrev Y63 (β : Type) := Int → Int → List (Int × Int) → Int → Int → Int → (List (Int × Int) → Bool → O β) → O β
abbrev Y64 (β : Type) := Int → (List (Int × Int)) → (ByteArray → O β) → O β
abbrev Y65 (β : Type) := Nat → Int → List (Int × Int) → ByteArray → Int → (Int → List (Int × Int) → ByteArray → O β) → O β
abbrev Y66 (β : Type) := Int → Int → Int → Int → (Int → O β) → O β
abbrev Y67 (β : Type) := Nat → Int → Int → Int → Int → Int → Int → (Int → O β) → (Int → O β) → O β
abbrev Y68 (β : Type) := (Int → Int → Int → Int → (Int → O β) → O β) → Nat → Int → Int → Int → Int → Int → Int → (Int → O β) → O β
abbrev Y69 (β : Type) := Nat → Int → Int → Int → Int → (ByteArray → O β) → O β
abbrev Y70 (β : Type) := (Int → Int → Int → Int → (ByteArray → O β) → O β) → Nat → Int → Int → Int → Int → Int → Int → (ByteArray → O β) → O β → O β
abbrev Y71 (β : Type) := Int → Int → (ByteArray → Bool → O β) → O β
abbrev Y72 (β : Type) := Int → Int → Int → Int → (ByteArray → O β) → O β
abbrev Y73 (β : Type) := Int → (Int → O β) → O β
abbrev Y74 (β : Type) := Nat → List Int → Int → Int → (ByteArray → O β) → O β
abbrev Y75 (β : Type) := Nat → List Int → Int → Int → Int → (ByteArray → O β) → (List Int → Int → Int → O β) → O β
abbrev Y76 (β : Type) := (List Int → Int → Int → (ByteArray → O β) → O β) → Nat → List Int → Int → Int → Int → (ByteArray → O β) → O β → O β
abbrev Y77 (β : Type) := (List Int → Int → Int → (ByteArray → O β) → O β) → Nat → List Int → Int → Int → Int → Int → (ByteArray → O β) → (List Int → Int → Int → Int → O β) → O β
abbrev Y78 (β : Type) := (List Int → Int → Int → (ByteArray → O β) → O β) → Nat → List Int → Int → Int → Int → Int → Int → (ByteArray → O β) → (List Int → Int → Int → Int → Int → O β) → O β
abbrev Y79 (β : Type) := List Int → Int → Int → (ByteArray → O β) → O β
abbrev Y80 (β : Type) := ByteArray → Int → Int → (ByteArray → Bool → O β) → O β
abbrev Y81 (β : Type) := ByteArray → ByteArray → Int → ByteArray → (ByteArray → Bool → O β) → O β
abbrev Y82 (β : Type) := Nat → Int → Int → Int → Int → List Int → (List Int → O β) → O β
abbrev Y83 (β : Type) := Nat → Int → ByteArray → Int → Int → (Bool → Int → Int → O β) → (Int → Int → O β) → O β
abbrev Y84 (β : Type) := Nat → Int → ByteArray → Int → Int → Int → Int → Int → Int → Int → (Int → ByteArray → Int → Int → Int → Int → O β) → O β
abbrev Y85 (β : Type) := Int → (List (Int × Int)) → ByteArray → (ByteArray → O β) → O β
abbrev Y86 (β : Type) := Nat → Int → ByteArray → List (Int × Int) → Int → Int → List ByteArray → (ByteArray → List ByteArray → O β) → O β
abbrev Y87 (β : Type) := Nat → Int → Int → Int → Int → Int → Int → List (Int × Int) → (Int → Int → List (Int × Int) → O β) → O β
abbrev Y88 (β : Type) := Nat → Int → ByteArray → Int → Int → Int → Int → Int → Int → List ByteArray → (Bool → Int → Int → O β) → (ByteArray → Int → Int → Int → Int → O β) → O β
abbrev Y89 (β : Type) := Nat → Int → Int → Int → List (Int × Int) → List ByteArray → (Bool → List (Int × Int) → O β) → (Int → List (Int × Int) → O β) → O β
abbrev Y90 (β : Type) := Int → (List (Int × Int)) → (Int → Int → O β) → O β
abbrev Y91 (β : Type) := Nat → ByteArray → Int → (Tr → ByteArray → O β) → O β
abbrev Y92 (β : Type) := ByteArray → (Tr → Bool → O β) → O β
abbrev Y93 (β : Type) := ByteArray → Int → (Tr → ByteArray → O β) → O β
abbrev Y94 (β : Type) := Nat → Tr → Int → (Bool → O β) → O β
abbrev Y95 (β : Type) := ByteArray → Int → (Tr → Int → Int → Bool → O β) → O β
abbrev Y96 (β : Type) := Tr → Int → (Bool → O β) → O β
abbrev Y97 (β : Type) := Nat → ByteArray → (Tr → ByteArray → O β) → O β
abbrev Y98 (β : Type) := ByteArray → (Tr → ByteArray → O β) → O β
abbrev Y99 (β : Type) := Tr → (Bool → O β) → O β
abbrev abp (β : Type) := Int → Int → (Int → Int → Bool → O β) → O β
abbrev ac5 (β : Type) := Nat → Tr → Int → (Int → Int → Bool → O β) → O β
abbrev ac6 (β : Type) := Tr → Int → (Int → Int → Bool → O β) → O β
abbrev abq (β : Type) := Nat → Int → Int → Int → Int → Int → Int → Bool → Bool → (Bool → Bool → O β) → O β
abbrev abr (β : Type) := Nat → Int → Int → Int → Int → Int → Int → (Bool → O β) → O β → O β
abbrev abt (β : Type) := Nat → Int → Int → Int → Int → List (Int × Int) → (List (Int × Int) → O β) → O β
abbrev abu (β : Type) := Nat → Int → Int → Int → Int → Int → Int → Int → List (Int × Int) → (Int → Int → Int → Int → List (Int × Int) → O β) → O β
abbrev abv (β : Type) := Nat → List Int → Int → Int → Int → Int → (List Int → Bool → O β) → O β
abbrev abw (β : Type) := (List Int → Int → Int → Int → Int → (List Int → Bool → O β) → O β) → Nat → List Int → Int → Int → Int → Int → (Bool → List Int → O β) → O β → O β
abbrev abx (β : Type) := Nat → List (Int × Int) → List (Int × Int) → Int → Int → Int → Int → List Int → (List (Int × Int) → Int → Int → List Int → O β) → O β
abbrev aby (β : Type) := Nat → List (Int × Int) → Int → Int → Int → Int → List Int → (List (Int × Int) → O β) → O β → O β
abbrev abz (β : Type) := Nat → List (Int × Int) → Int → Int → List (Int × Int) → List Int → (List (Int × Int) → O β) → O β
abbrev ac7 (β : Type) := List Int → Int → Int → Int → Int → (List Int → Bool → O β) → O β
abbrev Vy (β : Type) := Int → Int → (Int → Int → Mp → Mp → O β) → O β
abbrev Qq (β : Type) := Int → (ByteArray → O β) → O β
abbrev Vz (β : Type) := Int → Int → Int → Int → (Int → Int → O β) → O β
abbrev abA (β : Type) := Nat → Int → Int → Int → Int → Mp → Mp → (Int → Int → Int → Mp → Mp → O β) → O β
abbrev abB (β : Type) := (Int → Int → Int → Int → Mp → Mp → (Int → Int → Int → Mp → Mp → O β) → O β) → Nat → Int → Int → Int → Int → Int → Mp → Mp → Int → Int → (Int → Int → Int → Mp → Mp → Int → Int → O β) → O β
abbrev VA (β : Type) := Int → Int → Int → Int → Mp → Mp → (Int → Int → Int → Mp → Mp → O β) → O β
abbrev abC (β : Type) := Nat → Int → Int → Int → Int → Int → Mp → Mp → Int → Int → (Int → Int → Int → Mp → Mp → O β) → (Int → Int → Mp → Mp → O β) → O β
abbrev ac8 (β : Type) := Nat → Int → Int → Int → Int → Mp → Mp → (ByteArray → Int → Int → Mp → Mp → O β) → O β
abbrev ac9 (β : Type) := Int → Int → Int → Int → Mp → Mp → (ByteArray → Int → Int → Mp → Mp → O β) → O β
abbrev abD (β : Type) := Nat → Int → Int → List Int → (ByteArray → O β) → O β
abbrev abE (β : Type) := Nat → List Int → Int → Int → Int → Int → (ByteArray → O β) → (List Int → Int → Int → O β) → O β
abbrev abF (β : Type) := (Int → Int → List Int → (ByteArray → O β) → O β) → Nat → List Int → Int → Int → Int → Int → List Int → (ByteArray → O β) → O β → O β
abbrev abG (β : Type) := (Int → Int → List Int → (ByteArray → O β) → O β) → Nat → List Int → Int → Int → Int → List Int → Int → Int → Int → Int → List Int → (ByteArray → O β) → (List Int → Int → Int → Int → Int → List Int → O β) → O β
abbrev abH (β : Type) := (Int → Int → List Int → (ByteArray → O β) → O β) → Nat → List Int → Int → Int → Int → Int → Int → List Int → Int → Int → List Int → Int → Int → Int → Int → List Int → (ByteArray → O β) → (List Int → Int → Int → Int → List Int → Int → Int → Int → Int → List Int → O β) → O β
abbrev ada (β : Type) := Int → Int → List Int → (ByteArray → O β) → O β
abbrev adb (β : Type) := ByteArray → ByteArray → Int → ByteArray → (Bool → O β) → O β
def tn : Nat → List TV → List TV
 | 0, l => l
 | n + 1, l => ac :: tn n l
variable {β : Type}
abbrev stB (L : Lay) (E : Env β) (f : Func) (i : Nat) (s : St) (rec_ : St → O β) (K : Exit → St → O β) : O β := ev L E (ai f) (lp f i).body (lp f i).ex ((lp f i).lv (ai f)) s (Th (fun s' => rec_ (s'.tidy ((lp f i).lv (ai f)))) K)
variable (zq0 : Y0 β) (zq1 : Y1 β) (zq2 : Y2 β) (zq3 : Y3 β) (zq5 : Y5 β) (zq6 : Y4 β) (zq7 : Y6 β) (zq8 : Y0 β) (zq9 ad8 ago ad9 : Y4 β) (aeK : Y8 β) (ae0 : Y7 β) (aeF : Y9 β) (adZ : Y10 β) (aeB : Y11 β) (aew : Y12 β) (afX : Y14 β) (agx : Y13 β) (ad0 ad1 : Y15 β) (ad7 : Y17 β) (ad4 : Y16 β) (aeo : Y18 β) (af6 : Y19 β) (aeH : Y2 β) (af7 : Y21 β) (agC : Y20 β) (adV : Y4 β) (afi : Y25 β) (afj : Y24 β) (af8 : Y23 β) (aed : Y4 β) (af9 : Y27 β) (aee : Y26 β) (aga : Y29 β) (aer : Y28 β) (afk : Y30 β) (afl : Y19 β) (aeC : Y2 β) (ad5 : Y0 β) (agc : Y32 β) (aeI : Y31 β) (agd : Y33 β) (age : Y28 β) (agf : Y34 β) (aes : Y10 β) (agh : Y36 β) (agi : Y35 β) (agj : Y37 β) (aeh : Y3 β) (agk : Y39 β) (agl : Y38 β) (agT : Y42 β) (afn : Y41 β) (agU : Y46 β) (agm : Y45 β) (afo : Y44 β) (afp : Y48 β) (afq : Y49 β) (agn : Y47 β) (agF : Y46 β) (ae5 : Y41 β) (agV : Y51 β) (afr : Y48 β) (afs : Y49 β) (agE : Y47 β) (aft : Y52 β) (afu : Y53 β) (afv : Y31 β) (aeZ : Y54 β) (afw : Y55 β) (ae6 : Y54 β) (ae7 : Y58 β) (ae8 : Y57 β) (ae9 : Y56 β) (afx : Y60 β) (agI : Y63 β) (afy : Y62 β) (afz : Y61 β) (afA : Y65 β) (afB : Y64 β) (afC : Y67 β) (aey : Y66 β) (afD : Y68 β) (agG : Y66 β) (afE : Y70 β) (agJ : Y72 β) (afF : Y71 β) (aej : Y73 β) (aeP : Y75 β) (aeQ : Y78 β) (aeR : Y77 β) (aeS : Y76 β) (agK : Y79 β) (afG : Y71 β) (agp : Y80 β) (afH : Y81 β) (aei : Y0 β) (afI : Y82 β) (aeE : Y31 β) (afJ : Y83 β) (afK : Y23 β) (aef : Y6 β) (afL : Y82 β) (aet : Y26 β) (afM : Y84 β) (aez : Y28 β) (aeu : Y18 β) (afN : Y86 β) (aeG : Y85 β) (afO : Y87 β) (aeA : Y31 β) (afP : Y88 β) (afQ : Y28 β) (aeT afR : Y10 β) (afS : Y89 β) (afT : Y35 β) (aev : Y90 β) (afU : Y38 β) (agL : Y93 β) (agq : Y92 β) (agM : Y96 β) (agr : Y95 β) (ags : Y47 β) (agN : Y98 β) (agt : Y92 β) (agu : Y99 β) (agv : abp β) (aeg : Y18 β) (agO : ac6 β) (agw : Y47 β) (afV : Y52 β) (ael : Y4 β) (afW : abq β) (aek : Y66 β) (aeU : Y54 β) (afY : abr β) (afe : Y54 β) (aff : abu β) (afg : abt β) (aeV : Y56 β) (afZ : abw β) (agP : ac7 β) (ae1 : abx β) (ae2 : abz β) (ae3 : aby β) (af0 : Y56 β) (af1 : Y64 β) (af2 : Vy β) (aen : Qq β) (aea : Vz β) (af3 : abB β) (agH : VA β) (af4 : abC β) (agy : VA β) (agQ : ac9 β) (af5 : Y71 β) (aeL : Y0 β) (aeW : abE β) (aeX : abH β) (aeY : abG β) (aeM : abF β) (agR : ada β) (agz : Y71 β) (agA : Y80 β) (agB : Y81 β)
def zb0 (N : Nat) (a0 c0 : Int) (k : Bool → O β) : O β :=
(gd (decide (0 ≤ c0))
(k ((bits .and .i64 (cX .i64 a0 c0) 1) == 1)))
def zj0 (N : Nat) := zb0 (β := β) N
def zb1 (N : Nat) (a0 : Int) (c0 : ByteArray) (k : Bool → O β) : O β :=
(gd (decide (0 ≤ a0))
(gd (decide (a0 < (c0.size : Int)))
(k ((bt c0 a0) == 49))))
def zj1 (N : Nat) := zb1 (β := β) N
def zb2 (N : Nat) (a0 a1 : Int) (k : Int → O β) : O β :=
(gd (decide (0 ≤ a0))
(k (aW .i64 1 a0)))
def zj2 (N : Nat) := zb2 (β := β) N
def zb3 (N : Nat) (a0 a1 a2 : Int) (k : Int → O β) : O β :=
(gd (decide (0 ≤ a2))
(k (bits .and .i64 (cX .i64 a1 a2) 1)))
def zj3 (N : Nat) := zb3 (β := β) N
def zb4 (N : Nat) (v0 v1 v2 v3 v4 v5 : Int) (rec_ : Int → Int → Int → Int → Int → Int → O β) (k0 : Int → O β) : O β :=
(cond (decide (v5 < v4))
(cond ((bits .andNot .i64 v5 v0) == 0)
(zq3 v1 v2 v5 fun r3 =>
rec_ v0 v1 v2 (bits .xor .i64 v3 r3) v4 (w64 (v5 + 1)))
(rec_ v0 v1 v2 v3 v4 (w64 (v5 + 1))))
(k0 v3))
def zj4 (N : Nat) := zb4 (β := β) (zj3 N) N
def zj5 (N : Nat) : Nat → Int → Int → Int → Int → Int → Int → (Int → O β) → O β
 | 0, _, _, _, _, _, _, _ => none
 | F + 1, v0, v1, v2, v3, v4, v5, k0 => zj4 N v0 v1 v2 v3 v4 v5 (fun v0 v1 v2 v3 v4 v5 => zj5 N F v0 v1 v2 v3 v4 v5 k0) k0
def zb6 (N : Nat) (a0 c0 c1 : Int) (k : Bool → O β) : O β :=
zq2 c0 c1 fun r2 =>
zq5 N a0 c0 c1 0 r2 0 (fun aA =>
k (aA == 1))
def zj6 (N : Nat) := zb6 (β := β) (zj2 N) (zj5 N) N
def zb7 (N : Nat) (a0 : Int) (k : Bool → O β) : O β :=
(cond (decide (a0 ≥ 0))
(k (decide (a0 ≤ 5)))
(k false))
def zj7 (N : Nat) := zb7 (β := β) N
def zb8 (N : Nat) (a0 a1 : Int) (k : Bool → O β) : O β :=
(cond (decide (a1 ≥ 0))
(gd (decide (0 ≤ a0))
(k (decide (a1 < (aW .i64 1 a0)))))
(k false))
def zj8 (N : Nat) := zb8 (β := β) N
def zb9 (N : Nat) (a0 a1 a2 : Int) (k : Bool → O β) : O β :=
zq7 a0 fun r4 =>
(cond r4
(zq8 a0 a1 fun r5 =>
(cond r5
(cond (decide (a2 ≥ 0))
(k ((bits .andNot .i64 a2 a1) == 0))
(k false))
(k false)))
(k false))
def zj9 (N : Nat) := zb9 (β := β) (zj7 N) (zj8 N) N
def R7 (N : Nat) (a0 a1 c0 : Int) (k : Bool → O β) : O β :=
zq9 c0 a0 a1 fun r3 =>
k (!r3)
def gL (N : Nat) := R7 (β := β) (zj9 N) N
def R8 (N : Nat) (a0 a1 a2 : Int) (k : Bool → O β) : O β :=
k ((bits .and .i64 a2 a0) == a1)
def Jv (N : Nat) := R8 (β := β) N
def R9 (N : Nat) (a0 a1 c0 : Int) (k : Bool → O β) : O β :=
ago a0 a1 c0 fun r3 =>
k r3
def ij (N : Nat) := R9 (β := β) (Jv N) N
def Em (N : Nat) (a1 : (Int → Int → (Bool → O β) → O β)) (v0 : List (Int × Int)) (v1 v2 : Int) (rec_ : List (Int × Int) → Int → Int → O β) (k0 : Int → O β) (k1 : O β) : O β :=
(cond (decide (v2 < v1))
(gd (decide (0 ≤ v2))
(gd (decide (v2 < (v0.length : Int)))
(a1 ((rd (0, 0) v0 v2).1) ((rd (0, 0) v0 v2).2) fun r3 =>
(cond r3
(k0 v2)
(rec_ v0 v1 (w64 (v2 + 1)))))))
(k1 ))
def Pm (N : Nat) := Em (β := β) N
def lW (N : Nat) (a1 : (Int → Int → (Bool → O β) → O β)) : Nat → List (Int × Int) → Int → Int → (Int → O β) → (O β) → O β
 | 0, _, _, _, _, _ => none
 | F + 1, v0, v1, v2, k0, k1 => Pm N a1 v0 v1 v2 (fun v0 v1 v2 => lW N a1 F v0 v1 v2 k0 k1) k0 k1
def OA (N : Nat) (a0 : List (Int × Int)) (a1 : (Int → Int → (Bool → O β) → O β)) (k : Int → O β) : O β :=
aeK a1 N a0 (a0.length : Int) 0 (fun aA =>
k aA) (k (-1))
def En (N : Nat) := OA (β := β) (lW N) N
def OG (N : Nat) (a0 : List (Int × Int)) (a1 : (Int → Int → (Bool → O β) → O β)) (k : Bool → O β) : O β :=
ae0 a0 a1 fun r3 =>
k (decide (r3 ≥ 0))
def vq (N : Nat) := OG (β := β) (En N) N
def Sa (N : Nat) (a0 : Int) (c0 : List (Int × Int)) (k : Bool → O β) : O β :=
aeF c0 (fun x0 x1 k => ad9 x0 x1 a0 k) fun r2 =>
k r2
def da (N : Nat) := Sa (β := β) (ij N) (vq N) N
def ZN (N : Nat) (a0 : Int) (k0 : Int → Int → O β) : O β :=
k0 (w64 (w8 (a0 - 97))) a0
def uI (N : Nat) := ZN (β := β) N
def Sb (N : Nat) (a0 : Tr) (k0 : Int → O β) : O β :=
(gd (!(Tr.isNil a0))
(gd (!(Tr.isNil a0))
(gd (!(Tr.isNil a0))
(k0 (w64 (w8 ((Tr.a a0) - 97)))))))
def rK (N : Nat) := Sb (β := β) N
def ZO (N : Nat) (v0 : Tr) (v1 v2 : Int) (rec_ : Tr → Int → Int → O β) (k0 : Tr → Int → O β) : O β :=
(gd (!(Tr.isNil v0))
(gd (!(Tr.isNil v0))
(gd (!(Tr.isNil v0))
(cond (!(Tr.isNil (Tr.l v0)))
(aew v0 (fun r4_0 =>
(gd (decide (0 ≤ r4_0))
(cond ((bits .and .i64 (cX .i64 v1 r4_0) 1) == 0)
(gd (!(Tr.isNil v0))
(gd (!(Tr.isNil v0))
(gd (!(Tr.isNil v0))
(rec_ (Tr.l v0) v1 (w64 (v2 + 1))))))
(gd (!(Tr.isNil v0))
(gd (!(Tr.isNil v0))
(gd (!(Tr.isNil v0))
(rec_ (Tr.r v0) v1 (w64 (v2 + 1))))))))))
(k0 v0 v2)))))
def act (N : Nat) := ZO (β := β) (rK N) N
def Ak (N : Nat) : Nat → Tr → Int → Int → (Tr → Int → O β) → O β
 | 0, _, _, _, _ => none
 | F + 1, v0, v1, v2, k0 => act N v0 v1 v2 (fun v0 v1 v2 => Ak N F v0 v1 v2 k0) k0
def ZP (N : Nat) (a0 : Tr) (a1 : Int) (k : Int → Int → O β) : O β :=
afX N a0 a1 0 (fun aA aB =>
(gd (!(Tr.isNil aA))
(gd (!(Tr.isNil aA))
(gd (!(Tr.isNil aA))
(k (w64 (w8 ((Tr.a aA) - 48))) aB)))))
def PD (N : Nat) := ZP (β := β) (Ak N) N
def ZQ (N : Nat) (a0 : Int) (c0 : Tr) (k : Bool → O β) : O β :=
agx c0 a0 fun r2 r3 =>
k (r2 == 1)
def de (N : Nat) := ZQ (β := β) (PD N) N
def ZR (N : Nat) (a0 : Int) (c0 : Tr) (k : Bool → O β) : O β :=
(gd (!(Tr.isNil c0))
(gd (!(Tr.isNil c0))
(gd (!(Tr.isNil c0))
(k ((Tr.a c0) == 49)))))
def df (N : Nat) := ZR (β := β) N
def CL (N : Nat) (a1 : (Int → (Bool → O β) → O β)) (v0 v1 v2 v3 v4 v5 : Int) (rec_ : Int → Int → Int → Int → Int → Int → O β) (k0 : Int → Int → Int → Int → O β) : O β :=
(cond (decide (v1 < v0))
(a1 v1 fun r4 =>
(cond r4
(gd (decide (0 ≤ v1))
(rec_ v0 (w64 (v1 + 1)) v2 v3 v4 (bits .or .i64 v5 (aW .i64 1 v1))))
(rec_ v0 (w64 (v1 + 1)) v2 v3 v4 v5)))
(k0 v2 v3 v4 v5))
def acu (N : Nat) := CL (β := β) N
def eT (N : Nat) (a1 : (Int → (Bool → O β) → O β)) : Nat → Int → Int → Int → Int → Int → Int → (Int → Int → Int → Int → O β) → O β
 | 0, _, _, _, _, _, _, _ => none
 | F + 1, v0, v1, v2, v3, v4, v5, k0 => acu N a1 v0 v1 v2 v3 v4 v5 (fun v0 v1 v2 v3 v4 v5 => eT N a1 F v0 v1 v2 v3 v4 v5 k0) k0
def CM (N : Nat) (a0 : Int) (a1 : (Int → (Bool → O β) → O β)) (k : Int → Int → O β) : O β :=
(gd (decide (0 ≤ a0))
(ad7 a1 N (aW .i64 1 a0) 0 0 0 a0 0 (fun aA aB aC aD =>
k aC aD)))
def fK (N : Nat) := CM (β := β) (eT N) N
def Sc (N : Nat) (a0 a1 : Int) (k : Int → Int → O β) : O β :=
ad4 a0 (fun x0 k => zq0 x0 a1 k) fun r4 r5 =>
k r4 r5
def p7 (N : Nat) := Sc (β := β) (zj0 N) (fK N) N
def Sd (N : Nat) (v0 v1 v2 v3 : Int) (rec_ : Int → Int → Int → Int → O β) (k0 : Int → O β) : O β :=
(gd (decide (0 ≤ v0))
(cond (decide (v3 < (aW .i64 1 v0)))
(gd (decide (0 ≤ v1))
(cond ((bits .and .i64 (cX .i64 v3 v1) 1) == 1)
(gd (decide (0 ≤ v3))
(rec_ v0 v1 (bits .or .i64 v2 (aW .i64 1 v3)) (w64 (v3 + 1))))
(rec_ v0 v1 v2 (w64 (v3 + 1)))))
(k0 v2)))
def Z9 (N : Nat) := Sd (β := β) N
def vt (N : Nat) : Nat → Int → Int → Int → Int → (Int → O β) → O β
 | 0, _, _, _, _, _ => none
 | F + 1, v0, v1, v2, v3, k0 => Z9 N v0 v1 v2 v3 (fun v0 v1 v2 v3 => vt N F v0 v1 v2 v3 k0) k0
def acq (N : Nat) (a0 a1 : Int) (k : Int → O β) : O β :=
af6 N a0 a1 0 0 (fun aA =>
k aA)
def Al (N : Nat) := acq (β := β) (vt N) N
def Se (N : Nat) (v0 : List Int) (v1 v2 v3 : Int) (rec_ : List Int → Int → Int → Int → O β) (k0 : Int → O β) (k1 : O β) : O β :=
(cond (decide (v3 < v2))
(gd (decide (0 ≤ v3))
(gd (decide (v3 < (v0.length : Int)))
(cond (v1 == (rd 0 v0 v3))
(k0 v3)
(rec_ v0 v1 v2 (w64 (v3 + 1))))))
(k1 ))
def PJ (N : Nat) := Se (β := β) N
def uO (N : Nat) : Nat → List Int → Int → Int → Int → (Int → O β) → (O β) → O β
 | 0, _, _, _, _, _, _ => none
 | F + 1, v0, v1, v2, v3, k0, k1 => PJ N v0 v1 v2 v3 (fun v0 v1 v2 v3 => uO N F v0 v1 v2 v3 k0 k1) k0 k1
def ZS (N : Nat) (a0 : List Int) (a1 : Int) (k : Int → O β) : O β :=
af7 N a0 a1 (a0.length : Int) 0 (fun aA =>
k aA) (k (-1))
def PK (N : Nat) := ZS (β := β) (uO N) N
def ZT (N : Nat) (a0 : List Int) (a1 : Int) (k : Bool → O β) : O β :=
agC a0 a1 fun r3 =>
k (decide (r3 ≥ 0))
def Sy (N : Nat) := ZT (β := β) (PK N) N
def Sf (N : Nat) (a0 a1 a2 : Int) (k : Bool → O β) : O β :=
(cond (decide (a0 ≥ a1))
(k (decide (a0 ≤ a2)))
(k false))
def bK (N : Nat) := Sf (β := β) N
def Sg (N : Nat) (v0 : ByteArray) (v1 v2 v3 v4 v5 : Int) (rec_ : ByteArray → Int → Int → Int → Int → Int → O β) (k0 : Bool → Int → Int → O β) (k1 : Int → Int → Int → Int → O β) : O β :=
(cond (decide (v3 < (v0.size : Int)))
(gd (decide (0 ≤ v3))
(gd (decide (v3 < (v0.size : Int)))
(cond ((bt v0 v3) == 49)
(gd (decide (0 ≤ v3))
(rec_ v0 v1 (bits .or .i64 v2 (aW .i64 1 v3)) (w64 (v3 + 1)) v4 v5))
(cond ((bt v0 v3) == 48)
(rec_ v0 v1 v2 (w64 (v3 + 1)) v4 v5)
(k0 false 0 0)))))
(k1 v1 v2 v4 v5))
def aaa (N : Nat) := Sg (β := β) N
def rL (N : Nat) : Nat → ByteArray → Int → Int → Int → Int → Int → (Bool → Int → Int → O β) → (Int → Int → Int → Int → O β) → O β
 | 0, _, _, _, _, _, _, _, _ => none
 | F + 1, v0, v1, v2, v3, v4, v5, k0, k1 => aaa N v0 v1 v2 v3 v4 v5 (fun v0 v1 v2 v3 v4 v5 => rL N F v0 v1 v2 v3 v4 v5 k0 k1) k0 k1
def O8 (N : Nat) (v0 : ByteArray) (v1 v2 v3 : Int) (rec_ : ByteArray → Int → Int → Int → O β) (k0 : Bool → Int → Int → O β) (k1 : Int → Int → O β) : O β :=
(cond (decide (v1 ≤ 5))
(gd (decide (0 ≤ v1))
(cond ((v0.size : Int) != (aW .i64 1 v1))
(rec_ v0 (w64 (v1 + 1)) v2 v3)
(afi N v0 v1 0 0 v2 v3 (fun aA aB aC =>
k0 aA aB aC) (fun aD aE aF aG =>
k0 true aD aE))))
(k1 v2 v3))
def Sz (N : Nat) := O8 (β := β) (rL N) N
def oK (N : Nat) : Nat → ByteArray → Int → Int → Int → (Bool → Int → Int → O β) → (Int → Int → O β) → O β
 | 0, _, _, _, _, _, _ => none
 | F + 1, v0, v1, v2, v3, k0, k1 => Sz N v0 v1 v2 v3 (fun v0 v1 v2 v3 => oK N F v0 v1 v2 v3 k0 k1) k0 k1
def Sh (N : Nat) (a0 : ByteArray) (k : Int → Int → Bool → O β) : O β :=
afj N a0 0 0 0 (fun aA aB aC =>
k aB aC aA) (fun aD aE =>
k 0 0 false)
def C5 (N : Nat) := Sh (β := β) (oK N) N
def Si (N : Nat) (a0 a1 a2 : Int) (k : Bool → O β) : O β :=
adV a0 0 5 fun r4 =>
(cond r4
(gd (decide (0 ≤ a0))
(adV a1 0 (w64 ((aW .i64 1 a0) - 1)) fun r5 =>
(cond r5
(adV a2 0 a1 fun r6 =>
(cond r6
(k ((bits .and .i64 a2 a1) == a2))
(k false)))
(k false))))
(k false))
def jl (N : Nat) := Si (β := β) (bK N) N
def Jr (N : Nat) (v0 : Int) (v1 : ByteArray) (v2 v3 v4 : Int) (rec_ : Int → ByteArray → Int → Int → Int → O β) (k0 : Int → ByteArray → Int → Int → O β) : O β :=
aed v0 v3 v4 fun r4 =>
(cond r4
(cond (decide (v2 < v0))
(gd (decide (0 ≤ v2))
(cond ((bits .and .i64 (cX .i64 v3 v2) 1) == 0)
(rec_ v0 v1 (w64 (v2 + 1)) v3 v4)
(gd (decide (0 ≤ v2))
(cond ((bits .and .i64 (cX .i64 v4 v2) 1) == 0)
(gd (decide (v1.size + (aq [33]).size ≤ 9223372036854775807))
(gd (decide (0 ≤ (w64 (v2 + 1))))
(gd (decide ((w64 (v2 + 1)) ≤ ((aq [97, 98, 99, 100, 101]).size : Int)))
(gd (decide (0 ≤ v2))
(gd (decide (v2 ≤ (w64 (v2 + 1))))
(gd (decide ((v1 ++ (aq [33])).size + ((aq [97, 98, 99, 100, 101]).extract (Int.toNat v2) (Int.toNat (w64 (v2 + 1)))).size ≤ 9223372036854775807))
(rec_ v0 ((v1 ++ (aq [33])) ++ ((aq [97, 98, 99, 100, 101]).extract (Int.toNat v2) (Int.toNat (w64 (v2 + 1))))) (w64 (v2 + 1)) v3 v4)))))))
(gd (decide (0 ≤ (w64 (v2 + 1))))
(gd (decide ((w64 (v2 + 1)) ≤ ((aq [97, 98, 99, 100, 101]).size : Int)))
(gd (decide (0 ≤ v2))
(gd (decide (v2 ≤ (w64 (v2 + 1))))
(gd (decide (v1.size + ((aq [97, 98, 99, 100, 101]).extract (Int.toNat v2) (Int.toNat (w64 (v2 + 1)))).size ≤ 9223372036854775807))
(rec_ v0 (v1 ++ ((aq [97, 98, 99, 100, 101]).extract (Int.toNat v2) (Int.toNat (w64 (v2 + 1))))) (w64 (v2 + 1)) v3 v4))))))))))
(k0 v0 v1 v3 v4))
(k0 v0 v1 v3 v4))
def PL (N : Nat) := Jr (β := β) (jl N) N
def rM (N : Nat) : Nat → Int → ByteArray → Int → Int → Int → (Int → ByteArray → Int → Int → O β) → O β
 | 0, _, _, _, _, _, _ => none
 | F + 1, v0, v1, v2, v3, v4, k0 => PL N v0 v1 v2 v3 v4 (fun v0 v1 v2 v3 v4 => rM N F v0 v1 v2 v3 v4 k0) k0
def Sj (N : Nat) (a0 a1 a2 : Int) (k : ByteArray → O β) : O β :=
af9 N a0 ByteArray.empty 0 a1 a2 (fun aA aB aC aD =>
(cond (aB.toList == ByteArray.empty.toList)
(aed aA aC aD fun r6 =>
(cond r6
(k (aq [49]))
(k aB)))
(k aB)))
def iw (N : Nat) := Sj (β := β) (jl N) (rM N) N
def CN (N : Nat) (v0 : Int) (v1 : ByteArray) (v2 : Bool) (v3 v4 v5 v6 v7 : Int) (rec_ : Int → ByteArray → Bool → Int → Int → Int → Int → Int → O β) (k0 : Bool → Int → Int → O β) (k1 : Int → ByteArray → Int → Int → Int → Int → O β) : O β :=
(cond (decide (v3 < (v1.size : Int)))
(cond (!(v1.toList == (aq [49]).toList))
(gd (decide (0 ≤ v3))
(gd (decide (v3 < (v1.size : Int)))
(cond ((bt v1 v3) == 33)
(rec_ v0 v1 true (w64 (v3 + 1)) v4 v5 v6 v7)
(gd (decide (0 ≤ v3))
(gd (decide (v3 < (v1.size : Int)))
(adV v0 0 5 fun r5 =>
(cond (!r5)
(k0 false 0 0)
(adV (w64 ((w64 (bt v1 v3)) - 97)) 0 (w64 (v0 - 1)) fun r6 =>
(cond (!r6)
(k0 false 0 0)
(gd (decide (0 ≤ (w64 ((w64 (bt v1 v3)) - 97))))
(cond (!v2)
(gd (decide (0 ≤ (w64 ((w64 (bt v1 v3)) - 97))))
(rec_ v0 v1 false (w64 (v3 + 1)) v4 v5 (bits .or .i64 v6 (aW .i64 1 (w64 ((w64 (bt v1 v3)) - 97)))) (bits .or .i64 v7 (aW .i64 1 (w64 ((w64 (bt v1 v3)) - 97))))))
(rec_ v0 v1 false (w64 (v3 + 1)) v4 v5 (bits .or .i64 v6 (aW .i64 1 (w64 ((w64 (bt v1 v3)) - 97)))) v7))))))))))))
(k1 v0 v1 v4 v5 v6 v7))
(k1 v0 v1 v4 v5 v6 v7))
def Eo (N : Nat) := CN (β := β) (bK N) N
def ky (N : Nat) : Nat → Int → ByteArray → Bool → Int → Int → Int → Int → Int → (Bool → Int → Int → O β) → (Int → ByteArray → Int → Int → Int → Int → O β) → O β
 | 0, _, _, _, _, _, _, _, _, _, _ => none
 | F + 1, v0, v1, v2, v3, v4, v5, v6, v7, k0, k1 => Eo N v0 v1 v2 v3 v4 v5 v6 v7 (fun v0 v1 v2 v3 v4 v5 v6 v7 => ky N F v0 v1 v2 v3 v4 v5 v6 v7 k0 k1) k0 k1
def Sk (N : Nat) (a0 : Int) (a1 : ByteArray) (k : Int → Int → Bool → O β) : O β :=
aga N a0 a1 false 0 0 0 0 0 (fun aA aB aC =>
k aB aC aA) (fun aD aE aF aG aH aI =>
(cond (aE.toList == ByteArray.empty.toList)
(k 0 0 false)
(aee aD aH aI fun r9 =>
(cond (!(r9.toList == aE.toList))
(k 0 0 false)
(k aH aI true)))))
def oL (N : Nat) := Sk (β := β) (iw N) (ky N) N
def Sl (N : Nat) (v0 v1 v2 v3 v4 v5 : Int) (rec_ : Int → Int → Int → Int → Int → Int → O β) (k0 : Int → Int → Int → Int → Int → O β) : O β :=
(cond (decide (v3 ≤ v1))
(cond ((bits .and .i64 v3 v1) == v3)
(gd (decide (0 ≤ v3))
(rec_ v0 v1 (w64 (v2 + (bits .and .i64 (cX .i64 v5 v3) 1))) (w64 (v3 + 1)) v4 v5))
(rec_ v0 v1 v2 (w64 (v3 + 1)) v4 v5))
(k0 v0 v1 v2 v4 v5))
def aab (N : Nat) := Sl (β := β) N
def uP (N : Nat) : Nat → Int → Int → Int → Int → Int → Int → (Int → Int → Int → Int → Int → O β) → O β
 | 0, _, _, _, _, _, _, _ => none
 | F + 1, v0, v1, v2, v3, v4, v5, k0 => aab N v0 v1 v2 v3 v4 v5 (fun v0 v1 v2 v3 v4 v5 => uP N F v0 v1 v2 v3 v4 v5 k0) k0
def Sm (N : Nat) (v0 v1 v2 v3 : Int) (rec_ : Int → Int → Int → Int → O β) (k0 : Int → O β) : O β :=
(gd (decide (0 ≤ v2))
(cond (decide (v1 < (aW .i64 1 v2)))
(afk N v0 v1 0 0 v2 v3 (fun aA aB aC aD aE =>
(gd (decide (0 ≤ aB))
(rec_ (bits .or .i64 aA (aW .i64 (Rl aC 2) aB)) (w64 (aB + 1)) aD aE))))
(k0 v0)))
def aac (N : Nat) := Sm (β := β) (uP N) N
def uQ (N : Nat) : Nat → Int → Int → Int → Int → (Int → O β) → O β
 | 0, _, _, _, _, _ => none
 | F + 1, v0, v1, v2, v3, k0 => aac N v0 v1 v2 v3 (fun v0 v1 v2 v3 => uQ N F v0 v1 v2 v3 k0) k0
def ZU (N : Nat) (a0 a1 : Int) (k : Int → O β) : O β :=
afl N 0 0 a0 a1 (fun aA =>
k aA)
def p8 (N : Nat) := ZU (β := β) (uQ N) N
def ZV (N : Nat) (a0 a1 : Int) (k : Bool → O β) : O β :=
adV a0 0 5 fun r3 =>
(cond r3
(gd (decide (0 ≤ a0))
(gd (decide (0 ≤ (aW .u64 1 a0)))
(adV a1 0 (w64 ((aW .i64 1 (aW .u64 1 a0)) - 1)) fun r4 =>
k r4)))
(k false))
def eU (N : Nat) := ZV (β := β) (bK N) N
def Sn (N : Nat) (v0 : ByteArray) (v1 v2 v3 v4 : Int) (rec_ : ByteArray → Int → Int → Int → Int → O β) (k0 : ByteArray → O β) : O β :=
(gd (decide (0 ≤ v3))
(cond (decide (v2 < (aW .i64 1 v3)))
(gd (decide (0 ≤ v2))
(cond ((bits .and .i64 (cX .i64 v1 v2) 1) == 0)
(rec_ v0 v1 (w64 (v2 + 1)) v3 v4)
(cond (!(v0.toList == ByteArray.empty.toList))
(gd (decide (v0.size + (aq [43]).size ≤ 9223372036854775807))
(aee v3 v2 v2 fun r5 =>
(gd (decide ((v0 ++ (aq [43])).size + r5.size ≤ 9223372036854775807))
(rec_ ((v0 ++ (aq [43])) ++ r5) v1 (w64 (v2 + 1)) v3 v4))))
(aee v3 v2 v2 fun r6 =>
(gd (decide (v0.size + r6.size ≤ 9223372036854775807))
(rec_ (v0 ++ r6) v1 (w64 (v2 + 1)) v3 v4))))))
(k0 v0)))
def aad (N : Nat) := Sn (β := β) (iw N) N
def vu (N : Nat) : Nat → ByteArray → Int → Int → Int → Int → (ByteArray → O β) → O β
 | 0, _, _, _, _, _, _ => none
 | F + 1, v0, v1, v2, v3, v4, k0 => aad N v0 v1 v2 v3 v4 (fun v0 v1 v2 v3 v4 => vu N F v0 v1 v2 v3 v4 k0) k0
def ZW (N : Nat) (a0 a1 : Int) (k : ByteArray → O β) : O β :=
ad5 a0 a1 fun r3 =>
(cond (!r3)
(k ByteArray.empty)
(aeC a0 a1 fun r4 =>
agc N ByteArray.empty r4 0 a0 a1 (fun aA =>
(cond (aA.toList == ByteArray.empty.toList)
(k (aq [48]))
(k aA)))))
def qV (N : Nat) := ZW (β := β) (p8 N) (eU N) (vu N) N
def Js (N : Nat) (v0 : Int) (v1 : ByteArray) (v2 : Int) (v3 : ByteArray) (v4 v5 v6 : Int) (rec_ : Int → ByteArray → Int → ByteArray → Int → Int → Int → O β) (k0 : Bool → Int → Int → O β) (k1 : Int → ByteArray → Int → Int → Int → O β) : O β :=
(cond (decide (v4 ≤ (v1.size : Int)))
(cond (!(v1.toList == (aq [48]).toList))
(cond (decide (v4 < (v1.size : Int)))
(gd (decide (0 ≤ v4))
(gd (decide (v4 < (v1.size : Int)))
(cond ((bt v1 v4) != 43)
(gd (decide (0 ≤ (w64 (v4 + 1))))
(gd (decide ((w64 (v4 + 1)) ≤ (v1.size : Int)))
(gd (decide (0 ≤ v4))
(gd (decide (v4 ≤ (w64 (v4 + 1))))
(gd (decide (v3.size + (v1.extract (Int.toNat v4) (Int.toNat (w64 (v4 + 1)))).size ≤ 9223372036854775807))
(rec_ v0 v1 v2 (v3 ++ (v1.extract (Int.toNat v4) (Int.toNat (w64 (v4 + 1))))) (w64 (v4 + 1)) v5 v6))))))
(aer v0 v3 fun r6 r7 r8 =>
(cond (!r8)
(k0 false 0 0)
(cond (r6 != r7)
(k0 false 0 0)
(gd (decide (0 ≤ r6))
(rec_ v0 v1 (bits .or .i64 v2 (aW .i64 1 r6)) ByteArray.empty (w64 (v4 + 1)) v5 v6))))))))
(aer v0 v3 fun r9 r10 r11 =>
(cond (!r11)
(k0 false 0 0)
(cond (r9 != r10)
(k0 false 0 0)
(gd (decide (0 ≤ r9))
(rec_ v0 v1 (bits .or .i64 v2 (aW .i64 1 r9)) ByteArray.empty (w64 (v4 + 1)) v5 v6))))))
(k1 v0 v1 v2 v5 v6))
(k1 v0 v1 v2 v5 v6))
def Jw (N : Nat) := Js (β := β) (oL N) N
def jx (N : Nat) : Nat → Int → ByteArray → Int → ByteArray → Int → Int → Int → (Bool → Int → Int → O β) → (Int → ByteArray → Int → Int → Int → O β) → O β
 | 0, _, _, _, _, _, _, _, _, _ => none
 | F + 1, v0, v1, v2, v3, v4, v5, v6, k0, k1 => Jw N v0 v1 v2 v3 v4 v5 v6 (fun v0 v1 v2 v3 v4 v5 v6 => jx N F v0 v1 v2 v3 v4 v5 v6 k0 k1) k0 k1
def O9 (N : Nat) (a0 : Int) (a1 : ByteArray) (k : Int → Int → Bool → O β) : O β :=
adV a0 0 5 fun r5 =>
(cond (!r5)
(k 0 0 false)
(cond (decide ((a1.size : Int) > 200))
(k 0 0 false)
(agd N a0 a1 0 ByteArray.empty 0 0 0 (fun aA aB aC =>
k aB aC aA) (fun aD aE aF aG aH =>
aeC aD aF fun r14 =>
aeI aD r14 fun r15 =>
(cond (!(r15.toList == aE.toList))
(k 0 0 false)
(k aD r14 true))))))
def vv (N : Nat) := O9 (β := β) (bK N) (p8 N) (qV N) (jx N) N
def So (N : Nat) (v0 : Int) (v1 : List (Int × Int)) (v2 : Int) (rec_ : Int → List (Int × Int) → Int → O β) (k0 : Bool → O β) (k1 : Int → List (Int × Int) → O β) : O β :=
(cond (decide (v2 < (v1.length : Int)))
(gd (decide (0 ≤ v2))
(gd (decide (v2 < (v1.length : Int)))
(aed v0 ((rd (0, 0) v1 v2).1) ((rd (0, 0) v1 v2).2) fun r3 =>
(cond (!r3)
(k0 false)
(rec_ v0 v1 (w64 (v2 + 1)))))))
(k1 v0 v1))
def aae (N : Nat) := So (β := β) (jl N) N
def vA (N : Nat) : Nat → Int → List (Int × Int) → Int → (Bool → O β) → (Int → List (Int × Int) → O β) → O β
 | 0, _, _, _, _, _ => none
 | F + 1, v0, v1, v2, k0, k1 => aae N v0 v1 v2 (fun v0 v1 v2 => vA N F v0 v1 v2 k0 k1) k0 k1
def ZX (N : Nat) (a0 : Int) (a1 : List (Int × Int)) (k : Bool → O β) : O β :=
agf N a0 a1 0 (fun aA =>
k aA) (fun aB aC =>
adV aB 0 5 fun r6 =>
(cond r6
(k (decide ((aC.length : Int) ≤ 40)))
(k false)))
def oM (N : Nat) := ZX (β := β) (bK N) (vA N) N
def Jt (N : Nat) (v0 : Int) (v1 v2 : ByteArray) (v3 : Int) (v4 : List (Int × Int)) (rec_ : Int → ByteArray → ByteArray → Int → List (Int × Int) → O β) (k0 : Bool → List (Int × Int) → O β) (k1 : Int → ByteArray → List (Int × Int) → O β) : O β :=
(cond (decide (v3 ≤ (v1.size : Int)))
(cond (decide ((v1.size : Int) ≤ 200))
(cond (decide (v3 < (v1.size : Int)))
(gd (decide (0 ≤ v3))
(gd (decide (v3 < (v1.size : Int)))
(cond ((bt v1 v3) != 124)
(gd (decide (0 ≤ (w64 (v3 + 1))))
(gd (decide ((w64 (v3 + 1)) ≤ (v1.size : Int)))
(gd (decide (0 ≤ v3))
(gd (decide (v3 ≤ (w64 (v3 + 1))))
(gd (decide (v2.size + (v1.extract (Int.toNat v3) (Int.toNat (w64 (v3 + 1)))).size ≤ 9223372036854775807))
(rec_ v0 v1 (v2 ++ (v1.extract (Int.toNat v3) (Int.toNat (w64 (v3 + 1))))) (w64 (v3 + 1)) v4))))))
(aer v0 v2 fun r5 r6 r7 =>
(cond (!r7)
(k0 false ([] : List (Int × Int)))
(gd (decide ((v4.length + (([] : List (Int × Int)) ++ [(r5, r6)]).length) * 16 ≤ 140737488355328))
(rec_ v0 v1 ByteArray.empty (w64 (v3 + 1)) (v4 ++ (([] : List (Int × Int)) ++ [(r5, r6)])))))))))
(aer v0 v2 fun r8 r9 r10 =>
(cond (!r10)
(k0 false ([] : List (Int × Int)))
(gd (decide ((v4.length + (([] : List (Int × Int)) ++ [(r8, r9)]).length) * 16 ≤ 140737488355328))
(rec_ v0 v1 ByteArray.empty (w64 (v3 + 1)) (v4 ++ (([] : List (Int × Int)) ++ [(r8, r9)])))))))
(k1 v0 v1 v4))
(k1 v0 v1 v4))
def Jx (N : Nat) := Jt (β := β) (oL N) N
def p9 (N : Nat) : Nat → Int → ByteArray → ByteArray → Int → List (Int × Int) → (Bool → List (Int × Int) → O β) → (Int → ByteArray → List (Int × Int) → O β) → O β
 | 0, _, _, _, _, _, _, _ => none
 | F + 1, v0, v1, v2, v3, v4, k0, k1 => Jx N v0 v1 v2 v3 v4 (fun v0 v1 v2 v3 v4 => p9 N F v0 v1 v2 v3 v4 k0 k1) k0 k1
def Pa (N : Nat) (a0 : Int) (a1 : ByteArray) (k : List (Int × Int) → Bool → O β) : O β :=
(cond (a1.toList == (aq [48]).toList)
(adV a0 0 5 fun r4 =>
k ([] : List (Int × Int)) r4)
(agh N a0 a1 ByteArray.empty 0 ([] : List (Int × Int)) (fun aA aB =>
k aB aA) (fun aC aD aE =>
(cond (decide ((aD.size : Int) > 200))
(k ([] : List (Int × Int)) false)
(aes aC aE fun r13 =>
(cond (!r13)
(k ([] : List (Int × Int)) false)
(k aE true)))))))
def uR (N : Nat) := Pa (β := β) (bK N) (oM N) (p9 N) N
def Sp (N : Nat) (v0 v1 v2 v3 v4 : Int) (rec_ : Int → Int → Int → Int → Int → O β) (k0 : Int → O β) : O β :=
(gd (decide (0 ≤ v0))
(cond (decide (v2 < (aW .i64 1 v0)))
(cond ((bits .and .i64 v2 v3) == v4)
(gd (decide (0 ≤ v2))
(rec_ v0 (bits .or .i64 v1 (aW .i64 1 v2)) (w64 (v2 + 1)) v3 v4))
(rec_ v0 v1 (w64 (v2 + 1)) v3 v4))
(k0 v1)))
def aaf (N : Nat) := Sp (β := β) N
def vB (N : Nat) : Nat → Int → Int → Int → Int → Int → (Int → O β) → O β
 | 0, _, _, _, _, _, _ => none
 | F + 1, v0, v1, v2, v3, v4, k0 => aaf N v0 v1 v2 v3 v4 (fun v0 v1 v2 v3 v4 => vB N F v0 v1 v2 v3 v4 k0) k0
def ZY (N : Nat) (a0 a1 a2 : Int) (k : Int → O β) : O β :=
agj N a0 0 0 a1 a2 (fun aA =>
k aA)
def oN (N : Nat) := ZY (β := β) (vB N) N
def Sq (N : Nat) (v0 : Int) (v1 : List (Int × Int)) (v2 v3 v4 v5 : Int) (rec_ : Int → List (Int × Int) → Int → Int → Int → Int → O β) (k0 : Bool → Int → Int → O β) (k1 : Int → Int → Int → Int → O β) : O β :=
(cond (decide (v3 < (v1.length : Int)))
(gd (decide (0 ≤ v3))
(gd (decide (v3 < (v1.length : Int)))
(aed v0 ((rd (0, 0) v1 v3).1) ((rd (0, 0) v1 v3).2) fun r5 =>
(cond (!r5)
(k0 false 0 0)
(gd (decide (0 ≤ v3))
(gd (decide (v3 < (v1.length : Int)))
(aeh v0 ((rd (0, 0) v1 v3).1) ((rd (0, 0) v1 v3).2) fun r6 =>
rec_ v0 v1 (bits .or .i64 v2 r6) (w64 (v3 + 1)) v4 v5)))))))
(k1 v0 v2 v4 v5))
def aag (N : Nat) := Sq (β := β) (jl N) (oN N) N
def uS (N : Nat) : Nat → Int → List (Int × Int) → Int → Int → Int → Int → (Bool → Int → Int → O β) → (Int → Int → Int → Int → O β) → O β
 | 0, _, _, _, _, _, _, _, _ => none
 | F + 1, v0, v1, v2, v3, v4, v5, k0, k1 => aag N v0 v1 v2 v3 v4 v5 (fun v0 v1 v2 v3 v4 v5 => uS N F v0 v1 v2 v3 v4 v5 k0 k1) k0 k1
def ZZ (N : Nat) (a0 : Int) (a1 : List (Int × Int)) (k : Int → Int → Bool → O β) : O β :=
agk N a0 a1 0 0 0 0 (fun aA aB aC =>
k aB aC aA) (fun aD aE aF aG =>
adV aD 0 5 fun r9 =>
(cond (!r9)
(k 0 0 false)
(k aD aE true)))
def Ep (N : Nat) := ZZ (β := β) (bK N) (uS N) N
def Z0 (N : Nat) (self : ByteArray → Int → Int → (Int → O β) → O β) (a0 : ByteArray) (a1 a2 : Int) (k : Int → O β) : O β :=
(cond (decide (a1 ≥ (a0.size : Int)))
(k (-1))
(gd (decide (0 ≤ a1))
(gd (decide (a1 < (a0.size : Int)))
(cond ((bt a0 a1) == 48)
(k (w64 (a1 + 1)))
(gd (decide (0 ≤ a1))
(gd (decide (a1 < (a0.size : Int)))
(cond ((bt a0 a1) == 49)
(k (w64 (a1 + 1)))
(gd (decide (0 ≤ a1))
(gd (decide (a1 < (a0.size : Int)))
(adV (w64 ((w64 (bt a0 a1)) - 97)) 0 4 fun r4 =>
(cond (!r4)
(k (-1))
(gd (decide (0 ≤ (w64 ((w64 (bt a0 a1)) - 97))))
(cond ((bits .and .i64 (cX .i64 a2 (w64 ((w64 (bt a0 a1)) - 97))) 1) == 1)
(k (-1))
(gd (decide (0 ≤ (w64 ((w64 (bt a0 a1)) - 97))))
(self a0 (w64 (a1 + 1)) (bits .or .i64 a2 (aW .i64 1 (w64 ((w64 (bt a0 a1)) - 97)))) fun r5 =>
(cond (decide (r5 < 0))
(k (-1))
(gd (decide (0 ≤ (w64 ((w64 (bt a0 a1)) - 97))))
(self a0 r5 (bits .or .i64 a2 (aW .i64 1 (w64 ((w64 (bt a0 a1)) - 97)))) fun r6 =>
k r6))))))))))))))))))
def acv (N : Nat) := Z0 (β := β) (bK N) N
def Am (N : Nat) : Nat → ByteArray → Int → Int → (Int → O β) → O β
 | 0, _, _, _, _ => none
 | F + 1, a0, a1, a2, k => acv N (Am N F) a0 a1 a2 k
def acw (N : Nat) := Am (β := β) N N
def Z1 (N : Nat) (a0 : ByteArray) (k : Bool → O β) : O β :=
(cond (decide ((a0.size : Int) ≤ 63))
(cond (decide ((a0.size : Int) > 0))
(agT a0 0 0 fun r2 =>
k (r2 == (a0.size : Int)))
(k false))
(k false))
def C6 (N : Nat) := Z1 (β := β) (acw N) N
def Z2 (N : Nat) (self : ByteArray → Int → (Int → O β) → O β) (a0 : ByteArray) (a1 : Int) (k : Int → O β) : O β :=
(gd (decide (0 ≤ a1))
(gd (decide (a1 < (a0.size : Int)))
(cond ((bt a0 a1) == 48)
(k (w64 (a1 + 1)))
(gd (decide (0 ≤ a1))
(gd (decide (a1 < (a0.size : Int)))
(cond ((bt a0 a1) == 49)
(k (w64 (a1 + 1)))
(self a0 (w64 (a1 + 1)) fun r3 =>
self a0 r3 fun r4 =>
k r4)))))))
def acx (N : Nat) := Z2 (β := β) N
def vC (N : Nat) : Nat → ByteArray → Int → (Int → O β) → O β
 | 0, _, _, _ => none
 | F + 1, a0, a1, k => acx N (vC N F) a0 a1 k
def acy (N : Nat) := vC (β := β) N N
def Z3 (N : Nat) (v0 : ByteArray) (v1 v2 v3 : Int) (rec_ : ByteArray → Int → Int → Int → O β) (k0 : ByteArray → Int → Int → O β) : O β :=
(gd (decide (0 ≤ v2))
(gd (decide (v2 < (v0.size : Int)))
(cond ((bt v0 v2) != 48)
(gd (decide (0 ≤ v2))
(gd (decide (v2 < (v0.size : Int)))
(cond ((bt v0 v2) != 49)
(gd (decide (0 ≤ v2))
(gd (decide (v2 < (v0.size : Int)))
(gd (decide (0 ≤ (w8 ((bt v0 v2) - 97))))
(cond ((bits .and .i64 (cX .i64 v1 (w8 ((bt v0 v2) - 97))) 1) == 1)
(agU v0 (w64 (v2 + 1)) fun r4 =>
rec_ v0 v1 r4 (w64 (v3 + 1)))
(rec_ v0 v1 (w64 (v2 + 1)) (w64 (v3 + 1)))))))
(k0 v0 v2 v3))))
(k0 v0 v2 v3))))
def acz (N : Nat) := Z3 (β := β) (acy N) N
def An (N : Nat) : Nat → ByteArray → Int → Int → Int → (ByteArray → Int → Int → O β) → O β
 | 0, _, _, _, _, _ => none
 | F + 1, v0, v1, v2, v3, k0 => acz N v0 v1 v2 v3 (fun v0 v1 v2 v3 => An N F v0 v1 v2 v3 k0) k0
def Z4 (N : Nat) (a0 : ByteArray) (a1 : Int) (k : Int → Int → O β) : O β :=
agm N a0 a1 0 0 (fun aA aB aC =>
(gd (decide (0 ≤ aB))
(gd (decide (aB < (aA.size : Int)))
(k (w64 (w8 ((bt aA aB) - 48))) aC))))
def Er (N : Nat) := Z4 (β := β) (An N) N
def Sr (N : Nat) (v0 : ByteArray) (v1 v2 v3 v4 : Int) (rec_ : ByteArray → Int → Int → Int → Int → O β) (k0 : Bool → Int → Int → O β) (k1 : ByteArray → Int → Int → Int → O β) : O β :=
(cond (decide (v2 < (v0.size : Int)))
(gd (decide (0 ≤ v2))
(gd (decide (v2 < (v0.size : Int)))
(cond (decide ((bt v0 v2) ≥ 97))
(gd (decide (0 ≤ v2))
(gd (decide (v2 < (v0.size : Int)))
(cond (decide ((w64 (w8 ((bt v0 v2) - 97))) ≥ v1))
(k0 false 0 0)
(rec_ v0 v1 (w64 (v2 + 1)) v3 v4))))
(rec_ v0 v1 (w64 (v2 + 1)) v3 v4))))
(k1 v0 v1 v3 v4))
def aah (N : Nat) := Sr (β := β) N
def uT (N : Nat) : Nat → ByteArray → Int → Int → Int → Int → (Bool → Int → Int → O β) → (ByteArray → Int → Int → Int → O β) → O β
 | 0, _, _, _, _, _, _, _ => none
 | F + 1, v0, v1, v2, v3, v4, k0, k1 => aah N v0 v1 v2 v3 v4 (fun v0 v1 v2 v3 v4 => uT N F v0 v1 v2 v3 v4 k0 k1) k0 k1
def Ss (N : Nat) (v0 : ByteArray) (v1 v2 v3 v4 v5 : Int) (rec_ : ByteArray → Int → Int → Int → Int → Int → O β) (k0 : Int → Int → Int → Int → O β) : O β :=
(gd (decide (0 ≤ v1))
(cond (decide (v3 < (aW .i64 1 v1)))
(afo v0 v3 fun r9 r10 =>
(gd (decide (0 ≤ v3))
(rec_ v0 v1 (bits .or .i64 v2 (aW .i64 r9 v3)) (w64 (v3 + 1)) v4 v5)))
(k0 v1 v2 v4 v5)))
def aai (N : Nat) := Ss (β := β) (Er N) N
def uU (N : Nat) : Nat → ByteArray → Int → Int → Int → Int → Int → (Int → Int → Int → Int → O β) → O β
 | 0, _, _, _, _, _, _, _ => none
 | F + 1, v0, v1, v2, v3, v4, v5, k0 => aai N v0 v1 v2 v3 v4 v5 (fun v0 v1 v2 v3 v4 v5 => uU N F v0 v1 v2 v3 v4 v5 k0) k0
def Pb (N : Nat) (a0 : ByteArray) (a1 : Int) (k : Int → Int → Bool → O β) : O β :=
afn a0 fun r5 =>
(cond (!r5)
(k 0 0 false)
(adV a1 0 5 fun r6 =>
(cond (!r6)
(k 0 0 false)
(afp N a0 a1 0 0 0 (fun aA aB aC =>
k aB aC aA) (fun aD aE aF aG =>
afq N aD aE 0 0 aF aG (fun aH aI aJ aK =>
k aH aI true))))))
def Ao (N : Nat) := Pb (β := β) (bK N) (C6 N) (uT N) (uU N) N
def Z5 (N : Nat) (self : ByteArray → Int → (Int → O β) → O β) (a0 : ByteArray) (a1 : Int) (k : Int → O β) : O β :=
(cond (decide (a1 ≥ (a0.size : Int)))
(k (-1))
(gd (decide (0 ≤ a1))
(gd (decide (a1 < (a0.size : Int)))
(cond ((bt a0 a1) == 97)
(cond ((bt a0 a1) == 97)
(k (w64 (a1 + 1)))
(cond ((bt a0 a1) == 33)
(self a0 (w64 (a1 + 1)) fun r3 =>
k r3)
(cond ((bt a0 a1) == 38)
(cond ((bt a0 a1) == 38)
(self a0 (w64 (a1 + 1)) fun r4 =>
(cond (decide (r4 < 0))
(k (-1))
(self a0 r4 fun r5 =>
k r5)))
(k (-1)))
(cond ((bt a0 a1) == 124)
(cond ((bt a0 a1) == 124)
(self a0 (w64 (a1 + 1)) fun r6 =>
(cond (decide (r6 < 0))
(k (-1))
(self a0 r6 fun r7 =>
k r7)))
(k (-1)))
(cond ((bt a0 a1) == 94)
(self a0 (w64 (a1 + 1)) fun r8 =>
(cond (decide (r8 < 0))
(k (-1))
(self a0 r8 fun r9 =>
k r9)))
(k (-1)))))))
(cond ((bt a0 a1) == 98)
(cond ((bt a0 a1) == 98)
(k (w64 (a1 + 1)))
(cond ((bt a0 a1) == 33)
(self a0 (w64 (a1 + 1)) fun r10 =>
k r10)
(cond ((bt a0 a1) == 38)
(cond ((bt a0 a1) == 38)
(self a0 (w64 (a1 + 1)) fun r11 =>
(cond (decide (r11 < 0))
(k (-1))
(self a0 r11 fun r12 =>
k r12)))
(k (-1)))
(cond ((bt a0 a1) == 124)
(cond ((bt a0 a1) == 124)
(self a0 (w64 (a1 + 1)) fun r13 =>
(cond (decide (r13 < 0))
(k (-1))
(self a0 r13 fun r14 =>
k r14)))
(k (-1)))
(cond ((bt a0 a1) == 94)
(self a0 (w64 (a1 + 1)) fun r15 =>
(cond (decide (r15 < 0))
(k (-1))
(self a0 r15 fun r16 =>
k r16)))
(k (-1)))))))
(cond ((bt a0 a1) == 99)
(cond ((bt a0 a1) == 99)
(k (w64 (a1 + 1)))
(cond ((bt a0 a1) == 33)
(self a0 (w64 (a1 + 1)) fun r17 =>
k r17)
(cond ((bt a0 a1) == 38)
(cond ((bt a0 a1) == 38)
(self a0 (w64 (a1 + 1)) fun r18 =>
(cond (decide (r18 < 0))
(k (-1))
(self a0 r18 fun r19 =>
k r19)))
(k (-1)))
(cond ((bt a0 a1) == 124)
(cond ((bt a0 a1) == 124)
(self a0 (w64 (a1 + 1)) fun r20 =>
(cond (decide (r20 < 0))
(k (-1))
(self a0 r20 fun r21 =>
k r21)))
(k (-1)))
(cond ((bt a0 a1) == 94)
(self a0 (w64 (a1 + 1)) fun r22 =>
(cond (decide (r22 < 0))
(k (-1))
(self a0 r22 fun r23 =>
k r23)))
(k (-1)))))))
(cond ((bt a0 a1) == 100)
(cond ((bt a0 a1) == 100)
(k (w64 (a1 + 1)))
(cond ((bt a0 a1) == 33)
(self a0 (w64 (a1 + 1)) fun r24 =>
k r24)
(cond ((bt a0 a1) == 38)
(cond ((bt a0 a1) == 38)
(self a0 (w64 (a1 + 1)) fun r25 =>
(cond (decide (r25 < 0))
(k (-1))
(self a0 r25 fun r26 =>
k r26)))
(k (-1)))
(cond ((bt a0 a1) == 124)
(cond ((bt a0 a1) == 124)
(self a0 (w64 (a1 + 1)) fun r27 =>
(cond (decide (r27 < 0))
(k (-1))
(self a0 r27 fun r28 =>
k r28)))
(k (-1)))
(cond ((bt a0 a1) == 94)
(self a0 (w64 (a1 + 1)) fun r29 =>
(cond (decide (r29 < 0))
(k (-1))
(self a0 r29 fun r30 =>
k r30)))
(k (-1)))))))
(cond ((bt a0 a1) == 101)
(cond ((bt a0 a1) == 101)
(k (w64 (a1 + 1)))
(cond ((bt a0 a1) == 33)
(self a0 (w64 (a1 + 1)) fun r31 =>
k r31)
(cond ((bt a0 a1) == 38)
(cond ((bt a0 a1) == 38)
(self a0 (w64 (a1 + 1)) fun r32 =>
(cond (decide (r32 < 0))
(k (-1))
(self a0 r32 fun r33 =>
k r33)))
(k (-1)))
(cond ((bt a0 a1) == 124)
(cond ((bt a0 a1) == 124)
(self a0 (w64 (a1 + 1)) fun r34 =>
(cond (decide (r34 < 0))
(k (-1))
(self a0 r34 fun r35 =>
k r35)))
(k (-1)))
(cond ((bt a0 a1) == 94)
(self a0 (w64 (a1 + 1)) fun r36 =>
(cond (decide (r36 < 0))
(k (-1))
(self a0 r36 fun r37 =>
k r37)))
(k (-1)))))))
(cond ((bt a0 a1) == 48)
(cond ((bt a0 a1) == 48)
(k (w64 (a1 + 1)))
(cond ((bt a0 a1) == 33)
(self a0 (w64 (a1 + 1)) fun r38 =>
k r38)
(cond ((bt a0 a1) == 38)
(cond ((bt a0 a1) == 38)
(self a0 (w64 (a1 + 1)) fun r39 =>
(cond (decide (r39 < 0))
(k (-1))
(self a0 r39 fun r40 =>
k r40)))
(k (-1)))
(cond ((bt a0 a1) == 124)
(cond ((bt a0 a1) == 124)
(self a0 (w64 (a1 + 1)) fun r41 =>
(cond (decide (r41 < 0))
(k (-1))
(self a0 r41 fun r42 =>
k r42)))
(k (-1)))
(cond ((bt a0 a1) == 94)
(self a0 (w64 (a1 + 1)) fun r43 =>
(cond (decide (r43 < 0))
(k (-1))
(self a0 r43 fun r44 =>
k r44)))
(k (-1)))))))
(cond ((bt a0 a1) == 49)
(k (w64 (a1 + 1)))
(cond ((bt a0 a1) == 33)
(self a0 (w64 (a1 + 1)) fun r45 =>
k r45)
(cond ((bt a0 a1) == 38)
(cond ((bt a0 a1) == 38)
(self a0 (w64 (a1 + 1)) fun r46 =>
(cond (decide (r46 < 0))
(k (-1))
(self a0 r46 fun r47 =>
k r47)))
(k (-1)))
(cond ((bt a0 a1) == 124)
(cond ((bt a0 a1) == 124)
(self a0 (w64 (a1 + 1)) fun r48 =>
(cond (decide (r48 < 0))
(k (-1))
(self a0 r48 fun r49 =>
k r49)))
(k (-1)))
(cond ((bt a0 a1) == 94)
(self a0 (w64 (a1 + 1)) fun r50 =>
(cond (decide (r50 < 0))
(k (-1))
(self a0 r50 fun r51 =>
k r51)))
(k (-1))))))))))))))))
def acA (N : Nat) := Z5 (β := β) N
def oO (N : Nat) : Nat → ByteArray → Int → (Int → O β) → O β
 | 0, _, _, _ => none
 | F + 1, a0, a1, k => acA N (oO N F) a0 a1 k
def SA (N : Nat) := oO (β := β) N N
def Z6 (N : Nat) (a0 : ByteArray) (k : Bool → O β) : O β :=
(cond (decide ((a0.size : Int) ≤ 60))
(cond (decide ((a0.size : Int) > 0))
(agF a0 0 fun r2 =>
k (r2 == (a0.size : Int)))
(k false))
(k false))
def vD (N : Nat) := Z6 (β := β) (SA N) N
def Z7 (N : Nat) (self : ByteArray → Int → Int → (Bool → O β) → O β) (a0 : ByteArray) (a1 a2 : Int) (k : Bool → O β) : O β :=
(gd (decide (0 ≤ a1))
(gd (decide (a1 < (a0.size : Int)))
(cond ((bt a0 a1) == 48)
(k false)
(cond ((bt a0 a1) == 49)
(k true)
(cond ((bt a0 a1) == 33)
(self a0 (w64 (a1 + 1)) a2 fun r4 =>
k (!r4))
(cond ((bt a0 a1) == 38)
(self a0 (w64 (a1 + 1)) a2 fun r5 =>
(cond r5
(agF a0 (w64 (a1 + 1)) fun r6 =>
self a0 r6 a2 fun r7 =>
k r7)
(k false)))
(cond ((bt a0 a1) == 124)
(self a0 (w64 (a1 + 1)) a2 fun r8 =>
(cond r8
(k true)
(agF a0 (w64 (a1 + 1)) fun r9 =>
self a0 r9 a2 fun r10 =>
k r10)))
(cond ((bt a0 a1) == 94)
(self a0 (w64 (a1 + 1)) a2 fun r11 =>
agF a0 (w64 (a1 + 1)) fun r12 =>
self a0 r12 a2 fun r13 =>
k (!(r11 == r13)))
(gd (decide (0 ≤ a1))
(gd (decide (a1 < (a0.size : Int)))
(gd (decide (0 ≤ (w8 ((bt a0 a1) - 97))))
(k ((bits .and .i64 (cX .i64 a2 (w8 ((bt a0 a1) - 97))) 1) == 1)))))))))))))
def acB (N : Nat) := Z7 (β := β) (SA N) N
def uV (N : Nat) : Nat → ByteArray → Int → Int → (Bool → O β) → O β
 | 0, _, _, _, _ => none
 | F + 1, a0, a1, a2, k => acB N (uV N F) a0 a1 a2 k
def acC (N : Nat) := uV (β := β) N N
def Su (N : Nat) (v0 : ByteArray) (v1 v2 v3 v4 : Int) (rec_ : ByteArray → Int → Int → Int → Int → O β) (k0 : Bool → Int → Int → O β) (k1 : ByteArray → Int → Int → Int → O β) : O β :=
(cond (decide (v2 < (v0.size : Int)))
(gd (decide (0 ≤ v2))
(gd (decide (v2 < (v0.size : Int)))
(cond (decide ((bt v0 v2) ≥ 97))
(gd (decide (0 ≤ v2))
(gd (decide (v2 < (v0.size : Int)))
(cond (decide ((bt v0 v2) ≤ 101))
(gd (decide (0 ≤ v2))
(gd (decide (v2 < (v0.size : Int)))
(cond (decide ((w64 (w8 ((bt v0 v2) - 97))) ≥ v1))
(k0 false 0 0)
(rec_ v0 v1 (w64 (v2 + 1)) v3 v4))))
(rec_ v0 v1 (w64 (v2 + 1)) v3 v4))))
(rec_ v0 v1 (w64 (v2 + 1)) v3 v4))))
(k1 v0 v1 v3 v4))
def aaj (N : Nat) := Su (β := β) N
def uW (N : Nat) : Nat → ByteArray → Int → Int → Int → Int → (Bool → Int → Int → O β) → (ByteArray → Int → Int → Int → O β) → O β
 | 0, _, _, _, _, _, _, _ => none
 | F + 1, v0, v1, v2, v3, v4, k0, k1 => aaj N v0 v1 v2 v3 v4 (fun v0 v1 v2 v3 v4 => uW N F v0 v1 v2 v3 v4 k0 k1) k0 k1
def Sv (N : Nat) (v0 : ByteArray) (v1 v2 v3 v4 v5 : Int) (rec_ : ByteArray → Int → Int → Int → Int → Int → O β) (k0 : Int → Int → Int → Int → O β) : O β :=
(gd (decide (0 ≤ v1))
(cond (decide (v3 < (aW .i64 1 v1)))
(agV v0 0 v3 fun r9 =>
(cond r9
(gd (decide (0 ≤ v3))
(rec_ v0 v1 (bits .or .i64 v2 (aW .i64 1 v3)) (w64 (v3 + 1)) v4 v5))
(rec_ v0 v1 v2 (w64 (v3 + 1)) v4 v5)))
(k0 v1 v2 v4 v5)))
def aak (N : Nat) := Sv (β := β) (acC N) N
def uX (N : Nat) : Nat → ByteArray → Int → Int → Int → Int → Int → (Int → Int → Int → Int → O β) → O β
 | 0, _, _, _, _, _, _, _ => none
 | F + 1, v0, v1, v2, v3, v4, v5, k0 => aak N v0 v1 v2 v3 v4 v5 (fun v0 v1 v2 v3 v4 v5 => uX N F v0 v1 v2 v3 v4 v5 k0) k0
def Ju (N : Nat) (a0 : ByteArray) (a1 : Int) (k : Int → Int → Bool → O β) : O β :=
ae5 a0 fun r5 =>
(cond (!r5)
(k 0 0 false)
(adV a1 0 5 fun r6 =>
(cond (!r6)
(k 0 0 false)
(afr N a0 a1 0 0 0 (fun aA aB aC =>
k aB aC aA) (fun aD aE aF aG =>
afs N aD aE 0 0 aF aG (fun aH aI aJ aK =>
k aH aI true))))))
def uY (N : Nat) := Ju (β := β) (bK N) (vD N) (uW N) (uX N) N
def Gp (N : Nat) (a0 : ByteArray) (a1 : Int) (a2 : ByteArray) (k : Int → Int → Bool → O β) : O β :=
adV a1 0 4 fun r6 =>
(cond (!r6)
(k 0 0 false)
(cond (a0.toList == (aq [116, 97, 98, 108, 101]).toList)
(af8 a2 fun r7 r8 r9 =>
(cond (!r9)
(k 0 0 false)
(cond (r7 != a1)
(k 0 0 false)
(k r7 r8 true))))
(cond (a0.toList == (aq [97, 110, 102]).toList)
(age a1 a2 fun r10 r11 r12 =>
k r10 r11 r12)
(cond (a0.toList == (aq [115, 117, 109]).toList)
(agi a1 a2 fun r13 r14 =>
(cond (!r14)
(k 0 0 false)
(agl a1 r13 fun r15 r16 r17 =>
k r15 r16 r17)))
(cond (a0.toList == (aq [116, 114, 101, 101]).toList)
(agn a2 a1 fun r18 r19 r20 =>
k r18 r19 r20)
(cond (a0.toList == (aq [102, 111, 114, 109, 117, 108, 97]).toList)
(agE a2 a1 fun r21 r22 r23 =>
k r21 r22 r23)
(k 0 0 false)))))))
def uG (N : Nat) := Gp (β := β) (bK N) (C5 N) (vv N) (uR N) (Ep N) (Ao N) (uY N) N
def Gq (N : Nat) (v0 : ByteArray) (v1 v2 v3 : Int) (rec_ : ByteArray → Int → Int → Int → O β) (k0 : ByteArray → O β) : O β :=
ad5 v2 v3 fun r3 =>
(cond r3
(gd (decide (0 ≤ v2))
(cond (decide (v1 < (aW .i64 1 v2)))
(gd (decide (0 ≤ v1))
(cond ((bits .and .i64 (cX .i64 v3 v1) 1) == 1)
(gd (decide (v0.size + (aq [49]).size ≤ 9223372036854775807))
(rec_ (v0 ++ (aq [49])) (w64 (v1 + 1)) v2 v3))
(gd (decide (v0.size + (aq [48]).size ≤ 9223372036854775807))
(rec_ (v0 ++ (aq [48])) (w64 (v1 + 1)) v2 v3))))
(k0 v0)))
(k0 v0))
def Pf (N : Nat) := Gq (β := β) (eU N) N
def mb (N : Nat) : Nat → ByteArray → Int → Int → Int → (ByteArray → O β) → O β
 | 0, _, _, _, _, _ => none
 | F + 1, v0, v1, v2, v3, k0 => Pf N v0 v1 v2 v3 (fun v0 v1 v2 v3 => mb N F v0 v1 v2 v3 k0) k0
def Tp (N : Nat) (a0 a1 : Int) (k : ByteArray → O β) : O β :=
afu N ByteArray.empty 0 a0 a1 (fun aA =>
k aA)
def CR (N : Nat) := Tp (β := β) (mb N) N
def Ok (N : Nat) (a0 a1 a2 a3 : Int) (k : Bool → O β) : O β :=
aeh a0 a2 a3 fun r5 =>
k ((bits .and .i64 r5 a1) == r5)
def rB (N : Nat) := Ok (β := β) (oN N) N
def Gr (N : Nat) (v0 v1 v2 v3 v4 : Int) (rec_ : Int → Int → Int → Int → Int → O β) (k0 : Bool → O β) (k1 : O β) : O β :=
(cond (decide (v0 < v1))
(gd (decide (0 ≤ v0))
(cond ((bits .and .i64 v3 (aW .i64 1 v0)) != 0)
(aeZ v1 v2 (w64 (v3 - (aW .i64 1 v0))) (w64 (v4 - (bits .and .i64 v4 (aW .i64 1 v0)))) fun r6 =>
(cond r6
(k0 false)
(rec_ (w64 (v0 + 1)) v1 v2 v3 v4)))
(rec_ (w64 (v0 + 1)) v1 v2 v3 v4)))
(k1 ))
def Pg (N : Nat) := Gr (β := β) (rB N) N
def mc (N : Nat) : Nat → Int → Int → Int → Int → Int → (Bool → O β) → (O β) → O β
 | 0, _, _, _, _, _, _, _ => none
 | F + 1, v0, v1, v2, v3, v4, k0, k1 => Pg N v0 v1 v2 v3 v4 (fun v0 v1 v2 v3 v4 => mc N F v0 v1 v2 v3 v4 k0 k1) k0 k1
def Ol (N : Nat) (a0 a1 a2 a3 : Int) (k : Bool → O β) : O β :=
aeZ a0 a1 a2 a3 fun r5 =>
(cond (!r5)
(k false)
(afw N 0 a0 a1 a2 a3 (fun aA =>
k aA) (k true)))
def rC (N : Nat) := Ol (β := β) (rB N) (mc N) N
def Gs (N : Nat) (v0 v1 v2 v3 : Int) (v4 : List (Int × Int)) (rec_ : Int → Int → Int → Int → List (Int × Int) → O β) (k0 : Int → Int → Int → List (Int × Int) → O β) : O β :=
(cond (decide (v1 ≤ v0))
(cond ((bits .and .i64 v1 v0) == v1)
(ae6 v2 v3 v0 v1 fun r3 =>
(cond r3
(gd (decide ((v4.length + (([] : List (Int × Int)) ++ [(v0, v1)]).length) * 16 ≤ 140737488355328))
(rec_ v0 (w64 (v1 + 1)) v2 v3 (v4 ++ (([] : List (Int × Int)) ++ [(v0, v1)]))))
(rec_ v0 (w64 (v1 + 1)) v2 v3 v4)))
(rec_ v0 (w64 (v1 + 1)) v2 v3 v4))
(k0 v0 v2 v3 v4))
def Ph (N : Nat) := Gs (β := β) (rC N) N
def kk (N : Nat) : Nat → Int → Int → Int → Int → List (Int × Int) → (Int → Int → Int → List (Int × Int) → O β) → O β
 | 0, _, _, _, _, _, _ => none
 | F + 1, v0, v1, v2, v3, v4, k0 => Ph N v0 v1 v2 v3 v4 (fun v0 v1 v2 v3 v4 => kk N F v0 v1 v2 v3 v4 k0) k0
def Gt (N : Nat) (v0 v1 v2 : Int) (v3 : List (Int × Int)) (rec_ : Int → Int → Int → List (Int × Int) → O β) (k0 : List (Int × Int) → O β) : O β :=
(gd (decide (0 ≤ v1))
(cond (decide (v0 < (aW .i64 1 v1)))
(ae7 N v0 0 v1 v2 v3 (fun aA aB aC aD =>
rec_ (w64 (aA + 1)) aB aC aD))
(k0 v3)))
def Pi (N : Nat) := Gt (β := β) (kk N) N
def ii (N : Nat) : Nat → Int → Int → Int → List (Int × Int) → (List (Int × Int) → O β) → O β
 | 0, _, _, _, _, _ => none
 | F + 1, v0, v1, v2, v3, k0 => Pi N v0 v1 v2 v3 (fun v0 v1 v2 v3 => ii N F v0 v1 v2 v3 k0) k0
def Om (N : Nat) (a0 a1 : Int) (k : List (Int × Int) → O β) : O β :=
ae8 N 0 a0 a1 ([] : List (Int × Int)) (fun aA =>
k aA)
def uH (N : Nat) := Om (β := β) (ii N) N
def Gu (N : Nat) (self : Int → Int → List (Int × Int) → Int → Int → Int → (List (Int × Int) → Bool → O β) → O β) (v0 : List (Int × Int)) (v1 v2 v3 v4 v5 : Int) (rec_ : List (Int × Int) → Int → Int → Int → Int → Int → O β) (k0 : Bool → List (Int × Int) → O β) (k1 : O β) : O β :=
(cond (decide (v3 < (v0.length : Int)))
(gd (decide (0 ≤ v3))
(gd (decide (v3 < (v0.length : Int)))
(aeh v4 ((rd (0, 0) v0 v3).1) ((rd (0, 0) v0 v3).2) fun r8 =>
(cond ((bits .and .i64 r8 v1) == 0)
(rec_ v0 v1 v2 (w64 (v3 + 1)) v4 v5)
(self v4 v5 v0 (w64 (v3 + 1)) (w64 (v1 - (bits .and .i64 v1 r8))) (w64 (v2 - 1)) fun r9 r10 =>
(cond r10
(gd (decide (0 ≤ v3))
(gd (decide (v3 < (v0.length : Int)))
(gd (decide (((([] : List (Int × Int)) ++ [((rd (0, 0) v0 v3).1, (rd (0, 0) v0 v3).2)]).length + r9.length) * 16 ≤ 140737488355328))
(k0 true ((([] : List (Int × Int)) ++ [((rd (0, 0) v0 v3).1, (rd (0, 0) v0 v3).2)]) ++ r9)))))
(rec_ v0 v1 v2 (w64 (v3 + 1)) v4 v5)))))))
(k1 ))
def Pj (N : Nat) := Gu (β := β) (oN N) N
def me (N : Nat) (self : Int → Int → List (Int × Int) → Int → Int → Int → (List (Int × Int) → Bool → O β) → O β) : Nat → List (Int × Int) → Int → Int → Int → Int → Int → (Bool → List (Int × Int) → O β) → (O β) → O β
 | 0, _, _, _, _, _, _, _, _ => none
 | F + 1, v0, v1, v2, v3, v4, v5, k0, k1 => Pj N self v0 v1 v2 v3 v4 v5 (fun v0 v1 v2 v3 v4 v5 => me N self F v0 v1 v2 v3 v4 v5 k0 k1) k0 k1
def xk (N : Nat) (self : Int → Int → List (Int × Int) → Int → Int → Int → (List (Int × Int) → Bool → O β) → O β) (a0 a1 : Int) (a2 : List (Int × Int)) (a3 a4 a5 : Int) (k : List (Int × Int) → Bool → O β) : O β :=
(cond (a4 == 0)
(k ([] : List (Int × Int)) true)
(cond (a5 == 0)
(k ([] : List (Int × Int)) false)
(afx self N a2 a4 a5 a3 a0 a1 (fun aA aB =>
k aB aA) (k ([] : List (Int × Int)) false))))
def CS (N : Nat) := xk (β := β) (me N) N
def eD (N : Nat) : Nat → Int → Int → List (Int × Int) → Int → Int → Int → (List (Int × Int) → Bool → O β) → O β
 | 0, _, _, _, _, _, _, _ => none
 | F + 1, a0, a1, a2, a3, a4, a5, k => CS N (eD N F) a0 a1 a2 a3 a4 a5 k
def acr (N : Nat) := eD (β := β) N N
def CC (N : Nat) (v0 v1 v2 : Int) (v3 : List (Int × Int)) (rec_ : Int → Int → Int → List (Int × Int) → O β) (k0 : Bool → List (Int × Int) → O β) (k1 : O β) : O β :=
(cond (decide (v0 ≤ 8))
(agI v1 v2 v3 0 v2 v0 fun r6 r7 =>
(cond r7
(k0 true r6)
(rec_ (w64 (v0 + 1)) v1 v2 v3)))
(k1 ))
def G8 (N : Nat) := CC (β := β) (acr N) N
def kl (N : Nat) : Nat → Int → Int → Int → List (Int × Int) → (Bool → List (Int × Int) → O β) → (O β) → O β
 | 0, _, _, _, _, _, _ => none
 | F + 1, v0, v1, v2, v3, k0, k1 => G8 N v0 v1 v2 v3 (fun v0 v1 v2 v3 => kl N F v0 v1 v2 v3 k0 k1) k0 k1
def On (N : Nat) (a0 a1 : Int) (k : List (Int × Int) → Bool → O β) : O β :=
ad5 a0 a1 fun r4 =>
(cond (!r4)
(k ([] : List (Int × Int)) false)
(cond (decide (a0 > 4))
(k ([] : List (Int × Int)) false)
(ae9 a0 a1 fun r5 =>
afy N 0 a0 a1 r5 (fun aA aB =>
k aB aA) (k ([] : List (Int × Int)) false))))
def xn (N : Nat) := On (β := β) (eU N) (uH N) (kl N) N
def Gv (N : Nat) (v0 : Int) (v1 : List (Int × Int)) (v2 : ByteArray) (v3 : Int) (rec_ : Int → List (Int × Int) → ByteArray → Int → O β) (k0 : Int → List (Int × Int) → ByteArray → O β) : O β :=
(cond (decide (v3 < (v1.length : Int)))
(aes v0 v1 fun r3 =>
(cond r3
(cond (decide (v3 > 0))
(gd (decide (v2.size + (aq [124]).size ≤ 9223372036854775807))
(gd (decide (0 ≤ v3))
(gd (decide (v3 < (v1.length : Int)))
(aee v0 ((rd (0, 0) v1 v3).1) ((rd (0, 0) v1 v3).2) fun r4 =>
(gd (decide ((v2 ++ (aq [124])).size + r4.size ≤ 9223372036854775807))
(rec_ v0 v1 ((v2 ++ (aq [124])) ++ r4) (w64 (v3 + 1))))))))
(gd (decide (0 ≤ v3))
(gd (decide (v3 < (v1.length : Int)))
(aee v0 ((rd (0, 0) v1 v3).1) ((rd (0, 0) v1 v3).2) fun r5 =>
(gd (decide (v2.size + r5.size ≤ 9223372036854775807))
(rec_ v0 v1 (v2 ++ r5) (w64 (v3 + 1))))))))
(k0 v0 v1 v2)))
(k0 v0 v1 v2))
def Pk (N : Nat) := Gv (β := β) (iw N) (oM N) N
def mf (N : Nat) : Nat → Int → List (Int × Int) → ByteArray → Int → (Int → List (Int × Int) → ByteArray → O β) → O β
 | 0, _, _, _, _, _ => none
 | F + 1, v0, v1, v2, v3, k0 => Pk N v0 v1 v2 v3 (fun v0 v1 v2 v3 => mf N F v0 v1 v2 v3 k0) k0
def Oo (N : Nat) (a0 : Int) (a1 : List (Int × Int)) (k : ByteArray → O β) : O β :=
afA N a0 a1 ByteArray.empty 0 (fun aA aB aC =>
(cond (aC.toList == ByteArray.empty.toList)
(aes aA aB fun r7 =>
(cond r7
(k (aq [48]))
(k aC)))
(k aC)))
def xo (N : Nat) := Oo (β := β) (oM N) (mf N) N
def Oq (N : Nat) (v0 v1 v2 v3 v4 v5 : Int) (rec_ : Int → Int → Int → Int → Int → Int → O β) (k0 k1 : Int → O β) : O β :=
(gd (decide (0 ≤ v4))
(cond (decide (v3 < (aW .i64 1 v4)))
(cond ((bits .and .i64 v3 v0) != v1)
(rec_ v0 v1 v2 (w64 (v3 + 1)) v4 v5)
(gd (decide (0 ≤ v3))
(cond (decide (v2 ≥ 0))
(cond (v2 != (bits .and .i64 (cX .i64 v5 v3) 1))
(k0 2)
(rec_ v0 v1 (bits .and .i64 (cX .i64 v5 v3) 1) (w64 (v3 + 1)) v4 v5))
(rec_ v0 v1 (bits .and .i64 (cX .i64 v5 v3) 1) (w64 (v3 + 1)) v4 v5))))
(k1 v2)))
def Tt (N : Nat) := Oq (β := β) N
def pT (N : Nat) : Nat → Int → Int → Int → Int → Int → Int → (Int → O β) → (Int → O β) → O β
 | 0, _, _, _, _, _, _, _, _ => none
 | F + 1, v0, v1, v2, v3, v4, v5, k0, k1 => Tt N v0 v1 v2 v3 v4 v5 (fun v0 v1 v2 v3 v4 v5 => pT N F v0 v1 v2 v3 v4 v5 k0 k1) k0 k1
def Ot (N : Nat) (a0 a1 a2 a3 : Int) (k : Int → O β) : O β :=
afC N a2 a3 (-1) 0 a0 a1 (fun aA =>
k aA) (fun aB =>
k aB)
def km (N : Nat) := Ot (β := β) (pT N) N
def Gw (N : Nat) (self : Int → Int → Int → Int → (Int → O β) → O β) (v0 v1 v2 v3 v4 v5 : Int) (rec_ : Int → Int → Int → Int → Int → Int → O β) (k0 : Int → O β) : O β :=
(cond (decide (v3 < v4))
(gd (decide (0 ≤ v3))
(cond ((bits .and .i64 v0 (aW .i64 1 v3)) == 0)
(self v4 v5 (bits .or .i64 v0 (aW .i64 1 v3)) v1 fun r6 =>
self v4 v5 (bits .or .i64 v0 (aW .i64 1 v3)) (bits .or .i64 v1 (aW .i64 1 v3)) fun r7 =>
rec_ v0 v1 (mnI v2 (w64 (1 + (mxI r6 r7)))) (w64 (v3 + 1)) v4 v5)
(rec_ v0 v1 v2 (w64 (v3 + 1)) v4 v5)))
(k0 v2))
def Pl (N : Nat) := Gw (β := β) N
def mg (N : Nat) (self : Int → Int → Int → Int → (Int → O β) → O β) : Nat → Int → Int → Int → Int → Int → Int → (Int → O β) → O β
 | 0, _, _, _, _, _, _, _ => none
 | F + 1, v0, v1, v2, v3, v4, v5, k0 => Pl N self v0 v1 v2 v3 v4 v5 (fun v0 v1 v2 v3 v4 v5 => mg N self F v0 v1 v2 v3 v4 v5 k0) k0
def Ou (N : Nat) (self : Int → Int → Int → Int → (Int → O β) → O β) (a0 a1 a2 a3 : Int) (k : Int → O β) : O β :=
aey a0 a1 a2 a3 fun r5 =>
(cond (decide (r5 < 2))
(k 0)
(afD self N a2 a3 10 0 a0 a1 (fun aA =>
k aA)))
def Tu (N : Nat) := Ou (β := β) (km N) (mg N) N
def fY (N : Nat) : Nat → Int → Int → Int → Int → (Int → O β) → O β
 | 0, _, _, _, _, _ => none
 | F + 1, a0, a1, a2, a3, k => Tu N (fY N F) a0 a1 a2 a3 k
def Pn (N : Nat) := fY (β := β) N N
def Ov (N : Nat) (self : Int → Int → Int → Int → (ByteArray → O β) → O β) (v0 v1 v2 v3 v4 v5 : Int) (rec_ : Int → Int → Int → Int → Int → Int → O β) (k0 : ByteArray → O β) (k1 : O β) : O β :=
(cond (decide (v3 < v4))
(gd (decide (0 ≤ v3))
(cond ((bits .and .i64 v0 (aW .i64 1 v3)) == 0)
(agG v4 v5 (bits .or .i64 v0 (aW .i64 1 v3)) v1 fun r7 =>
agG v4 v5 (bits .or .i64 v0 (aW .i64 1 v3)) (bits .or .i64 v1 (aW .i64 1 v3)) fun r8 =>
(cond ((w64 (1 + (mxI r7 r8))) == v2)
(gd (decide (0 ≤ (w64 (v3 + 1))))
(gd (decide ((w64 (v3 + 1)) ≤ ((aq [97, 98, 99, 100, 101]).size : Int)))
(gd (decide (0 ≤ v3))
(gd (decide (v3 ≤ (w64 (v3 + 1))))
(self v4 v5 (bits .or .i64 v0 (aW .i64 1 v3)) v1 fun r9 =>
(gd (decide (((aq [97, 98, 99, 100, 101]).extract (Int.toNat v3) (Int.toNat (w64 (v3 + 1)))).size + r9.size ≤ 9223372036854775807))
(self v4 v5 (bits .or .i64 v0 (aW .i64 1 v3)) (bits .or .i64 v1 (aW .i64 1 v3)) fun r10 =>
(gd (decide ((((aq [97, 98, 99, 100, 101]).extract (Int.toNat v3) (Int.toNat (w64 (v3 + 1)))) ++ r9).size + r10.size ≤ 9223372036854775807))
(k0 ((((aq [97, 98, 99, 100, 101]).extract (Int.toNat v3) (Int.toNat (w64 (v3 + 1)))) ++ r9) ++ r10))))))))))
(rec_ v0 v1 v2 (w64 (v3 + 1)) v4 v5)))
(rec_ v0 v1 v2 (w64 (v3 + 1)) v4 v5)))
(k1 ))
def Tv (N : Nat) := Ov (β := β) (Pn N) N
def mh (N : Nat) (self : Int → Int → Int → Int → (ByteArray → O β) → O β) : Nat → Int → Int → Int → Int → Int → Int → (ByteArray → O β) → (O β) → O β
 | 0, _, _, _, _, _, _, _, _ => none
 | F + 1, v0, v1, v2, v3, v4, v5, k0, k1 => Tv N self v0 v1 v2 v3 v4 v5 (fun v0 v1 v2 v3 v4 v5 => mh N self F v0 v1 v2 v3 v4 v5 k0 k1) k0 k1
def Ow (N : Nat) (self : Int → Int → Int → Int → (ByteArray → O β) → O β) (a0 a1 a2 a3 : Int) (k : ByteArray → O β) : O β :=
aey a0 a1 a2 a3 fun r5 =>
(cond (decide (r5 < 2))
(gd (decide (0 ≤ (w64 (r5 + 1))))
(gd (decide ((w64 (r5 + 1)) ≤ ((aq [48, 49]).size : Int)))
(gd (decide (0 ≤ r5))
(gd (decide (r5 ≤ (w64 (r5 + 1))))
(k ((aq [48, 49]).extract (Int.toNat r5) (Int.toNat (w64 (r5 + 1)))))))))
(agG a0 a1 a2 a3 fun r6 =>
afE self N a2 a3 r6 0 a0 a1 (fun aA =>
k aA) (k ByteArray.empty)))
def Tw (N : Nat) := Ow (β := β) (km N) (Pn N) (mh N) N
def fZ (N : Nat) : Nat → Int → Int → Int → Int → (ByteArray → O β) → O β
 | 0, _, _, _, _, _ => none
 | F + 1, a0, a1, a2, a3, k => Tw N (fZ N F) a0 a1 a2 a3 k
def acs (N : Nat) := fZ (β := β) N N
def Ox (N : Nat) (a0 a1 : Int) (k : ByteArray → Bool → O β) : O β :=
ad5 a0 a1 fun r4 =>
(cond (!r4)
(k ByteArray.empty false)
(cond (decide (a0 > 4))
(k ByteArray.empty false)
(agJ a0 a1 0 0 fun r5 =>
k r5 true)))
def xp (N : Nat) := Ox (β := β) (eU N) (acs N) N
def Oy (N : Nat) (a0 : Int) (k : Int → O β) : O β :=
(gd (decide (0 ≤ a0))
(gd (decide (0 ≤ (aW .u64 1 a0)))
(k (w64 ((aW .i64 1 (aW .u64 1 a0)) - 1)))))
def ik (N : Nat) := Oy (β := β) N
def Gx (N : Nat) (v0 : List Int) (v1 v2 v3 : Int) (rec_ : List Int → Int → Int → Int → O β) (k0 : ByteArray → O β) (k1 : List Int → Int → Int → O β) : O β :=
(cond (decide (v3 < v1))
(gd (decide (0 ≤ v2))
(gd (decide (v2 < (v0.length : Int)))
(cond ((rd 0 v0 v2) == 1)
(aeH v1 v3 fun r5 =>
(cond (v2 == r5)
(gd (decide (0 ≤ (w64 (v3 + 1))))
(gd (decide ((w64 (v3 + 1)) ≤ ((aq [97, 98, 99, 100, 101]).size : Int)))
(gd (decide (0 ≤ v3))
(gd (decide (v3 ≤ (w64 (v3 + 1))))
(k0 ((aq [97, 98, 99, 100, 101]).extract (Int.toNat v3) (Int.toNat (w64 (v3 + 1)))))))))
(aej v1 fun r6 =>
aeH v1 v3 fun r7 =>
(cond (v2 == (w64 (r6 - r7)))
(gd (decide (0 ≤ (w64 (v3 + 1))))
(gd (decide ((w64 (v3 + 1)) ≤ ((aq [97, 98, 99, 100, 101]).size : Int)))
(gd (decide (0 ≤ v3))
(gd (decide (v3 ≤ (w64 (v3 + 1))))
(gd (decide ((aq [33]).size + ((aq [97, 98, 99, 100, 101]).extract (Int.toNat v3) (Int.toNat (w64 (v3 + 1)))).size ≤ 9223372036854775807))
(k0 ((aq [33]) ++ ((aq [97, 98, 99, 100, 101]).extract (Int.toNat v3) (Int.toNat (w64 (v3 + 1)))))))))))
(rec_ v0 v1 v2 (w64 (v3 + 1)))))))
(k1 v0 v1 v2))))
(k1 v0 v1 v2))
def CT (N : Nat) := Gx (β := β) (Al N) (ik N) N
def ko (N : Nat) : Nat → List Int → Int → Int → Int → (ByteArray → O β) → (List Int → Int → Int → O β) → O β
 | 0, _, _, _, _, _, _ => none
 | F + 1, v0, v1, v2, v3, k0, k1 => CT N v0 v1 v2 v3 (fun v0 v1 v2 v3 => ko N F v0 v1 v2 v3 k0 k1) k0 k1
def Gy (N : Nat) (self : List Int → Int → Int → (ByteArray → O β) → O β) (v0 : List Int) (v1 v2 v3 v4 v5 : Int) (rec_ : List Int → Int → Int → Int → Int → Int → O β) (k0 : ByteArray → O β) (k1 : List Int → Int → Int → Int → Int → O β) : O β :=
aej v1 fun r11 =>
(cond (decide (v5 < r11))
(gd (decide (0 ≤ v4))
(gd (decide (v4 < (v0.length : Int)))
(gd (decide (0 ≤ v5))
(gd (decide (v5 < (v0.length : Int)))
(gd (decide (0 ≤ v2))
(gd (decide (v2 < (v0.length : Int)))
(cond ((w64 ((rd 0 v0 v4) + (rd 0 v0 v5))) != (rd 0 v0 v2))
(rec_ v0 v1 v2 v3 v4 (w64 (v5 + 1)))
(cond (v3 == 0)
(cond ((bits .and .i64 v4 v5) == v2)
(self v0 v1 v4 fun r12 =>
(gd (decide ((aq [38]).size + r12.size ≤ 9223372036854775807))
(self v0 v1 v5 fun r13 =>
(gd (decide (((aq [38]) ++ r12).size + r13.size ≤ 9223372036854775807))
(k0 (((aq [38]) ++ r12) ++ r13))))))
(cond (v3 == 1)
(cond ((bits .or .i64 v4 v5) == v2)
(self v0 v1 v4 fun r14 =>
(gd (decide ((aq [124]).size + r14.size ≤ 9223372036854775807))
(self v0 v1 v5 fun r15 =>
(gd (decide (((aq [124]) ++ r14).size + r15.size ≤ 9223372036854775807))
(k0 (((aq [124]) ++ r14) ++ r15))))))
(rec_ v0 v1 v2 v3 v4 (w64 (v5 + 1))))
(rec_ v0 v1 v2 v3 v4 (w64 (v5 + 1)))))
(cond (v3 == 1)
(cond ((bits .or .i64 v4 v5) == v2)
(self v0 v1 v4 fun r16 =>
(gd (decide ((aq [124]).size + r16.size ≤ 9223372036854775807))
(self v0 v1 v5 fun r17 =>
(gd (decide (((aq [124]) ++ r16).size + r17.size ≤ 9223372036854775807))
(k0 (((aq [124]) ++ r16) ++ r17))))))
(rec_ v0 v1 v2 v3 v4 (w64 (v5 + 1))))
(rec_ v0 v1 v2 v3 v4 (w64 (v5 + 1))))))))))))
(k1 v0 v1 v2 v3 v4))
def CU (N : Nat) := Gy (β := β) (ik N) N
def kp (N : Nat) (self : List Int → Int → Int → (ByteArray → O β) → O β) : Nat → List Int → Int → Int → Int → Int → Int → (ByteArray → O β) → (List Int → Int → Int → Int → Int → O β) → O β
 | 0, _, _, _, _, _, _, _, _ => none
 | F + 1, v0, v1, v2, v3, v4, v5, k0, k1 => CU N self v0 v1 v2 v3 v4 v5 (fun v0 v1 v2 v3 v4 v5 => kp N self F v0 v1 v2 v3 v4 v5 k0 k1) k0 k1
def Gz (N : Nat) (self : List Int → Int → Int → (ByteArray → O β) → O β) (v0 : List Int) (v1 v2 v3 v4 : Int) (rec_ : List Int → Int → Int → Int → Int → O β) (k0 : ByteArray → O β) (k1 : List Int → Int → Int → Int → O β) : O β :=
aej v1 fun r10 =>
(cond (decide (v4 < r10))
(gd (decide (0 ≤ v4))
(gd (decide (v4 < (v0.length : Int)))
(gd (decide (0 ≤ v2))
(gd (decide (v2 < (v0.length : Int)))
(cond (decide ((rd 0 v0 v4) ≥ (rd 0 v0 v2)))
(rec_ v0 v1 v2 v3 (w64 (v4 + 1)))
(aeQ self N v0 v1 v2 v3 v4 1 (fun aA =>
k0 aA) (fun aB aC aD aE aF =>
rec_ aB aC aD aE (w64 (aF + 1)))))))))
(k1 v0 v1 v2 v3))
def CV (N : Nat) := Gz (β := β) (ik N) (kp N) N
def il (N : Nat) (self : List Int → Int → Int → (ByteArray → O β) → O β) : Nat → List Int → Int → Int → Int → Int → (ByteArray → O β) → (List Int → Int → Int → Int → O β) → O β
 | 0, _, _, _, _, _, _, _ => none
 | F + 1, v0, v1, v2, v3, v4, k0, k1 => CV N self v0 v1 v2 v3 v4 (fun v0 v1 v2 v3 v4 => il N self F v0 v1 v2 v3 v4 k0 k1) k0 k1
def GA (N : Nat) (self : List Int → Int → Int → (ByteArray → O β) → O β) (v0 : List Int) (v1 v2 v3 : Int) (rec_ : List Int → Int → Int → Int → O β) (k0 : ByteArray → O β) (k1 : O β) : O β :=
(cond (decide (v3 < 2))
(aeR self N v0 v1 v2 v3 1 (fun aA =>
k0 aA) (fun aB aC aD aE =>
rec_ aB aC aD (w64 (aE + 1))))
(k1 ))
def CW (N : Nat) := GA (β := β) (il N) N
def im (N : Nat) (self : List Int → Int → Int → (ByteArray → O β) → O β) : Nat → List Int → Int → Int → Int → (ByteArray → O β) → (O β) → O β
 | 0, _, _, _, _, _, _ => none
 | F + 1, v0, v1, v2, v3, k0, k1 => CW N self v0 v1 v2 v3 (fun v0 v1 v2 v3 => im N self F v0 v1 v2 v3 k0 k1) k0 k1
def Oz (N : Nat) (self : List Int → Int → Int → (ByteArray → O β) → O β) (a0 : List Int) (a1 a2 : Int) (k : ByteArray → O β) : O β :=
(cond (a2 == 0)
(k (aq [48]))
(aej a1 fun r4 =>
(cond (a2 == r4)
(k (aq [49]))
(aeP N a0 a1 a2 0 (fun aA =>
k aA) (fun aB aC aD =>
aeS self N aB aC aD 0 (fun aE =>
k aE) (k ByteArray.empty))))))
def Po (N : Nat) := Oz (β := β) (ik N) (ko N) (im N) N
def dr (N : Nat) : Nat → List Int → Int → Int → (ByteArray → O β) → O β
 | 0, _, _, _, _ => none
 | F + 1, a0, a1, a2, k => Po N (dr N F) a0 a1 a2 k
def Tx (N : Nat) := dr (β := β) N N
def OB (N : Nat) (a0 a1 : Int) (k : ByteArray → Bool → O β) : O β :=
ad5 a0 a1 fun r4 =>
(cond (!r4)
(k ByteArray.empty false)
(cond (decide (a0 > 3))
(k ByteArray.empty false)
(l8 N a0 fun r5 =>
agK r5 a0 a1 fun r6 =>
k r6 true)))
def xq (N : Nat) := OB (β := β) (eU N) (Tx N) N
def OC (N : Nat) (a0 : ByteArray) (a1 a2 : Int) (k : ByteArray → Bool → O β) : O β :=
ad5 a1 a2 fun r5 =>
(cond (!r5)
(k ByteArray.empty false)
(cond (decide (a1 > 4))
(k ByteArray.empty false)
(cond (a0.toList == (aq [116, 97, 98, 108, 101]).toList)
(afv a1 a2 fun r6 =>
k r6 true)
(cond (a0.toList == (aq [97, 110, 102]).toList)
(aeI a1 a2 fun r7 =>
k r7 true)
(cond (a0.toList == (aq [115, 117, 109]).toList)
(afz a1 a2 fun r8 r9 =>
afB a1 r8 fun r10 =>
k r10 true)
(cond (a0.toList == (aq [116, 114, 101, 101]).toList)
(afF a1 a2 fun r11 r12 =>
k r11 r12)
(cond (a0.toList == (aq [102, 111, 114, 109, 117, 108, 97]).toList)
(afG a1 a2 fun r13 r14 =>
k r13 r14)
(k ByteArray.empty false))))))))
def xr (N : Nat) := OC (β := β) (eU N) (qV N) (CR N) (xn N) (xo N) (xp N) (xq N) N
def OD (N : Nat) (a0 a1 : ByteArray) (a2 : Int) (a3 : ByteArray) (k : ByteArray → Bool → O β) : O β :=
aft a0 a2 a3 fun r6 r7 r8 =>
(cond (!r8)
(k ByteArray.empty false)
(agp a1 r6 r7 fun r9 r10 =>
k r9 r10))
def xt (N : Nat) := OD (β := β) (uG N) (xr N) N
def OE (N : Nat) (a0 a1 : Int) (k : Bool → O β) : O β :=
zq7 a0 fun r3 =>
(cond r3
(cond (decide (a1 ≥ 0))
(zq2 a0 a1 fun r4 =>
(gd (decide (0 ≤ r4))
(k ((cX .i64 a1 r4) == 0))))
(k false))
(k false))
def ge (N : Nat) := OE (β := β) (zj2 N) (zj7 N) N
def GB (N : Nat) (v0 v1 v2 v3 : Int) (v4 : List Int) (rec_ : Int → Int → Int → Int → List Int → O β) (k0 : List Int → O β) : O β :=
(cond (decide (v1 < v0))
(zq3 v2 v3 v1 fun r5 =>
(gd (decide (0 ≤ v1))
(gd (decide (v1 < (v4.length : Int)))
(rec_ v0 (w64 (v1 + 1)) v2 v3 (wr v4 v1 (w8 (48 + (w8 (r5)))))))))
(k0 v4))
def Pp (N : Nat) := GB (β := β) (zj3 N) N
def mi (N : Nat) : Nat → Int → Int → Int → Int → List Int → (List Int → O β) → O β
 | 0, _, _, _, _, _, _ => none
 | F + 1, v0, v1, v2, v3, v4, k0 => Pp N v0 v1 v2 v3 v4 (fun v0 v1 v2 v3 v4 => mi N F v0 v1 v2 v3 v4 k0) k0
def OF (N : Nat) (a0 a1 : Int) (k : ByteArray → O β) : O β :=
aei a0 a1 fun r3 =>
(cond (!r3)
(k ByteArray.empty)
(zq2 a0 a1 fun r4 =>
(gd (decide (0 ≤ r4))
(gd (decide (r4 ≤ r4))
(gd (decide (1 * r4 ≤ 281474976710656))
(afI N ((List.replicate (Int.toNat r4) (0 : Int)).length : Int) 0 a0 a1 (List.replicate (Int.toNat r4) (0 : Int)) (fun aA =>
k (aq aA))))))))
def mj (N : Nat) := OF (β := β) (zj2 N) (ge N) (mi N) N
def CD (N : Nat) (v0 : Int) (v1 : ByteArray) (v2 v3 : Int) (rec_ : Int → ByteArray → Int → Int → O β) (k0 : Bool → Int → Int → O β) (k1 : Int → Int → O β) : O β :=
(cond (decide (v0 < 6))
(gd (decide (0 ≤ v0))
(cond ((v1.size : Int) == (aW .i64 1 v0))
(ad4 v0 (fun x0 k => zq1 x0 v1 k) fun r4 r5 =>
aeE r4 r5 fun r6 =>
(cond (!(r6.toList == v1.toList))
(k0 false 0 0)
(k0 true r4 r5)))
(rec_ (w64 (v0 + 1)) v1 v2 v3)))
(k1 v2 v3))
def G9 (N : Nat) := CD (β := β) (zj1 N) (fK N) (mj N) N
def gf (N : Nat) : Nat → Int → ByteArray → Int → Int → (Bool → Int → Int → O β) → (Int → Int → O β) → O β
 | 0, _, _, _, _, _, _ => none
 | F + 1, v0, v1, v2, v3, k0, k1 => G9 N v0 v1 v2 v3 (fun v0 v1 v2 v3 => gf N F v0 v1 v2 v3 k0 k1) k0 k1
def GC (N : Nat) (a0 : ByteArray) (k : Int → Int → Bool → O β) : O β :=
afJ N 0 a0 0 0 (fun aA aB aC =>
k aB aC aA) (fun aD aE =>
k 0 0 false)
def rD (N : Nat) := GC (β := β) (gf N) N
def GD (N : Nat) (a0 : Int) (k : Bool → O β) : O β :=
(cond (decide (a0 ≥ 97))
(k (decide (a0 < 102)))
(k false))
def eE (N : Nat) := GD (β := β) N
def GE (N : Nat) (v0 v1 v2 v3 : Int) (v4 : List Int) (rec_ : Int → Int → Int → Int → List Int → O β) (k0 : List Int → O β) : O β :=
(cond (decide (v1 < v0))
(gd (decide (0 ≤ v1))
(cond ((bits .and .i64 (cX .i64 v2 v1) 1) == 0)
(rec_ v0 (w64 (v1 + 1)) v2 v3 v4)
(gd (decide (0 ≤ v1))
(cond ((bits .and .i64 (cX .i64 v3 v1) 1) == 0)
(gd (decide ((v4.length + (([] : List Int) ++ [33]).length) * 1 ≤ 140737488355328))
(gd (decide (((v4 ++ (([] : List Int) ++ [33])).length + (([] : List Int) ++ [(w8 (97 + (w8 (v1))))]).length) * 1 ≤ 140737488355328))
(rec_ v0 (w64 (v1 + 1)) v2 v3 ((v4 ++ (([] : List Int) ++ [33])) ++ (([] : List Int) ++ [(w8 (97 + (w8 (v1))))])))))
(gd (decide ((v4.length + (([] : List Int) ++ [(w8 (97 + (w8 (v1))))]).length) * 1 ≤ 140737488355328))
(rec_ v0 (w64 (v1 + 1)) v2 v3 (v4 ++ (([] : List Int) ++ [(w8 (97 + (w8 (v1))))]))))))))
(k0 v4))
def Pq (N : Nat) := GE (β := β) N
def ml (N : Nat) : Nat → Int → Int → Int → Int → List Int → (List Int → O β) → O β
 | 0, _, _, _, _, _, _ => none
 | F + 1, v0, v1, v2, v3, v4, k0 => Pq N v0 v1 v2 v3 v4 (fun v0 v1 v2 v3 v4 => ml N F v0 v1 v2 v3 v4 k0) k0
def OH (N : Nat) (a0 a1 a2 : Int) (k : ByteArray → O β) : O β :=
zq9 a0 a1 a2 fun r4 =>
(cond (!r4)
(k ByteArray.empty)
(afL N a0 0 a1 a2 ([] : List Int) (fun aA =>
(cond ((aA.length : Int) == 0)
(k (aq [49]))
(k (aq aA))))))
def jp (N : Nat) := OH (β := β) (zj9 N) (ml N) N
def GF (N : Nat) (v0 : Int) (v1 : ByteArray) (v2 v3 v4 v5 v6 v7 v8 : Int) (rec_ : Int → ByteArray → Int → Int → Int → Int → Int → Int → Int → O β) (k0 : Int → ByteArray → Int → Int → Int → Int → O β) : O β :=
(cond (decide (v4 < v3))
(gd (decide (0 ≤ v4))
(gd (decide (v4 < (v1.size : Int)))
(cond ((bt v1 v4) == 33)
(rec_ v0 v1 0 v3 (w64 (v4 + 1)) v5 v6 v7 v8)
(gd (decide (0 ≤ v4))
(gd (decide (v4 < (v1.size : Int)))
(aef (bt v1 v4) fun r5 =>
(cond r5
(gd (decide (0 ≤ v4))
(gd (decide (v4 < (v1.size : Int)))
(gd (decide (0 ≤ (w8 ((bt v1 v4) - 97))))
(gd (decide (0 ≤ v4))
(gd (decide (v4 < (v1.size : Int)))
(gd (decide (0 ≤ (w8 ((bt v1 v4) - 97))))
(rec_ v0 v1 1 v3 (w64 (v4 + 1)) v5 v6 (bits .or .i64 v7 (aW .i64 1 (w8 ((bt v1 v4) - 97)))) (bits .or .i64 v8 (aW .i64 v2 (w8 ((bt v1 v4) - 97)))))))))))
(rec_ v0 v1 v2 v3 (w64 (v4 + 1)) v5 v6 v7 v8))))))))
(k0 v0 v1 v5 v6 v7 v8))
def Pr (N : Nat) := GF (β := β) (eE N) N
def mm (N : Nat) : Nat → Int → ByteArray → Int → Int → Int → Int → Int → Int → Int → (Int → ByteArray → Int → Int → Int → Int → O β) → O β
 | 0, _, _, _, _, _, _, _, _, _, _ => none
 | F + 1, v0, v1, v2, v3, v4, v5, v6, v7, v8, k0 => Pr N v0 v1 v2 v3 v4 v5 v6 v7 v8 (fun v0 v1 v2 v3 v4 v5 v6 v7 v8 => mm N F v0 v1 v2 v3 v4 v5 v6 v7 v8 k0) k0
def OI (N : Nat) (a0 : Int) (a1 : ByteArray) (k : Int → Int → Bool → O β) : O β :=
(cond (!(a1.toList == (aq [49]).toList))
(afM N a0 a1 1 (a1.size : Int) 0 0 0 0 0 (fun aA aB aC aD aE aF =>
(cond (aB.toList == ByteArray.empty.toList)
(k 0 0 false)
(aet aA aE aF fun r7 =>
(cond (!(r7.toList == aB.toList))
(k 0 0 false)
(k aE aF true))))))
(cond (a1.toList == ByteArray.empty.toList)
(k 0 0 false)
(aet a0 0 0 fun r8 =>
(cond (!(r8.toList == a1.toList))
(k 0 0 false)
(k 0 0 true)))))
def jq (N : Nat) := OI (β := β) (jp N) (mm N) N
def OJ (N : Nat) (a0 a1 : Int) (k : Int → Int → O β) : O β :=
ad4 a0 (fun x0 k => zq6 x0 a0 a1 k) fun r4 r5 =>
k r4 r5
def gh (N : Nat) := OJ (β := β) (zj6 N) (fK N) N
def GG (N : Nat) (v0 : Int) (v1 : ByteArray) (v2 : List (Int × Int)) (v3 v4 : Int) (v5 : List ByteArray) (rec_ : Int → ByteArray → List (Int × Int) → Int → Int → List ByteArray → O β) (k0 : ByteArray → List ByteArray → O β) : O β :=
(cond (decide (v4 < v3))
(gd (decide (0 ≤ v4))
(gd (decide (v4 < (v2.length : Int)))
(aet v0 ((rd (0, 0) v2 v4).1) ((rd (0, 0) v2 v4).2) fun r4 =>
(gd (decide (0 ≤ v4))
(gd (decide (v4 < (v5.length : Int)))
(rec_ v0 v1 v2 v3 (w64 (v4 + 1)) (wr v5 v4 r4)))))))
(k0 v1 v5))
def Ps (N : Nat) := GG (β := β) (jp N) N
def mn (N : Nat) : Nat → Int → ByteArray → List (Int × Int) → Int → Int → List ByteArray → (ByteArray → List ByteArray → O β) → O β
 | 0, _, _, _, _, _, _, _ => none
 | F + 1, v0, v1, v2, v3, v4, v5, k0 => Ps N v0 v1 v2 v3 v4 v5 (fun v0 v1 v2 v3 v4 v5 => mn N F v0 v1 v2 v3 v4 v5 k0) k0
def OK (N : Nat) (a0 : Int) (a1 : List (Int × Int)) (a2 : ByteArray) (k : ByteArray → O β) : O β :=
(gd (decide (0 ≤ (a1.length : Int)))
(gd (decide ((a1.length : Int) ≤ (a1.length : Int)))
(gd (decide (16 * (a1.length : Int) ≤ 281474976710656))
(afN N a0 a2 a1 (a1.length : Int) 0 (List.replicate (Int.toNat (a1.length : Int)) ByteArray.empty) (fun aA aB =>
strings_Join N aB aA fun r6 =>
k r6)))))
def kq (N : Nat) := OK (β := β) (mn N) N
def GH (N : Nat) (v0 v1 v2 v3 v4 v5 : Int) (v6 : List (Int × Int)) (rec_ : Int → Int → Int → Int → Int → Int → List (Int × Int) → O β) (k0 : Int → Int → List (Int × Int) → O β) : O β :=
(cond (decide (v1 < v0))
(zq3 v4 v5 v1 fun r7 =>
(cond (r7 == 1)
(gd (decide ((v6.length + (([] : List (Int × Int)) ++ [(v1, v1)]).length) * 16 ≤ 140737488355328))
(rec_ v0 (w64 (v1 + 1)) v2 v3 v4 v5 (v6 ++ (([] : List (Int × Int)) ++ [(v1, v1)]))))
(rec_ v0 (w64 (v1 + 1)) v2 v3 v4 v5 v6)))
(k0 v2 v3 v6))
def Pt (N : Nat) := GH (β := β) (zj3 N) N
def mo (N : Nat) : Nat → Int → Int → Int → Int → Int → Int → List (Int × Int) → (Int → Int → List (Int × Int) → O β) → O β
 | 0, _, _, _, _, _, _, _, _ => none
 | F + 1, v0, v1, v2, v3, v4, v5, v6, k0 => Pt N v0 v1 v2 v3 v4 v5 v6 (fun v0 v1 v2 v3 v4 v5 v6 => mo N F v0 v1 v2 v3 v4 v5 v6 k0) k0
def OL (N : Nat) (a0 a1 : Int) (k : ByteArray → O β) : O β :=
aei a0 a1 fun r3 =>
(cond (!r3)
(k ByteArray.empty)
(aeu a0 a1 fun r4 r5 =>
zq2 r4 r5 fun r6 =>
afO N r6 0 a0 a1 r4 r5 ([] : List (Int × Int)) (fun aA aB aC =>
(cond ((aC.length : Int) == 0)
(k (aq [48]))
(aeG aA aC (aq [43]) fun r9 =>
k r9)))))
def io (N : Nat) := OL (β := β) (zj2 N) (ge N) (gh N) (kq N) (mo N) N
def GI (N : Nat) (v0 : Int) (v1 : ByteArray) (v2 v3 v4 v5 v6 v7 : Int) (v8 : List ByteArray) (rec_ : Int → ByteArray → Int → Int → Int → Int → Int → Int → List ByteArray → O β) (k0 : Bool → Int → Int → O β) (k1 : ByteArray → Int → Int → Int → Int → O β) : O β :=
(cond (decide (v3 < v2))
(gd (decide (0 ≤ v3))
(gd (decide (v3 < (v8.length : Int)))
(aez v0 (rd ByteArray.empty v8 v3) fun r7 r8 r9 =>
(cond (!r9)
(k0 false 0 0)
(gd (decide (0 ≤ r7))
(rec_ v0 v1 v2 (w64 (v3 + 1)) v4 v5 v6 (bits .or .i64 v7 (aW .i64 1 r7)) v8))))))
(k1 v1 v4 v5 v6 v7))
def Pu (N : Nat) := GI (β := β) (jq N) N
def mq (N : Nat) : Nat → Int → ByteArray → Int → Int → Int → Int → Int → Int → List ByteArray → (Bool → Int → Int → O β) → (ByteArray → Int → Int → Int → Int → O β) → O β
 | 0, _, _, _, _, _, _, _, _, _, _, _ => none
 | F + 1, v0, v1, v2, v3, v4, v5, v6, v7, v8, k0, k1 => Pu N v0 v1 v2 v3 v4 v5 v6 v7 v8 (fun v0 v1 v2 v3 v4 v5 v6 v7 v8 => mq N F v0 v1 v2 v3 v4 v5 v6 v7 v8 k0 k1) k0 k1
def CE (N : Nat) (a0 : Int) (a1 : ByteArray) (k : Int → Int → Bool → O β) : O β :=
zq7 a0 fun r5 =>
(cond (!r5)
(k 0 0 false)
(cond (decide ((a1.size : Int) > 200))
(k 0 0 false)
(cond (!(a1.toList == (aq [48]).toList))
(strings_Split N a1 (aq [43]) fun r6 =>
afP N a0 a1 (r6.length : Int) 0 0 0 a0 0 r6 (fun aA aB aC =>
k aB aC aA) (fun aD aE aF aG aH =>
aeu aG aH fun r12 r13 =>
aeA r12 r13 fun r14 =>
(cond (!(r14.toList == aD.toList))
(k 0 0 false)
(k r12 r13 true))))
(aeu a0 0 fun r15 r16 =>
aeA r15 r16 fun r17 =>
(cond (!(r17.toList == a1.toList))
(k 0 0 false)
(k r15 r16 true))))))
def mr (N : Nat) := CE (β := β) (zj7 N) (gh N) (io N) (mq N) N
def GJ (N : Nat) (a0 : Int) (a1 : List (Int × Int)) (k : Bool → O β) : O β :=
zq7 a0 fun r3 =>
(cond r3
(aeF a1 (fun x0 x1 k => ad8 x0 x1 a0 k) fun r4 =>
k (!r4))
(k false))
def pU (N : Nat) := GJ (β := β) (zj7 N) (gL N) (vq N) N
def OM (N : Nat) (a0 : Int) (a1 : List (Int × Int)) (k : Bool → O β) : O β :=
aeT a0 a1 fun r3 =>
(cond r3
(k (decide ((a1.length : Int) ≤ 40)))
(k false))
def pV (N : Nat) := OM (β := β) (pU N) N
def GK (N : Nat) (v0 v1 v2 : Int) (v3 : List (Int × Int)) (v4 : List ByteArray) (rec_ : Int → Int → Int → List (Int × Int) → List ByteArray → O β) (k0 : Bool → List (Int × Int) → O β) (k1 : Int → List (Int × Int) → O β) : O β :=
(cond (decide (v2 < v1))
(gd (decide (0 ≤ v2))
(gd (decide (v2 < (v4.length : Int)))
(aez v0 (rd ByteArray.empty v4 v2) fun r6 r7 r8 =>
(cond (!r8)
(k0 false ([] : List (Int × Int)))
(gd (decide ((v3.length + (([] : List (Int × Int)) ++ [(r6, r7)]).length) * 16 ≤ 140737488355328))
(rec_ v0 v1 (w64 (v2 + 1)) (v3 ++ (([] : List (Int × Int)) ++ [(r6, r7)])) v4))))))
(k1 v0 v3))
def Pv (N : Nat) := GK (β := β) (jq N) N
def mt (N : Nat) : Nat → Int → Int → Int → List (Int × Int) → List ByteArray → (Bool → List (Int × Int) → O β) → (Int → List (Int × Int) → O β) → O β
 | 0, _, _, _, _, _, _, _ => none
 | F + 1, v0, v1, v2, v3, v4, k0, k1 => Pv N v0 v1 v2 v3 v4 (fun v0 v1 v2 v3 v4 => mt N F v0 v1 v2 v3 v4 k0 k1) k0 k1
def xl (N : Nat) (a0 : Int) (a1 : ByteArray) (k : List (Int × Int) → Bool → O β) : O β :=
zq7 a0 fun r4 =>
(cond (!r4)
(k ([] : List (Int × Int)) false)
(cond (decide ((a1.size : Int) > 200))
(k ([] : List (Int × Int)) false)
(cond (a1.toList == (aq [48]).toList)
(k ([] : List (Int × Int)) true)
(strings_Split N a1 (aq [124]) fun r5 =>
afS N a0 (r5.length : Int) 0 ([] : List (Int × Int)) r5 (fun aA aB =>
k aB aA) (fun aC aD =>
afR aC aD fun r11 =>
(cond (!r11)
(k ([] : List (Int × Int)) false)
(k aD true)))))))
def kr (N : Nat) := xl (β := β) (zj7 N) (pV N) (mt N) N
def GL (N : Nat) (a0 : Int) (a1 : List (Int × Int)) (k : Int → Int → O β) : O β :=
ad4 a0 (fun x0 k => adZ x0 a1 k) fun r4 r5 =>
k r4 r5
def ip (N : Nat) := GL (β := β) (da N) (fK N) N
def ON (N : Nat) (a0 : Int) (a1 : List (Int × Int)) (k : Int → Int → Bool → O β) : O β :=
aeT a0 a1 fun r5 =>
(cond (!r5)
(k 0 0 false)
(aev a0 a1 fun r6 r7 =>
k r6 r7 true))
def uJ (N : Nat) := ON (β := β) (pU N) (ip N) N
def GM (N : Nat) (self : ByteArray → Int → (Tr → ByteArray → O β) → O β) (a0 : ByteArray) (a1 : Int) (k : Tr → ByteArray → O β) : O β :=
(cond (a0.toList == ByteArray.empty.toList)
(k Tr.nil ByteArray.empty)
(gd (decide (0 < (a0.size : Int)))
(gd (decide (1 ≤ (a0.size : Int)))
(cond ((bt a0 0) == 48)
(k (Tr.node (bt a0 0) 0 Tr.nil Tr.nil) (a0.extract (Int.toNat 1) a0.size))
(cond ((bt a0 0) == 49)
(k (Tr.node (bt a0 0) 0 Tr.nil Tr.nil) (a0.extract (Int.toNat 1) a0.size))
(aef (bt a0 0) fun r4 =>
(cond (!r4)
(k Tr.nil ByteArray.empty)
(aeB (bt a0 0) (fun r5_0 r5_1 =>
(gd (decide (0 ≤ r5_0))
(cond ((bits .and .i64 (cX .i64 a1 r5_0) 1) == 1)
(k Tr.nil ByteArray.empty)
(aeB r5_1 (fun r6_0 r6_1 =>
(gd (decide (0 ≤ r6_0))
(self (a0.extract (Int.toNat 1) a0.size) (bits .or .i64 a1 (aW .i64 1 r6_0)) fun r7 r8 =>
(cond (Tr.isNil r7)
(k Tr.nil ByteArray.empty)
(self r8 (bits .or .i64 a1 (aW .i64 1 r6_0)) fun r9 r10 =>
(cond (Tr.isNil r9)
(k Tr.nil ByteArray.empty)
(k (Tr.node r6_1 0 r7 r9) r10)))))))))))))))))))
def Pw (N : Nat) := GM (β := β) (uI N) (eE N) N
def mu (N : Nat) : Nat → ByteArray → Int → (Tr → ByteArray → O β) → O β
 | 0, _, _, _ => none
 | F + 1, a0, a1, k => Pw N (mu N F) a0 a1 k
def Px (N : Nat) := mu (β := β) N N
def GN (N : Nat) (a0 : ByteArray) (k : Tr → Bool → O β) : O β :=
agL a0 0 fun r3 r4 =>
(cond (!(Tr.isNil r3))
(k r3 (r4.toList == ByteArray.empty.toList))
(k r3 false))
def uK (N : Nat) := GN (β := β) (Px N) N
def OO (N : Nat) (self : Tr → Int → (Bool → O β) → O β) (a0 : Tr) (a1 : Int) (k : Bool → O β) : O β :=
(gd (!(Tr.isNil a0))
(gd (!(Tr.isNil a0))
(gd (!(Tr.isNil a0))
(cond (Tr.isNil (Tr.l a0))
(k true)
(aew a0 (fun r3_0 =>
(cond (decide (r3_0 < a1))
(gd (!(Tr.isNil a0))
(gd (!(Tr.isNil a0))
(gd (!(Tr.isNil a0))
(self (Tr.l a0) a1 fun r4 =>
(cond r4
(gd (!(Tr.isNil a0))
(gd (!(Tr.isNil a0))
(gd (!(Tr.isNil a0))
(self (Tr.r a0) a1 fun r5 =>
k r5))))
(k false))))))
(k false))))))))
def Ty (N : Nat) := OO (β := β) (rK N) N
def pW (N : Nat) : Nat → Tr → Int → (Bool → O β) → O β
 | 0, _, _, _ => none
 | F + 1, a0, a1, k => Ty N (pW N F) a0 a1 k
def Tz (N : Nat) := pW (β := β) N N
def CF (N : Nat) (a0 : ByteArray) (a1 : Int) (k : Tr → Int → Int → Bool → O β) : O β :=
agq a0 fun r6 r7 =>
(cond (!r7)
(k Tr.nil 0 0 false)
(zq7 a1 fun r8 =>
(cond (!r8)
(k Tr.nil 0 0 false)
(agM r6 a1 fun r9 =>
(cond (!r9)
(k Tr.nil 0 0 false)
(ad4 a1 (fun x0 k => ad0 x0 r6 k) fun r10 r11 =>
k r6 r10 r11 true))))))
def uL (N : Nat) := CF (β := β) (zj7 N) (de N) (fK N) (uK N) (Tz N) N
def CG (N : Nat) (a0 : ByteArray) (a1 : Int) (k : Int → Int → Bool → O β) : O β :=
agr a0 a1 fun r5 r6 r7 r8 =>
k r6 r7 r8
def pX (N : Nat) := CG (β := β) (uL N) N
def GO (N : Nat) (self : ByteArray → (Tr → ByteArray → O β) → O β) (a0 : ByteArray) (k : Tr → ByteArray → O β) : O β :=
(cond (a0.toList == ByteArray.empty.toList)
(k Tr.nil ByteArray.empty)
(gd (decide (0 < (a0.size : Int)))
(gd (decide (1 ≤ (a0.size : Int)))
(aef (bt a0 0) fun r3 =>
(cond r3
(k (Tr.node (bt a0 0) 0 Tr.nil Tr.nil) (a0.extract (Int.toNat 1) a0.size))
(cond ((bt a0 0) == 48)
(k (Tr.node (bt a0 0) 0 Tr.nil Tr.nil) (a0.extract (Int.toNat 1) a0.size))
(cond ((bt a0 0) == 49)
(k (Tr.node (bt a0 0) 0 Tr.nil Tr.nil) (a0.extract (Int.toNat 1) a0.size))
(cond ((bt a0 0) == 33)
(self (a0.extract (Int.toNat 1) a0.size) fun r4 r5 =>
(cond (Tr.isNil r4)
(k Tr.nil ByteArray.empty)
(k (Tr.node (bt a0 0) 0 r4 Tr.nil) r5)))
(cond ((bt a0 0) == 38)
(self (a0.extract (Int.toNat 1) a0.size) fun r6 r7 =>
(cond (Tr.isNil r6)
(k Tr.nil ByteArray.empty)
(self r7 fun r8 r9 =>
(cond (Tr.isNil r8)
(k Tr.nil ByteArray.empty)
(k (Tr.node (bt a0 0) 0 r6 r8) r9)))))
(cond ((bt a0 0) == 124)
(self (a0.extract (Int.toNat 1) a0.size) fun r10 r11 =>
(cond (Tr.isNil r10)
(k Tr.nil ByteArray.empty)
(self r11 fun r12 r13 =>
(cond (Tr.isNil r12)
(k Tr.nil ByteArray.empty)
(k (Tr.node (bt a0 0) 0 r10 r12) r13)))))
(cond ((bt a0 0) == 94)
(self (a0.extract (Int.toNat 1) a0.size) fun r14 r15 =>
(cond (Tr.isNil r14)
(k Tr.nil ByteArray.empty)
(self r15 fun r16 r17 =>
(cond (Tr.isNil r16)
(k Tr.nil ByteArray.empty)
(k (Tr.node (bt a0 0) 0 r14 r16) r17)))))
(k Tr.nil ByteArray.empty))))))))))))
def Py (N : Nat) := GO (β := β) (eE N) N
def jr (N : Nat) : Nat → ByteArray → (Tr → ByteArray → O β) → O β
 | 0, _, _ => none
 | F + 1, a0, k => Py N (jr N F) a0 k
def TA (N : Nat) := jr (β := β) N N
def GP (N : Nat) (a0 : ByteArray) (k : Tr → Bool → O β) : O β :=
(cond (decide ((a0.size : Int) > 60))
(k Tr.nil false)
(agN a0 fun r3 r4 =>
(cond (!(Tr.isNil r3))
(k r3 (r4.toList == ByteArray.empty.toList))
(k r3 false))))
def uM (N : Nat) := GP (β := β) (TA N) N
def Tq (N : Nat) (a0 : Tr) (k : Bool → O β) : O β :=
(gd (!(Tr.isNil a0))
(gd (!(Tr.isNil a0))
(gd (!(Tr.isNil a0))
(k (Tr.isNil (Tr.l a0))))))
def CX (N : Nat) := Tq (β := β) N
def OP (N : Nat) (a0 a1 : Int) (k : Int → Int → Bool → O β) : O β :=
zq7 a0 fun r5 =>
(cond (!r5)
(k 0 0 false)
(cond (decide (a1 < 0))
(k 0 0 false)
(cond (decide (a1 ≥ a0))
(k 0 0 false)
(aeo a0 a1 fun r6 r7 =>
k r6 r7 true))))
def CY (N : Nat) := OP (β := β) (zj7 N) (p7 N) N
def GQ (N : Nat) (a0 a1 : Int) (k : Int → Int → O β) : O β :=
zq2 a0 a1 fun r4 =>
(gd (decide (0 ≤ r4))
(k a0 (bits .xor .i64 a1 (w64 ((aW .i64 1 r4) - 1)))))
def eF (N : Nat) := GQ (β := β) (zj2 N) N
def OQ (N : Nat) (self : Tr → Int → (Int → Int → Bool → O β) → O β) (a0 : Tr) (a1 : Int) (k : Int → Int → Bool → O β) : O β :=
agu a0 fun r5 =>
(cond r5
(gd (!(Tr.isNil a0))
(gd (!(Tr.isNil a0))
(gd (!(Tr.isNil a0))
(aef (Tr.a a0) fun r6 =>
(cond r6
(gd (!(Tr.isNil a0))
(gd (!(Tr.isNil a0))
(gd (!(Tr.isNil a0))
(agv a1 (w64 (w8 ((Tr.a a0) - 97))) fun r7 r8 r9 =>
k r7 r8 r9))))
(ad4 a1 (fun x0 k => ad1 x0 a0 k) fun r10 r11 =>
k r10 r11 true))))))
(gd (!(Tr.isNil a0))
(gd (!(Tr.isNil a0))
(gd (!(Tr.isNil a0))
(self (Tr.l a0) a1 fun r12 r13 r14 =>
(cond (!r14)
(k 0 0 false)
(gd (!(Tr.isNil a0))
(gd (!(Tr.isNil a0))
(gd (!(Tr.isNil a0))
(cond ((Tr.a a0) == 33)
(aeg r12 r13 fun r15 r16 =>
k r15 r16 true)
(gd (!(Tr.isNil a0))
(gd (!(Tr.isNil a0))
(gd (!(Tr.isNil a0))
(self (Tr.r a0) a1 fun r17 r18 r19 =>
(cond (!r19)
(k 0 0 false)
(gd (!(Tr.isNil a0))
(gd (!(Tr.isNil a0))
(gd (!(Tr.isNil a0))
(cond ((Tr.a a0) == 38)
(k r12 (bits .and .i64 r13 r18) true)
(cond ((Tr.a a0) == 124)
(k r12 (bits .or .i64 r13 r18) true)
(k r12 (bits .xor .i64 r13 r18) true)))))))))))))))))))))
def TB (N : Nat) := OQ (β := β) (df N) (fK N) (eE N) (CX N) (CY N) (eF N) N
def pY (N : Nat) : Nat → Tr → Int → (Int → Int → Bool → O β) → O β
 | 0, _, _, _ => none
 | F + 1, a0, a1, k => TB N (pY N F) a0 a1 k
def TC (N : Nat) := pY (β := β) N N
def xm (N : Nat) (a0 : ByteArray) (a1 : Int) (k : Int → Int → Bool → O β) : O β :=
agt a0 fun r5 r6 =>
(cond (!r6)
(k 0 0 false)
(zq7 a1 fun r7 =>
(cond (!r7)
(k 0 0 false)
(agO r5 a1 fun r8 r9 r10 =>
k r8 r9 r10))))
def ks (N : Nat) := xm (β := β) (zj7 N) (uM N) (TC N) N
def GR (N : Nat) (a0 : ByteArray) (a1 : Int) (a2 : ByteArray) (k : Int → Int → Bool → O β) : O β :=
(cond (decide (a1 < 0))
(k 0 0 false)
(cond (decide (a1 > 4))
(k 0 0 false)
(cond (a0.toList == (aq [116, 97, 98, 108, 101]).toList)
(afK a2 fun r6 r7 r8 =>
(cond (!r8)
(k 0 0 false)
(cond (r6 != a1)
(k 0 0 false)
(k r6 r7 true))))
(cond (a0.toList == (aq [97, 110, 102]).toList)
(afQ a1 a2 fun r9 r10 r11 =>
k r9 r10 r11)
(cond (a0.toList == (aq [115, 117, 109]).toList)
(afT a1 a2 fun r12 r13 =>
(cond (!r13)
(k 0 0 false)
(afU a1 r12 fun r14 r15 r16 =>
k r14 r15 r16)))
(cond (a0.toList == (aq [116, 114, 101, 101]).toList)
(ags a2 a1 fun r17 r18 r19 =>
k r17 r18 r19)
(cond (a0.toList == (aq [102, 111, 114, 109, 117, 108, 97]).toList)
(agw a2 a1 fun r20 r21 r22 =>
k r20 r21 r22)
(k 0 0 false))))))))
def uN (N : Nat) := GR (β := β) (rD N) (mr N) (kr N) (uJ N) (pX N) (ks N) N
def CH (N : Nat) (a0 a1 a2 : Int) (k : Bool → O β) : O β :=
aei a0 a1 fun r4 =>
(cond r4
(k (decide (a0 ≤ a2)))
(k false))
def gj (N : Nat) := CH (β := β) (ge N) N
def CI (N : Nat) (v0 v1 v2 v3 v4 v5 : Int) (v6 v7 : Bool) (rec_ : Int → Int → Int → Int → Int → Int → Bool → Bool → O β) (k0 : Bool → Bool → O β) : O β :=
(cond (decide (v3 < v2))
(cond ((bits .and .i64 v3 v0) == v1)
(zq3 v4 v5 v3 fun r6 =>
(gd (decide (0 ≤ r6))
(gd (decide (r6 < 2))
(cond (r6 == 0)
(rec_ v0 v1 v2 (w64 (v3 + 1)) v4 v5 true v7)
(rec_ v0 v1 v2 (w64 (v3 + 1)) v4 v5 v6 true)))))
(rec_ v0 v1 v2 (w64 (v3 + 1)) v4 v5 v6 v7))
(k0 v6 v7))
def Ha (N : Nat) := CI (β := β) (zj3 N) N
def jt (N : Nat) : Nat → Int → Int → Int → Int → Int → Int → Bool → Bool → (Bool → Bool → O β) → O β
 | 0, _, _, _, _, _, _, _, _, _ => none
 | F + 1, v0, v1, v2, v3, v4, v5, v6, v7, k0 => Ha N v0 v1 v2 v3 v4 v5 v6 v7 (fun v0 v1 v2 v3 v4 v5 v6 v7 => jt N F v0 v1 v2 v3 v4 v5 v6 v7 k0) k0
def GT (N : Nat) (a0 a1 a2 a3 : Int) (k : Int → O β) : O β :=
zq2 a0 a1 fun r5 =>
afW N a2 a3 r5 0 a0 a1 false false (fun aA aB =>
(cond aA
(cond aB
(k 2)
(cond aB
(k 1)
(k 0)))
(cond aB
(k 1)
(k 0))))
def gm (N : Nat) := GT (β := β) (zj2 N) (jt N) N
def OR (N : Nat) (a0 a1 a2 a3 : Int) (k : Bool → O β) : O β :=
aek a0 a1 a2 a3 fun r5 =>
k (r5 == 1)
def rE (N : Nat) := OR (β := β) (gm N) N
def GU (N : Nat) (v0 v1 v2 v3 v4 v5 : Int) (rec_ : Int → Int → Int → Int → Int → Int → O β) (k0 : Bool → O β) (k1 : O β) : O β :=
(cond (decide (v1 < v0))
(gd (decide (0 ≤ v1))
(cond ((bits .and .i64 v4 (aW .i64 1 v1)) != 0)
(aeU v2 v3 (bits .andNot .i64 v4 (aW .i64 1 v1)) (bits .andNot .i64 v5 (aW .i64 1 v1)) fun r6 =>
(cond r6
(k0 false)
(rec_ v0 (w64 (v1 + 1)) v2 v3 v4 v5)))
(rec_ v0 (w64 (v1 + 1)) v2 v3 v4 v5)))
(k1 ))
def Pz (N : Nat) := GU (β := β) (rE N) N
def mv (N : Nat) : Nat → Int → Int → Int → Int → Int → Int → (Bool → O β) → (O β) → O β
 | 0, _, _, _, _, _, _, _, _ => none
 | F + 1, v0, v1, v2, v3, v4, v5, k0, k1 => Pz N v0 v1 v2 v3 v4 v5 (fun v0 v1 v2 v3 v4 v5 => mv N F v0 v1 v2 v3 v4 v5 k0 k1) k0 k1
def OS (N : Nat) (a0 a1 a2 a3 : Int) (k : Bool → O β) : O β :=
aeU a0 a1 a2 a3 fun r5 =>
(cond (!r5)
(k false)
(afY N a0 0 a0 a1 a2 a3 (fun aA =>
k aA) (k true)))
def rF (N : Nat) := OS (β := β) (rE N) (mv N) N
def GV (N : Nat) (v0 v1 v2 v3 v4 v5 v6 : Int) (v7 : List (Int × Int)) (rec_ : Int → Int → Int → Int → Int → Int → Int → List (Int × Int) → O β) (k0 : Int → Int → Int → Int → List (Int × Int) → O β) : O β :=
(cond (decide (v4 < v3))
(cond ((bits .andNot .i64 v4 v0) == 0)
(afe v5 v6 v0 v4 fun r4 =>
(cond r4
(gd (decide ((v7.length + (([] : List (Int × Int)) ++ [(v0, v4)]).length) * 16 ≤ 140737488355328))
(rec_ v0 v1 v2 v3 (w64 (v4 + 1)) v5 v6 (v7 ++ (([] : List (Int × Int)) ++ [(v0, v4)]))))
(rec_ v0 v1 v2 v3 (w64 (v4 + 1)) v5 v6 v7)))
(rec_ v0 v1 v2 v3 (w64 (v4 + 1)) v5 v6 v7))
(k0 v1 v2 v5 v6 v7))
def PA (N : Nat) := GV (β := β) (rF N) N
def kt (N : Nat) : Nat → Int → Int → Int → Int → Int → Int → Int → List (Int × Int) → (Int → Int → Int → Int → List (Int × Int) → O β) → O β
 | 0, _, _, _, _, _, _, _, _, _ => none
 | F + 1, v0, v1, v2, v3, v4, v5, v6, v7, k0 => PA N v0 v1 v2 v3 v4 v5 v6 v7 (fun v0 v1 v2 v3 v4 v5 v6 v7 => kt N F v0 v1 v2 v3 v4 v5 v6 v7 k0) k0
def GW (N : Nat) (v0 v1 v2 v3 : Int) (v4 : List (Int × Int)) (rec_ : Int → Int → Int → Int → List (Int × Int) → O β) (k0 : List (Int × Int) → O β) : O β :=
(cond (decide (v1 < v0))
(aff N v1 v0 v1 (w64 (v1 + 1)) 0 v2 v3 v4 (fun aA aB aC aD aE =>
rec_ aA (w64 (aB + 1)) aC aD aE))
(k0 v4))
def PB (N : Nat) := GW (β := β) (kt N) N
def iq (N : Nat) : Nat → Int → Int → Int → Int → List (Int × Int) → (List (Int × Int) → O β) → O β
 | 0, _, _, _, _, _, _ => none
 | F + 1, v0, v1, v2, v3, v4, k0 => PB N v0 v1 v2 v3 v4 (fun v0 v1 v2 v3 v4 => iq N F v0 v1 v2 v3 v4 k0) k0
def OT (N : Nat) (a0 a1 : Int) (k : List (Int × Int) → O β) : O β :=
zq2 a0 a1 fun r3 =>
afg N r3 0 a0 a1 ([] : List (Int × Int)) (fun aA =>
k aA)
def pZ (N : Nat) := OT (β := β) (zj2 N) (iq N) N
def GX (N : Nat) (self : List Int → Int → Int → Int → Int → (List Int → Bool → O β) → O β) (v0 : List Int) (v1 v2 v3 v4 : Int) (rec_ : List Int → Int → Int → Int → Int → O β) (k0 : Bool → List Int → O β) (k1 : O β) : O β :=
(cond (decide (v4 ≤ (w64 ((v0.length : Int) - v3))))
(gd (decide (0 ≤ v4))
(gd (decide (v4 < (v0.length : Int)))
(cond ((bits .andNot .i64 (rd 0 v0 v4) v2) == 0)
(rec_ v0 v1 v2 v3 (w64 (v4 + 1)))
(gd (decide (0 ≤ v4))
(gd (decide (v4 < (v0.length : Int)))
(self v0 v1 (bits .or .i64 v2 (rd 0 v0 v4)) (w64 (v4 + 1)) (w64 (v3 - 1)) fun r7 r8 =>
(cond r8
(gd (decide (((([] : List Int) ++ [v4]).length + r7.length) * 8 ≤ 140737488355328))
(k0 true ((([] : List Int) ++ [v4]) ++ r7)))
(rec_ v0 v1 v2 v3 (w64 (v4 + 1))))))))))
(k1 ))
def PC (N : Nat) := GX (β := β) N
def mw (N : Nat) (self : List Int → Int → Int → Int → Int → (List Int → Bool → O β) → O β) : Nat → List Int → Int → Int → Int → Int → (Bool → List Int → O β) → (O β) → O β
 | 0, _, _, _, _, _, _, _ => none
 | F + 1, v0, v1, v2, v3, v4, k0, k1 => PC N self v0 v1 v2 v3 v4 (fun v0 v1 v2 v3 v4 => mw N self F v0 v1 v2 v3 v4 k0 k1) k0 k1
def GY (N : Nat) (self : List Int → Int → Int → Int → Int → (List Int → Bool → O β) → O β) (a0 : List Int) (a1 a2 a3 a4 : Int) (k : List Int → Bool → O β) : O β :=
(cond (a4 == 0)
(k ([] : List Int) (a2 == a1))
(afZ self N a0 a1 a2 a4 a3 (fun aA aB =>
k aB aA) (k ([] : List Int) false)))
def PE (N : Nat) := GY (β := β) (mw N) N
def eG (N : Nat) : Nat → List Int → Int → Int → Int → Int → (List Int → Bool → O β) → O β
 | 0, _, _, _, _, _, _ => none
 | F + 1, a0, a1, a2, a3, a4, k => PE N (eG N F) a0 a1 a2 a3 a4 k
def TD (N : Nat) := eG (β := β) N N
def GZ (N : Nat) (v0 : List (Int × Int)) (v1 : List (Int × Int)) (v2 v3 v4 v5 : Int) (v6 : List Int) (rec_ : List (Int × Int) → List (Int × Int) → Int → Int → Int → Int → List Int → O β) (k0 : List (Int × Int) → Int → Int → List Int → O β) : O β :=
(cond (decide (v3 < v2))
(gd (decide (0 ≤ v3))
(gd (decide (v3 < (v1.length : Int)))
(aev v4 (([] : List (Int × Int)) ++ [((rd (0, 0) v1 v3).1, (rd (0, 0) v1 v3).2)]) fun r4 r5 =>
(gd (decide (0 ≤ v3))
(gd (decide (v3 < (v6.length : Int)))
(rec_ v0 v1 v2 (w64 (v3 + 1)) v4 v5 (wr v6 v3 r5)))))))
(k0 v0 v4 v5 v6))
def PF (N : Nat) := GZ (β := β) (ip N) N
def ju (N : Nat) : Nat → List (Int × Int) → List (Int × Int) → Int → Int → Int → Int → List Int → (List (Int × Int) → Int → Int → List Int → O β) → O β
 | 0, _, _, _, _, _, _, _, _ => none
 | F + 1, v0, v1, v2, v3, v4, v5, v6, k0 => PF N v0 v1 v2 v3 v4 v5 v6 (fun v0 v1 v2 v3 v4 v5 v6 => ju N F v0 v1 v2 v3 v4 v5 v6 k0) k0
def G0 (N : Nat) (v0 : List (Int × Int)) (v1 v2 : Int) (v3 : List (Int × Int)) (v4 : List Int) (rec_ : List (Int × Int) → Int → Int → List (Int × Int) → List Int → O β) (k0 : List (Int × Int) → O β) : O β :=
(cond (decide (v2 < v1))
(gd (decide (0 ≤ v2))
(gd (decide (v2 < (v4.length : Int)))
(gd (decide (0 ≤ (rd 0 v4 v2)))
(gd (decide ((rd 0 v4 v2) < (v0.length : Int)))
(gd (decide ((v3.length + (([] : List (Int × Int)) ++ [((rd (0, 0) v0 (rd 0 v4 v2)).1, (rd (0, 0) v0 (rd 0 v4 v2)).2)]).length) * 16 ≤ 140737488355328))
(rec_ v0 v1 (w64 (v2 + 1)) (v3 ++ (([] : List (Int × Int)) ++ [((rd (0, 0) v0 (rd 0 v4 v2)).1, (rd (0, 0) v0 (rd 0 v4 v2)).2)])) v4))))))
(k0 v3))
def PG (N : Nat) := G0 (β := β) N
def ir (N : Nat) : Nat → List (Int × Int) → Int → Int → List (Int × Int) → List Int → (List (Int × Int) → O β) → O β
 | 0, _, _, _, _, _, _ => none
 | F + 1, v0, v1, v2, v3, v4, k0 => PG N v0 v1 v2 v3 v4 (fun v0 v1 v2 v3 v4 => ir N F v0 v1 v2 v3 v4 k0) k0
def OU (N : Nat) (v0 : List (Int × Int)) (v1 v2 v3 v4 : Int) (v5 : List Int) (rec_ : List (Int × Int) → Int → Int → Int → Int → List Int → O β) (k0 : List (Int × Int) → O β) (k1 : O β) : O β :=
(cond (decide (v2 < v1))
(agP v5 v4 0 0 v2 fun r7 r8 =>
(cond r8
(ae2 N v0 (r7.length : Int) 0 ([] : List (Int × Int)) r7 (fun aA =>
k0 aA))
(rec_ v0 v1 (w64 (v2 + 1)) v3 v4 v5)))
(k1 ))
def TE (N : Nat) := OU (β := β) (TD N) (ir N) N
def ku (N : Nat) : Nat → List (Int × Int) → Int → Int → Int → Int → List Int → (List (Int × Int) → O β) → (O β) → O β
 | 0, _, _, _, _, _, _, _, _ => none
 | F + 1, v0, v1, v2, v3, v4, v5, k0, k1 => TE N v0 v1 v2 v3 v4 v5 (fun v0 v1 v2 v3 v4 v5 => ku N F v0 v1 v2 v3 v4 v5 k0 k1) k0 k1
def OV (N : Nat) (a0 a1 : Int) (k : List (Int × Int) → O β) : O β :=
aeV a0 a1 fun r3 =>
(gd (decide (0 ≤ (r3.length : Int)))
(gd (decide ((r3.length : Int) ≤ (r3.length : Int)))
(gd (decide (8 * (r3.length : Int) ≤ 281474976710656))
(ae1 N r3 r3 (r3.length : Int) 0 a0 a1 (List.replicate (Int.toNat (r3.length : Int)) (0 : Int)) (fun aA aB aC aD =>
ae3 N aA (w64 ((aA.length : Int) + 1)) 0 aB aC aD (fun aE =>
k aE) (k ([] : List (Int × Int))))))))
def xu (N : Nat) := OV (β := β) (pZ N) (ju N) (ku N) N
def OW (N : Nat) (a0 : Int) (a1 : List (Int × Int)) (k : ByteArray → O β) : O β :=
(cond ((a1.length : Int) == 0)
(k (aq [48]))
(aeG a0 a1 (aq [124]) fun r3 =>
k r3))
def xv (N : Nat) := OW (β := β) (kq N) N
def OX (N : Nat) (a0 a1 : Int) (k0 : Int → Int → Mp → Mp → O β) : O β :=
k0 a0 a1 ([] : Mp) ([] : Mp)
def CZ (N : Nat) := OX (β := β) N
def OY (N : Nat) (a0 : Int) (k : ByteArray → O β) : O β :=
strconv_Itoa N a0 fun r2 =>
k r2
def fI (N : Nat) := OY (β := β) N
def G1 (N : Nat) (a0 a1 a2 a3 : Int) (k : Int → Int → O β) : O β :=
(gd (decide (0 ≤ a2))
(gd (decide (0 ≤ a2))
(k (bits .or .i64 a0 (aW .i64 1 a2)) (bits .or .i64 a1 (aW .i64 a3 a2)))))
def eP (N : Nat) := G1 (β := β) N
def CJ (N : Nat) (self : Int → Int → Int → Int → Mp → Mp → (Int → Int → Int → Mp → Mp → O β) → O β) (v0 v1 v2 v3 v4 : Int) (v5 v6 : Mp) (v7 v8 : Int) (rec_ : Int → Int → Int → Int → Int → Mp → Mp → Int → Int → O β) (k0 : Int → Int → Int → Mp → Mp → Int → Int → O β) : O β :=
(cond (decide (v2 < v1))
(gd (decide (0 ≤ v2))
(cond ((bits .and .i64 (cX .i64 v7 v2) 1) == 0)
(aea v7 v8 v2 0 fun r7 r8 =>
self r7 r8 v3 v4 v5 v6 (fun r9_0 r9_1 r9_2 r9_3 r9_4 =>
aea v7 v8 v2 1 fun r10 r11 =>
self r10 r11 r9_1 r9_2 r9_3 r9_4 (fun r12_0 r12_1 r12_2 r12_3 r12_4 =>
rec_ (mnI v0 (w64 (1 + (mxI r9_0 r12_0)))) v1 (w64 (v2 + 1)) r12_1 r12_2 r12_3 r12_4 v7 v8)))
(rec_ v0 v1 (w64 (v2 + 1)) v3 v4 v5 v6 v7 v8)))
(k0 v0 v3 v4 v5 v6 v7 v8))
def Hb (N : Nat) := CJ (β := β) (eP N) N
def kv (N : Nat) (self : Int → Int → Int → Int → Mp → Mp → (Int → Int → Int → Mp → Mp → O β) → O β) : Nat → Int → Int → Int → Int → Int → Mp → Mp → Int → Int → (Int → Int → Int → Mp → Mp → Int → Int → O β) → O β
 | 0, _, _, _, _, _, _, _, _, _, _ => none
 | F + 1, v0, v1, v2, v3, v4, v5, v6, v7, v8, k0 => Hb N self v0 v1 v2 v3 v4 v5 v6 v7 v8 (fun v0 v1 v2 v3 v4 v5 v6 v7 v8 => kv N self F v0 v1 v2 v3 v4 v5 v6 v7 v8 k0) k0
def OZ (N : Nat) (self : Int → Int → Int → Int → Mp → Mp → (Int → Int → Int → Mp → Mp → O β) → O β) (a0 a1 a2 a3 : Int) (a4 a5 : Mp) (k0 : Int → Int → Int → Mp → Mp → O β) : O β :=
(cond (iU ⟨true, false⟩ a4 a0 a1)
(k0 (fq ⟨true, false⟩ a4 a0 a1) a2 a3 a4 a5)
(aek a2 a3 a0 a1 fun r6 =>
(cond (r6 == 2)
(af3 self N a2 a2 0 a2 a3 a4 a5 a0 a1 (fun aA aB aC aD aE aF aG =>
k0 aA aB aC (jS ⟨true, false⟩ aD aF aG aA) aE))
(k0 0 a2 a3 (jS ⟨true, false⟩ a4 a0 a1 0) a5))))
def TF (N : Nat) := OZ (β := β) (gm N) (kv N) N
def gq (N : Nat) : Nat → Int → Int → Int → Int → Mp → Mp → (Int → Int → Int → Mp → Mp → O β) → O β
 | 0, _, _, _, _, _, _, _ => none
 | F + 1, a0, a1, a2, a3, a4, a5, k0 => TF N (gq N F) a0 a1 a2 a3 a4 a5 k0
def PH (N : Nat) := gq (β := β) N N
def CK (N : Nat) (v0 v1 v2 v3 v4 : Int) (v5 v6 : Mp) (v7 v8 : Int) (rec_ : Int → Int → Int → Int → Int → Mp → Mp → Int → Int → O β) (k0 : Int → Int → Int → Mp → Mp → O β) (k1 : Int → Int → Mp → Mp → O β) : O β :=
(cond (decide (v2 < v1))
(cond (decide (v0 > 0))
(gd (decide (0 ≤ v2))
(cond ((bits .and .i64 (cX .i64 v7 v2) 1) == 0)
(aea v7 v8 v2 0 fun r15 r16 =>
agH r15 r16 v3 v4 v5 v6 (fun r17_0 r17_1 r17_2 r17_3 r17_4 =>
(cond (decide (r17_0 < v0))
(aea v7 v8 v2 1 fun r18 r19 =>
agH r18 r19 r17_1 r17_2 r17_3 r17_4 (fun r20_0 r20_1 r20_2 r20_3 r20_4 =>
(cond (decide (r20_0 < v0))
(k0 v2 r20_1 r20_2 r20_3 r20_4)
(rec_ v0 v1 (w64 (v2 + 1)) r20_1 r20_2 r20_3 r20_4 v7 v8))))
(rec_ v0 v1 (w64 (v2 + 1)) r17_1 r17_2 r17_3 r17_4 v7 v8))))
(rec_ v0 v1 (w64 (v2 + 1)) v3 v4 v5 v6 v7 v8)))
(rec_ v0 v1 (w64 (v2 + 1)) v3 v4 v5 v6 v7 v8))
(k1 v3 v4 v5 v6))
def Hc (N : Nat) := CK (β := β) (eP N) (PH N) N
def iu (N : Nat) : Nat → Int → Int → Int → Int → Int → Mp → Mp → Int → Int → (Int → Int → Int → Mp → Mp → O β) → (Int → Int → Mp → Mp → O β) → O β
 | 0, _, _, _, _, _, _, _, _, _, _, _ => none
 | F + 1, v0, v1, v2, v3, v4, v5, v6, v7, v8, k0, k1 => Hc N v0 v1 v2 v3 v4 v5 v6 v7 v8 (fun v0 v1 v2 v3 v4 v5 v6 v7 v8 => iu N F v0 v1 v2 v3 v4 v5 v6 v7 v8 k0 k1) k0 k1
def O0 (N : Nat) (a0 a1 a2 a3 : Int) (a4 a5 : Mp) (k0 : Int → Int → Int → Mp → Mp → O β) : O β :=
agH a0 a1 a2 a3 a4 a5 (fun r14_0 r14_1 r14_2 r14_3 r14_4 =>
af4 N r14_0 r14_1 0 r14_1 r14_2 r14_3 r14_4 a0 a1 (fun aA aB aC aD aE =>
k0 aA aB aC aD aE) (fun aF aG aH aI =>
k0 (-1) aF aG aH aI))
def xw (N : Nat) := O0 (β := β) (PH N) (iu N) N
def C0 (s0 : ByteArray) (s1 s2 : Int) (s3 s4 : Mp) (u0 : ByteArray) (u1 u2 : Int) (u3 u4 : Mp) (K : O β) : O β :=
(gd (decide (s0 = u0)) (gd (s1 == u1) (gd (s2 == u2) (gd (s3 == u3) (gd (s4 == u4) K)))))
def O1 (N : Nat) (self : Int → Int → Int → Int → Mp → Mp → (ByteArray → Int → Int → Mp → Mp → O β) → O β) (a0 a1 a2 a3 : Int) (a4 a5 : Mp) (k0 : ByteArray → Int → Int → Mp → Mp → O β) : O β :=
agy a0 a1 a2 a3 a4 a5 (fun r6_0 r6_1 r6_2 r6_3 r6_4 =>
(cond (decide (r6_0 < 0))
(aek r6_1 r6_2 a0 a1 fun r7 =>
aen r7 fun r8 =>
k0 r8 r6_1 r6_2 r6_3 r6_4)
(aea a0 a1 r6_0 0 fun r9 r10 =>
self r9 r10 r6_1 r6_2 r6_3 r6_4 (fun r11_0 r11_1 r11_2 r11_3 r11_4 =>
(gd (decide ((aq (([] : List Int) ++ [(w8 (97 + (w8 (r6_0))))])).size + r11_0.size ≤ 9223372036854775807))
(aea a0 a1 r6_0 1 fun r12 r13 =>
self r12 r13 r11_1 r11_2 r11_3 r11_4 (fun r14_0 r14_1 r14_2 r14_3 r14_4 =>
(gd (decide (((aq (([] : List Int) ++ [(w8 (97 + (w8 (r6_0))))])) ++ r11_0).size + r14_0.size ≤ 9223372036854775807))
(aea a0 a1 r6_0 0 fun r15 r16 =>
self r15 r16 r6_1 r6_2 r6_3 r6_4 (fun r17_0 r17_1 r17_2 r17_3 r17_4 =>
(gd (decide ((aq (([] : List Int) ++ [(w8 (97 + (w8 (r6_0))))])).size + r17_0.size ≤ 9223372036854775807))
(aea a0 a1 r6_0 1 fun r18 r19 =>
self r18 r19 r17_1 r17_2 r17_3 r17_4 (fun r20_0 r20_1 r20_2 r20_3 r20_4 =>
(gd (decide (((aq (([] : List Int) ++ [(w8 (97 + (w8 (r6_0))))])) ++ r17_0).size + r20_0.size ≤ 9223372036854775807))
(self r15 r16 r6_1 r6_2 r6_3 r6_4 (fun r21_0 r21_1 r21_2 r21_3 r21_4 =>
(gd (decide ((aq (([] : List Int) ++ [(w8 (97 + (w8 (r6_0))))])).size + r21_0.size ≤ 9223372036854775807))
(aea a0 a1 r6_0 1 fun r22 r23 =>
self r22 r23 r21_1 r21_2 r21_3 r21_4 (fun r24_0 r24_1 r24_2 r24_3 r24_4 =>
(gd (decide (((aq (([] : List Int) ++ [(w8 (97 + (w8 (r6_0))))])) ++ r21_0).size + r24_0.size ≤ 9223372036854775807))
(aea a0 a1 r6_0 1 fun r25 r26 =>
(gd (decide ((aq (([] : List Int) ++ [(w8 (97 + (w8 (r6_0))))])).size + r21_0.size ≤ 9223372036854775807))
(self r25 r26 r21_1 r21_2 r21_3 r21_4 (fun r27_0 r27_1 r27_2 r27_3 r27_4 =>
(gd (decide (((aq (([] : List Int) ++ [(w8 (97 + (w8 (r6_0))))])) ++ r21_0).size + r27_0.size ≤ 9223372036854775807))
(self r25 r26 r21_1 r21_2 r21_3 r21_4 (fun r28_0 r28_1 r28_2 r28_3 r28_4 =>
(gd (decide ((aq (([] : List Int) ++ [(w8 (97 + (w8 (r6_0))))])).size + r21_0.size ≤ 9223372036854775807))
(gd (decide (((aq (([] : List Int) ++ [(w8 (97 + (w8 (r6_0))))])) ++ r21_0).size + r28_0.size ≤ 9223372036854775807))
(C0 (((aq (([] : List Int) ++ [(w8 (97 + (w8 (r6_0))))])) ++ r21_0) ++ r27_0) r27_1 r27_2 r27_3 r27_4 (((aq (([] : List Int) ++ [(w8 (97 + (w8 (r6_0))))])) ++ r21_0) ++ r28_0) r28_1 r28_2 r28_3 r28_4
(C0 (((aq (([] : List Int) ++ [(w8 (97 + (w8 (r6_0))))])) ++ r21_0) ++ r24_0) r24_1 r24_2 r24_3 r24_4 (((aq (([] : List Int) ++ [(w8 (97 + (w8 (r6_0))))])) ++ r21_0) ++ r27_0) r27_1 r27_2 r27_3 r27_4
(C0 (((aq (([] : List Int) ++ [(w8 (97 + (w8 (r6_0))))])) ++ r17_0) ++ r20_0) r20_1 r20_2 r20_3 r20_4 (((aq (([] : List Int) ++ [(w8 (97 + (w8 (r6_0))))])) ++ r21_0) ++ r24_0) r24_1 r24_2 r24_3 r24_4
(C0 (((aq (([] : List Int) ++ [(w8 (97 + (w8 (r6_0))))])) ++ r11_0) ++ r14_0) r14_1 r14_2 r14_3 r14_4 (((aq (([] : List Int) ++ [(w8 (97 + (w8 (r6_0))))])) ++ r17_0) ++ r20_0) r20_1 r20_2 r20_3 r20_4
(k0 (((aq (([] : List Int) ++ [(w8 (97 + (w8 (r6_0))))])) ++ r11_0) ++ r14_0) r14_1 r14_2 r14_3 r14_4))))))))))))))))))))))))))))))))))
def TG (N : Nat) := O1 (β := β) (gm N) (fI N) (eP N) (xw N) N
def p6 (N : Nat) : Nat → Int → Int → Int → Int → Mp → Mp → (ByteArray → Int → Int → Mp → Mp → O β) → O β
 | 0, _, _, _, _, _, _, _ => none
 | F + 1, a0, a1, a2, a3, a4, a5, k0 => TG N (p6 N F) a0 a1 a2 a3 a4 a5 k0
def TH (N : Nat) := p6 (β := β) N N
def O2 (N : Nat) (a0 a1 : Int) (k : ByteArray → Bool → O β) : O β :=
ael a0 a1 4 fun r4 =>
(cond (!r4)
(k ByteArray.empty false)
(af2 a0 a1 (fun r5_0 r5_1 r5_2 r5_3 =>
agQ 0 0 r5_0 r5_1 r5_2 r5_3 (fun r6_0 r6_1 r6_2 r6_3 r6_4 =>
k r6_0 true))))
def xx (N : Nat) := O2 (β := β) (gj N) (CZ N) (TH N) N
def O3 (N : Nat) (a0 a1 : Int) (k : Bool → O β) : O β :=
(cond (a1 == 0)
(k true)
(aeg a0 a1 fun r3 r4 =>
k (r4 == 0)))
def my (N : Nat) := O3 (β := β) (eF N) N
def G3 (N : Nat) (v0 : List Int) (v1 v2 v3 v4 : Int) (rec_ : List Int → Int → Int → Int → Int → O β) (k0 : ByteArray → O β) (k1 : List Int → Int → Int → O β) : O β :=
(cond (decide (v2 < v1))
(aeo v3 v2 fun r7 r8 =>
(cond ((v3 == r7) && (v4 == r8))
(k0 (aq (([] : List Int) ++ [(w8 (97 + (w8 (v2))))])))
(aeg r7 r8 fun r9 r10 =>
(cond ((v3 == r9) && (v4 == r10))
(gd (decide ((aq [33]).size + (aq (([] : List Int) ++ [(w8 (97 + (w8 (v2))))])).size ≤ 9223372036854775807))
(k0 ((aq [33]) ++ (aq (([] : List Int) ++ [(w8 (97 + (w8 (v2))))])))))
(rec_ v0 v1 (w64 (v2 + 1)) v3 v4)))))
(k1 v0 v3 v4))
def C1 (N : Nat) := G3 (β := β) (p7 N) (eF N) N
def kw (N : Nat) : Nat → List Int → Int → Int → Int → Int → (ByteArray → O β) → (List Int → Int → Int → O β) → O β
 | 0, _, _, _, _, _, _, _ => none
 | F + 1, v0, v1, v2, v3, v4, k0, k1 => C1 N v0 v1 v2 v3 v4 (fun v0 v1 v2 v3 v4 => kw N F v0 v1 v2 v3 v4 k0 k1) k0 k1
def G4 (N : Nat) (self : Int → Int → List Int → (ByteArray → O β) → O β) (v0 : List Int) (v1 v2 v3 v4 v5 : Int) (v6 : List Int) (v7 v8 : Int) (v9 : List Int) (v10 v11 v12 v13 : Int) (v14 : List Int) (rec_ : List Int → Int → Int → Int → Int → Int → List Int → Int → Int → List Int → Int → Int → Int → Int → List Int → O β) (k0 : ByteArray → O β) (k1 : List Int → Int → Int → Int → List Int → Int → Int → Int → Int → List Int → O β) : O β :=
(cond (decide (v11 < v10))
(gd (decide (0 ≤ v11))
(gd (decide (v11 < (v9.length : Int)))
(cond (v1 == 124)
(cond (decide ((rd 0 v9 v11) ≥ 1))
(gd (decide (0 ≤ v13))
(gd (decide (v13 < (v0.length : Int)))
(cond ((w64 (v3 + (rd 0 v9 v11))) == (rd 0 v0 v13))
(cond ((bits .or .i64 v2 v11) == v13)
(self v12 v2 v0 fun r13 =>
self v12 v11 v0 fun r14 =>
(gd (decide ((aq (([] : List Int) ++ [v1])).size + r13.size ≤ 9223372036854775807))
(gd (decide (((aq (([] : List Int) ++ [v1])) ++ r13).size + r14.size ≤ 9223372036854775807))
(k0 (((aq (([] : List Int) ++ [v1])) ++ r13) ++ r14)))))
(rec_ v0 v1 v2 v3 v4 v5 v6 v7 v8 v9 v10 (w64 (v11 + 1)) v12 v13 v14))
(rec_ v0 v1 v2 v3 v4 v5 v6 v7 v8 v9 v10 (w64 (v11 + 1)) v12 v13 v14))))
(rec_ v0 v1 v2 v3 v4 v5 v6 v7 v8 v9 v10 (w64 (v11 + 1)) v12 v13 v14))
(cond (decide ((rd 0 v9 v11) ≥ 1))
(gd (decide (0 ≤ v13))
(gd (decide (v13 < (v0.length : Int)))
(cond ((w64 (v3 + (rd 0 v9 v11))) == (rd 0 v0 v13))
(cond ((bits .and .i64 v2 v11) == v13)
(self v12 v2 v0 fun r15 =>
self v12 v11 v0 fun r16 =>
(gd (decide ((aq (([] : List Int) ++ [v1])).size + r15.size ≤ 9223372036854775807))
(gd (decide (((aq (([] : List Int) ++ [v1])) ++ r15).size + r16.size ≤ 9223372036854775807))
(k0 (((aq (([] : List Int) ++ [v1])) ++ r15) ++ r16)))))
(rec_ v0 v1 v2 v3 v4 v5 v6 v7 v8 v9 v10 (w64 (v11 + 1)) v12 v13 v14))
(rec_ v0 v1 v2 v3 v4 v5 v6 v7 v8 v9 v10 (w64 (v11 + 1)) v12 v13 v14))))
(rec_ v0 v1 v2 v3 v4 v5 v6 v7 v8 v9 v10 (w64 (v11 + 1)) v12 v13 v14)))))
(k1 v0 v1 v4 v5 v6 v7 v8 v12 v13 v14))
def C2 (N : Nat) := G4 (β := β) N
def kx (N : Nat) (self : Int → Int → List Int → (ByteArray → O β) → O β) : Nat → List Int → Int → Int → Int → Int → Int → List Int → Int → Int → List Int → Int → Int → Int → Int → List Int → (ByteArray → O β) → (List Int → Int → Int → Int → List Int → Int → Int → Int → Int → List Int → O β) → O β
 | 0, _, _, _, _, _, _, _, _, _, _, _, _, _, _, _, _, _ => none
 | F + 1, v0, v1, v2, v3, v4, v5, v6, v7, v8, v9, v10, v11, v12, v13, v14, k0, k1 => C2 N self v0 v1 v2 v3 v4 v5 v6 v7 v8 v9 v10 v11 v12 v13 v14 (fun v0 v1 v2 v3 v4 v5 v6 v7 v8 v9 v10 v11 v12 v13 v14 => kx N self F v0 v1 v2 v3 v4 v5 v6 v7 v8 v9 v10 v11 v12 v13 v14 k0 k1) k0 k1
def G5 (N : Nat) (self : Int → Int → List Int → (ByteArray → O β) → O β) (v0 : List Int) (v1 v2 v3 : Int) (v4 : List Int) (v5 v6 v7 v8 : Int) (v9 : List Int) (rec_ : List Int → Int → Int → Int → List Int → Int → Int → Int → Int → List Int → O β) (k0 : ByteArray → O β) (k1 : List Int → Int → Int → Int → Int → List Int → O β) : O β :=
(cond (decide (v6 < v5))
(gd (decide (0 ≤ v6))
(gd (decide (v6 < (v4.length : Int)))
(cond (decide ((rd 0 v4 v6) < 1))
(rec_ v0 v1 v2 v3 v4 v5 (w64 (v6 + 1)) v7 v8 v9)
(gd (decide (0 ≤ v8))
(gd (decide (v8 < (v0.length : Int)))
(cond (decide ((rd 0 v4 v6) ≥ (rd 0 v0 v8)))
(rec_ v0 v1 v2 v3 v4 v5 (w64 (v6 + 1)) v7 v8 v9)
(aeX self N v0 v1 v6 (rd 0 v4 v6) v2 v3 v4 v5 v6 v0 (v0.length : Int) 0 v7 v8 v9 (fun aA =>
k0 aA) (fun aB aC aD aE aF aG aH aI aJ aK =>
rec_ aB aC aD aE aF aG (w64 (aH + 1)) aI aJ aK))))))))
(k1 v0 v2 v3 v7 v8 v9))
def C3 (N : Nat) := G5 (β := β) (kx N) N
def iv (N : Nat) (self : Int → Int → List Int → (ByteArray → O β) → O β) : Nat → List Int → Int → Int → Int → List Int → Int → Int → Int → Int → List Int → (ByteArray → O β) → (List Int → Int → Int → Int → Int → List Int → O β) → O β
 | 0, _, _, _, _, _, _, _, _, _, _, _, _ => none
 | F + 1, v0, v1, v2, v3, v4, v5, v6, v7, v8, v9, k0, k1 => C3 N self v0 v1 v2 v3 v4 v5 v6 v7 v8 v9 (fun v0 v1 v2 v3 v4 v5 v6 v7 v8 v9 => iv N self F v0 v1 v2 v3 v4 v5 v6 v7 v8 v9 k0 k1) k0 k1
def G6 (N : Nat) (self : Int → Int → List Int → (ByteArray → O β) → O β) (v0 : List Int) (v1 v2 v3 v4 : Int) (v5 : List Int) (rec_ : List Int → Int → Int → Int → Int → List Int → O β) (k0 : ByteArray → O β) (k1 : O β) : O β :=
(cond (decide (v2 < v1))
(gd (decide (0 ≤ v2))
(gd (decide (v2 < (v5.length : Int)))
(aeY self N v0 (rd 0 v5 v2) v1 v2 v0 (v0.length : Int) 0 v3 v4 v5 (fun aA =>
k0 aA) (fun aB aC aD aE aF aG =>
rec_ aB aC (w64 (aD + 1)) aE aF aG))))
(k1 ))
def C4 (N : Nat) := G6 (β := β) (iv N) N
def gr (N : Nat) (self : Int → Int → List Int → (ByteArray → O β) → O β) : Nat → List Int → Int → Int → Int → Int → List Int → (ByteArray → O β) → (O β) → O β
 | 0, _, _, _, _, _, _, _, _ => none
 | F + 1, v0, v1, v2, v3, v4, v5, k0, k1 => C4 N self v0 v1 v2 v3 v4 v5 (fun v0 v1 v2 v3 v4 v5 => gr N self F v0 v1 v2 v3 v4 v5 k0 k1) k0 k1
def O4 (N : Nat) (self : Int → Int → List Int → (ByteArray → O β) → O β) (a0 a1 : Int) (a2 : List Int) (k : ByteArray → O β) : O β :=
aeL a0 a1 fun r4 =>
(cond r4
(zq3 a0 a1 0 fun r5 =>
aen r5 fun r6 =>
k r6)
(gd (decide (0 ≤ a1))
(gd (decide (a1 < (a2.length : Int)))
(cond ((rd 0 a2 a1) == 1)
(aeW N a2 a0 0 a0 a1 (fun aA =>
k aA) (fun aB aC aD =>
aeM self N aB (((([] : List Int) ++ [38]) ++ [124]).length : Int) 0 aC aD ((([] : List Int) ++ [38]) ++ [124]) (fun aE =>
k aE) (k ByteArray.empty)))
(aeM self N a2 (((([] : List Int) ++ [38]) ++ [124]).length : Int) 0 a0 a1 ((([] : List Int) ++ [38]) ++ [124]) (fun aF =>
k aF) (k ByteArray.empty))))))
def PI (N : Nat) := O4 (β := β) (zj3 N) (fI N) (my N) (kw N) (gr N) N
def c7 (N : Nat) : Nat → Int → Int → List Int → (ByteArray → O β) → O β
 | 0, _, _, _, _ => none
 | F + 1, a0, a1, a2, k => PI N (c7 N F) a0 a1 a2 k
def TJ (N : Nat) := c7 (β := β) N N
def O5 (N : Nat) (a0 a1 : Int) (k : ByteArray → Bool → O β) : O β :=
ael a0 a1 3 fun r4 =>
(cond (!r4)
(k ByteArray.empty false)
(iW N a0 fun r5 =>
agR a0 a1 r5 fun r6 =>
k r6 true))
def xy (N : Nat) := O5 (β := β) (gj N) (TJ N) N
def O6 (N : Nat) (a0 : ByteArray) (a1 a2 : Int) (k : ByteArray → Bool → O β) : O β :=
ael a1 a2 4 fun r5 =>
(cond (!r5)
(k ByteArray.empty false)
(cond (a0.toList == (aq [116, 97, 98, 108, 101]).toList)
(aeE a1 a2 fun r6 =>
k r6 true)
(cond (a0.toList == (aq [97, 110, 102]).toList)
(aeA a1 a2 fun r7 =>
k r7 true)
(cond (a0.toList == (aq [115, 117, 109]).toList)
(af0 a1 a2 fun r8 =>
af1 a1 r8 fun r9 =>
k r9 true)
(cond (a0.toList == (aq [116, 114, 101, 101]).toList)
(af5 a1 a2 fun r10 r11 =>
k r10 r11)
(cond (a0.toList == (aq [102, 111, 114, 109, 117, 108, 97]).toList)
(agz a1 a2 fun r12 r13 =>
k r12 r13)
(k ByteArray.empty false)))))))
def xz (N : Nat) := O6 (β := β) (mj N) (io N) (gj N) (xu N) (xv N) (xx N) (xy N) N
def O7 (N : Nat) (a0 a1 : ByteArray) (a2 : Int) (a3 : ByteArray) (k : ByteArray → Bool → O β) : O β :=
afV a0 a2 a3 fun r6 r7 r8 =>
(cond (!r8)
(k ByteArray.empty false)
(agA a1 r6 r7 fun r9 r10 =>
k r9 r10))
def xA (N : Nat) := O7 (β := β) (uN N) (xz N) N
def bU (N : Nat) (a0 a1 : ByteArray) (a2 : Int) (a3 : ByteArray) (k : Bool → O β) : O β :=
(cond (decide ((a0.size : Int) > 1048576))
(k true)
(cond (decide ((a1.size : Int) > 1048576))
(k true)
(cond (decide ((a3.size : Int) > 1048576))
(k true)
(afH a0 a1 a2 a3 fun r5 r6 =>
agB a0 a1 a2 a3 fun r7 r8 =>
(cond (!(r7.toList == r5.toList))
(k false)
(cond (!(r8 == r6))
(k false)
(k true)))))))
def cm (N : Nat) := bU (β := β) (xt N) (xA N) N
end Go.Proofs.YtmhlcbibbhelkaaGreatDoor
