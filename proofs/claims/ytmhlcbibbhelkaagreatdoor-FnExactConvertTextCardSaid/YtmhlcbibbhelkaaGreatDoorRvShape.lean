/- Shapes of states: that a state has a shape, what stands in its places, and that it is the shape filled with these. -/
import Derived.Test.YtmhlcbibbhelkaaGreatDoorRvUse
namespace Go.Rv
set_option linter.unusedSimpArgs false
def hd {α : Type} (d : α) : List α → α | [] => d | x :: _ => x
def tl {α : Type} : List α → List α | [] => [] | _ :: l => l
def nx {α : Type} (d : α) (l : List α) : Nat → α
 | 0 => hd d l
 | n + 1 => nx d (tl l) n
def aY : Row → List Int | .ints _ l => l | _ => []
def BN : Row → List ByteArray | .strs l => l | _ => []
def MG : Row → List Bool | .bools l => l | _ => []
def bc : Row → List (Int × Int) | .pairs l => l | _ => []
def MI : Row → List (Int × Int × Int) | .trips l => l | _ => []
def MH : Row → List (List Int) | .lists _ l => l | _ => []
def t7 : Row → Row → Row
 | .ints k _, x => .ints k (aY x)
 | .strs _, x => .strs (BN x)
 | .bools _, x => .bools (MG x)
 | .pairs _, x => .pairs (bc x)
 | .trips _, x => .trips (MI x)
 | .lists e _, x => .lists e (MH x)
def uj : Row → Row → Bool
 | .ints k _, .ints k' _ => bI k k'
 | .strs _, .strs _ => true
 | .bools _, .bools _ => true
 | .pairs _, .pairs _ => true
 | .trips _, .trips _ => true
 | .lists e _, .lists e' _ => Nat.beq e e'
 | _, _ => false
theorem dH {t r : Row} (h : uj t r = true) : t7 t r = r := by
 cases t <;> cases r <;> simp_all [uj, t7, aY, BN, MG, bc, MI, MH]
 exact bu h
def ML : FSf → FSf → FSf
 | .int k _, x => .int k (match x with | .int _ n => n | _ => 0)
 | .bool _, x => .bool (match x with | .bool b => b | _ => false)
 | .str _, x => .str (match x with | .str b => b | _ => ByteArray.empty)
 | .sl t r, x => .sl t (t7 r (match x with | .sl _ r => r | _ => .bools []))
 | .tr b _, x => .tr b (match x with | .tr _ T => T | _ => .nil)
 | t, _ => t
def ab0 : FS → List FSf | .ptr l _ => l | _ => []
def yz : FS → Int | .int _ n => n | _ => 0
def S2 : FS → Bool | .bool b => b | _ => false
def XW : FS → ByteArray | .str b => b | _ => ByteArray.empty
def XS : FS → Row | .sl _ r => r | _ => .bools []
def trF : FS → Tr | .tr _ T => T | _ => .nil
def zO : List FSf → List FSf → List FSf
 | [], _ => []
 | t :: l, x => ML t (hd .no x) :: zO l (tl x)
def W0 : FS → FS → FS
 | .int k _, x => .int k (yz x)
 | .bool _, x => .bool (S2 x)
 | .str _, x => .str (XW x)
 | .sl t r, x => .sl t (t7 r (XS x))
 | .tr b _, x => .tr b (trF x)
 | .ptr l o, x => .ptr (zO l (ab0 x)) o
 | t, _ => t
def eqB : Bool → Bool → Bool
 | true, true => true
 | false, false => true
 | _, _ => false
theorem ym : ∀ {a b : Bool}, eqB a b = true → a = b
 | true, true, _ => rfl
 | false, false, _ => rfl
def NW : FSf → FSf → Bool
 | .int k _, .int k' _ => bI k k'
 | .bool _, .bool _ => true
 | .str _, .str _ => true
 | .sl t r, .sl t' r' => Nat.beq t t' && uj r r'
 | .fn f, .fn f' => Nat.beq f f'
 | .no, .no => true
 | .tr b _, .tr b' _ => eqB b b'
 | _, _ => false
theorem Ii {t x : FSf} (h : NW t x = true) : ML t x = x := by
 cases t <;> cases x <;> simp_all [NW, ML]
 ·exact bu h
 ·exact dH h.2
 ·exact ym h
def zY : List FSf → List FSf → Bool
 | [], [] => true
 | t :: l, x :: m => NW t x && zY l m
 | _, _ => false
theorem ui : ∀ {t x : List FSf}, zY t x = true → zO t x = x
 | [], [], _ => rfl
 | t :: l, x :: m, h => by
  simp only [zY, agZ] at h
  simp only [zO, hd, tl, Ii h.1, ui h.2]
 | [], _ :: _, h => by cases h
 | _ :: _, [], h => by cases h
def XV : FS → FS → Bool
 | .int k _, .int k' _ => bI k k'
 | .bool _, .bool _ => true
 | .str _, .str _ => true
 | .sl t r, .sl t' r' => Nat.beq t t' && uj r r'
 | .fn f, .fn f' => Nat.beq f f'
 | .no, .no => true
 | .tr b _, .tr b' _ => eqB b b'
 | .ptr l o, .ptr l' o' => zY l l' && Nat.beq o o'
 | _, _ => false
theorem NV {t x : FS} (h : XV t x = true) : W0 t x = x := by
 cases t <;> cases x <;> simp_all [XV, W0, yz, S2, XW, XS, trF, ab0]
 ·exact bu h
 ·exact dH h.2
 ·exact ym h
 ·exact ui h.1
def wN : List FS → List FS → List FS
 | [], _ => []
 | t :: l, x => W0 t (hd .no x) :: wN l (tl x)
def w9 : List FS → List FS → Bool
 | [], [] => true
 | t :: l, x :: m => XV t x && w9 l m
 | _, _ => false
theorem lJ : ∀ {t x : List FS}, w9 t x = true → wN t x = x
 | [], [], _ => rfl
 | t :: l, x :: m, h => by
  simp only [w9, agZ] at h
  simp only [wN, hd, tl, NV h.1, lJ h.2]
 | [], _ :: _, h => by cases h
 | _ :: _, [], h => by cases h
def FV : List (List FS × Nat) → List (List FS × Nat) → List (List FS × Nat)
 | [], _ => []
 | t :: l, x => (wN t.1 (hd ([], 0) x).1, t.2) :: FV l (tl x)
def Gd : List (List FS × Nat) → List (List FS × Nat) → Bool
 | [], [] => true
 | t :: l, x :: m => w9 t.1 x.1 && Nat.beq t.2 x.2 && Gd l m
 | _, _ => false
theorem w7 : ∀ {t x : List (List FS × Nat)}, Gd t x = true → FV t x = x
 | [], [], _ => rfl
 | t :: l, x :: m, h => by
  simp only [Gd, agZ] at h
  simp only [FV, hd, tl, lJ h.1.1, w7 h.2, ag2 h.1.2]
 | [], _ :: _, h => by cases h
 | _ :: _, [], h => by cases h
def Fp : List (Nat × Nat) → List (Nat × Nat) → Bool
 | [], [] => true
 | t :: l, x :: m => Nat.beq t.1 x.1 && Nat.beq t.2 x.2 && Fp l m
 | _, _ => false
theorem A3 : ∀ {t x : List (Nat × Nat)}, Fp t x = true → t = x
 | [], [], _ => rfl
 | t :: l, x :: m, h => by
  simp only [Fp, agZ] at h
  rw [A3 h.2, show t = x from Prod.ext (ag2 h.1.1) (ag2 h.1.2)]
 | [], _ :: _, h => by cases h
 | _ :: _, [], h => by cases h
def af : SV → Int | .int _ n => n | .suf _ i => i | .elt _ _ i _ => i | .ref _ i _ => i | .fref _ i _ => i | _ => 0
def Fo : SV → Bool | .bool b => b | _ => false
def dV : SV → ByteArray | .str b => b | _ => ByteArray.empty
def bF : SV → Row | .sl _ r => r | .ref r _ _ => r | .fsl _ r => r | .fref r _ _ => r | _ => .bools []
def Fr : SV → List FS | .cref l _ => l | _ => []
def abL : SV → List FS | .bfn _ l => l | _ => []
def sG : SV → List (List FS × Nat) | .dfn _ c => c | _ => []
def trS : SV → Tr | .tr _ T => T | .tra _ T _ => T | _ => .nil
def dD : SV → SV → SV
 | .int k _, x => .int k (af x)
 | .bool _, x => .bool (Fo x)
 | .str _, x => .str (dV x)
 | .sl t r, x => .sl t (t7 r (bF x))
 | .elt j z _ o, x => .elt j z (af x) o
 | .suf j _, x => .suf j (af x)
 | .ref r _ o, x => .ref (t7 r (bF x)) (af x) o
 | .cref l o, x => .cref (wN l (Fr x)) o
 | .dfn f c, x => .dfn f (FV c (sG x))
 | .fsl t r, x => .fsl t (t7 r (bF x))
 | .fref r _ o, x => .fref (t7 r (bF x)) (af x) o
 | .tr b _, x => .tr b (trS x)
 | .tra b _ o, x => .tra b (trS x) o
 | .bfn f l, x => .bfn f (wN l (abL x))
 | t, _ => t
def jg : SV → SV → Bool
 | .int k _, .int k' _ => bI k k'
 | .bool _, .bool _ => true
 | .str _, .str _ => true
 | .ptr j o, .ptr j' o' => Nat.beq j j' && Nat.beq o o'
 | .row j, .row j' => Nat.beq j j'
 | .sl t r, .sl t' r' => Nat.beq t t' && uj r r'
 | .elt j z _ o, .elt j' z' _ o' => Nat.beq j j' && (Nat.beq z z' && Nat.beq o o')
 | .suf j _, .suf j' _ => Nat.beq j j'
 | .ref r _ o, .ref r' _ o' => uj r r' && Nat.beq o o'
 | .fn f c, .fn f' c' => Nat.beq f f' && Fp c c'
 | .cref l o, .cref l' o' => w9 l l' && Nat.beq o o'
 | .dfn f c, .dfn f' c' => Nat.beq f f' && Gd c c'
 | .mp j, .mp j' => Nat.beq j j'
 | .nilp, .nilp => true
 | .nilm, .nilm => true
 | .nilf, .nilf => true
 | .no, .no => true
 | .und, .und => true
 | .fsl t r, .fsl t' r' => Nat.beq t t' && uj r r'
 | .fref r _ o, .fref r' _ o' => uj r r' && Nat.beq o o'
 | .tr b _, .tr b' _ => eqB b b'
 | .tra b _ o, .tra b' _ o' => eqB b b' && Nat.beq o o'
 | .bfn f l, .bfn f' l' => Nat.beq f f' && w9 l l'
 | _, _ => false
theorem Cd {t x : SV} (h : jg t x = true) : dD t x = x := by
 cases t <;> cases x <;> first | (cases h; done) | rfl | skip
 ·simp only [jg] at h; simp only [dD, af, bu h]
 ·simp only [jg, agZ] at h; simp only [dD, ag2 h.1, ag2 h.2]
 ·simp only [jg] at h; simp only [dD, ag2 h]
 ·simp only [jg, agZ] at h; simp only [dD, bF, ag2 h.1, dH h.2]
 ·simp only [jg, agZ] at h; simp only [dD, af, ag2 h.1, ag2 h.2.1, ag2 h.2.2]
 ·simp only [jg, agZ] at h; simp only [dD, bF, af, dH h.1, ag2 h.2]
 ·simp only [jg, agZ] at h; simp only [dD, ag2 h.1, A3 h.2]
 ·simp only [jg, agZ] at h; simp only [dD, Fr, lJ h.1, ag2 h.2]
 ·simp only [jg, agZ] at h; simp only [dD, sG, ag2 h.1, w7 h.2]
 ·simp only [jg] at h; simp only [dD, ag2 h]
 ·simp only [jg, agZ] at h; simp only [dD, bF, ag2 h.1, dH h.2]
 ·simp only [jg, agZ] at h; simp only [dD, bF, af, dH h.1, ag2 h.2]
 ·simp only [jg] at h; simp only [dD, trS, ym h]
 ·simp only [jg, agZ] at h; simp only [dD, trS, ym h.1, ag2 h.2]
 ·simp only [jg, agZ] at h; simp only [dD, abL, ag2 h.1, lJ h.2]
 ·simp only [jg] at h; simp only [dD, af, ag2 h]
def wO : List SV → List SV → List SV
 | [], _ => []
 | t :: l, x => dD t (hd .und x) :: wO l (tl x)
def xa : List SV → List SV → Bool
 | [], [] => true
 | t :: l, x :: m => jg t x && xa l m
 | _, _ => false
theorem lK : ∀ {t x : List SV}, xa t x = true → wO t x = x
 | [], [], _ => rfl
 | t :: l, x :: m, h => by
  simp only [xa, agZ] at h
  simp only [wO, hd, tl, Cd h.1, lK h.2]
 | [], _ :: _, h => by cases h
 | _ :: _, [], h => by cases h
def ah : AV → SV | .one s => s | _ => .und
def abJ : AV → List SV | .agg l => l | _ => []
def BQ : AV → AV → AV
 | .one t, x => .one (dD t (ah x))
 | .agg l, x => .agg (wO l (abJ x))
def XU : AV → AV → Bool
 | .one t, .one x => jg t x
 | .agg l, .agg m => xa l m
 | _, _ => false
theorem Cc {t x : AV} (h : XU t x = true) : BQ t x = x := by
 cases t <;> cases x <;> first | (cases h; done) | skip
 ·simp only [BQ, ah, Cd h]
 ·simp only [BQ, abJ, lK h]
def FT : List AV → List AV → List AV
 | [], _ => []
 | t :: l, x => BQ t (hd (.one .und) x) :: FT l (tl x)
def Gb : List AV → List AV → Bool
 | [], [] => true
 | t :: l, x :: m => XU t x && Gb l m
 | _, _ => false
theorem wY : ∀ {t x : List AV}, Gb t x = true → FT t x = x
 | [], [], _ => rfl
 | t :: l, x :: m, h => by
  simp only [Gb, agZ] at h
  simp only [FT, hd, tl, Cc h.1, wY h.2]
 | [], _ :: _, h => by cases h
 | _ :: _, [], h => by cases h
def vT : TV → AV | .v x => x | _ => .one .und
def ach : TV → List AV | .tup l => l | _ => []
def FW : TV → TV → TV
 | .v t, x => .v (BQ t (vT x))
 | .tup l, x => .tup (FT l (ach x))
def ab7 : TV → TV → Bool
 | .v t, .v x => XU t x
 | .tup l, .tup m => Gb l m
 | _, _ => false
theorem NX {t x : TV} (h : ab7 t x = true) : FW t x = x := by
 cases t <;> cases x <;> first | (cases h; done) | skip
 ·simp only [FW, vT, Cc h]
 ·simp only [FW, ach, wY h]
def FX : List TV → List TV → List TV
 | [], _ => []
 | t :: l, x => FW t (hd ac x) :: FX l (tl x)
def Ge : List TV → List TV → Bool
 | [], [] => true
 | t :: l, x :: m => ab7 t x && Ge l m
 | _, _ => false
theorem xb : ∀ {t x : List TV}, Ge t x = true → FX t x = x
 | [], [], _ => rfl
 | t :: l, x :: m, h => by
  simp only [Ge, agZ] at h
  simp only [FX, hd, tl, NX h.1, xb h.2]
 | [], _ :: _, h => by cases h
 | _ :: _, [], h => by cases h
def aj : Blk → List SV | .cells _ l => l | .pcells _ _ l => l | _ => []
def bh : Blk → Row | .row _ r => r | .prow _ _ r => r | .srow _ r => r | _ => .bools []
def mpB : Blk → Mp | .mp _ l => l | .pmp _ _ l => l | _ => []
def ja : Blk → Blk → Blk
 | .cells t l, x => .cells t (wO l (aj x))
 | .row t r, x => .row t (t7 r (bh x))
 | .prow k t r, x => .prow k t (t7 r (bh x))
 | .mp t _, x => .mp t (mpB x)
 | .pcells k t l, x => .pcells k t (wO l (aj x))
 | .pmp k t _, x => .pmp k t (mpB x)
 | .dead, _ => .dead
 | .srow t r, x => .srow t (t7 r (bh x))
def zX : Blk → Blk → Bool
 | .cells t l, .cells t' l' => Nat.beq t t' && xa l l'
 | .row t r, .row t' r' => Nat.beq t t' && uj r r'
 | .prow k t r, .prow k' t' r' => Nat.beq k k' && (Nat.beq t t' && uj r r')
 | .mp t _, .mp t' _ => mX t t'
 | .pcells k t l, .pcells k' t' l' => Nat.beq k k' && (Nat.beq t t' && xa l l')
 | .pmp k t _, .pmp k' t' _ => Nat.beq k k' && mX t t'
 | .dead, .dead => true
 | .srow t r, .srow t' r' => Nat.beq t t' && uj r r'
 | _, _ => false
theorem NU {t x : Blk} (h : zX t x = true) : ja t x = x := by
 cases t <;> cases x <;> first | (cases h; done) | rfl | skip
 ·simp only [zX, agZ] at h; simp only [ja, aj, ag2 h.1, lK h.2]
 ·simp only [zX, agZ] at h; simp only [ja, bh, ag2 h.1, dH h.2]
 ·simp only [zX, agZ] at h; simp only [ja, bh, ag2 h.1, ag2 h.2.1, dH h.2.2]
 ·simp only [zX] at h; simp only [ja, mpB, hY h]
 ·simp only [zX, agZ] at h; simp only [ja, aj, ag2 h.1, ag2 h.2.1, lK h.2.2]
 ·simp only [zX, agZ] at h; simp only [ja, mpB, ag2 h.1, hY h.2]
 ·simp only [zX, agZ] at h; simp only [ja, bh, ag2 h.1, dH h.2]
def FU : List Blk → List Blk → List Blk
 | [], _ => []
 | t :: l, x => ja t (hd .dead x) :: FU l (tl x)
def Gc : List Blk → List Blk → Bool
 | [], [] => true
 | t :: l, x :: m => zX t x && Gc l m
 | _, _ => false
theorem wZ : ∀ {t x : List Blk}, Gc t x = true → FU t x = x
 | [], [], _ => rfl
 | t :: l, x :: m, h => by
  simp only [Gc, agZ] at h
  simp only [FU, hd, tl, NU h.1, wZ h.2]
 | [], _ :: _, h => by cases h
 | _ :: _, [], h => by cases h
def aP (t x : St) : St := ⟨FX t.tmps x.tmps, FU t.blks x.blks⟩
def aJ (t x : St) : Bool := Ge t.tmps x.tmps && Gc t.blks x.blks
theorem ar {t x : St} (h : aJ t x = true) : aP t x = x := by
 simp only [aJ, agZ] at h
 simp only [aP, xb h.1, wZ h.2]
end Go.Rv
