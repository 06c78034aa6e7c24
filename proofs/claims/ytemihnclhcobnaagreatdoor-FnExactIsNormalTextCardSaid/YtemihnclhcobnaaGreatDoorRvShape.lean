/- Shapes of states: that a state has a shape, what stands in its places, and that it is the shape filled with these. -/
import Derived.Test.YtemihnclhcobnaaGreatDoorRvUse
namespace Go.Rv
set_option linter.unusedSimpArgs false
def hd {α : Type} (d : α) : List α -> α | [] => d | x :: _ => x
def tl {α : Type} : List α -> List α | [] => [] | _ :: l => l
def nx {α : Type} (d : α) (l : List α) : Nat -> α
 | 0 => hd d l
 | n + 1 => nx d (tl l) n
def aY : Row -> List Int | .ints _ l => l | _ => []
def Ct : Row -> List ByteArray | .strs l => l | _ => []
def Oc : Row -> List Bool | .bools l => l | _ => []
def bc : Row -> List (Int × Int) | .pairs l => l | _ => []
def Oe : Row -> List (Int × Int × Int) | .trips l => l | _ => []
def Od : Row -> List (List Int) | .lists _ l => l | _ => []
def uS : Row -> Row -> Row
 | .ints k _, x => .ints k (aY x)
 | .strs _, x => .strs (Ct x)
 | .bools _, x => .bools (Oc x)
 | .pairs _, x => .pairs (bc x)
 | .trips _, x => .trips (Oe x)
 | .lists e _, x => .lists e (Od x)
def u9 : Row -> Row -> Bool
 | .ints k _, .ints k' _ => bI k k'
 | .strs _, .strs _ => true
 | .bools _, .bools _ => true
 | .pairs _, .pairs _ => true
 | .trips _, .trips _ => true
 | .lists e _, .lists e' _ => Nat.beq e e'
 | _, _ => false
theorem dH {t r : Row} (h : u9 t r = true) : uS t r = r := by
 cases t <;> cases r <;> simp_all [u9, uS, aY, Ct, Oc, bc, Oe, Od]
 exact bu h
def Og : FSf -> FSf -> FSf
 | .int k _, x => .int k (match x with | .int _ n => n | _ => 0)
 | .bool _, x => .bool (match x with | .bool b => b | _ => false)
 | .str _, x => .str (match x with | .str b => b | _ => ByteArray.empty)
 | .sl t r, x => .sl t (uS r (match x with | .sl _ r => r | _ => .bools []))
 | .tr b _, x => .tr b (match x with | .tr _ T => T | _ => .nil)
 | t, _ => t
def ad7 : FS -> List FSf | .ptr l _ => l | _ => []
def zu : FS -> Int | .int _ n => n | _ => 0
def WM : FS -> Bool | .bool b => b | _ => false
def Z4 : FS -> ByteArray | .str b => b | _ => ByteArray.empty
def Z0 : FS -> Row | .sl _ r => r | _ => .bools []
def trF : FS -> Tr | .tr _ T => T | _ => .nil
def Aa : List FSf -> List FSf -> List FSf
 | [], _ => []
 | t :: l, x => Og t (hd .no x) :: Aa l (tl x)
def ZC : FS -> FS -> FS
 | .int k _, x => .int k (zu x)
 | .bool _, x => .bool (WM x)
 | .str _, x => .str (Z4 x)
 | .sl t r, x => .sl t (uS r (Z0 x))
 | .tr b _, x => .tr b (trF x)
 | .ptr l o, x => .ptr (Aa l (ad7 x)) o
 | t, _ => t
def eqB : Bool -> Bool -> Bool
 | true, true => true
 | false, false => true
 | _, _ => false
theorem zd : ∀ {a b : Bool}, eqB a b = true -> a = b
 | true, true, _ => rfl
 | false, false, _ => rfl
def OS : FSf -> FSf -> Bool
 | .int k _, .int k' _ => bI k k'
 | .bool _, .bool _ => true
 | .str _, .str _ => true
 | .sl t r, .sl t' r' => Nat.beq t t' && u9 r r'
 | .fn f, .fn f' => Nat.beq f f'
 | .no, .no => true
 | .tr b _, .tr b' _ => eqB b b'
 | _, _ => false
theorem KD {t x : FSf} (h : OS t x = true) : Og t x = x := by
 cases t <;> cases x <;> simp_all [OS, Og]
 ·exact bu h
 ·exact dH h.2
 ·exact zd h
def Ak : List FSf -> List FSf -> Bool
 | [], [] => true
 | t :: l, x :: m => OS t x && Ak l m
 | _, _ => false
theorem u7 : ∀ {t x : List FSf}, Ak t x = true -> Aa t x = x
 | [], [], _ => rfl
 | t :: l, x :: m, h => by
  simp only [Ak, aj0] at h
  simp only [Aa, hd, tl, KD h.1, u7 h.2]
 | [], _ :: _, h => by cases h
 | _ :: _, [], h => by cases h
def Z3 : FS -> FS -> Bool
 | .int k _, .int k' _ => bI k k'
 | .bool _, .bool _ => true
 | .str _, .str _ => true
 | .sl t r, .sl t' r' => Nat.beq t t' && u9 r r'
 | .fn f, .fn f' => Nat.beq f f'
 | .no, .no => true
 | .tr b _, .tr b' _ => eqB b b'
 | .ptr l o, .ptr l' o' => Ak l l' && Nat.beq o o'
 | _, _ => false
theorem OR {t x : FS} (h : Z3 t x = true) : ZC t x = x := by
 cases t <;> cases x <;> simp_all [Z3, ZC, zu, WM, Z4, Z0, trF, ad7]
 ·exact bu h
 ·exact dH h.2
 ·exact zd h
 ·exact u7 h.1
def xI : List FS -> List FS -> List FS
 | [], _ => []
 | t :: l, x => ZC t (hd .no x) :: xI l (tl x)
def xW : List FS -> List FS -> Bool
 | [], [] => true
 | t :: l, x :: m => Z3 t x && xW l m
 | _, _ => false
theorem mB : ∀ {t x : List FS}, xW t x = true -> xI t x = x
 | [], [], _ => rfl
 | t :: l, x :: m, h => by
  simp only [xW, aj0] at h
  simp only [xI, hd, tl, OR h.1, mB h.2]
 | [], _ :: _, h => by cases h
 | _ :: _, [], h => by cases h
def Hc : List (List FS × Nat) -> List (List FS × Nat) -> List (List FS × Nat)
 | [], _ => []
 | t :: l, x => (xI t.1 (hd ([], 0) x).1, t.2) :: Hc l (tl x)
def Hu : List (List FS × Nat) -> List (List FS × Nat) -> Bool
 | [], [] => true
 | t :: l, x :: m => xW t.1 x.1 && Nat.beq t.2 x.2 && Hu l m
 | _, _ => false
theorem xV : ∀ {t x : List (List FS × Nat)}, Hu t x = true -> Hc t x = x
 | [], [], _ => rfl
 | t :: l, x :: m, h => by
  simp only [Hu, aj0] at h
  simp only [Hc, hd, tl, mB h.1.1, xV h.2, aj3 h.1.2]
 | [], _ :: _, h => by cases h
 | _ :: _, [], h => by cases h
def GF : List (Nat × Nat) -> List (Nat × Nat) -> Bool
 | [], [] => true
 | t :: l, x :: m => Nat.beq t.1 x.1 && Nat.beq t.2 x.2 && GF l m
 | _, _ => false
theorem BG : ∀ {t x : List (Nat × Nat)}, GF t x = true -> t = x
 | [], [], _ => rfl
 | t :: l, x :: m, h => by
  simp only [GF, aj0] at h
  rw [BG h.2, show t = x from Prod.ext (aj3 h.1.1) (aj3 h.1.2)]
 | [], _ :: _, h => by cases h
 | _ :: _, [], h => by cases h
def af : SV -> Int | .int _ n => n | .suf _ i => i | .elt _ _ i _ => i | .ref _ i _ => i | .fref _ i _ => i | _ => 0
def GE : SV -> Bool | .bool b => b | _ => false
def dV : SV -> ByteArray | .str b => b | _ => ByteArray.empty
def bF : SV -> Row | .sl _ r => r | .ref r _ _ => r | .fsl _ r => r | .fref r _ _ => r | _ => .bools []
def GH : SV -> List FS | .cref l _ => l | _ => []
def adl : SV -> List FS | .bfn _ l => l | _ => []
def sY : SV -> List (List FS × Nat) | .dfn _ c => c | _ => []
def trS : SV -> Tr | .tr _ T => T | .tra _ T _ => T | _ => .nil
def dD : SV -> SV -> SV
 | .int k _, x => .int k (af x)
 | .bool _, x => .bool (GE x)
 | .str _, x => .str (dV x)
 | .sl t r, x => .sl t (uS r (bF x))
 | .elt j z _ o, x => .elt j z (af x) o
 | .suf j _, x => .suf j (af x)
 | .ref r _ o, x => .ref (uS r (bF x)) (af x) o
 | .cref l o, x => .cref (xI l (GH x)) o
 | .dfn f c, x => .dfn f (Hc c (sY x))
 | .fsl t r, x => .fsl t (uS r (bF x))
 | .fref r _ o, x => .fref (uS r (bF x)) (af x) o
 | .tr b _, x => .tr b (trS x)
 | .tra b _ o, x => .tra b (trS x) o
 | .bfn f l, x => .bfn f (xI l (adl x))
 | t, _ => t
def jF : SV -> SV -> Bool
 | .int k _, .int k' _ => bI k k'
 | .bool _, .bool _ => true
 | .str _, .str _ => true
 | .ptr j o, .ptr j' o' => Nat.beq j j' && Nat.beq o o'
 | .row j, .row j' => Nat.beq j j'
 | .sl t r, .sl t' r' => Nat.beq t t' && u9 r r'
 | .elt j z _ o, .elt j' z' _ o' => Nat.beq j j' && (Nat.beq z z' && Nat.beq o o')
 | .suf j _, .suf j' _ => Nat.beq j j'
 | .ref r _ o, .ref r' _ o' => u9 r r' && Nat.beq o o'
 | .fn f c, .fn f' c' => Nat.beq f f' && GF c c'
 | .cref l o, .cref l' o' => xW l l' && Nat.beq o o'
 | .dfn f c, .dfn f' c' => Nat.beq f f' && Hu c c'
 | .mp j, .mp j' => Nat.beq j j'
 | .nilp, .nilp => true
 | .nilm, .nilm => true
 | .nilf, .nilf => true
 | .no, .no => true
 | .und, .und => true
 | .fsl t r, .fsl t' r' => Nat.beq t t' && u9 r r'
 | .fref r _ o, .fref r' _ o' => u9 r r' && Nat.beq o o'
 | .tr b _, .tr b' _ => eqB b b'
 | .tra b _ o, .tra b' _ o' => eqB b b' && Nat.beq o o'
 | .bfn f l, .bfn f' l' => Nat.beq f f' && xW l l'
 | _, _ => false
theorem CS {t x : SV} (h : jF t x = true) : dD t x = x := by
 cases t <;> cases x <;> first | (cases h; done) | rfl | skip
 ·simp only [jF] at h; simp only [dD, af, bu h]
 ·simp only [jF, aj0] at h; simp only [dD, aj3 h.1, aj3 h.2]
 ·simp only [jF] at h; simp only [dD, aj3 h]
 ·simp only [jF, aj0] at h; simp only [dD, bF, aj3 h.1, dH h.2]
 ·simp only [jF, aj0] at h; simp only [dD, af, aj3 h.1, aj3 h.2.1, aj3 h.2.2]
 ·simp only [jF, aj0] at h; simp only [dD, bF, af, dH h.1, aj3 h.2]
 ·simp only [jF, aj0] at h; simp only [dD, aj3 h.1, BG h.2]
 ·simp only [jF, aj0] at h; simp only [dD, GH, mB h.1, aj3 h.2]
 ·simp only [jF, aj0] at h; simp only [dD, sY, aj3 h.1, xV h.2]
 ·simp only [jF] at h; simp only [dD, aj3 h]
 ·simp only [jF, aj0] at h; simp only [dD, bF, aj3 h.1, dH h.2]
 ·simp only [jF, aj0] at h; simp only [dD, bF, af, dH h.1, aj3 h.2]
 ·simp only [jF] at h; simp only [dD, trS, zd h]
 ·simp only [jF, aj0] at h; simp only [dD, trS, zd h.1, aj3 h.2]
 ·simp only [jF, aj0] at h; simp only [dD, adl, aj3 h.1, mB h.2]
 ·simp only [jF] at h; simp only [dD, af, aj3 h]
def xJ : List SV -> List SV -> List SV
 | [], _ => []
 | t :: l, x => dD t (hd .und x) :: xJ l (tl x)
def xX : List SV -> List SV -> Bool
 | [], [] => true
 | t :: l, x :: m => jF t x && xX l m
 | _, _ => false
theorem mC : ∀ {t x : List SV}, xX t x = true -> xJ t x = x
 | [], [], _ => rfl
 | t :: l, x :: m, h => by
  simp only [xX, aj0] at h
  simp only [xJ, hd, tl, CS h.1, mC h.2]
 | [], _ :: _, h => by cases h
 | _ :: _, [], h => by cases h
def ah : AV -> SV | .one s => s | _ => .und
def adj : AV -> List SV | .agg l => l | _ => []
def Cw : AV -> AV -> AV
 | .one t, x => .one (dD t (ah x))
 | .agg l, x => .agg (xJ l (adj x))
def Z2 : AV -> AV -> Bool
 | .one t, .one x => jF t x
 | .agg l, .agg m => xX l m
 | _, _ => false
theorem CR {t x : AV} (h : Z2 t x = true) : Cw t x = x := by
 cases t <;> cases x <;> first | (cases h; done) | skip
 ·simp only [Cw, ah, CS h]
 ·simp only [Cw, adj, mC h]
def Ha : List AV -> List AV -> List AV
 | [], _ => []
 | t :: l, x => Cw t (hd (.one .und) x) :: Ha l (tl x)
def Hs : List AV -> List AV -> Bool
 | [], [] => true
 | t :: l, x :: m => Z2 t x && Hs l m
 | _, _ => false
theorem xT : ∀ {t x : List AV}, Hs t x = true -> Ha t x = x
 | [], [], _ => rfl
 | t :: l, x :: m, h => by
  simp only [Hs, aj0] at h
  simp only [Ha, hd, tl, CR h.1, xT h.2]
 | [], _ :: _, h => by cases h
 | _ :: _, [], h => by cases h
def vT : TV -> AV | .v x => x | _ => .one .und
def aen : TV -> List AV | .tup l => l | _ => []
def Hd : TV -> TV -> TV
 | .v t, x => .v (Cw t (vT x))
 | .tup l, x => .tup (Ha l (aen x))
def aee : TV -> TV -> Bool
 | .v t, .v x => Z2 t x
 | .tup l, .tup m => Hs l m
 | _, _ => false
theorem OT {t x : TV} (h : aee t x = true) : Hd t x = x := by
 cases t <;> cases x <;> first | (cases h; done) | skip
 ·simp only [Hd, vT, CR h]
 ·simp only [Hd, aen, xT h]
def He : List TV -> List TV -> List TV
 | [], _ => []
 | t :: l, x => Hd t (hd ac x) :: He l (tl x)
def Hv : List TV -> List TV -> Bool
 | [], [] => true
 | t :: l, x :: m => aee t x && Hv l m
 | _, _ => false
theorem xY : ∀ {t x : List TV}, Hv t x = true -> He t x = x
 | [], [], _ => rfl
 | t :: l, x :: m, h => by
  simp only [Hv, aj0] at h
  simp only [He, hd, tl, OT h.1, xY h.2]
 | [], _ :: _, h => by cases h
 | _ :: _, [], h => by cases h
def ak : Blk -> List SV | .cells _ l => l | .pcells _ _ l => l | _ => []
def bh : Blk -> Row | .row _ r => r | .prow _ _ r => r | .srow _ r => r | _ => .bools []
def mpB : Blk -> Mp | .mp _ l => l | .pmp _ _ l => l | _ => []
def jz : Blk -> Blk -> Blk
 | .cells t l, x => .cells t (xJ l (ak x))
 | .row t r, x => .row t (uS r (bh x))
 | .prow k t r, x => .prow k t (uS r (bh x))
 | .mp t _, x => .mp t (mpB x)
 | .pcells k t l, x => .pcells k t (xJ l (ak x))
 | .pmp k t _, x => .pmp k t (mpB x)
 | .dead, _ => .dead
 | .srow t r, x => .srow t (uS r (bh x))
def Aj : Blk -> Blk -> Bool
 | .cells t l, .cells t' l' => Nat.beq t t' && xX l l'
 | .row t r, .row t' r' => Nat.beq t t' && u9 r r'
 | .prow k t r, .prow k' t' r' => Nat.beq k k' && (Nat.beq t t' && u9 r r')
 | .mp t _, .mp t' _ => nN t t'
 | .pcells k t l, .pcells k' t' l' => Nat.beq k k' && (Nat.beq t t' && xX l l')
 | .pmp k t _, .pmp k' t' _ => Nat.beq k k' && nN t t'
 | .dead, .dead => true
 | .srow t r, .srow t' r' => Nat.beq t t' && u9 r r'
 | _, _ => false
theorem OQ {t x : Blk} (h : Aj t x = true) : jz t x = x := by
 cases t <;> cases x <;> first | (cases h; done) | rfl | skip
 ·simp only [Aj, aj0] at h; simp only [jz, ak, aj3 h.1, mC h.2]
 ·simp only [Aj, aj0] at h; simp only [jz, bh, aj3 h.1, dH h.2]
 ·simp only [Aj, aj0] at h; simp only [jz, bh, aj3 h.1, aj3 h.2.1, dH h.2.2]
 ·simp only [Aj] at h; simp only [jz, mpB, iL h]
 ·simp only [Aj, aj0] at h; simp only [jz, ak, aj3 h.1, aj3 h.2.1, mC h.2.2]
 ·simp only [Aj, aj0] at h; simp only [jz, mpB, aj3 h.1, iL h.2]
 ·simp only [Aj, aj0] at h; simp only [jz, bh, aj3 h.1, dH h.2]
def Hb : List Blk -> List Blk -> List Blk
 | [], _ => []
 | t :: l, x => jz t (hd .dead x) :: Hb l (tl x)
def Ht : List Blk -> List Blk -> Bool
 | [], [] => true
 | t :: l, x :: m => Aj t x && Ht l m
 | _, _ => false
theorem xU : ∀ {t x : List Blk}, Ht t x = true -> Hb t x = x
 | [], [], _ => rfl
 | t :: l, x :: m, h => by
  simp only [Ht, aj0] at h
  simp only [Hb, hd, tl, OQ h.1, xU h.2]
 | [], _ :: _, h => by cases h
 | _ :: _, [], h => by cases h
def aP (t x : St) : St := ⟨He t.tmps x.tmps, Hb t.blks x.blks⟩
def aJ (t x : St) : Bool := Hv t.tmps x.tmps && Ht t.blks x.blks
theorem ar {t x : St} (h : aJ t x = true) : aP t x = x := by
 simp only [aJ, aj0] at h
 simp only [aP, xY h.1, xU h.2]
end Go.Rv
