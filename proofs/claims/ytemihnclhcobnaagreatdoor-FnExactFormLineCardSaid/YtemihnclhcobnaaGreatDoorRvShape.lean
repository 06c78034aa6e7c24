/- Shapes of states: that a state has a shape, what stands in its places, and that it is the shape filled with these. -/
import Derived.Test.YtemihnclhcobnaaGreatDoorRvUse
namespace Go.Rv
set_option linter.unusedSimpArgs false
def hd {α : Type} (d : α) : List α → α | [] => d | x :: _ => x
def tl {α : Type} : List α → List α | [] => [] | _ :: l => l
def nx {α : Type} (d : α) (l : List α) : Nat → α
 | 0 => hd d l
 | n + 1 => nx d (tl l) n
def aY : Row → List Int | .ints _ l => l | _ => []
def JX : Row → List ByteArray | .strs l => l | _ => []
def JW : Row → List Bool | .bools l => l | _ => []
def aL : Row → List (Int × Int) | .pairs l => l | _ => []
def JY : Row → List (Int × Int × Int) | .trips l => l | _ => []
def fZ : Row → List (List Int) | .lists _ l => l | _ => []
def sf : Row → Row → Row
 | .ints k _, x => .ints k (aY x)
 | .strs _, x => .strs (JX x)
 | .bools _, x => .bools (JW x)
 | .pairs _, x => .pairs (aL x)
 | .trips _, x => .trips (JY x)
 | .lists e _, x => .lists e (fZ x)
def su : Row → Row → Bool
 | .ints k _, .ints k' _ => bD k k'
 | .strs _, .strs _ => true
 | .bools _, .bools _ => true
 | .pairs _, .pairs _ => true
 | .trips _, .trips _ => true
 | .lists e _, .lists e' _ => Nat.beq e e'
 | _, _ => false
theorem dq {t r : Row} (h : su t r = true) : sf t r = r := by
 cases t <;> cases r <;> simp_all [su, sf, aY, JX, JW, aL, JY, fZ]
 exact br h
def J0 : FSf → FSf → FSf
 | .int k _, x => .int k (match x with | .int _ n => n | _ => 0)
 | .bool _, x => .bool (match x with | .bool b => b | _ => false)
 | .str _, x => .str (match x with | .str b => b | _ => ByteArray.empty)
 | .sl t r, x => .sl t (sf r (match x with | .sl _ r => r | _ => .bools []))
 | .tr b _, x => .tr b (match x with | .tr _ T => T | _ => .nil)
 | t, _ => t
def Wz : FS → List FSf | .ptr l _ => l | _ => []
def wy : FS → Int | .int _ n => n | _ => 0
def Q1 : FS → Bool | .bool b => b | _ => false
def WM : FS → ByteArray | .str b => b | _ => ByteArray.empty
def Tj : FS → Row | .sl _ r => r | _ => .bools []
def trF : FS → Tr | .tr _ T => T | _ => .nil
def wX : List FSf → List FSf → List FSf
 | [], _ => []
 | t :: l, x => J0 t (hd .no x) :: wX l (tl x)
def S3 : FS → FS → FS
 | .int k _, x => .int k (wy x)
 | .bool _, x => .bool (Q1 x)
 | .str _, x => .str (WM x)
 | .sl t r, x => .sl t (sf r (Tj x))
 | .tr b _, x => .tr b (trF x)
 | .ptr l o, x => .ptr (wX l (Wz x)) o
 | t, _ => t
def eqB : Bool → Bool → Bool
 | true, true => true
 | false, false => true
 | _, _ => false
theorem wg : ∀ {a b : Bool}, eqB a b = true → a = b
 | true, true, _ => rfl
 | false, false, _ => rfl
def Ko : FSf → FSf → Bool
 | .int k _, .int k' _ => bD k k'
 | .bool _, .bool _ => true
 | .str _, .str _ => true
 | .sl t r, .sl t' r' => Nat.beq t t' && su r r'
 | .fn f, .fn f' => Nat.beq f f'
 | .no, .no => true
 | .tr b _, .tr b' _ => eqB b b'
 | _, _ => false
theorem G0 {t x : FSf} (h : Ko t x = true) : J0 t x = x := by
 cases t <;> cases x <;> simp_all [Ko, J0]
 ·exact br h
 ·exact dq h.2
 ·exact wg h
def xf : List FSf → List FSf → Bool
 | [], [] => true
 | t :: l, x :: m => Ko t x && xf l m
 | _, _ => false
theorem ss : ∀ {t x : List FSf}, xf t x = true → wX t x = x
 | [], [], _ => rfl
 | t :: l, x :: m, h => by
  simp only [xf, Yz] at h
  simp only [wX, hd, tl, G0 h.1, ss h.2]
 | [], _ :: _, h => by cases h
 | _ :: _, [], h => by cases h
def Tm : FS → FS → Bool
 | .int k _, .int k' _ => bD k k'
 | .bool _, .bool _ => true
 | .str _, .str _ => true
 | .sl t r, .sl t' r' => Nat.beq t t' && su r r'
 | .fn f, .fn f' => Nat.beq f f'
 | .no, .no => true
 | .tr b _, .tr b' _ => eqB b b'
 | .ptr l o, .ptr l' o' => xf l l' && Nat.beq o o'
 | _, _ => false
theorem Kn {t x : FS} (h : Tm t x = true) : S3 t x = x := by
 cases t <;> cases x <;> simp_all [Tm, S3, wy, Q1, WM, Tj, trF, Wz]
 ·exact br h
 ·exact dq h.2
 ·exact wg h
 ·exact ss h.1
def uT : List FS → List FS → List FS
 | [], _ => []
 | t :: l, x => S3 t (hd .no x) :: uT l (tl x)
def vd : List FS → List FS → Bool
 | [], [] => true
 | t :: l, x :: m => Tm t x && vd l m
 | _, _ => false
theorem lD : ∀ {t x : List FS}, vd t x = true → uT t x = x
 | [], [], _ => rfl
 | t :: l, x :: m, h => by
  simp only [vd, Yz] at h
  simp only [uT, hd, tl, Kn h.1, lD h.2]
 | [], _ :: _, h => by cases h
 | _ :: _, [], h => by cases h
def DY : List (List FS × Nat) → List (List FS × Nat) → List (List FS × Nat)
 | [], _ => []
 | t :: l, x => (uT t.1 (hd ([], 0) x).1, t.2) :: DY l (tl x)
def Eh : List (List FS × Nat) → List (List FS × Nat) → Bool
 | [], [] => true
 | t :: l, x :: m => vd t.1 x.1 && Nat.beq t.2 x.2 && Eh l m
 | _, _ => false
theorem vc : ∀ {t x : List (List FS × Nat)}, Eh t x = true → DY t x = x
 | [], [], _ => rfl
 | t :: l, x :: m, h => by
  simp only [Eh, Yz] at h
  simp only [DY, hd, tl, lD h.1.1, vc h.2, YA h.1.2]
 | [], _ :: _, h => by cases h
 | _ :: _, [], h => by cases h
def Dt : List (Nat × Nat) → List (Nat × Nat) → Bool
 | [], [] => true
 | t :: l, x :: m => Nat.beq t.1 x.1 && Nat.beq t.2 x.2 && Dt l m
 | _, _ => false
theorem yA : ∀ {t x : List (Nat × Nat)}, Dt t x = true → t = x
 | [], [], _ => rfl
 | t :: l, x :: m, h => by
  simp only [Dt, Yz] at h
  rw [yA h.2, show t = x from Prod.ext (YA h.1.1) (YA h.1.2)]
 | [], _ :: _, h => by cases h
 | _ :: _, [], h => by cases h
def ae : SV → Int | .int _ n => n | .suf _ i => i | .elt _ _ i _ => i | .ref _ i _ => i | .fref _ i _ => i | _ => 0
def o0 : SV → Bool | .bool b => b | _ => false
def G4 : SV → ByteArray | .str b => b | _ => ByteArray.empty
def bg : SV → Row | .sl _ r => r | .ref r _ _ => r | .fsl _ r => r | .fref r _ _ => r | _ => .bools []
def Dv : SV → List FS | .cref l _ => l | _ => []
def V2 : SV → List FS | .bfn _ l => l | _ => []
def yH : SV → List (List FS × Nat) | .dfn _ c => c | _ => []
def trS : SV → Tr | .tr _ T => T | .tra _ T _ => T | _ => .nil
def dm : SV → SV → SV
 | .int k _, x => .int k (ae x)
 | .bool _, x => .bool (o0 x)
 | .str _, x => .str (G4 x)
 | .sl t r, x => .sl t (sf r (bg x))
 | .elt j z _ o, x => .elt j z (ae x) o
 | .suf j _, x => .suf j (ae x)
 | .ref r _ o, x => .ref (sf r (bg x)) (ae x) o
 | .cref l o, x => .cref (uT l (Dv x)) o
 | .dfn f c, x => .dfn f (DY c (yH x))
 | .fsl t r, x => .fsl t (sf r (bg x))
 | .fref r _ o, x => .fref (sf r (bg x)) (ae x) o
 | .tr b _, x => .tr b (trS x)
 | .tra b _ o, x => .tra b (trS x) o
 | .bfn f l, x => .bfn f (uT l (V2 x))
 | t, _ => t
def iW : SV → SV → Bool
 | .int k _, .int k' _ => bD k k'
 | .bool _, .bool _ => true
 | .str _, .str _ => true
 | .ptr j o, .ptr j' o' => Nat.beq j j' && Nat.beq o o'
 | .row j, .row j' => Nat.beq j j'
 | .sl t r, .sl t' r' => Nat.beq t t' && su r r'
 | .elt j z _ o, .elt j' z' _ o' => Nat.beq j j' && (Nat.beq z z' && Nat.beq o o')
 | .suf j _, .suf j' _ => Nat.beq j j'
 | .ref r _ o, .ref r' _ o' => su r r' && Nat.beq o o'
 | .fn f c, .fn f' c' => Nat.beq f f' && Dt c c'
 | .cref l o, .cref l' o' => vd l l' && Nat.beq o o'
 | .dfn f c, .dfn f' c' => Nat.beq f f' && Eh c c'
 | .mp j, .mp j' => Nat.beq j j'
 | .nilp, .nilp => true
 | .nilm, .nilm => true
 | .nilf, .nilf => true
 | .no, .no => true
 | .und, .und => true
 | .fsl t r, .fsl t' r' => Nat.beq t t' && su r r'
 | .fref r _ o, .fref r' _ o' => su r r' && Nat.beq o o'
 | .tr b _, .tr b' _ => eqB b b'
 | .tra b _ o, .tra b' _ o' => eqB b b' && Nat.beq o o'
 | .bfn f l, .bfn f' l' => Nat.beq f f' && vd l l'
 | _, _ => false
theorem z8 {t x : SV} (h : iW t x = true) : dm t x = x := by
 cases t <;> cases x <;> first | (cases h; done) | rfl | skip
 ·simp only [iW] at h; simp only [dm, ae, br h]
 ·simp only [iW, Yz] at h; simp only [dm, YA h.1, YA h.2]
 ·simp only [iW] at h; simp only [dm, YA h]
 ·simp only [iW, Yz] at h; simp only [dm, bg, YA h.1, dq h.2]
 ·simp only [iW, Yz] at h; simp only [dm, ae, YA h.1, YA h.2.1, YA h.2.2]
 ·simp only [iW, Yz] at h; simp only [dm, bg, ae, dq h.1, YA h.2]
 ·simp only [iW, Yz] at h; simp only [dm, YA h.1, yA h.2]
 ·simp only [iW, Yz] at h; simp only [dm, Dv, lD h.1, YA h.2]
 ·simp only [iW, Yz] at h; simp only [dm, yH, YA h.1, vc h.2]
 ·simp only [iW] at h; simp only [dm, YA h]
 ·simp only [iW, Yz] at h; simp only [dm, bg, YA h.1, dq h.2]
 ·simp only [iW, Yz] at h; simp only [dm, bg, ae, dq h.1, YA h.2]
 ·simp only [iW] at h; simp only [dm, trS, wg h]
 ·simp only [iW, Yz] at h; simp only [dm, trS, wg h.1, YA h.2]
 ·simp only [iW, Yz] at h; simp only [dm, V2, YA h.1, lD h.2]
 ·simp only [iW] at h; simp only [dm, ae, YA h]
def uU : List SV → List SV → List SV
 | [], _ => []
 | t :: l, x => dm t (hd .und x) :: uU l (tl x)
def ve : List SV → List SV → Bool
 | [], [] => true
 | t :: l, x :: m => iW t x && ve l m
 | _, _ => false
theorem lE : ∀ {t x : List SV}, ve t x = true → uU t x = x
 | [], [], _ => rfl
 | t :: l, x :: m, h => by
  simp only [ve, Yz] at h
  simp only [uU, hd, tl, z8 h.1, lE h.2]
 | [], _ :: _, h => by cases h
 | _ :: _, [], h => by cases h
def ag : AV → SV | .one s => s | _ => .und
def VZ : AV → List SV | .agg l => l | _ => []
def zF : AV → AV → AV
 | .one t, x => .one (dm t (ag x))
 | .agg l, x => .agg (uU l (VZ x))
def Tl : AV → AV → Bool
 | .one t, .one x => iW t x
 | .agg l, .agg m => ve l m
 | _, _ => false
theorem zZ {t x : AV} (h : Tl t x = true) : zF t x = x := by
 cases t <;> cases x <;> first | (cases h; done) | skip
 ·simp only [zF, ag, z8 h]
 ·simp only [zF, VZ, lE h]
def DW : List AV → List AV → List AV
 | [], _ => []
 | t :: l, x => zF t (hd (.one .und) x) :: DW l (tl x)
def Ef : List AV → List AV → Bool
 | [], [] => true
 | t :: l, x :: m => Tl t x && Ef l m
 | _, _ => false
theorem u7 : ∀ {t x : List AV}, Ef t x = true → DW t x = x
 | [], [], _ => rfl
 | t :: l, x :: m, h => by
  simp only [Ef, Yz] at h
  simp only [DW, hd, tl, zZ h.1, u7 h.2]
 | [], _ :: _, h => by cases h
 | _ :: _, [], h => by cases h
def vT : TV → AV | .v x => x | _ => .one .und
def WO : TV → List AV | .tup l => l | _ => []
def DZ : TV → TV → TV
 | .v t, x => .v (zF t (vT x))
 | .tup l, x => .tup (DW l (WO x))
def WF : TV → TV → Bool
 | .v t, .v x => Tl t x
 | .tup l, .tup m => Ef l m
 | _, _ => false
theorem Kp {t x : TV} (h : WF t x = true) : DZ t x = x := by
 cases t <;> cases x <;> first | (cases h; done) | skip
 ·simp only [DZ, vT, zZ h]
 ·simp only [DZ, WO, u7 h]
def D0 : List TV → List TV → List TV
 | [], _ => []
 | t :: l, x => DZ t (hd ac x) :: D0 l (tl x)
def Ei : List TV → List TV → Bool
 | [], [] => true
 | t :: l, x :: m => WF t x && Ei l m
 | _, _ => false
theorem vf : ∀ {t x : List TV}, Ei t x = true → D0 t x = x
 | [], [], _ => rfl
 | t :: l, x :: m, h => by
  simp only [Ei, Yz] at h
  simp only [D0, hd, tl, Kp h.1, vf h.2]
 | [], _ :: _, h => by cases h
 | _ :: _, [], h => by cases h
def ao : Blk → List SV | .cells _ l => l | .pcells _ _ l => l | _ => []
def aV : Blk → Row | .row _ r => r | .prow _ _ r => r | .srow _ r => r | _ => .bools []
def mpB : Blk → Mp | .mp _ l => l | .pmp _ _ l => l | _ => []
def iQ : Blk → Blk → Blk
 | .cells t l, x => .cells t (uU l (ao x))
 | .row t r, x => .row t (sf r (aV x))
 | .prow k t r, x => .prow k t (sf r (aV x))
 | .mp t _, x => .mp t (mpB x)
 | .pcells k t l, x => .pcells k t (uU l (ao x))
 | .pmp k t _, x => .pmp k t (mpB x)
 | .dead, _ => .dead
 | .srow t r, x => .srow t (sf r (aV x))
def xe : Blk → Blk → Bool
 | .cells t l, .cells t' l' => Nat.beq t t' && ve l l'
 | .row t r, .row t' r' => Nat.beq t t' && su r r'
 | .prow k t r, .prow k' t' r' => Nat.beq k k' && (Nat.beq t t' && su r r')
 | .mp t _, .mp t' _ => mD t t'
 | .pcells k t l, .pcells k' t' l' => Nat.beq k k' && (Nat.beq t t' && ve l l')
 | .pmp k t _, .pmp k' t' _ => Nat.beq k k' && mD t t'
 | .dead, .dead => true
 | .srow t r, .srow t' r' => Nat.beq t t' && su r r'
 | _, _ => false
theorem Km {t x : Blk} (h : xe t x = true) : iQ t x = x := by
 cases t <;> cases x <;> first | (cases h; done) | rfl | skip
 ·simp only [xe, Yz] at h; simp only [iQ, ao, YA h.1, lE h.2]
 ·simp only [xe, Yz] at h; simp only [iQ, aV, YA h.1, dq h.2]
 ·simp only [xe, Yz] at h; simp only [iQ, aV, YA h.1, YA h.2.1, dq h.2.2]
 ·simp only [xe] at h; simp only [iQ, mpB, ib h]
 ·simp only [xe, Yz] at h; simp only [iQ, ao, YA h.1, YA h.2.1, lE h.2.2]
 ·simp only [xe, Yz] at h; simp only [iQ, mpB, YA h.1, ib h.2]
 ·simp only [xe, Yz] at h; simp only [iQ, aV, YA h.1, dq h.2]
def DX : List Blk → List Blk → List Blk
 | [], _ => []
 | t :: l, x => iQ t (hd .dead x) :: DX l (tl x)
def Eg : List Blk → List Blk → Bool
 | [], [] => true
 | t :: l, x :: m => xe t x && Eg l m
 | _, _ => false
theorem u9 : ∀ {t x : List Blk}, Eg t x = true → DX t x = x
 | [], [], _ => rfl
 | t :: l, x :: m, h => by
  simp only [Eg, Yz] at h
  simp only [DX, hd, tl, Km h.1, u9 h.2]
 | [], _ :: _, h => by cases h
 | _ :: _, [], h => by cases h
def aT (t x : St) : St := ⟨D0 t.tmps x.tmps, DX t.blks x.blks⟩
def aK (t x : St) : Bool := Ei t.tmps x.tmps && Eg t.blks x.blks
theorem ar {t x : St} (h : aK t x = true) : aT t x = x := by
 simp only [aK, Yz] at h
 simp only [aT, vf h.1, u9 h.2]
end Go.Rv
