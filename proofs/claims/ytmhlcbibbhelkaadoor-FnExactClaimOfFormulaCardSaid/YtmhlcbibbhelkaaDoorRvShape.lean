/- Shapes of states: that a state has a shape, what stands in its places, and that it is the shape filled with these. -/
import Derived.Test.YtmhlcbibbhelkaaDoorRvThaw
namespace Go.Rv
def hd {α : Type} (d : α) : List α → α | [] => d | x :: _ => x
def tl {α : Type} : List α → List α | [] => [] | _ :: l => l
def nx {α : Type} (d : α) (l : List α) : Nat → α
  | 0 => hd d l
  | n + 1 => nx d (tl l) n
def rInts : Row → List Int | .ints _ l => l | _ => []
def rStrs : Row → List ByteArray | .strs l => l | _ => []
def rBools : Row → List Bool | .bools l => l | _ => []
def rPairs : Row → List (Int × Int) | .pairs l => l | _ => []
def rTrips : Row → List (Int × Int × Int) | .trips l => l | _ => []
def rLists : Row → List (List Int) | .lists _ l => l | _ => []
def refR : Row → Row → Row
  | .ints k _, x => .ints k (rInts x)
  | .strs _, x => .strs (rStrs x)
  | .bools _, x => .bools (rBools x)
  | .pairs _, x => .pairs (rPairs x)
  | .trips _, x => .trips (rTrips x)
  | .lists e _, x => .lists e (rLists x)
def shpR : Row → Row → Bool
  | .ints k _, .ints k' _ => sameKind k k'
  | .strs _, .strs _ => true
  | .bools _, .bools _ => true
  | .pairs _, .pairs _ => true
  | .trips _, .trips _ => true
  | .lists e _, .lists e' _ => Nat.beq e e'
  | _, _ => false
theorem shpR_ref {t r : Row} (h : shpR t r = true) : refR t r = r := by
  cases t <;> cases r <;> simp_all [shpR, refR, rInts, rStrs, rBools, rPairs, rTrips, rLists]
  exact sameKind_eq h
def refFf : FSf → FSf → FSf
  | .int k _, x => .int k (match x with | .int _ n => n | _ => 0)
  | .bool _, x => .bool (match x with | .bool b => b | _ => false)
  | .str _, x => .str (match x with | .str b => b | _ => ByteArray.empty)
  | .sl t r, x => .sl t (refR r (match x with | .sl _ r => r | _ => .bools []))
  | .tr b _, x => .tr b (match x with | .tr _ T => T | _ => .nil)
  | t, _ => t
def ptrF : FS → List FSf | .ptr l _ => l | _ => []
def intF : FS → Int | .int _ n => n | _ => 0
def boolF : FS → Bool | .bool b => b | _ => false
def strF : FS → ByteArray | .str b => b | _ => ByteArray.empty
def rowF : FS → Row | .sl _ r => r | _ => .bools []
def trF : FS → Tr | .tr _ T => T | _ => .nil
def refFfs : List FSf → List FSf → List FSf
  | [], _ => []
  | t :: l, x => refFf t (hd .no x) :: refFfs l (tl x)
def refF : FS → FS → FS
  | .int k _, x => .int k (intF x)
  | .bool _, x => .bool (boolF x)
  | .str _, x => .str (strF x)
  | .sl t r, x => .sl t (refR r (rowF x))
  | .tr b _, x => .tr b (trF x)
  | .ptr l o, x => .ptr (refFfs l (ptrF x)) o
  | t, _ => t
def eqB : Bool → Bool → Bool
  | true, true => true
  | false, false => true
  | _, _ => false
theorem eqB_eq : ∀ {a b : Bool}, eqB a b = true → a = b
  | true, true, _ => rfl
  | false, false, _ => rfl
def shpFf : FSf → FSf → Bool
  | .int k _, .int k' _ => sameKind k k'
  | .bool _, .bool _ => true
  | .str _, .str _ => true
  | .sl t r, .sl t' r' => Nat.beq t t' && shpR r r'
  | .fn f, .fn f' => Nat.beq f f'
  | .no, .no => true
  | .tr b _, .tr b' _ => eqB b b'
  | _, _ => false
theorem shpFf_ref {t x : FSf} (h : shpFf t x = true) : refFf t x = x := by
  cases t <;> cases x <;> simp_all [shpFf, refFf]
  · exact sameKind_eq h
  · exact shpR_ref h.2
  · exact eqB_eq h
def shpFfs : List FSf → List FSf → Bool
  | [], [] => true
  | t :: l, x :: m => shpFf t x && shpFfs l m
  | _, _ => false
theorem shpFfs_ref : ∀ {t x : List FSf}, shpFfs t x = true → refFfs t x = x
  | [], [], _ => rfl
  | t :: l, x :: m, h => by
    simp only [shpFfs, Bool.and_eq_true] at h
    simp only [refFfs, hd, tl, shpFf_ref h.1, shpFfs_ref h.2]
  | [], _ :: _, h => by cases h
  | _ :: _, [], h => by cases h
def shpF : FS → FS → Bool
  | .int k _, .int k' _ => sameKind k k'
  | .bool _, .bool _ => true
  | .str _, .str _ => true
  | .sl t r, .sl t' r' => Nat.beq t t' && shpR r r'
  | .fn f, .fn f' => Nat.beq f f'
  | .no, .no => true
  | .tr b _, .tr b' _ => eqB b b'
  | .ptr l o, .ptr l' o' => shpFfs l l' && Nat.beq o o'
  | _, _ => false
theorem shpF_ref {t x : FS} (h : shpF t x = true) : refF t x = x := by
  cases t <;> cases x <;> simp_all [shpF, refF, intF, boolF, strF, rowF, trF, ptrF]
  · exact sameKind_eq h
  · exact shpR_ref h.2
  · exact eqB_eq h
  · exact shpFfs_ref h.1
def refFs : List FS → List FS → List FS
  | [], _ => []
  | t :: l, x => refF t (hd .no x) :: refFs l (tl x)
def shpFs : List FS → List FS → Bool
  | [], [] => true
  | t :: l, x :: m => shpF t x && shpFs l m
  | _, _ => false
theorem shpFs_ref : ∀ {t x : List FS}, shpFs t x = true → refFs t x = x
  | [], [], _ => rfl
  | t :: l, x :: m, h => by
    simp only [shpFs, Bool.and_eq_true] at h
    simp only [refFs, hd, tl, shpF_ref h.1, shpFs_ref h.2]
  | [], _ :: _, h => by cases h
  | _ :: _, [], h => by cases h
def refCs : List (List FS × Nat) → List (List FS × Nat) → List (List FS × Nat)
  | [], _ => []
  | t :: l, x => (refFs t.1 (hd ([], 0) x).1, t.2) :: refCs l (tl x)
def shpCs : List (List FS × Nat) → List (List FS × Nat) → Bool
  | [], [] => true
  | t :: l, x :: m => shpFs t.1 x.1 && Nat.beq t.2 x.2 && shpCs l m
  | _, _ => false
theorem shpCs_ref : ∀ {t x : List (List FS × Nat)}, shpCs t x = true → refCs t x = x
  | [], [], _ => rfl
  | t :: l, x :: m, h => by
    simp only [shpCs, Bool.and_eq_true] at h
    simp only [refCs, hd, tl, shpFs_ref h.1.1, shpCs_ref h.2, Nat.eq_of_beq_eq_true h.1.2]
  | [], _ :: _, h => by cases h
  | _ :: _, [], h => by cases h
def capsB : List (Nat × Nat) → List (Nat × Nat) → Bool
  | [], [] => true
  | t :: l, x :: m => Nat.beq t.1 x.1 && Nat.beq t.2 x.2 && capsB l m
  | _, _ => false
theorem capsB_eq : ∀ {t x : List (Nat × Nat)}, capsB t x = true → t = x
  | [], [], _ => rfl
  | t :: l, x :: m, h => by
    simp only [capsB, Bool.and_eq_true] at h
    rw [capsB_eq h.2, show t = x from Prod.ext (Nat.eq_of_beq_eq_true h.1.1) (Nat.eq_of_beq_eq_true h.1.2)]
  | [], _ :: _, h => by cases h
  | _ :: _, [], h => by cases h
def intS : SV → Int | .int _ n => n | .suf _ i => i | .elt _ _ i _ => i | .ref _ i _ => i | .fref _ i _ => i | _ => 0
def boolS : SV → Bool | .bool b => b | _ => false
def strS : SV → ByteArray | .str b => b | _ => ByteArray.empty
def rowV : SV → Row | .sl _ r => r | .ref r _ _ => r | .fsl _ r => r | .fref r _ _ => r | _ => .bools []
def crefS : SV → List FS | .cref l _ => l | _ => []
def bfnS : SV → List FS | .bfn _ l => l | _ => []
def dfnS : SV → List (List FS × Nat) | .dfn _ c => c | _ => []
def trS : SV → Tr | .tr _ T => T | .tra _ T _ => T | _ => .nil
def refSV : SV → SV → SV
  | .int k _, x => .int k (intS x)
  | .bool _, x => .bool (boolS x)
  | .str _, x => .str (strS x)
  | .sl t r, x => .sl t (refR r (rowV x))
  | .elt j z _ o, x => .elt j z (intS x) o
  | .suf j _, x => .suf j (intS x)
  | .ref r _ o, x => .ref (refR r (rowV x)) (intS x) o
  | .cref l o, x => .cref (refFs l (crefS x)) o
  | .dfn f c, x => .dfn f (refCs c (dfnS x))
  | .fsl t r, x => .fsl t (refR r (rowV x))
  | .fref r _ o, x => .fref (refR r (rowV x)) (intS x) o
  | .tr b _, x => .tr b (trS x)
  | .tra b _ o, x => .tra b (trS x) o
  | .bfn f l, x => .bfn f (refFs l (bfnS x))
  | t, _ => t
def shpS : SV → SV → Bool
  | .int k _, .int k' _ => sameKind k k'
  | .bool _, .bool _ => true
  | .str _, .str _ => true
  | .ptr j o, .ptr j' o' => Nat.beq j j' && Nat.beq o o'
  | .row j, .row j' => Nat.beq j j'
  | .sl t r, .sl t' r' => Nat.beq t t' && shpR r r'
  | .elt j z _ o, .elt j' z' _ o' => Nat.beq j j' && (Nat.beq z z' && Nat.beq o o')
  | .suf j _, .suf j' _ => Nat.beq j j'
  | .ref r _ o, .ref r' _ o' => shpR r r' && Nat.beq o o'
  | .fn f c, .fn f' c' => Nat.beq f f' && capsB c c'
  | .cref l o, .cref l' o' => shpFs l l' && Nat.beq o o'
  | .dfn f c, .dfn f' c' => Nat.beq f f' && shpCs c c'
  | .mp j, .mp j' => Nat.beq j j'
  | .nilp, .nilp => true
  | .nilm, .nilm => true
  | .nilf, .nilf => true
  | .no, .no => true
  | .und, .und => true
  | .fsl t r, .fsl t' r' => Nat.beq t t' && shpR r r'
  | .fref r _ o, .fref r' _ o' => shpR r r' && Nat.beq o o'
  | .tr b _, .tr b' _ => eqB b b'
  | .tra b _ o, .tra b' _ o' => eqB b b' && Nat.beq o o'
  | .bfn f l, .bfn f' l' => Nat.beq f f' && shpFs l l'
  | _, _ => false
theorem shpS_ref {t x : SV} (h : shpS t x = true) : refSV t x = x := by
  cases t <;> cases x <;> first | (cases h; done) | rfl | skip
  · simp only [shpS] at h; simp only [refSV, intS, sameKind_eq h]
  · simp only [shpS, Bool.and_eq_true] at h; simp only [refSV, Nat.eq_of_beq_eq_true h.1, Nat.eq_of_beq_eq_true h.2]
  · simp only [shpS] at h; simp only [refSV, Nat.eq_of_beq_eq_true h]
  · simp only [shpS, Bool.and_eq_true] at h; simp only [refSV, rowV, Nat.eq_of_beq_eq_true h.1, shpR_ref h.2]
  · simp only [shpS, Bool.and_eq_true] at h; simp only [refSV, intS, Nat.eq_of_beq_eq_true h.1, Nat.eq_of_beq_eq_true h.2.1, Nat.eq_of_beq_eq_true h.2.2]
  · simp only [shpS, Bool.and_eq_true] at h; simp only [refSV, rowV, intS, shpR_ref h.1, Nat.eq_of_beq_eq_true h.2]
  · simp only [shpS, Bool.and_eq_true] at h; simp only [refSV, Nat.eq_of_beq_eq_true h.1, capsB_eq h.2]
  · simp only [shpS, Bool.and_eq_true] at h; simp only [refSV, crefS, shpFs_ref h.1, Nat.eq_of_beq_eq_true h.2]
  · simp only [shpS, Bool.and_eq_true] at h; simp only [refSV, dfnS, Nat.eq_of_beq_eq_true h.1, shpCs_ref h.2]
  · simp only [shpS] at h; simp only [refSV, Nat.eq_of_beq_eq_true h]
  · simp only [shpS, Bool.and_eq_true] at h; simp only [refSV, rowV, Nat.eq_of_beq_eq_true h.1, shpR_ref h.2]
  · simp only [shpS, Bool.and_eq_true] at h; simp only [refSV, rowV, intS, shpR_ref h.1, Nat.eq_of_beq_eq_true h.2]
  · simp only [shpS] at h; simp only [refSV, trS, eqB_eq h]
  · simp only [shpS, Bool.and_eq_true] at h; simp only [refSV, trS, eqB_eq h.1, Nat.eq_of_beq_eq_true h.2]
  · simp only [shpS, Bool.and_eq_true] at h; simp only [refSV, bfnS, Nat.eq_of_beq_eq_true h.1, shpFs_ref h.2]
  · simp only [shpS] at h; simp only [refSV, intS, Nat.eq_of_beq_eq_true h]
def refSs : List SV → List SV → List SV
  | [], _ => []
  | t :: l, x => refSV t (hd .und x) :: refSs l (tl x)
def shpSs : List SV → List SV → Bool
  | [], [] => true
  | t :: l, x :: m => shpS t x && shpSs l m
  | _, _ => false
theorem shpSs_ref : ∀ {t x : List SV}, shpSs t x = true → refSs t x = x
  | [], [], _ => rfl
  | t :: l, x :: m, h => by
    simp only [shpSs, Bool.and_eq_true] at h
    simp only [refSs, hd, tl, shpS_ref h.1, shpSs_ref h.2]
  | [], _ :: _, h => by cases h
  | _ :: _, [], h => by cases h
def oneA : AV → SV | .one s => s | _ => .und
def aggA : AV → List SV | .agg l => l | _ => []
def refAV : AV → AV → AV
  | .one t, x => .one (refSV t (oneA x))
  | .agg l, x => .agg (refSs l (aggA x))
def shpA : AV → AV → Bool
  | .one t, .one x => shpS t x
  | .agg l, .agg m => shpSs l m
  | _, _ => false
theorem shpA_ref {t x : AV} (h : shpA t x = true) : refAV t x = x := by
  cases t <;> cases x <;> first | (cases h; done) | skip
  · simp only [refAV, oneA, shpS_ref h]
  · simp only [refAV, aggA, shpSs_ref h]
def refAs : List AV → List AV → List AV
  | [], _ => []
  | t :: l, x => refAV t (hd (.one .und) x) :: refAs l (tl x)
def shpAs : List AV → List AV → Bool
  | [], [] => true
  | t :: l, x :: m => shpA t x && shpAs l m
  | _, _ => false
theorem shpAs_ref : ∀ {t x : List AV}, shpAs t x = true → refAs t x = x
  | [], [], _ => rfl
  | t :: l, x :: m, h => by
    simp only [shpAs, Bool.and_eq_true] at h
    simp only [refAs, hd, tl, shpA_ref h.1, shpAs_ref h.2]
  | [], _ :: _, h => by cases h
  | _ :: _, [], h => by cases h
def vT : TV → AV | .v x => x | _ => .one .und
def tupT : TV → List AV | .tup l => l | _ => []
def refTV : TV → TV → TV
  | .v t, x => .v (refAV t (vT x))
  | .tup l, x => .tup (refAs l (tupT x))
def shpT : TV → TV → Bool
  | .v t, .v x => shpA t x
  | .tup l, .tup m => shpAs l m
  | _, _ => false
theorem shpT_ref {t x : TV} (h : shpT t x = true) : refTV t x = x := by
  cases t <;> cases x <;> first | (cases h; done) | skip
  · simp only [refTV, vT, shpA_ref h]
  · simp only [refTV, tupT, shpAs_ref h]
def refTs : List TV → List TV → List TV
  | [], _ => []
  | t :: l, x => refTV t (hd tund x) :: refTs l (tl x)
def shpTs : List TV → List TV → Bool
  | [], [] => true
  | t :: l, x :: m => shpT t x && shpTs l m
  | _, _ => false
theorem shpTs_ref : ∀ {t x : List TV}, shpTs t x = true → refTs t x = x
  | [], [], _ => rfl
  | t :: l, x :: m, h => by
    simp only [shpTs, Bool.and_eq_true] at h
    simp only [refTs, hd, tl, shpT_ref h.1, shpTs_ref h.2]
  | [], _ :: _, h => by cases h
  | _ :: _, [], h => by cases h
def cellsB : Blk → List SV | .cells _ l => l | .pcells _ _ l => l | _ => []
def rowB_ : Blk → Row | .row _ r => r | .prow _ _ r => r | .srow _ r => r | _ => .bools []
def mpB : Blk → Mp | .mp _ l => l | .pmp _ _ l => l | _ => []
def refBlk : Blk → Blk → Blk
  | .cells t l, x => .cells t (refSs l (cellsB x))
  | .row t r, x => .row t (refR r (rowB_ x))
  | .prow k t r, x => .prow k t (refR r (rowB_ x))
  | .mp t _, x => .mp t (mpB x)
  | .pcells k t l, x => .pcells k t (refSs l (cellsB x))
  | .pmp k t _, x => .pmp k t (mpB x)
  | .dead, _ => .dead
  | .srow t r, x => .srow t (refR r (rowB_ x))
def shpB : Blk → Blk → Bool
  | .cells t l, .cells t' l' => Nat.beq t t' && shpSs l l'
  | .row t r, .row t' r' => Nat.beq t t' && shpR r r'
  | .prow k t r, .prow k' t' r' => Nat.beq k k' && (Nat.beq t t' && shpR r r')
  | .mp t _, .mp t' _ => sameMK t t'
  | .pcells k t l, .pcells k' t' l' => Nat.beq k k' && (Nat.beq t t' && shpSs l l')
  | .pmp k t _, .pmp k' t' _ => Nat.beq k k' && sameMK t t'
  | .dead, .dead => true
  | .srow t r, .srow t' r' => Nat.beq t t' && shpR r r'
  | _, _ => false
theorem shpB_ref {t x : Blk} (h : shpB t x = true) : refBlk t x = x := by
  cases t <;> cases x <;> first | (cases h; done) | rfl | skip
  · simp only [shpB, Bool.and_eq_true] at h; simp only [refBlk, cellsB, Nat.eq_of_beq_eq_true h.1, shpSs_ref h.2]
  · simp only [shpB, Bool.and_eq_true] at h; simp only [refBlk, rowB_, Nat.eq_of_beq_eq_true h.1, shpR_ref h.2]
  · simp only [shpB, Bool.and_eq_true] at h; simp only [refBlk, rowB_, Nat.eq_of_beq_eq_true h.1, Nat.eq_of_beq_eq_true h.2.1, shpR_ref h.2.2]
  · simp only [shpB] at h; simp only [refBlk, mpB, sameMK_eq h]
  · simp only [shpB, Bool.and_eq_true] at h; simp only [refBlk, cellsB, Nat.eq_of_beq_eq_true h.1, Nat.eq_of_beq_eq_true h.2.1, shpSs_ref h.2.2]
  · simp only [shpB, Bool.and_eq_true] at h; simp only [refBlk, mpB, Nat.eq_of_beq_eq_true h.1, sameMK_eq h.2]
  · simp only [shpB, Bool.and_eq_true] at h; simp only [refBlk, rowB_, Nat.eq_of_beq_eq_true h.1, shpR_ref h.2]
def refBs : List Blk → List Blk → List Blk
  | [], _ => []
  | t :: l, x => refBlk t (hd .dead x) :: refBs l (tl x)
def shpBs : List Blk → List Blk → Bool
  | [], [] => true
  | t :: l, x :: m => shpB t x && shpBs l m
  | _, _ => false
theorem shpBs_ref : ∀ {t x : List Blk}, shpBs t x = true → refBs t x = x
  | [], [], _ => rfl
  | t :: l, x :: m, h => by
    simp only [shpBs, Bool.and_eq_true] at h
    simp only [refBs, hd, tl, shpB_ref h.1, shpBs_ref h.2]
  | [], _ :: _, h => by cases h
  | _ :: _, [], h => by cases h
def refSt (t x : St) : St := ⟨refTs t.tmps x.tmps, refBs t.blks x.blks⟩
def shpSt (t x : St) : Bool := shpTs t.tmps x.tmps && shpBs t.blks x.blks
theorem shpSt_ref {t x : St} (h : shpSt t x = true) : refSt t x = x := by
  simp only [shpSt, Bool.and_eq_true] at h
  simp only [refSt, shpTs_ref h.1, shpBs_ref h.2]
end Go.Rv
