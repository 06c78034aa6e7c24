/- A small evaluator of translated code over plain values, with no memory but the call's own: definitions only. -/
import Derived.Test.YtemihnclhcobnaaGreatDoorRvTail
namespace Go.Rv
set_option linter.unusedSimpArgs false

inductive Row where
 | ints (k : IntKind) (l : List Int)
 | strs (l : List ByteArray)
 | bools (l : List Bool)
 | pairs (l : List (Int × Int))
 | trips (l : List (Int × Int × Int))
 | lists (e : TypeId) (l : List (List Int))

inductive Tr where
 | nil
 | node (a b : Int) (l r : Tr)
namespace Tr
def isNil : Tr -> Bool
 | nil => true
 | _ => false
def a : Tr -> Int
 | nil => 0
 | node a _ _ _ => a
def b : Tr -> Int
 | nil => 0
 | node _ b _ _ => b
def l : Tr -> Tr
 | nil => nil
 | node _ _ l _ => l
def r : Tr -> Tr
 | nil => nil
 | node _ _ _ r => r
def beq : Tr -> Tr -> Bool
 | nil, nil => true
 | node a b l r, node a' b' l' r' => a == a' && b == b' && beq l l' && beq r r'
 | _, _ => false
theorem beq_eq : ∀ {x y : Tr}, beq x y = true -> x = y
 | nil, nil, _ => rfl
 | node a b l r, node a' b' l' r', h => by
  simp only [beq, aj0, beq_iff_eq] at h
  obtain ⟨⟨⟨h1, h2⟩, h3⟩, h4⟩ := h
  rw [h1, h2, beq_eq h3, beq_eq h4]
 | nil, node .., h => by cases h
 | node .., nil, h => by cases h
end Tr

inductive FSf where
 | int (k : IntKind) (n : Int)
 | bool (b : Bool)
 | str (s : ByteArray)
 | sl (t : TypeId) (r : Row)
 | fn (f : FuncId)
 | tr (two : Bool) (T : Tr)
 | no

inductive FS where
 | int (k : IntKind) (n : Int)
 | bool (b : Bool)
 | str (s : ByteArray)
 | sl (t : TypeId) (r : Row)
 | fn (f : FuncId)
 | tr (two : Bool) (T : Tr)
 | no
 | ptr (l : List FSf) (off : Nat)

inductive SV where
 | int (k : IntKind) (n : Int)
 | bool (b : Bool)
 | str (s : ByteArray)
 | ptr (j off : Nat)
 | row (j : Nat)
 | sl (t : TypeId) (r : Row)
 | elt (j z : Nat) (i : Int) (off : Nat)
 | ref (r : Row) (i : Int) (off : Nat)
 | fn (f : FuncId) (caps : List (Nat × Nat))
 | cref (l : List FS) (off : Nat)
 | dfn (f : FuncId) (caps : List (List FS × Nat))
 | mp (j : Nat)
 | nilp
 | nilm
 | no
 | und
 | fsl (t : TypeId) (r : Row)
 | fref (r : Row) (i : Int) (off : Nat)
 | tr (two : Bool) (T : Tr)
 | tra (two : Bool) (T : Tr) (off : Nat)
 | nilf
 | bfn (f : FuncId) (l : List FS)
 | suf (j : Nat) (i : Int)
 | fpt (r : Row)

inductive AV where
 | one (s : SV)
 | agg (l : List SV)

inductive TV where
 | v (x : AV)
 | tup (l : List AV)

structure MK where
 two : Bool
 bool : Bool
abbrev Mp := List ((Int × Int) × Int)

inductive Blk where
 | cells (t : TypeId) (l : List SV)
 | row (t : TypeId) (r : Row)
 | prow (k : Nat) (t : TypeId) (r : Row)
 | mp (t : MK) (l : Mp)
 | pcells (k : Nat) (t : TypeId) (l : List SV)
 | pmp (k : Nat) (t : MK) (l : Mp)
 | dead
 | srow (t : TypeId) (r : Row)

def Blk.cellsOf : Blk -> Option (TypeId × List SV)
 | .cells t l => some (t, l)
 | .pcells _ t l => some (t, l)
 | _ => none
def Blk.withC : Blk -> List SV -> Blk
 | .cells t _, l => .cells t l
 | .pcells k t _, l => .pcells k t l
 | b, _ => b
def Blk.mpOf : Blk -> Option (MK × Mp)
 | .mp t l => some (t, l)
 | .pmp _ t l => some (t, l)
 | _ => none
def Blk.withM : Blk -> Mp -> Blk
 | .mp t _, l => .mp t l
 | .pmp k t _, l => .pmp k t l
 | b, _ => b
def Blk.pin : Blk -> Bool
 | .prow .. | .pcells .. | .pmp .. => true
 | _ => false

def Blk.rowOf : Blk -> Option (TypeId × Row)
 | .row t r => some (t, r)
 | .prow _ t r => some (t, r)
 | _ => none
def Blk.rowRd : Blk -> Option (TypeId × Row)
 | .srow t r => some (t, r)
 | b => b.rowOf
def Blk.with_ : Blk -> Row -> Blk
 | .row t _, r => .row t r
 | .prow k t _, r => .prow k t r
 | b, _ => b

structure St where
 tmps : List TV
 blks : List Blk

section
variable {β : Type}
def t1 : List Nat -> (List Nat -> Option β) -> Option β
 | [], K => K []
 | x :: l, K => t1 l fun l' => K (x :: l')
theorem qu : ∀ (l : List Nat) (K : List Nat -> Option β), t1 l K = K l
 | [], _ => rfl
 | _ :: l, _ => qu l _
def NP : SV -> (SV -> Option β) -> Option β
 | .int k n, K => K (.int k n)
 | .bool b, K => K (.bool b)
 | .str b, K => K (.str b)
 | .ptr j o, K => K (.ptr j o)
 | .row j, K => K (.row j)
 | .sl t r, K => K (.sl t r)
 | .elt j z i o, K => K (.elt j z i o)
 | .ref r i o, K => K (.ref r i o)
 | .fn f c, K => K (.fn f c)
 | .cref l o, K => K (.cref l o)
 | .dfn f c, K => K (.dfn f c)
 | .mp j, K => K (.mp j)
 | .nilp, K => K .nilp
 | .nilm, K => K .nilm
 | .no, K => K .no
 | .und, K => K .und
 | .fsl t r, K => K (.fsl t r)
 | .fref r i o, K => K (.fref r i o)
 | .tr b T, K => K (.tr b T)
 | .tra b T o, K => K (.tra b T o)
 | .nilf, K => K .nilf
 | .bfn f l, K => K (.bfn f l)
 | .suf j i, K => K (.suf j i)
 | .fpt r, K => K (.fpt r)
theorem Cg (s : SV) (K : SV -> Option β) : NP s K = K s := by cases s <;> rfl
def qv : List SV -> (List SV -> Option β) -> Option β
 | [], K => K []
 | x :: l, K => NP x fun x' => qv l fun l' => K (x' :: l')
theorem qw : ∀ (l : List SV) (K : List SV -> Option β), qv l K = K l
 | [], _ => rfl
 | x :: l, K => by simp only [qv, Cg, qw l]
def G3 : AV -> (AV -> Option β) -> Option β
 | .one s, K => NP s fun s' => K (.one s')
 | .agg l, K => qv l fun l' => K (.agg l')
theorem Cf (x : AV) (K : AV -> Option β) : G3 x K = K x := by cases x <;> simp only [G3, Cg, qw]
def zD : List AV -> (List AV -> Option β) -> Option β
 | [], K => K []
 | x :: l, K => G3 x fun x' => zD l fun l' => K (x' :: l')
theorem xx : ∀ (l : List AV) (K : List AV -> Option β), zD l K = K l
 | [], _ => rfl
 | x :: l, K => by simp only [zD, Cf, xx l]
def NQ : TV -> (TV -> Option β) -> Option β
 | .v x, K => G3 x fun x' => K (.v x')
 | .tup l, K => zD l fun l' => K (.tup l')
theorem NR (x : TV) (K : TV -> Option β) : NQ x K = K x := by cases x <;> simp only [NQ, Cf, xx]
def zF : List TV -> (List TV -> Option β) -> Option β
 | [], K => K []
 | x :: l, K => NQ x fun x' => zF l fun l' => K (x' :: l')
theorem xz : ∀ (l : List TV) (K : List TV -> Option β), zF l K = K l
 | [], _ => rfl
 | x :: l, K => by simp only [zF, NR, xz l]
def NN : Blk -> (Blk -> Option β) -> Option β
 | .cells t l, K => qv l fun l' => K (.cells t l')
 | .row t r, K => K (.row t r)
 | .prow k t r, K => K (.prow k t r)
 | .mp t l, K => K (.mp t l)
 | .pcells k t l, K => qv l fun l' => K (.pcells k t l')
 | .pmp k t l, K => K (.pmp k t l)
 | .dead, K => K .dead
 | .srow t r, K => K (.srow t r)
theorem NO (x : Blk) (K : Blk -> Option β) : NN x K = K x := by cases x <;> simp only [NN, qw]
def zE : List Blk -> (List Blk -> Option β) -> Option β
 | [], K => K []
 | x :: l, K => NN x fun x' => zE l fun l' => K (x' :: l')
theorem xy : ∀ (l : List Blk) (K : List Blk -> Option β), zE l K = K l
 | [], _ => rfl
 | x :: l, K => by simp only [zE, NO, xy l]
def qx (s : St) (K : St -> Option β) : Option β := zF s.tmps fun t => zE s.blks fun b => K ⟨t, b⟩
theorem qy (s : St) (K : St -> Option β) : qx s K = K s := by simp only [qx, xz, xy]
end

structure Fd where
 off : Nat
 size : Nat
 agg : Bool

inductive TI where
 | int (k : IntKind)
 | bool
 | string
 | slice (e : TypeId)
 | struct (fs : List Fd) (cts : List TypeId) (bytes : Nat) (cmp : Bool)
 | array (n : Nat) (e : TypeId)
 | pointer (e : TypeId)
 | map (k e : TypeId)
 | func
 | other

abbrev Lay := List (TypeId × TI)
def Lay.at_ : Lay -> TypeId -> TI
 | [], _ => .other
 | (u, i) :: rest, t => cond (Nat.beq u t) i (Lay.at_ rest t)

def nth {α : Type} (d : α) : List α -> Nat -> α
 | [], _ => d
 | x :: _, 0 => x
 | _ :: l, n + 1 => nth d l n
def put {α : Type} : List α -> Nat -> α -> List α
 | [], _, _ => []
 | _ :: l, 0, y => y :: l
 | x :: l, n + 1, y => x :: put l n y

def rd {α : Type} (d : α) (l : List α) (i : Int) : α := l.getD i.toNat d
def wr {α : Type} (l : List α) (i : Int) (x : α) : List α := l.set i.toNat x

namespace Row
def sz : Row -> Nat
 | ints .. | strs _ | bools _ | lists .. => 1
 | pairs _ => 2
 | trips _ => 3
def len : Row -> Nat
 | ints _ l => l.length
 | strs l => l.length
 | bools l => l.length
 | pairs l => l.length
 | trips l => l.length
 | lists _ l => l.length
def cells : Row -> List Value
 | ints k l => l.map (.int k)
 | strs l => l.map .string
 | bools l => l.map .bool
 | pairs l => l.flatMap fun p => [.int .i64 p.1, .int .i64 p.2]
 | trips l => l.flatMap fun p => [.int .i64 p.1, .int .i64 p.2.1, .int .i64 p.2.2]
 | lists _ _ => []
def at_ : Row -> Int -> List SV
 | ints k l, i => [.int k (rd 0 l i)]
 | strs l, i => [.str (rd ByteArray.empty l i)]
 | bools l, i => [.bool (rd false l i)]
 | pairs l, i => [.int .i64 (rd (0, 0) l i).1, .int .i64 (rd (0, 0) l i).2]
 | trips l, i => [.int .i64 (rd (0, 0, 0) l i).1, .int .i64 (rd (0, 0, 0) l i).2.1, .int .i64 (rd (0, 0, 0) l i).2.2]
 | lists e l, i => [.fsl e (.ints .i64 (rd [] l i))]
def setc : Row -> Int -> Nat -> SV -> Option Row
 | ints .i64 l, i, 0, .int .i64 n => some (.ints .i64 (wr l i n))
 | strs l, i, 0, .str s => some (.strs (wr l i s))
 | bools l, i, 0, .bool b => some (.bools (wr l i b))
 | ints .u8 l, i, 0, .int .u8 n => some (.ints .u8 (wr l i n))
 | pairs l, i, 0, .int .i64 n => some (.pairs (wr l i (n, (rd (0, 0) l i).2)))
 | pairs l, i, 1, .int .i64 n => some (.pairs (wr l i ((rd (0, 0) l i).1, n)))
 | lists e l, i, 0, .fsl e' (.ints .i64 n) => cond (Nat.beq e e') (some (.lists e (wr l i n))) none
 | _, _, _, _ => none
def snoc : Row -> List SV -> Option Row
 | ints .i64 l, [.int .i64 n] => some (.ints .i64 (l ++ [n]))
 | ints .u8 l, [.int .u8 n] => some (.ints .u8 (l ++ [n]))
 | strs l, [.str s] => some (.strs (l ++ [s]))
 | bools l, [.bool b] => some (.bools (l ++ [b]))
 | pairs l, [.int .i64 a, .int .i64 b] => some (.pairs (l ++ [(a, b)]))
 | trips l, [.int .i64 a, .int .i64 b, .int .i64 c] => some (.trips (l ++ [(a, b, c)]))
 | lists e l, [.fsl e' (.ints .i64 n)] => cond (Nat.beq e e') (some (.lists e (l ++ [n]))) none
 | _, _ => none
def cat : Row -> Row -> Option Row
 | ints .i64 l, ints .i64 m => some (.ints .i64 (l ++ m))
 | ints .u8 l, ints .u8 m => some (.ints .u8 (l ++ m))
 | strs l, strs m => some (.strs (l ++ m))
 | bools l, bools m => some (.bools (l ++ m))
 | pairs l, pairs m => some (.pairs (l ++ m))
 | trips l, trips m => some (.trips (l ++ m))
 | lists e l, lists e' m => cond (Nat.beq e e') (some (.lists e (l ++ m))) none
 | _, _ => none
def zeros (n : Nat) : Row -> Row
 | ints k _ => .ints k (List.replicate n 0)
 | strs _ => .strs (List.replicate n ByteArray.empty)
 | bools _ => .bools (List.replicate n false)
 | pairs _ => .pairs (List.replicate n (0, 0))
 | trips _ => .trips (List.replicate n (0, 0, 0))
 | lists e _ => .lists e (List.replicate n [])
def sub (lo hi : Nat) : Row -> Row
 | ints k l => .ints k ((l.take hi).drop lo)
 | strs l => .strs ((l.take hi).drop lo)
 | bools l => .bools ((l.take hi).drop lo)
 | pairs l => .pairs ((l.take hi).drop lo)
 | trips l => .trips ((l.take hi).drop lo)
 | lists e l => .lists e ((l.take hi).drop lo)
def deep : Row -> Bool
 | lists .. => true
 | _ => false
end Row

def bP (L : Lay) (e : TypeId) : Option Row :=
 match L.at_ e with
 | .int k => some (.ints k [])
 | .bool => some (.bools [])
 | .string => some (.strs [])
 | .slice e' => match L.at_ e' with
  | .int .i64 => some (.lists e' [])
  | _ => none
 | .struct _ [a, b] 16 _ => match L.at_ a, L.at_ b with
  | .int .i64, .int .i64 => some (.pairs [])
  | _, _ => none
 | .struct _ [a, b, c] 24 _ => match L.at_ a, L.at_ b, L.at_ c with
  | .int .i64, .int .i64, .int .i64 => some (.trips [])
  | _, _, _ => none
 | _ => none

def bq : Row -> Nat
 | .ints .i64 _ | .ints .u64 _ => 8
 | .ints .i32 _ | .ints .u32 _ => 4
 | .ints .i16 _ | .ints .u16 _ => 2
 | .ints .i8 _ | .ints .u8 _ => 1
 | .bools _ => 1
 | .strs _ => 16
 | .pairs _ => 16
 | .trips _ => 24
 | .lists .. => 24

def be (L : Lay) (f : Bool) : List TypeId -> List Blk -> Option (List SV × List Blk)
 | [], bl => some ([], bl)
 | c :: cs, bl =>
  match L.at_ c with
  | .int k => match be L f cs bl with | some (l, b) => some (.int k 0 :: l, b) | none => none
  | .bool => match be L f cs bl with | some (l, b) => some (.bool false :: l, b) | none => none
  | .string => match be L f cs bl with | some (l, b) => some (.str ByteArray.empty :: l, b) | none => none
  | .slice e => match bP L e with
   | some r => cond f (match be L f cs bl with | some (l, b) => some (.fsl e r :: l, b) | none => none)
    (match be L f cs (bl ++ [.row e r]) with | some (l, b) => some (.row bl.length :: l, b) | none => none)
   | none => none
  | .pointer _ => match be L f cs bl with | some (l, b) => some (.nilp :: l, b) | none => none
  | .map _ _ => match be L f cs bl with | some (l, b) => some (.nilm :: l, b) | none => none
  | .func => match be L f cs bl with | some (l, b) => some (.nilf :: l, b) | none => none
  | _ => none

def cC (L : Lay) (t : TypeId) : List TypeId :=
 match L.at_ t with
 | .struct _ cts _ _ => cts
 | .array _ e => [e, e]
 | _ => [t]

def NU : Value -> TV
 | .int k n => .v (.one (.int k n))
 | .bool b => .v (.one (.bool b))
 | .string s => .v (.one (.str s))
 | .pointer none => .v (.one .nilp)
 | _ => .v (.one .und)

def ac : TV := .v (.one .und)

def aF (s : St) : Operand -> TV
 | .tmp t => nth ac s.tmps t
 | .const c => NU c
 | .func f => .v (.one (.fn f []))
 | .global _ => ac

def TV.sv : TV -> SV
 | .v (.one s) => s
 | _ => .und
def TV.cells : TV -> Option (List SV)
 | .v (.one s) => some [s]
 | .v (.agg l) => some l
 | .tup _ => none
def take (l : List SV) (off n : Nat) : List SV := (l.drop off).take n
def over (l : List SV) (off : Nat) : List SV -> List SV
 | [] => l
 | x :: xs => over (put l off x) (off + 1) xs

section
variable {β : Type}
def gd (b : Bool) (x : Option β) : Option β := cond b x none

def aW (k : IntKind) (x y : Int) : Int := k.wrap (x * 2 ^ min y.toNat k.bits)
def cW (k : IntKind) (x y : Int) : Int := x / 2 ^ min y.toNat k.bits
def Te (x y : Int) : Int := x.tmod y
def aea (k : IntKind) (x y : Int) : Int := k.wrap (x.tdiv y)

def one (s : SV) : TV := .v (.one s)

def bI : IntKind -> IntKind -> Bool
 | .i64, .i64 | .u8, .u8 | .u64, .u64 | .i32, .i32 | .u32, .u32 | .i16, .i16 | .u16, .u16 | .i8, .i8 => true
 | _, _ => false

def yP (op : BinOp) (k : IntKind) (a b : Int) (K : SV -> Option β) : Option β :=
 match op with
 | .add => K (.int k (k.wrap (a + b)))
 | .sub => K (.int k (k.wrap (a - b)))
 | .mul => K (.int k (k.wrap (a * b)))
 | .quo => gd (b != 0) (K (.int k (aea k a b)))
 | .rem => gd (b != 0) (K (.int k (Te a b)))
 | .and => K (.int k (bits .and k a b))
 | .or => K (.int k (bits .or k a b))
 | .xor => K (.int k (bits .xor k a b))
 | .andNot => K (.int k (bits .andNot k a b))
 | .eql => K (.bool (a == b))
 | .neq => K (.bool (a != b))
 | .lss => K (.bool (decide (a < b)))
 | .leq => K (.bool (decide (a <= b)))
 | .gtr => K (.bool (decide (a > b)))
 | .geq => K (.bool (decide (a >= b)))
 | _ => none

def yQ (op : BinOp) (x y : ByteArray) (K : SV -> Option β) : Option β :=
 match op with
 | .add => gd (decide (x.size + y.size <= 9223372036854775807)) (K (.str (x ++ y)))
 | .eql => K (.bool (x.toList == y.toList))
 | .neq => K (.bool (!(x.toList == y.toList)))
 | _ => none

def eqS (L : Lay) (c : TypeId) (x y : SV) : Option Bool :=
 match L.at_ c, x, y with
 | .int _, .int k a, .int k' b => cond (bI k k') (some (a == b)) none
 | .bool, .bool a, .bool b => some (a == b)
 | .string, .str a, .str b => some (a.toList == b.toList)
 | _, _, _ => none
def eqL (L : Lay) : List TypeId -> List SV -> List SV -> Option Bool
 | [], [], [] => some true
 | [c], [x], [y] => eqS L c x y
 | c :: cs, x :: xs, y :: ys => match eqS L c x y, eqL L cs xs ys with | some a, some b => some (a && b) | _, _ => none
 | _, _, _ => none

def Zk : SV -> Option Bool
 | .tr _ T => some T.isNil
 | .ptr .. => some false
 | .nilp => some true
 | _ => none
def wY (L : Lay) (op : BinOp) (t : TypeId) (x y : TV) (K : TV -> Option β) : Option β :=
 match x, y with
 | .v (.one p), .v (.one .nilp) => match L.at_ t, op, Zk p with
  | .pointer _, .eql, some b => K (one (.bool b))
  | .pointer _, .neq, some b => K (one (.bool (!b)))
  | _, _, _ => none
 | .v (.one (.int k a)), .v (.one (.int k' b)) =>
  match op with
  | .shl => gd (decide (0 <= b)) (K (one (.int k (aW k a b))))
  | .shr => gd (decide (0 <= b)) (K (one (.int k (cW k a b))))
  | op => cond (bI k k') (yP op k a b fun s => K (one s)) none
 | .v (.one (.str a)), .v (.one (.str b)) => yQ op a b fun s => K (one s)
 | .v (.one (.bool a)), .v (.one (.bool b)) =>
  match L.at_ t, op with
  | .bool, .eql => K (one (.bool (a == b)))
  | .bool, .neq => K (one (.bool (!(a == b))))
  | _, _ => none
 | .v (.agg l), .v (.agg m) =>
  match L.at_ t with
  | .struct _ cts _ true => match op, eqL L cts l m with
   | .eql, some b => K (one (.bool b))
   | .neq, some b => K (one (.bool (!b)))
   | _, _ => none
  | _ => none
 | _, _ => none

def MN (op : UnOp) (x : TV) (K : TV -> Option β) : Option β :=
 match op, x with
 | .neg, .v (.one (.int k a)) => K (one (.int k (k.wrap (0 - a))))
 | .not, .v (.one (.bool b)) => K (one (.bool (!b)))
 | .xor, .v (.one (.int .i64 a)) => K (one (.int .i64 (bits .xor .i64 (-1) a)))
 | _, _ => none

def aq (l : List Int) : ByteArray := ⟨(l.map fun n => UInt8.ofNat n.toNat).toArray⟩

def fm (L : Lay) (t : TypeId) (f : Nat) : Option Fd :=
 match L.at_ t with
 | .struct fs _ _ _ => fs[f]?
 | _ => none

def loadAt (L : Lay) (t : TypeId) (l : List SV) (off : Nat) : Option TV :=
 match L.at_ t with
 | .struct _ cts _ _ => cond (Nat.ble (off + cts.length) l.length) (some (.v (.agg (take l off cts.length)))) none
 | .array _ _ | .other => none
 | _ => cond (Nat.blt off l.length) (some (.v (.one (nth .und l off)))) none

def bt (s : ByteArray) (i : Int) : Int := ((s.data.toList.getD i.toNat 0).toNat : Int)

def FSf.up : FSf -> FS
 | .int k n => .int k n
 | .bool b => .bool b
 | .str s => .str s
 | .sl t r => .sl t r
 | .fn f => .fn f
 | .tr b T => .tr b T
 | .no => .no
def HB (bl : List Blk) : SV -> FSf
 | .int k n => .int k n
 | .bool b => .bool b
 | .str s => .str s
 | .sl t r => .sl t r
 | .fsl t r => .sl t r
 | .tr b T => .tr b T
 | .fn f [] => .fn f
 | .row j => match (nth .dead bl j).rowOf with
  | some (t, r) => .sl t r
  | none => .no
 | _ => .no
def FS.sv : FS -> SV
 | .int k n => .int k n
 | .bool b => .bool b
 | .str s => .str s
 | .sl t r => .sl t r
 | .fn f => .fn f []
 | .tr b T => .tr b T
 | .no => .und
 | .ptr l off => .cref (l.map FSf.up) off
def C8 (bl : List Blk) : SV -> FS
 | .int k n => .int k n
 | .bool b => .bool b
 | .str s => .str s
 | .sl t r => .sl t r
 | .fsl t r => .sl t r
 | .tr b T => .tr b T
 | .fn f [] => .fn f
 | .row j => match (nth .dead bl j).rowOf with
  | some (t, r) => .sl t r
  | none => .no
 | .ptr j o => match (nth .dead bl j).cellsOf with
  | some (_, l) => .ptr (l.map (HB bl)) o
  | none => .no
 | _ => .no
def sS (bl : List Blk) : List (Nat × Nat) -> Option (List (List FS × Nat))
 | [] => some []
 | (j, o) :: cs => match (nth .dead bl j).cellsOf, sS bl cs with
  | some (_, l), some rest => some ((l.map (C8 bl), o) :: rest)
  | _, _ => none

def oV (bl : List Blk) : SV -> SV
 | .row j => match (nth .dead bl j).rowOf with
  | some (t, r) => .sl t r
  | none => .und
 | .ptr j o => match (nth .dead bl j).cellsOf with
  | some (_, l) => .cref (l.map (C8 bl)) o
  | none => .und
 | .fn f (c :: cs) => match sS bl (c :: cs) with
  | some l => .dfn f l
  | none => .und
 | .fsl t r => .sl t r
 | s => s
def WO (bl : List Blk) : AV -> AV
 | .one s => .one (oV bl s)
 | .agg l => .agg (l.map (oV bl))
def GK (bl : List Blk) : TV -> TV
 | .v x => .v (WO bl x)
 | .tup l => .tup (l.map (WO bl))

def zh (bl : List Blk) : SV -> SV × List Blk
 | .row j => match nth .dead bl j with
  | .row t r => (.fsl t r, put bl j .dead)
  | _ => (.row j, bl)
 | s => (s, bl)
def BQ (bl : List Blk) : List SV -> List SV × List Blk
 | [] => ([], bl)
 | s :: l => match zh bl s with
  | (s', b) => match BQ b l with
   | (l', b') => (s' :: l', b')
def BO (bl : List Blk) : AV -> AV × List Blk
 | .one s => match zh bl s with | (s', b) => (.one s', b)
 | .agg l => match BQ bl l with | (l', b) => (.agg l', b)
def qV (bl : List Blk) : List AV -> List AV × List Blk
 | [] => ([], bl)
 | s :: l => match BO bl s with
  | (s', b) => match qV b l with
   | (l', b') => (s' :: l', b')
def zi (bl : List Blk) : TV -> TV × List Blk
 | .v x => match BO bl x with | (x', b) => (.v x', b)
 | .tup l => match qV bl l with | (l', b) => (.tup l', b)
def qW (bl : List Blk) : List TV -> List TV × List Blk
 | [] => ([], bl)
 | s :: l => match zi bl s with
  | (s', b) => match qW b l with
   | (l', b') => (s' :: l', b')

def aU (bl : List Blk) : SV -> SV × List Blk
 | .sl t r => (.row bl.length, bl ++ [.row t r])
 | s => (s, bl)
def dq (bl : List Blk) : List SV -> List SV × List Blk
 | [] => ([], bl)
 | s :: l => match aU bl s with
  | (s', b) => match dq b l with
   | (l', b') => (s' :: l', b')
def cu (bl : List Blk) : AV -> AV × List Blk
 | .one s => match aU bl s with | (s', b) => (.one s', b)
 | .agg l => match dq bl l with | (l', b) => (.agg l', b)
def ct (bl : List Blk) : List AV -> List AV × List Blk
 | [] => ([], bl)
 | s :: l => match cu bl s with
  | (s', b) => match ct b l with
   | (l', b') => (s' :: l', b')
def bJ (bl : List Blk) : TV -> TV × List Blk
 | .v x => match cu bl x with | (x', b) => (.v x', b)
 | .tup l => match ct bl l with | (l', b) => (.tup l', b)
end

abbrev Spec (β : Type) := List TV -> (TV -> Option β) -> Option β

abbrev ax (β : Type) := St -> (Exit -> St -> Option β) -> Option β

abbrev mP (β : Type) := List TV -> List Blk -> (TV -> List Row -> Option β) -> Option β

abbrev ce (β : Type) := List TV -> List Blk -> (TV -> List Blk -> Option β) -> Option β

structure eN where
 res : List FuncId := []
 nils : List Nat := []
 args : List FuncId := []
 own : List FuncId := []
structure Env (β : Type) where
 fns : List (FuncId × Spec β)
 muts : List (FuncId × mP β)
 loops : List (Nat × ax β)
 gfns : List (FuncId × ce β)
 hints : eN

def aS {β : Type} : List (Nat × ax β) -> Nat -> ax β
 | [], _ => fun _ _ => none
 | (u, i) :: rest, t => cond (Nat.beq u t) i (aS rest t)

def gK {β : Type} : List (FuncId × Spec β) -> FuncId -> Spec β
 | [], _ => fun _ _ => none
 | (u, i) :: rest, t => cond (Nat.beq u t) i (gK rest t)

section
variable {β : Type}

def St.add (s : St) (b : Blk) : St := ⟨s.tmps, s.blks ++ [b]⟩

def qq (n : Nat) : List Nat -> Bool
 | [] => false
 | x :: l => cond (Nat.beq x n) true (qq n l)
def qj (H : eN) (d : Option Tmp) : Bool := match d with | some d => qq d H.nils | none => false
def fk (L : Lay) (H : eN) (d : Option Tmp) (t : TypeId) (x : Operand) (s : St) (K : TV -> St -> Option β) : Option β :=
 match x with
 | .const (.slice none 0 0) =>
  match L.at_ t with
  | .slice e => match bP L e with
   | some r => cond (match d with | some d => qq d H.nils | none => false) (K (one (.fsl e r)) s) (K (one (.row s.blks.length)) (s.add (.row e r)))
   | none => none
  | _ => none
 | x => K (aF s x) s

def bO : SV -> Bool
 | .int .. | .bool _ | .str _ => true
 | _ => false
def cH : AV -> Bool
 | .one s => bO s
 | .agg l => l.all bO
def dg : TV -> Bool
 | .v x => cH x
 | .tup l => l.all cH
def dJ : SV -> Bool
 | .int .. | .bool _ | .str _ | .ptr .. | .row _ | .sl .. | .fn .. | .dfn .. | .mp _ | .nilp | .nilm | .fsl .. | .tr .. | .nilf => true
 | _ => false
def RK : SV -> Bool
 | .int .. | .bool _ | .str _ | .sl .. | .cref .. | .dfn .. | .fn _ [] | .tr .. | .fsl .. | .bfn .. => true
 | _ => false
def afJ : AV -> Bool
 | .one s => RK s
 | .agg l => l.all RK
def adk : TV -> Bool
 | .v x => afJ x
 | .tup _ => false
def uY : SV -> Bool
 | .int .. | .bool _ | .str _ | .row _ | .fsl .. | .tr .. => true
 | _ => false
def rD : AV -> Bool
 | .one s => uY s
 | .agg l => l.all uY
def Tg : TV -> Bool
 | .v x => rD x
 | .tup l => l.all rD
def eB : SV -> List Nat
 | .row j => [j]
 | _ => []
def f7 : AV -> List Nat
 | .one s => eB s
 | .agg l => l.flatMap eB
def dK : TV -> List Nat
 | .v x => f7 x
 | .tup l => l.flatMap f7
def nI : List Nat -> Bool
 | [] => true
 | x :: l => !(l.any (Nat.beq x)) && nI l

def MI : SV -> SV
 | .fsl t r => .sl t r
 | s => s
def HC (two : Bool) (T : Tr) : List SV := cond two [.int .u8 T.a, .int .i64 T.b, .tr two T.l, .tr two T.r] [.int .u8 T.a, .tr two T.l, .tr two T.r]
def sZ (L : Lay) (t : TypeId) (a : SV) (s : St) (K : TV -> St -> Option β) : Option β :=
 match a with
 | .ptr j off => match (nth .dead s.blks j).cellsOf with
  | some (_, l) => match loadAt L t l off with | some x => K x s | none => none
  | none => none
 | .elt j z i off => match (nth .dead s.blks j).rowRd with
  | some (_, r) => cond (Nat.beq z r.sz) (match loadAt L t (r.at_ i) off with | some x => K x s | none => none) none
  | _ => none
 | .ref r i off => match loadAt L t ((r.at_ i).map MI) off with | some x => K x s | none => none
 | .fref r i off => match loadAt L t (r.at_ i) off with | some x => K x s | none => none
 | .tra two T off => match loadAt L t (HC two T) off with | some x => gd (!T.isNil) (K x s) | none => none
 | .cref l off => match loadAt L t (l.map FS.sv) off with | some x => K x s | none => none
 | _ => none

def CP (r : Row) (i : Int) (off : Nat) : List SV -> Option Row
 | [] => some r
 | x :: xs => match r.setc i off x with
  | some r' => CP r' i (off + 1) xs
  | none => none

def jM (L : Lay) (t : TypeId) : Nat :=
 match L.at_ t with
 | .int _ | .bool | .string | .slice _ | .pointer _ | .func | .map _ _ => 1
 | .struct _ cts _ _ => cts.length
 | .array _ _ => 2
 | _ => 0

def o0 (t : TypeId) (L : Lay) (a : SV) (v : TV) (s : St) (K : TV -> St -> Option β) : Option β :=
 match v.cells with
 | none => none
 | some cs => cond (Nat.beq cs.length (jM L t) && Nat.blt 0 (jM L t) && cs.all dJ) (match a with
  | .ptr j off => match (nth .dead s.blks j).cellsOf with
   | some (_, l) => cond (Nat.ble (off + cs.length) l.length) (K ac ⟨s.tmps, put s.blks j ((nth .dead s.blks j).withC (over l off cs))⟩) none
   | none => none
  | .elt j z i off => match (nth .dead s.blks j).rowOf with
   | some (_, r) => cond (Nat.beq z r.sz) (match CP r i off cs with
    | some r' => K ac ⟨s.tmps, put s.blks j ((nth .dead s.blks j).with_ r')⟩
    | none => none) none
   | _ => none
  | _ => none) none

def s6 (fs : List Fd) (cs : List SV) : List (Nat × TV) -> Option (List SV)
 | [] => some cs
 | (i, x) :: rest => match fs[i]?, x.cells with
  | some f, some l => cond (Nat.beq l.length f.size && Nat.ble (f.off + l.length) cs.length && l.all dJ) (s6 fs (over cs f.off l) rest) none
  | _, _ => none

def rowOf (L : Lay) (e : TypeId) : List TV -> Option Row
 | l => match bP L e with
  | some r => go r l
  | none => none
where go : Row -> List TV -> Option Row
 | r, [] => some r
 | r, x :: xs => match x.cells with
  | some cs => match r.snoc cs with | some r' => go r' xs | none => none
  | none => none

def pf : Nat -> List (Nat × Operand) -> Bool
 | _, [] => true
 | n, (i, _) :: l => Nat.beq n i && pf (n + 1) l

def ee (L : Lay) (t : TypeId) (x i : SV) (s : St) (K : TV -> St -> Option β) : Option β :=
 match L.at_ t, x, i with
 | .slice e, .row j, .int _ n => match (nth .dead s.blks j).rowRd with
  | some (_, r) => gd (Nat.beq (jM L e) r.sz) (gd (decide (0 <= n)) (gd (decide (n < (r.len : Int))) (K (one (.elt j r.sz n 0)) s)))
  | _ => none
 | .slice e, .sl _ r, .int _ n => gd (Nat.beq (jM L e) r.sz) (gd (decide (0 <= n)) (gd (decide (n < (r.len : Int))) (K (one (.ref r n 0)) s)))
 | .slice e, .fsl _ r, .int _ n => gd (Nat.beq (jM L e) r.sz) (gd (decide (0 <= n)) (gd (decide (n < (r.len : Int))) (K (one (.fref r n 0)) s)))
 | .array _ _, .ptr j off, .int _ n => gd (decide (0 <= n)) (gd (decide (n < 2)) (cond (n == 0) (K (one (.ptr j off)) s) (K (one (.ptr j (off + 1))) s)))
 | _, _, _ => none

def BM (L : Lay) (t : TypeId) (x : SV) (s : St) (K : TV -> St -> Option β) : Option β :=
 match L.at_ t, x with
 | .slice _, .row j => match (nth .dead s.blks j).rowRd with
  | some (_, r) => K (one (.int .i64 (r.len : Int))) s
  | _ => none
 | .slice _, .sl _ r => K (one (.int .i64 (r.len : Int))) s
 | .slice _, .fsl _ r => K (one (.int .i64 (r.len : Int))) s
 | .string, .str b => K (one (.int .i64 (b.size : Int))) s
 | .map _ _, .mp j => match (nth .dead s.blks j).mpOf with
  | some (_, l) => K (one (.int .i64 (l.length : Int))) s
  | none => none
 | _, _ => none

def B6 (L : Lay) (k e : TypeId) : Option MK :=
 match (match L.at_ k with
  | .int .i64 => some false
  | .struct _ [a, b] 16 true => match L.at_ a, L.at_ b with
   | .int .i64, .int .i64 => some true
   | _, _ => none
  | _ => none), (match L.at_ e with
  | .int .i64 => some false
  | .bool => some true
  | _ => none) with
 | some two, some bool => some ⟨two, bool⟩
 | _, _ => none
def nN (a b : MK) : Bool := a.two == b.two && a.bool == b.bool
def GV (kd : MK) : TV -> Option (Int × Int)
 | .v (.one (.int .i64 a)) => cond kd.two none (some (a, 0))
 | .v (.agg [.int .i64 a, .int .i64 b]) => cond kd.two (some (a, b)) none
 | _ => none
def eqK (kd : MK) (p : Int × Int) (a b : Int) : Bool := p.1 == a && (!kd.two || p.2 == b)
def jq (kd : MK) : Mp -> Int -> Int -> Bool
 | [], _, _ => false
 | p :: l, a, b => eqK kd p.1 a b || jq kd l a b
def fp (kd : MK) : Mp -> Int -> Int -> Int
 | [], _, _ => 0
 | p :: l, a, b => cond (eqK kd p.1 a b) p.2 (fp kd l a b)
def kj (kd : MK) : Mp -> Int -> Int -> Int -> Mp
 | [], a, b, v => [((a, b), v)]
 | p :: l, a, b, v => cond (eqK kd p.1 a b) (((a, b), v) :: l) (p :: kj kd l a b v)
def KN (kd : MK) (n : Int) : SV := cond kd.bool (.bool (n == 1)) (.int .i64 n)
def adt (kd : MK) : SV -> Option Int
 | .int .i64 n => cond kd.bool none (some n)
 | .bool b => cond kd.bool (some (cond b 1 0)) none
 | _ => none
def JH (L : Lay) (t : TypeId) (kd : MK) : Bool :=
 match L.at_ t with
 | .map k e => match B6 L k e with | some kd' => nN kd kd' | none => false
 | _ => false

def j4 (L : Lay) (t : TypeId) (x : SV) (i : TV) (ok : Bool) (s : St) (K : TV -> St -> Option β) : Option β :=
 match x with
 | .mp j => match (nth .dead s.blks j).mpOf with
  | some (kd, l) => match GV kd i with
   | some (a, b) => cond (JH L t kd) (K (cond ok (.tup [.one (KN kd (fp kd l a b)), .one (.bool (jq kd l a b))]) (one (KN kd (fp kd l a b)))) s) none
   | none => none
  | none => none
 | _ => none
def ef (L : Lay) (t : TypeId) (x : SV) (i v : TV) (s : St) (K : TV -> St -> Option β) : Option β :=
 match x with
 | .mp j => match (nth .dead s.blks j).mpOf with
  | some (kd, l) => match GV kd i, adt kd v.sv with
   | some (a, b), some n => cond (JH L t kd) (K ac ⟨s.tmps, put s.blks j ((nth .dead s.blks j).withM (kj kd l a b n))⟩) none
   | _, _ => none
  | none => none
 | _ => none

def mxI (a b : Int) : Int := if b > a then b else a
def mnI (a b : Int) : Int := if b < a then b else a

def readRow (bl : List Blk) (y : SV) : Option Row :=
 match y with
 | .row i => match (nth .dead bl i).rowOf with
  | some (_, q) => some q
  | none => none
 | .sl _ q => cond q.deep none (some q)
 | .fsl _ q => some q
 | .fpt q => some q
 | _ => none

def yM (L : Lay) (ts : List TypeId) (t : TypeId) (r : Row) : Bool :=
 match ts with
 | [u, u'] => Nat.beq u u' && (match L.at_ u with
  | .slice e => Nat.beq e t && (match bP L e with
   | some q => Nat.beq (bq q) (bq r) && Nat.beq q.sz r.sz
   | none => false)
  | _ => false)
 | _ => false

def fj (L : Lay) (ts : List TypeId) (x y : SV) (s : St) (K : TV -> St -> Option β) : Option β :=
 match x with
 | .row j => match (nth .dead s.blks j).rowOf with
  | some (t, r) => cond (yM L ts t r) (
   match readRow s.blks y with
   | some q => match r.cat q with
    | some r' => gd (decide ((r.len + q.len) * bq r <= 140737488355328)) (K (one (.row s.blks.length)) ⟨s.tmps, put s.blks j .dead ++ [.row t r']⟩)
    | none => none
   | none => none) none
  | _ => none
 | _ => none

def jZ (l : List ByteArray) (i : Int) : List ByteArray := l.take i.toNat ++ List.replicate (l.length - i.toNat) ByteArray.empty
def oY (L : Lay) (ts : List TypeId) (x : SV) (s : St) (K : TV -> St -> Option β) : Option β :=
 match x, ts with
 | .suf j i, [t] => match L.at_ t with
  | .slice e => match L.at_ e, (nth .dead s.blks j).rowOf with
   | .string, some (_, .strs l) => K ac ⟨s.tmps, put s.blks j ((nth .dead s.blks j).with_ (.strs (jZ l i)))⟩
   | _, _ => none
  | _ => none
 | _, _ => none

def bA (b : ByteArray) (lo hi : Option TV) (K : TV -> Option β) : Option β :=
 match lo, hi with
 | none, none => K (one (.str (b.extract 0 b.size)))
 | some (.v (.one (.int _ l))), none => gd (decide (0 <= l)) (gd (decide (l <= (b.size : Int))) (K (one (.str (b.extract l.toNat b.size)))))
 | none, some (.v (.one (.int _ h))) => gd (decide (0 <= h)) (gd (decide (h <= (b.size : Int))) (K (one (.str (b.extract 0 h.toNat)))))
 | some (.v (.one (.int _ l))), some (.v (.one (.int _ h))) =>
  gd (decide (0 <= h)) (gd (decide (h <= (b.size : Int))) (gd (decide (0 <= l)) (gd (decide (l <= h)) (K (one (.str (b.extract l.toNat h.toNat)))))))
 | _, _ => none

def dN (L : Lay) (t : TypeId) (x : SV) (lo hi : Option TV) (s : St) (K : TV -> St -> Option β) : Option β :=
 match L.at_ t, x with
 | .slice e, .sl t r => gd (Nat.beq (jM L e) r.sz) (match lo, hi with
  | none, none => K (one (.sl t r)) s
  | some (.v (.one (.int _ l))), none => gd (decide (0 <= l)) (gd (decide (l <= (r.len : Int))) (K (one (.sl t (r.sub l.toNat r.len))) s))
  | none, some (.v (.one (.int _ h))) => gd (decide (0 <= h)) (gd (decide (h <= (r.len : Int))) (K (one (.sl t (r.sub 0 h.toNat))) s))
  | _, _ => none)
 | .slice e, .fsl t r => gd (Nat.beq (jM L e) r.sz) (match lo, hi with
  | none, none => K (one (.fsl t r)) s
  | some (.v (.one (.int _ l))), none => gd (decide (0 <= l)) (gd (decide (l <= (r.len : Int))) (K (one (.fpt (r.sub l.toNat r.len))) s))
  | none, some (.v (.one (.int _ h))) => gd (decide (0 <= h)) (gd (decide (h <= (r.len : Int))) (K (one (.fsl t (r.sub 0 h.toNat))) s))
  | _, _ => none)
 | .slice e, .row j => match (nth .dead s.blks j).rowOf, lo, hi with
  | some (t, r), none, some (.v (.one (.int _ h))) => gd (Nat.beq (jM L e) r.sz) (gd (decide (0 <= h)) (gd (decide (h <= (r.len : Int))) (K (one (.row s.blks.length)) ⟨s.tmps, put s.blks j .dead ++ [.row t (r.sub 0 h.toNat)]⟩)))
  | some (_, r), some (.v (.one (.int _ l))), none => gd (Nat.beq (jM L e) r.sz && Nat.beq r.sz 1) (gd (decide (0 <= l)) (gd (decide (l < (r.len : Int))) (K (one (.suf j l)) s)))
  | _, _, _ => none
 | _, _ => none

def Mv (L : Lay) (s : St) (x : Operand) (t : TypeId) : Option TV :=
 match x with
 | .const (.slice none 0 0) => match L.at_ t with
  | .slice e => match bP L e with
   | some r => some (one (.sl e r))
   | none => none
  | _ => none
 | x => cond (adk (GK s.blks (aF s x))) (some (GK s.blks (aF s x))) none
def nu (L : Lay) (s : St) : List Operand -> List TypeId -> Option (List TV)
 | [], [] => some []
 | x :: xs, t :: ts => match Mv L s x t, nu L s xs ts with
  | some y, some ys => some (y :: ys)
  | _, _ => none
 | _, _ => none

def MF (c : List FS × Nat) : TV := one (.cref c.1 c.2)

def qD (s : St) : List Operand -> Option (List (Nat × Nat))
 | [] => some []
 | x :: xs => match (aF s x).sv, qD s xs with
  | .ptr j o, some l => some ((j, o) :: l)
  | _, _ => none

def jT (n : Nat) : List Nat -> Bool
 | [] => false
 | x :: l => cond (Nat.beq x n) true (jT n l)
def DQ (acc : List Nat) (n : Nat) : List Nat := cond (jT n acc) acc (acc ++ [n])
def eJ (acc : List Nat) : List Nat -> List Nat
 | [] => acc
 | n :: l => eJ (DQ acc n) l
def iI : SV -> List Nat
 | .ptr j _ => [j]
 | .row j => [j]
 | .elt j _ _ _ => [j]
 | .suf j _ => [j]
 | .fn _ caps => caps.map (·.1)
 | .mp j => [j]
 | _ => []
def Hf : AV -> List Nat
 | .one s => iI s
 | .agg l => l.flatMap iI
def dE : TV -> List Nat
 | .v x => Hf x
 | .tup l => l.flatMap Hf
def uT : Blk -> List Nat
 | .cells _ l => l.flatMap iI
 | .pcells _ _ l => l.flatMap iI
 | _ => []
def jA (acc : List Nat) : List TV -> List Nat
 | [] => acc
 | x :: l => jA (eJ acc (dE x)) l
def close (bl : List Blk) : Nat -> List Nat -> List Nat
 | 0, acc => acc
 | n + 1, acc => close bl n (acc.foldl (fun a j => eJ a (uT (nth .dead bl j))) acc)
def nF (n : Nat) : List Nat -> Nat -> Option Nat
 | [], _ => none
 | x :: l, i => cond (Nat.beq x n) (some i) (nF n l (i + 1))
def px (sel : List Nat) : List (Nat × Nat) -> Option (List (Nat × Nat))
 | [] => some []
 | (j, o) :: l => match nF j sel 0, px sel l with
  | some i, some l' => some ((i, o) :: l')
  | _, _ => none
def gJ (sel : List Nat) : SV -> SV
 | .ptr j o => match nF j sel 0 with | some i => .ptr i o | none => .und
 | .row j => match nF j sel 0 with | some i => .row i | none => .und
 | .elt j z n o => match nF j sel 0 with | some i => .elt i z n o | none => .und
 | .suf j n => match nF j sel 0 with | some i => .suf i n | none => .und
 | .fn f caps => match px sel caps with | some c => .fn f c | none => .und
 | .mp j => match nF j sel 0 with | some i => .mp i | none => .und
 | s => s
def uW (sel : List Nat) : AV -> AV
 | .one s => .one (gJ sel s)
 | .agg l => .agg (l.map (gJ sel))
def nL (sel : List Nat) : TV -> TV
 | .v x => .v (uW sel x)
 | .tup l => .tup (l.map (uW sel))
def Ac (sel : List Nat) : Blk -> Blk
 | .cells t l => .cells t (l.map (gJ sel))
 | .pcells k t l => .pcells k t (l.map (gJ sel))
 | b => b

def NI {β : Type} : List (FuncId × mP β) -> FuncId -> Option (mP β)
 | [], _ => none
 | (u, i) :: rest, t => cond (Nat.beq u t) (some i) (NI rest t)
def pinned : List Blk -> Nat -> Option (List Blk)
 | [], _ => some []
 | b :: l, k => match b.rowOf, pinned l (k + 1) with
  | some (t, r), some l' => some (.prow k t r :: l')
  | _, _ => none
def Dc (bl : List Blk) : List Nat -> List Row -> Option (List Blk)
 | [], [] => some bl
 | j :: js, r :: rs => Dc (put bl j ((nth .dead bl j).with_ r)) js rs
 | _, _ => none
def NJ : SV -> Bool
 | .row _ => true
 | s => bO s
def afN : AV -> Bool
 | .one s => NJ s
 | .agg l => l.all NJ
def Zh : TV -> Bool
 | .v x => afN x
 | .tup _ => false
def ML (MS : mP β) (xs : List TV) (s : St) (K : TV -> St -> Option β) : Option β :=
 match xs.flatMap dK with
 | js => cond (xs.all Zh && nI js) (match pinned (js.map fun j => nth .dead s.blks j) 0 with
  | some bs => MS (xs.map (nL js)) bs fun y rs => match Dc s.blks js rs with
   | some bl => cond (dg y) (K y ⟨s.tmps, bl⟩) none
   | none => none
  | none => none) none

def gOf : List (FuncId × ce β) -> FuncId -> Option (ce β)
 | [], _ => none
 | (u, i) :: rest, t => cond (Nat.beq u t) (some i) (gOf rest t)
def giv (own : Bool) (n : Nat) : Blk -> Option Blk
 | .cells t l | .pcells _ t l => some (.pcells n t l)
 | .mp t l | .pmp _ t l => some (.pmp n t l)
 | .row t q | .prow _ t q => some (cond own (.row t q) (.prow n t q))
 | .dead | .srow .. => none
def Jt (own : Bool) : List Blk -> Nat -> Option (List Blk)
 | [], _ => some []
 | b :: r, n => match giv own n b, Jt own r (n + 1) with
  | some b', some r' => some (b' :: r')
  | _, _ => none
def Blk.num : Blk -> Option Nat
 | .pcells k _ _ | .pmp k _ _ | .prow k _ _ => some k
 | _ => none
def sK : Blk -> Blk -> Bool
 | .pcells .., .cells .. | .pcells .., .pcells .. | .pmp .., .mp .. | .pmp .., .pmp .. | .prow .., .row .. | .prow .., .prow .. => true
 | _, _ => false
def nv (bl : List Blk) (js : List Nat) : List Blk -> Nat -> Option (List Nat)
 | [], _ => some []
 | b :: r, n => match b.num with
  | some k => match js[k]?, nv bl js r n with | some j, some l => cond (sK b (nth .dead bl j)) (some (j :: l)) none | _, _ => none
  | none => match nv bl js r (n + 1) with | some l => some (n :: l) | none => none
def pk (f : List Nat) : List (Nat × Nat) -> Option (List (Nat × Nat))
 | [] => some []
 | (j, o) :: l => match f[j]?, pk f l with
  | some i, some l' => some ((i, o) :: l')
  | _, _ => none
def atS (f : List Nat) : SV -> SV
 | .ptr j o => match f[j]? with | some i => .ptr i o | none => .und
 | .row j => match f[j]? with | some i => .row i | none => .und
 | .elt j z n o => match f[j]? with | some i => .elt i z n o | none => .und
 | .suf j n => match f[j]? with | some i => .suf i n | none => .und
 | .fn g caps => match pk f caps with | some c => .fn g c | none => .und
 | .mp j => match f[j]? with | some i => .mp i | none => .und
 | s => s
def atA (f : List Nat) : AV -> AV
 | .one s => .one (atS f s)
 | .agg l => .agg (l.map (atS f))
def atT (f : List Nat) : TV -> TV
 | .v x => .v (atA f x)
 | .tup l => .tup (l.map (atA f))
def atB (f : List Nat) : Blk -> Blk
 | .cells t l => .cells t (l.map (atS f))
 | b => b
def GC (f : List Nat) (old : Blk) : Blk -> Option Blk
 | .pcells _ t l => match old with | .cells _ _ => some (.cells t (l.map (atS f))) | .pcells k _ _ => some (.pcells k t (l.map (atS f))) | _ => none
 | .pmp _ kd l => match old with | .mp _ _ => some (.mp kd l) | .pmp k _ _ => some (.pmp k kd l) | _ => none
 | .prow _ t q => match old with | .row _ _ => some (.row t q) | .prow k _ _ => some (.prow k t q) | _ => none
 | _ => none
def o4 (k : Nat) : List Blk -> Option Blk
 | [] => none
 | b :: r => match b.num with
  | some i => cond (Nat.beq i k) (some b) (o4 k r)
  | none => o4 k r
def xA (bl : List Blk) (f : List Nat) (bl' : List Blk) : List Nat -> Nat -> Option (List (Nat × Blk))
 | [], _ => some []
 | j :: r, k => match (match o4 k bl' with | some b => GC f (nth .dead bl j) b | none => some .dead), xA bl f bl' r (k + 1) with
  | some b', some l => some ((j, b') :: l)
  | _, _ => none
def fM (bl : List Blk) : List (Nat × Blk) -> List Blk
 | [] => bl
 | (j, b) :: l => put (fM bl l) j b
def cO (f : List Nat) : List Blk -> List Blk
 | [] => []
 | b :: r => match b.num with
  | some _ => cO f r
  | none => atB f b :: cO f r
def cY (bl : List Blk) (xs : List TV) : List Nat := close bl 4 (jA [] xs)
def evG (own : Bool) (GS : ce β) (xs : List TV) (s : St) (K : TV -> St -> Option β) : Option β :=
 t1 (cY s.blks xs) fun js => match Jt own (js.map fun j => Ac js (nth .dead s.blks j)) 0 with
  | some bs => GS (xs.map (nL js)) bs fun y bl' => match nv s.blks js bl' s.blks.length with
   | some f => t1 f fun f => match xA s.blks f bl' js 0 with
    | some al => K (atT f y) ⟨s.tmps, fM s.blks al ++ cO f bl'⟩
    | none => none
   | none => none
  | none => none
def D0 (c : Nat × Nat) : TV := one (.ptr c.1 c.2)

def KM (f : Bool) (tmps : List TV) (bl : List Blk) (r : TV) (K : TV -> St -> Option β) : Option β :=
 match bJ bl r with
 | (r', b) => cond f (match zi b r' with | (x, b') => K x ⟨tmps, b'⟩) (K r' ⟨tmps, b⟩)
def Em (L : Lay) (s : St) (t : TypeId) (x : Operand) : TV :=
 match x with
 | .const (.slice none 0 0) => match L.at_ t with
  | .slice e => match bP L e with
   | some r => one (.fsl e r)
   | none => ac
  | _ => ac
 | x => aF s x
def ado (L : Lay) (s : St) (bl : List Blk) (t : TypeId) (x : Operand) : Option (TV × List Blk) :=
 match x with
 | .const (.slice none 0 0) => match L.at_ t with
  | .slice e => match bP L e with
   | some r => some (one (.row bl.length), bl ++ [.row e r])
   | none => none
  | _ => none
 | x => some (aF s x, bl)
def GR (L : Lay) (s : St) : List Blk -> List TypeId -> List Operand -> Option (List TV × List Blk)
 | bl, [], [] => some ([], bl)
 | bl, t :: ts, x :: xs => match ado L s bl t x with
  | some (y, b) => match GR L s b ts xs with
   | some (ys, b') => some (y :: ys, b')
   | none => none
  | none => none
 | _, _, _ => none
def B5 : SV -> Bool
 | .int .. | .bool _ | .str _ | .fsl .. | .tr .. | .fn _ [] => true
 | _ => false
def adr : AV -> Bool
 | .one s => B5 s
 | .agg l => l.all B5
def Nz : TV -> Bool
 | .v x => adr x
 | .tup _ => false

def nz (L : Lay) (E : Env β) (d : Option Tmp) (c : Call) (s : St) (K : TV -> St -> Option β) : Option β :=
 match c.callee with
 | .value f => match (aF s f).sv with
  | .fn g caps => match gOf E.gfns g with
   | some GS => match GR L s s.blks c.argTypes.toList c.args.toList with
    | some (xs, b) => evG (qq g E.hints.own) GS (xs ++ caps.map D0) ⟨s.tmps, b⟩ K
    | none => none
   | none => match NI E.muts g with
   | some MS => cond (Nat.beq caps.length 0) (ML MS (c.args.toList.map (aF s)) s K) none
   | none => cond (qq g E.hints.args) (cond (Nat.beq caps.length 0 && Nat.beq c.argTypes.toList.length c.args.toList.length) (match qW s.blks (List.zipWith (Em L s) c.argTypes.toList c.args.toList) with
    | (xs, b) => cond (xs.all Nz) (gK E.fns g xs fun r => KM (qq g E.hints.res || qj E.hints d) s.tmps b r K) none) none)
    (match sS s.blks caps, nu L s c.args.toList c.argTypes.toList with
   | some cs, some xs => gK E.fns g (xs ++ cs.map MF) fun r => KM (qq g E.hints.res || qj E.hints d) s.tmps s.blks r K
   | _, _ => none)
  | .bfn g l => match nu L s c.args.toList c.argTypes.toList with
   | some xs => gK E.fns g (.v (.agg (l.map FS.sv)) :: xs) fun r => KM (qq g E.hints.res || qj E.hints d) s.tmps s.blks r K
   | _ => none
  | .dfn g cs => match nu L s c.args.toList c.argTypes.toList with
   | some xs => gK E.fns g (xs ++ cs.map MF) fun r => KM (qq g E.hints.res || qj E.hints d) s.tmps s.blks r K
   | _ => none
  | _ => none
 | .builtin .len => match c.args.toList with
  | [x] => match c.argTypes.toList with
   | [t] => BM L t (aF s x).sv s K
   | _ => none
  | _ => none
 | .builtin .max => match c.args.toList with
  | [x, y] => match (aF s x).sv, (aF s y).sv with
   | .int k a, .int k' b => cond (bI k k') (K (one (.int k (mxI a b))) s) none
   | _, _ => none
  | _ => none
 | .builtin .min => match c.args.toList with
  | [x, y] => match (aF s x).sv, (aF s y).sv with
   | .int k a, .int k' b => cond (bI k k') (K (one (.int k (mnI a b))) s) none
   | _, _ => none
  | _ => none
 | .builtin .append => match c.args.toList with
  | [x, y] => fj L c.argTypes.toList (aF s x).sv (aF s y).sv s K
  | _ => none
 | .builtin .clear => match c.args.toList with
  | [x] => oY L c.argTypes.toList (aF s x).sv s K
  | _ => none
 | _ => none

def dM (L : Lay) (E : Env β) (o : Oper) (s : St) (K : TV -> St -> Option β) : Option β :=
 match o.op with
 | .move x | .assign x => fk L E.hints o.dst o.type x s K
 | .pick c a b => match (aF s c).sv with
  | .bool t => cond t (K (aF s a) s) (K (aF s b) s)
  | _ => none
 | .alloc t => match be L (qj E.hints o.dst) (cC L t) s.blks with
  | some (l, b) => K (one (.ptr b.length 0)) ⟨s.tmps, b ++ [.cells t l]⟩
  | none => none
 | .box t x => match (aF s x).cells with
  | some l => cond (l.all dJ) (K (one (.ptr s.blks.length 0)) (s.add (.cells t l))) none
  | none => none
 | .build t parts => match L.at_ t, be L (qj E.hints o.dst) (cC L t) s.blks with
  | .struct fs _ _ _, some (l, b) => match s6 fs l (parts.toList.map fun p => (p.1, aF s p.2)) with
   | some l' => K (.v (.agg l')) ⟨s.tmps, b⟩
   | none => none
  | .array _ _, some (l, b) => match parts.toList with
   | [] => K (.v (.agg l)) ⟨s.tmps, b⟩
   | _ => none
  | _, _ => none
 | .load t a => sZ L t (aF s a).sv s K
 | .store t a v => o0 t L (aF s a).sv (aF s v) s K
 | .binOp op t x y _ => wY L op t (aF s x) (aF s y) fun v => K v s
 | .unOp op _ x => MN op (aF s x) fun v => K v s
 | .convert src dst x => match L.at_ src, L.at_ dst, (aF s x).sv with
  | .int _, .int k, .int _ n => K (one (.int k (k.wrap n))) s
  | .slice e, .string, .row j => match nth .dead s.blks j, L.at_ e with
   | .row _ (.ints .u8 l), .int .u8 => K (one (.str (aq l))) s
   | _, _ => none
  | .slice e, .slice _, .row j => cond (Nat.beq src dst) (match nth .dead s.blks j, L.at_ e with
   | .row t (.ints .u8 (n :: l)), .int .u8 => K (one (.row s.blks.length)) ⟨s.tmps, put s.blks j .dead ++ [.srow t (.ints .u8 (n :: l))]⟩
   | _, _ => none) none
  | .string, .string, .str b => K (one (.str b)) s
  | _, _, _ => none
 | .fieldAddr t x f => match fm L t f, (aF s x).sv with
  | some d, .ptr j off => K (one (.ptr j (off + d.off))) s
  | some d, .elt j z i off => K (one (.elt j z i (off + d.off))) s
  | some d, .ref r i off => K (one (.ref r i (off + d.off))) s
  | some d, .cref l off => K (one (.cref l (off + d.off))) s
  | some d, .fref r i off => K (one (.fref r i (off + d.off))) s
  | some d, .tr two T => gd (!T.isNil) (K (one (.tra two T d.off)) s)
  | _, _ => none
 | .field t x f => match fm L t f, aF s x with
  | some d, .v (.agg l) => cond (Nat.ble (d.off + d.size) l.length) (K (cond d.agg (.v (.agg (take l d.off d.size))) (.v (.one (nth .und l d.off)))) s) none
  | _, _ => none
 | .indexAddr t x i => ee L t (aF s x).sv (aF s i).sv s K
 | .index t x i => match L.at_ t, (aF s x).sv, (aF s i).sv with
  | .string, .str b, .int _ n => gd (decide (0 <= n)) (gd (decide (n < (b.size : Int))) (K (one (.int .u8 (bt b n))) s))
  | _, _, _ => none
 | .slice t x lo hi none => match L.at_ t, (aF s x).sv with
  | .string, .str b => bA b (lo.map (aF s)) (hi.map (aF s)) fun v => K v s
  | _, _ => dN L t (aF s x).sv (lo.map (aF s)) (hi.map (aF s)) s K
 | .makeSlice t n c => match L.at_ t, (aF s n).sv, (aF s c).sv with
  | .slice e, .int .i64 n, .int .i64 c => match bP L e with
   | some r => gd (decide (0 <= n)) (gd (decide (n <= c)) (gd (decide ((bq r : Int) * c <= 281474976710656)) (K (one (.row s.blks.length)) (s.add (.row e (r.zeros n.toNat))))))
   | none => none
  | _, _, _ => none
 | .buildSlice t n parts => match L.at_ t with
  | .slice e => cond (pf 0 parts.toList && Nat.beq n parts.toList.length && Nat.ble n 4096) (match qW s.blks (parts.toList.map fun p => aF s p.2) with
   | (xs, b) => match rowOf L e xs with
    | some r => K (one (.row b.length)) ⟨s.tmps, b ++ [.row e r]⟩
    | none => none) none
  | _ => none
 | .extract x i => match aF s x with
  | .tup l => match l[i]? with
   | some y => K (.v y) s
   | none => none
  | _ => none
 | .makeMap t none => match L.at_ t with
  | .map k e => match B6 L k e with
   | some kd => K (one (.mp s.blks.length)) (s.add (.mp kd []))
   | none => none
  | _ => none
 | .lookup t x i ok => j4 L t (aF s x).sv (aF s i) ok s K
 | .mapUpdate t m k v => ef L t (aF s m).sv (aF s k) (aF s v) s K
 | .makeFunc (.func g) first caps => match first.toList, qD s caps.toList with
  | [], some l => K (one (.fn g l)) s
  | [x], some [] => match aF s x with
   | .v (.agg l) => cond (l.all bO) (K (one (.bfn g (l.map (C8 [])))) s) none
   | _ => none
  | _, _ => none
 | .nilCheck x => match (aF s x).sv with
  | .ptr j off => K (one (.ptr j off)) s
  | .elt j z i off => K (one (.elt j z i off)) s
  | .ref q i off => K (one (.ref q i off)) s
  | .cref l off => K (one (.cref l off)) s
  | .fref q i off => K (one (.fref q i off)) s
  | .tr two T => gd (!T.isNil) (K (one (.tr two T)) s)
  | _ => none
 | .call c => nz L E o.dst c s K
 | _ => none

def Ea (ops : List Oper) (j : Nat) : Option Nat :=
 match ops[j]? with
 | some o => o.dst
 | none => none

def St.put (s : St) (d : Option Tmp) (v : TV) : St :=
 match d with
 | some d => ⟨Rv.put s.tmps d v, s.blks⟩
 | none => s

def oW (V : List Nat) : List Nat -> Bool
 | [] => true
 | j :: l => !(jT j V) && oW V l
def vg (V : List Nat) : List Nat -> Bool
 | [] => true
 | j :: l => jT j V && vg V l
def onB : Blk -> Bool
 | .cells .. | .row .. | .prow .. | .mp .. | .pcells .. | .pmp .. | .srow .. => true
 | .dead => false
def onN (bl : List Blk) : List Nat -> Bool
 | [] => true
 | j :: l => onB (nth .dead bl j) && onN bl l
def d6 (s : St) (o : Oper) : List Nat := jA [] (o.op.operands.toList.map (aF s))
def fW (s : St) (o : Oper) : List Nat :=
 match o.op with
 | .call c => match c.args.toList with
  | [x, _] => dE (aF s x)
  | _ => []
 | _ => []
def t7 (s : St) (o : Oper) : List Nat := cY s.blks (o.op.operands.toList.map (aF s))
def ju (E : Env β) (s : St) (o : Oper) : Bool :=
 match o.op with
 | .call c => match c.callee with
  | .value f => match (aF s f).sv with
   | .fn g _ => (gOf E.gfns g).isSome
   | _ => false
  | _ => false
 | _ => false

def tH (E : Env β) (s : St) (o : Oper) : Bool :=
 match o.op with
 | .call c => match c.callee with
  | .value f => match (aF s f).sv with
   | .fn g _ => qq g E.hints.args
   | _ => false
  | _ => false
 | _ => false
def evQ (L : Lay) (E : Env β) (V : Option (Option (List Nat))) (q : Bool) (o : Oper) (s : St) (K : TV -> St -> Option β) : Option β :=
 match V with
 | none => dM L E o s K
 | some none => cond (q && cg o.op) (cond (tH E s o) none (dM L ⟨E.fns, [], E.loops, [], E.hints⟩ o s fun v s' => cond (dg v) (K v s') none)) (dM L ⟨E.fns, [], E.loops, [], E.hints⟩ o s K)
 | some (some N) => cond q
  (cond (!(cg o.op) && (fR o.op || vg N (d6 s o))) (dM L ⟨E.fns, [], E.loops, [], E.hints⟩ o s K) none)
  (cond (ju E s o) (cond (oW N (t7 s o) && (onN s.blks N && onN s.blks (t7 s o))) (dM L ⟨E.fns, [], E.loops, E.gfns, E.hints⟩ o s K) none)
   (cond (fX o.op && !(oW N (fW s o) && (onN s.blks N && onN s.blks (fW s o)))) none (dM L ⟨E.fns, [], E.loops, [], E.hints⟩ o s K)))

def b5 (L : Lay) (E : Env β) (V : Option (Option (List Nat))) (q : Bool) (ops : List Oper) : List Oper -> St -> (St -> Option β) -> Option β
 | [], s, K => K s
 | o :: rest, s, K => qx s fun s =>
  match o.guard with
  | none => evQ L E V q o s fun v s' => b5 L E V q ops rest (s'.put o.dst v) K
  | some (j, want) => match Ea ops j with
   | none => none
   | some d => match (nth ac s.tmps d).sv with
    | .bool b => match want with
     | true => cond b (evQ L E V q o (s.put (some d) (one (.bool true))) fun v s' => b5 L E V q ops rest (s'.put o.dst v) K)
       (b5 L E V q ops rest ((s.put (some d) (one (.bool false))).put o.dst (one .no)) K)
     | false => cond b (b5 L E V q ops rest ((s.put (some d) (one (.bool true))).put o.dst (one .no)) K)
       (evQ L E V q o (s.put (some d) (one (.bool false))) fun v s' => b5 L E V q ops rest (s'.put o.dst v) K)
    | .no => b5 L E V q ops rest (s.put o.dst (one .no)) K
    | _ => none

def pb (E : Env β) (ops : List Oper) : Bool :=
 match E.gfns with
 | [] => false
 | _ => ops.any fun o => match o.op with
  | .call c => match c.callee with
   | .value (.func g) => (gOf E.gfns g).isSome
   | _ => false
  | _ => false
def Ez (E : Env β) (ops : Array Oper) : Option (List (Nat × Bool)) := cond (pb E ops.toList) none (pu ops)
def adi (m t : Nat) : Nat := m ||| (1 <<< t)
def afK (m t : Nat) : Nat := (m ||| (1 <<< t)) ^^^ (1 <<< t)
def inN (m t : Nat) : Bool := Nat.beq ((m >>> t) % 2) 1

def G7 (xs : List Operand) (acc : Nat) : Nat :=
 match xs with
 | [] => acc
 | .tmp t :: l => adi (G7 l acc) t
 | _ :: l => G7 l acc

def zy : List Oper -> Nat -> Nat
 | [], out => out
 | o :: rest, out =>
  G7 o.op.operands.toList (match o.dst with
   | some d => afK (zy rest out) d
   | none => zy rest out)

def GX : List (Nat × Nat) -> Nat -> Nat
 | [], _ => 0
 | (i, l) :: r, j => cond (Nat.beq i j) l (GX r j)

def kc (ret : Nat) : Code -> List (Nat × Nat) -> Nat -> Nat
 | .skip, _, out => out
 | .region _ ops _, _, out => zy ops.toList out
 | .seq a b, ex, out => kc ret a ex (kc ret b ex out)
 | .cond c a b, ex, out => G7 [c] (kc ret a ex out ||| kc ret b ex out)
 | .block id c, ex, out => kc ret c ((id, out) :: ex) out
 | .loop c, ex, _ => kc ret c ex (kc ret c ex 0)
 | .exit id, ex, _ => GX ex id
 | .ret, _, _ => ret
 | _, _, out => out

def uL : List Blk -> Nat -> List Nat
 | [], _ => []
 | b :: l, n => cond b.pin (n :: uL l (n + 1)) (uL l (n + 1))

def forget (lv : Nat) : List TV -> Nat -> List TV
 | [], _ => []
 | x :: l, n => (cond (inN lv n) x ac) :: forget lv l (n + 1)

def St.tidy (lv : Nat) (s : St) : St :=
 match Rv.forget lv s.tmps 0 with
 | tm => match close s.blks 4 (jA (uL s.blks 0) tm) with
  | sel => ⟨tm.map (nL sel), sel.map fun j => Ac sel (nth .dead s.blks j)⟩

def qa (L : Lay) (E : Env β) (V : Option (List Nat)) (ops : List Oper) : List (Nat × Bool) -> St -> (St -> Option β) -> Option β
 | [], s, K => K s
 | (i, m) :: l, s, K => match ops[i]? with
  | some o => b5 L E (some V) (!m) ops [o] s fun s' => qa L E V ops l s' K
  | none => none

def chk (b : Bool) (x : Option β) : Option β := match b with
 | true => x
 | false => none
def f8 : Row -> Row -> Option β -> Option β
 | .ints k l, .ints k' m, K => chk (bI k k') (gd (l == m) K)
 | .bools l, .bools m, K => gd (l == m) K
 | .pairs l, .pairs m, K => gd (l == m) K
 | .trips l, .trips m, K => gd (l == m) K
 | .strs l, .strs m, K => gd (decide (l = m)) K
 | .lists e l, .lists e' m, K => chk (Nat.beq e e') (gd (l == m) K)
 | _, _, _ => none
def CN : SV -> SV -> Option β -> Option β
 | .int k a, .int k' b, K => chk (bI k k') (gd (a == b) K)
 | .bool a, .bool b, K => gd (a == b) K
 | .str a, .str b, K => gd (decide (a = b)) K
 | .ptr j o, .ptr j' o', K => chk (Nat.beq j j' && Nat.beq o o') K
 | .row j, .row j', K => chk (Nat.beq j j') K
 | .sl t r, .sl t' r', K => chk (Nat.beq t t') (f8 r r' K)
 | .fn f [], .fn f' [], K => chk (Nat.beq f f') K
 | .mp j, .mp j', K => chk (Nat.beq j j') K
 | .nilp, .nilp, K => K
 | .nilm, .nilm, K => K
 | .nilf, .nilf, K => K
 | .no, .no, K => K
 | .und, .und, K => K
 | .fsl t r, .fsl t' r', K => chk (Nat.beq t t') (f8 r r' K)
 | .fpt r, .fpt r', K => f8 r r' K
 | .tr b T, .tr b' T', K => chk (b == b') (gd (T.beq T') K)
 | _, _, _ => none
def xR : List SV -> List SV -> Option β -> Option β
 | [], [], K => K
 | x :: l, y :: m, K => CN x y (xR l m K)
 | _, _, _ => none
def CL : AV -> AV -> Option β -> Option β
 | .one x, .one y, K => CN x y K
 | .agg l, .agg m, K => xR l m K
 | _, _, _ => none
def Ag : List AV -> List AV -> Option β -> Option β
 | [], [], K => K
 | x :: l, y :: m, K => CL x y (Ag l m K)
 | _, _, _ => none
def Ho : TV -> TV -> Option β -> Option β
 | .v x, .v y, K => CL x y K
 | .tup l, .tup m, K => Ag l m K
 | _, _, _ => none
def u6 : List TV -> List TV -> Option β -> Option β
 | [], [], K => K
 | x :: l, y :: m, K => Ho x y (u6 l m K)
 | _, _, _ => none
def Hn : Blk -> Blk -> Option β -> Option β
 | .cells t l, .cells t' m, K => chk (Nat.beq t t') (xR l m K)
 | .row t r, .row t' q, K => chk (Nat.beq t t') (f8 r q K)
 | .prow k t r, .prow k' t' q, K => chk (Nat.beq k k' && Nat.beq t t') (f8 r q K)
 | .mp t l, .mp t' m, K => chk (nN t t') (gd (l == m) K)
 | .pcells k t l, .pcells k' t' m, K => chk (Nat.beq k k' && Nat.beq t t') (xR l m K)
 | .pmp k t l, .pmp k' t' m, K => chk (Nat.beq k k' && nN t t') (gd (l == m) K)
 | .dead, .dead, K => K
 | .srow t r, .srow t' q, K => chk (Nat.beq t t') (f8 r q K)
 | _, _, _ => none
def u5 : List Blk -> List Blk -> Option β -> Option β
 | [], [], K => K
 | x :: l, y :: m, K => Hn x y (u5 l m K)
 | _, _, _ => none
def EI (s t : St) (K : Option β) : Option β := u6 s.tmps t.tmps (u5 s.blks t.blks K)

def cG (L : Lay) (E : Env β) (V : Option (List Nat)) (ops : List Oper) (out : Nat) : PT -> St -> (St -> Option β) -> Option β
 | .done, s, K => qx (s.tidy out) K
 | .quiet i t, s, K => match ops[i]? with
  | some o => match V with
   | none => b5 L E (some none) true ops [o] s fun s' => cG L E none ops out t s' K
   | some N => cond (fR o.op || onN s.blks (d6 s o)) (t1 (cond (fR o.op) N (eJ N (d6 s o))) fun N => b5 L E (some (some N)) true ops [o] s fun s' => cG L E (some N) ops out t s' K) none
  | none => none
 | .all c, s, K => cG L E V ops out c s K
 | .pick i t .nil, s, K => match ops[i]? with
  | some o => b5 L E (some V) false ops [o] s fun s' => cG L E V ops out t s' K
  | none => none
 | .pick i t alt, s, K => match ops[i]? with
  | some o => b5 L E (some V) false ops [o] s fun s' => cG L E V ops out t s' fun s1 => cG L E V ops out alt s fun s2 => EI s1 s2 (K s1)
  | none => none
 | .nil, _, _ => none

def rounds (f : St -> St) (body : St -> (Exit -> St -> Option β) -> Option β) : Nat -> St -> (Exit -> St -> Option β) -> Option β
 | 0, _, _ => none
 | n + 1, s, K => body s fun e s' => match e with
  | .normal => rounds f body n (f s') K
  | e => K e s'

def ev (L : Lay) (E : Env β) (ret : Nat) : Code -> List (Nat × Nat) -> Nat -> St -> (Exit -> St -> Option β) -> Option β
 | .skip, _, _, s, K => K .normal s
 | .region _ ops d, _, out, s, K =>
  cond d (match Ez E ops with
   | some pl => qa L E none ops.toList pl s fun s' => K .normal s'
   | none => cond (pb E ops.toList || ops.toList.any fun o => fX o.op)
    (qx s fun s => match ge false ops with
     | some t => cG L E (some []) ops.toList out t s fun s' => K .normal s'
     | none => none)
    (match ge true ops with
     | some t => cG L E none ops.toList out t s fun s' => K .normal s'
     | none => none))
   (b5 L E none false ops.toList ops.toList s fun s' => K .normal s')
 | .seq a b, ex, out, s, K => ev L E ret a ex (kc ret b ex out) s fun e s' => match e with
  | .normal => ev L E ret b ex out s' K
  | e => K e s'
 | .cond c a b, ex, out, s, K => match (aF s c).sv with
  | .bool t => cond t (ev L E ret a ex out s K) (ev L E ret b ex out s K)
  | _ => none
 | .block id (.loop c), ex, out, s, K => aS E.loops id (s.tidy (kc ret c ((id, out) :: ex) (kc ret c ((id, out) :: ex) 0))) fun e s' => match e with
  | .exit i => cond (Nat.beq i id) (K .normal s') (K (.exit i) s')
  | e => K e s'
 | .block id c, ex, out, s, K => ev L E ret c ((id, out) :: ex) out s fun e s' => match e with
  | .exit i => cond (Nat.beq i id) (K .normal s') (K (.exit i) s')
  | e => K e s'
 | .exit id, ex, _, s, K => K (.exit id) (s.tidy (GX ex id))
 | .ret, _, _, s, K => K .ret (s.tidy ret)
 | _, _, _, _, _ => none

structure b8 where
 id : Nat
 body : Code
 ex : List (Nat × Nat)

def b8.lv (ret : Nat) (l : b8) : Nat := kc ret l.body l.ex (kc ret l.body l.ex 0)

def aZ (ret : Nat) : Code -> List (Nat × Nat) -> Nat -> List b8
 | .seq a b, ex, out => aZ ret a ex (kc ret b ex out) ++ aZ ret b ex out
 | .cond _ a b, ex, out => aZ ret a ex out ++ aZ ret b ex out
 | .block id (.loop c), ex, out => ⟨id, c, (id, out) :: ex⟩ :: aZ ret c ((id, out) :: ex) (kc ret c ((id, out) :: ex) (kc ret c ((id, out) :: ex) 0))
 | .block id c, ex, out => aZ ret c ((id, out) :: ex) out
 | _, _, _ => []

def b8.rounds (L : Lay) (E : Env β) (ret : Nat) (l : b8) (F : Nat) (s : St) (K : Exit -> St -> Option β) : Option β :=
 Rv.rounds (St.tidy (l.lv ret)) (fun s K => ev L E ret l.body l.ex (l.lv ret) s K) F s K

def ez (L : Lay) (s : St) : ResultVar -> TV
 | .tmp t => nth ac s.tmps t
 | .cell a t => match (nth ac s.tmps a).sv with
  | .ptr j off => match (nth .dead s.blks j).cellsOf with
   | some (_, l) => (loadAt L t l off).getD ac
   | none => ac
  | _ => ac

def Tf : ResultVar -> Nat
 | .tmp t => t
 | .cell a _ => a
def ai (fn : Func) : Nat := fn.results.toList.foldl (fun m r => adi m (Tf r)) 0

def p8 : TV -> AV
 | .v x => x
 | .tup _ => .one .und

def bM (L : Lay) (s : St) : List ResultVar -> TV
 | [r] => .v (p8 (ez L s r))
 | rs => .tup (rs.map fun r => p8 (ez L s r))

def ec (bl : List Blk) : SV -> SV
 | .row j => match (nth .dead bl j).rowOf with
  | some (t, r) => .sl t r
  | none => .und
 | s => s
def d9 (bl : List Blk) : AV -> AV
 | .one s => .one (ec bl s)
 | .agg l => .agg (l.map (ec bl))
def dv (bl : List Blk) : TV -> TV
 | .v x => .v (d9 bl x)
 | .tup l => .tup (l.map (d9 bl))

def jU : Blk -> Bool
 | .row .. => true
 | _ => false

def WZ (L : Lay) (t : TypeId) : Option Bool :=
 match L.at_ t with
 | .pointer e => match L.at_ e with
  | .struct _ [c, p, q] _ _ => match L.at_ c with
   | .int .u8 => cond (Nat.beq p t && Nat.beq q t) (some false) none
   | _ => none
  | .struct _ [c, d, p, q] _ _ => match L.at_ c, L.at_ d with
   | .int .u8, .int .i64 => cond (Nat.beq p t && Nat.beq q t) (some true) none
   | _, _ => none
  | _ => none
 | _ => none
def ya (two : Bool) : SV -> Option Tr
 | .tr two' T => cond (two == two') (some T) none
 | .nilp => some .nil
 | _ => none
def En (two : Bool) (l : List SV) : Option Tr :=
 match two, l with
 | false, [.int .u8 a, p, q] => match ya two p, ya two q with
  | some l, some r => some (.node a 0 l r)
  | _, _ => none
 | true, [.int .u8 a, .int .i64 b, p, q] => match ya two p, ya two q with
  | some l, some r => some (.node a b l r)
  | _, _ => none
 | _, _ => none
def tk (L : Lay) (t : TypeId) (bl : List Blk) : AV -> AV × List Blk
 | .one s => match WZ L t with
  | some two => match s with
   | .nilp => (.one (.tr two .nil), bl)
   | .ptr j 0 => match nth .dead bl j with
    | .cells _ l => match En two l with
     | some T => (.one (.tr two T), put bl j .dead)
     | none => (.one s, bl)
    | _ => (.one s, bl)
   | _ => (.one s, bl)
  | none => (.one s, bl)
 | .agg l => (.agg l, bl)
def qd (L : Lay) : List TypeId -> List Blk -> List AV -> List AV × List Blk
 | t :: ts, bl, x :: xs => match tk L t bl x with
  | (x', b) => match qd L ts b xs with
   | (xs', b') => (x' :: xs', b')
 | _, bl, xs => (xs, bl)
def cz (L : Lay) (ts : List TypeId) (bl : List Blk) : TV -> TV × List Blk
 | .v x => match ts with
  | [t] => match tk L t bl x with | (x', b) => (.v x', b)
  | _ => (.v x, bl)
 | .tup l => match qd L ts bl l with | (l', b) => (.tup l', b)

def bz (L : Lay) (s : St) (ts : List TypeId) (rs : List ResultVar) : Option TV :=
 match cz L ts s.blks (bM L s rs) with
 | (y, bl) => cond (Tg y && nI (dK y) && (dK y).all fun j => jU (nth .dead bl j)) (some (dv bl y)) none

def Aq (fn : Func) (args : List TV) : St := ⟨args ++ List.replicate (fn.ntmps - args.length) ac, []⟩

def aL (L : Lay) (E : Env β) (fn : Func) (args : List TV) (K : TV -> Option β) : Option β :=
 match fn.body with
 | none => none
 | some c => ev L E (ai fn) c [] (ai fn) (Aq fn args) fun e s => match e with
  | .normal => match bz L s fn.resultTypes.toList fn.results.toList with | some y => K y | none => none
  | .ret => match bz L s fn.resultTypes.toList fn.results.toList with | some y => K y | none => none
  | _ => none

def okV (L : Lay) (s : St) : ResultVar -> Bool
 | .tmp t => match nth ac s.tmps t with
  | .v _ => true
  | .tup _ => false
 | .cell a t => match (nth ac s.tmps a).sv with
  | .ptr j off => match (nth .dead s.blks j).cellsOf with
   | some (_, l) => match loadAt L t l off with
    | some (.v _) => true
    | _ => false
   | none => false
  | _ => false
def RX (L : Lay) (s : St) (rs : List ResultVar) : Option (TV × List Blk) :=
 cond (rs.all (okV L s)) (some (nth ac ((⟨[bM L s rs], s.blks⟩ : St).tidy 1).tmps 0, ((⟨[bM L s rs], s.blks⟩ : St).tidy 1).blks)) none
def oZ (L : Lay) (E : Env β) (fn : Func) (args : List TV) (bl : List Blk) (K : TV -> List Blk -> Option β) : Option β :=
 match fn.body with
 | none => none
 | some c => ev L E (ai fn) c [] (ai fn) ⟨args ++ List.replicate (fn.ntmps - args.length) ac, bl⟩ fun e s => match e with
  | .normal => match RX L s fn.results.toList with | some p => K p.1 p.2 | none => none
  | .ret => match RX L s fn.results.toList with | some p => K p.1 p.2 | none => none
  | _ => none

def d0 (fn : Func) : List b8 :=
 match fn.body with
 | none => []
 | some c => aZ (ai fn) c [] (ai fn)
end
end Go.Rv
