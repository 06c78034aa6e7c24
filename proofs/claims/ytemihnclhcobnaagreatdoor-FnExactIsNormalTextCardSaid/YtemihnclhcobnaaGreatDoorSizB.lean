/- Sizes of formulas: rows of rows that an append takes on, as they lie in memory. -/
import Derived.Test.YtemihnclhcobnaaGreatDoorRvLib
import Derived.Laws.AppendOwn
import Derived.Laws.OwnMore
import Derived.OneCell
import Derived.OwnWalk
import Derived.Below
import Derived.Deep.RegionLaw
import Derived.Test.YtemihnclhcobnaaGreatDoorSizT
import Derived.Test.YtemihnclhcobnaaGreatDoorProg
import Derived.KernelRfl
import Derived.Laws.CopyOwn
import Derived.RangeFuncRecord
import Derived.Lib.Walk
import Derived.WalkKit
import Derived.Deep.LoopGhost
import Derived.Deep.QuietTactic
import Derived.BigQuiet
namespace Go.Proofs.YtemihnclhcobnaaGreatDoor
open Go.Rv Go.RowKit
set_option linter.unusedVariables false
theorem jL {P : Program} (w : World) (base : Nat) (t ty e : TypeId) (i : TypeInfo) (z : Value) (size bytes : Nat) (ht : P.underlying t = some (.slice e)) (hi : P.info? e = some i) (hz : i.zero = some z)
  (hsize : i.size = size) (hby : i.bytes = bytes) (hzs : z.cells.size = size) (hsz : 0 < size)
  (v : Value) (n : Nat) (xs : List Value) (hown : w.ownsRow base e size v n xs)
  (a : Addr) (m c : Nat) (news : List Value) (hl : news.length = m * size) (hnews : ∀ j u, news[j]? = some u -> w.cell? (a.add j) = some u) (h1 : ∀ u ∈ news, u.oneCell' = true)
  (h63 : n + m <= maxLen) (hbytes : (n + m) * bytes <= 140737488355328) (hbase : base <= w.heap.size) :
  ∃ v' w', (Builtin.append_ #[t, t] ty #[v, .slice (some a) m c]).run P w = .ok v' w' /\ w'.ownsRow base e size v' (n + m) (xs ++ news) /\ w.grownBy w' v.ownBlock /\
   (v'.ownBlock = v.ownBlock \/ ∀ g, v'.ownBlock = some g -> w.heap.size <= g) := by
 obtain ⟨v', w', hr, h2, h3, h4⟩ := run_append_own (P := P) w base t ty e i z size bytes ht hi hz hsize hby hzs hsz v n xs hown a m c news hl hnews h1 h63 hbytes hbase
 have h63' : n + m <= 9223372036854775807 := by rw [dn] at h63; omega
 refine ⟨v', w', hr, h2, h3, ?_⟩
 rcases hown.2 with ⟨rfl, h0⟩ | ⟨g, cap, cur, rfl, hbg, hg, hnc, hcm, hcs, htake⟩
 ·by_cases hm : m = 0
  ·left; rw [h4.2 ⟨rfl, hm⟩]
  ·right
   have hr2 := run_append_nil (P := P) w t ty e i z ht hi hz a m c news (by rw [hsize]; exact hl) hnews (by omega) (by omega) (by
    rw [hby]
    have : m * bytes <= (n + m) * bytes := ak6 _ (by omega)
    omega)
   rw [hr] at hr2
   simp only [alz] at hr2
   intro g hg
   rw [hr2.1] at hg
   simp [Value.ownBlock] at hg; omega
 ·by_cases hroom : n + m <= cap
  ·left
   obtain ⟨w2, hr2, _⟩ := run_append_fits (P := P) w base t ty e i size ht hi hsize g n cap xs hown a m c news hl hnews h1 hroom
   rw [hr] at hr2
   simp only [alz] at hr2
   rw [hr2.1]; rfl
  ·right
   have hr2 := run_append_grow (P := P) w t ty e i z ht hi hz ⟨g, 0, none⟩ n cap xs (by rw [hsize]; exact hown.1) (hown.cells (g := g) rfl) a m c news (by rw [hsize]; exact hl) hnews (by omega) (by omega) (growslice_fits (by omega) (by rw [hby]; exact hbytes))
   rw [hr] at hr2
   simp only [alz] at hr2
   intro g' hg'
   rw [hr2.1] at hg'
   simp [Value.ownBlock] at hg'; omega
theorem iO {P : Program} {ops : Array Oper} {o : Oper} {a : Act} {w : World} {K : Act -> World -> Prop} {Q : Exit -> Act -> World -> Prop} {E : Prop}
  (hgd : o.guard = none) (s x : Operand) (t : TypeId) (hop : o.op = Op.call { callee := Callee.builtin Builtin.append, args := #[s, x], argTypes := #[t, t] })
  (base : Nat) (e : TypeId) (i : TypeInfo) (z : Value) (size bytes : Nat) (ht : P.underlying t = some (.slice e)) (hi : P.info? e = some i) (hz : i.zero = some z)
  (hsize : i.size = size) (hby : i.bytes = bytes) (hzs : z.cells.size = size) (hsz : 0 < size)
  (v : Value) (n : Nat) (xs : List Value) (hs : a.eval s = v) (hown : w.ownsRow base e size v n xs)
  (ad : Addr) (m c : Nat) (news : List Value) (hx : a.eval x = .slice (some ad) m c) (hl : news.length = m * size) (hnews : ∀ j u, news[j]? = some u -> w.cell? (ad.add j) = some u) (h1 : ∀ u ∈ news, u.oneCell' = true)
  (h63 : n + m <= maxLen) (hbytes : (n + m) * bytes <= 140737488355328) (hbase : base <= w.heap.size)
  (h : ∀ v' w', w'.ownsRow base e size v' (n + m) (xs ++ news) -> w.grownBy w' v.ownBlock -> (v'.ownBlock = v.ownBlock \/ ∀ g, v'.ownBlock = some g -> w.heap.size <= g) -> K (a.put o.dst v') w') :
  if Region.wanted o (yielded ops a.tmps) = true then Oper.wp P o a w K Q else E := by
 have hw : Region.wanted o (yielded ops a.tmps) = true := by simp [Region.wanted, hgd]
 rw [if_pos hw]
 obtain ⟨v', w', hr, h2, h3, h4⟩ := jL (P := P) w base t o.type e i z size bytes ht hi hz hsize hby hzs hsz v n xs hown ad m c news hl hnews h1 h63 hbytes hbase
 unfold Oper.wp execOp
 simp only [hop, resolve, invoke, builtin, akk, akr, akb, ami, akD, ak8, hs, hx, hr]
 exact h v' w' h2 h3 h4
theorem dj {P : Program} {w : World} {ops : Array Oper} {rest : List Oper} {o : Oper} {a : Act} {Q : Exit -> Act -> World -> Prop} (hgd : o.guard = none) (s x : Operand) (t : TypeId)
  (ho : o.op = .call { callee := .builtin .append, args := #[s, x], argTypes := #[t, t] })
  (base : Nat) (e : TypeId) (i : TypeInfo) (z : Value) (size bytes : Nat) (ht : P.underlying t = some (.slice e)) (hi : P.info? e = some i) (hz : i.zero = some z)
  (hsize : i.size = size) (hby : i.bytes = bytes) (hzs : z.cells.size = size) (hsz : 0 < size)
  (v : Value) (n : Nat) (xs : List Value) (hs : a.eval s = v) (hown : w.ownsRow base e size v n xs)
  (ad : Addr) (m c : Nat) (news : List Value) (hx : a.eval x = .slice (some ad) m c) (hl : news.length = m * size) (hnews : ∀ j u, news[j]? = some u -> w.cell? (ad.add j) = some u) (h1 : ∀ u ∈ news, u.oneCell' = true)
  (h63 : n + m <= maxLen) (hbytes : (n + m) * bytes <= 140737488355328) (hbase : base <= w.heap.size)
  (h : ∀ v' w', w'.ownsRow base e size v' (n + m) (xs ++ news) -> w.grownBy w' v.ownBlock -> (v'.ownBlock = v.ownBlock \/ ∀ g, v'.ownBlock = some g -> w.heap.size <= g) -> wpList P ops Q rest (a.put o.dst v') w') : wpList P ops Q (o :: rest) a w :=
 wpList_plain hgd fun _ hK => by
  obtain ⟨v', w', hr, h2, h3, h4⟩ := jL (P := P) w base t o.type e i z size bytes ht hi hz hsize hby hzs hsz v n xs hown ad m c news hl hnews h1 h63 hbytes hbase
  unfold Oper.wp execOp
  simp only [ho, resolve, invoke, builtin, akk, akr, akb, ami, akD, ak8, hs, hx, hr]
  exact hK _ _ (h v' w' h2 h3 h4)
def vi (l : List Nat) : List Value := l.map fun x : Nat => Value.int .i64 x
def vz (l : List Int) : List Value := l.map (Value.int .i64)
theorem agB (l : List Nat) : (vi l).length = l.length := akx ..
theorem agC (l : List Int) : (vz l).length = l.length := akx ..
structure Rows (B ti : Nat) (go : Nat) (w : World) (bys : List (List Nat)) (hs : List Value) : Prop where
 len : hs.length = bys.length
 own : ∀ (j : Nat) h l, hs[j]? = some h -> bys[j]? = some l -> w.ownsRow B ti 1 h l.length (vi l)
 sep : ∀ (j : Nat) h, hs[j]? = some h -> h.ownBlock ≠ some go
 dist : ∀ (i j : Nat) h h', i ≠ j -> hs[i]? = some h -> hs[j]? = some h' -> h.ownBlock = none \/ h.ownBlock ≠ h'.ownBlock
theorem Rows.keep {B ti go : Nat} {w w' : World} {bys : List (List Nat)} {hs : List Value} (h : Rows B ti go w bys hs) (hk : ∀ (j : Nat) v l, hs[j]? = some v -> w.ownsRow B ti 1 v l.length (vi l) -> w'.ownsRow B ti 1 v l.length (vi l)) : Rows B ti go w' bys hs :=
 ⟨h.len, fun j v l h1 h2 => hk j v l h1 (h.own j v l h1 h2), h.sep, h.dist⟩
theorem cP {w : World} {B e n : Nat} {v : Value} {xs : List Value} (h : w.ownsRow B e 1 v n xs) {g : Nat} (hg : v.ownBlock = some g) : ∃ cs, w.heap[g]? = some (.cells cs e (0, 0)) := by
 rcases h.2 with ⟨rfl, _⟩ | ⟨g', cap, cur, rfl, _, hh, _⟩
 ·cases hg
 ·simp only [Value.ownBlock, aj1] at hg
  subst hg
  exact ⟨cur, hh⟩
theorem cy {w : World} {B e e' n : Nat} {v : Value} {xs : List Value} (h : w.ownsRow B e 1 v n xs) {g : Nat} {cs : Array Value} {fr : Nat × Nat} (hg : w.heap[g]? = some (.cells cs e' fr)) (hne : e ≠ e') : v.ownBlock ≠ some g := by
 intro hv
 obtain ⟨cs', h'⟩ := cP h hv
 rw [h'] at hg
 simp only [aj1, aly] at hg
 exact hne hg.2.1
theorem Rows.set {B ti go : Nat} {w w' : World} {bys : List (List Nat)} {hs : List Value} (h : Rows B ti go w bys hs) {s : Nat} {v v' : Value} {l : List Nat} (hv : hs[s]? = some v) (hsl : s < bys.length)
  (hown : w'.ownsRow B ti 1 v' l.length (vi l)) (hgr : w.grownBy w' v.ownBlock) (hnew : v'.ownBlock = v.ownBlock \/ ∀ g, v'.ownBlock = some g -> w.heap.size <= g) (hgo : go < w.heap.size) :
  Rows B ti go w' (bys.set s l) (hs.set s v') := by
 have hlt : ∀ (j : Nat) u, hs[j]? = some u -> ∀ k, u.ownBlock = some k -> k < w.heap.size := fun j u hu k hk => by
  have hj : j < bys.length := by rw [<- h.len]; exact (amH.1 hu).1
  exact ((h.own j u _ hu (amF hj)).lt k hk).2
 refine ⟨by rw [akA, akA, h.len], fun j u m h1 h2 => ?_, fun j u h1 => ?_, fun i j u u' hij h1 h2 => ?_⟩
 ·by_cases e : s = j
  ·subst e
   rw [amL (by rw [h.len]; exact hsl)] at h1
   rw [amL hsl] at h2
   cases h1; cases h2
   exact hown
  ·rw [amK e] at h1 h2
   refine (h.own j u m h1 h2).kept hgr ?_
   exact h.dist j s u v (fun x => e x.symm) h1 hv
 ·by_cases e : s = j
  ·subst e
   rw [amL (by rw [h.len]; exact hsl)] at h1
   cases h1
   rcases hnew with hn | hn
   ·rw [hn]; exact h.sep s v hv
   ·intro hx
    have := hn go hx
    omega
  ·rw [amK e] at h1
   exact h.sep j u h1
 ·have fresh : ∀ (k : Nat) x, k ≠ s -> hs[k]? = some x -> (v'.ownBlock = none \/ v'.ownBlock ≠ x.ownBlock) /\ (x.ownBlock = none \/ x.ownBlock ≠ v'.ownBlock) := fun k x hk hx => by
   rcases hnew with hn | hn
   ·rw [hn]; exact ⟨h.dist s k v x (fun e => hk e.symm) hv hx, h.dist k s x v hk hx hv⟩
   ·cases hb : x.ownBlock with
    | none =>
     refine ⟨?_, .inl rfl⟩
     cases v'.ownBlock <;> simp
    | some b =>
     have hlt' := hlt k x hx b hb
     have : v'.ownBlock ≠ some b := fun e => by have := hn b e; omega
     exact ⟨.inr this, .inr fun e => this e.symm⟩
  by_cases e : s = i
  ·subst e
   rw [amL (by rw [h.len]; exact hsl)] at h1
   rw [amK hij] at h2
   cases h1
   exact (fresh j u' (fun e => hij e.symm) h2).1
  ·rw [amK e] at h1
   by_cases e2 : s = j
   ·subst e2
    rw [amL (by rw [h.len]; exact hsl)] at h2
    cases h2
    exact (fresh i u hij h1).2
   ·rw [amK e2] at h2
    exact h.dist i j u u' hij h1 h2
structure Mem (B ti tr trr go cap Co Cb : Nat) (os : List Int) (bys : List (List Nat)) (vb : Value) (hs : List Value) (w : World) : Prop where
 out : w.ownsRow B ti 1 (.slice (some ⟨go, 0, none⟩) os.length cap) os.length (vz os)
 co : w.heap[Co]? = some (.cells #[.slice (some ⟨go, 0, none⟩) os.length cap] tr (0, 0))
 cb : w.heap[Cb]? = some (.cells #[vb] trr (0, 0))
 by_ : w.ownsRow B tr 1 vb bys.length hs
 rows : Rows B ti go w bys hs
 cne : vb.ownBlock ≠ some Co
 cB : B <= Co /\ B <= Cb
section
variable {B ti tr trr go cap Co Cb : Nat} {os : List Int} {bys : List (List Nat)} {vb : Value} {hs : List Value} {w : World}
theorem Mem.goLt (h : Mem B ti tr trr go cap Co Cb os bys vb hs w) : B <= go /\ go < w.heap.size := h.out.lt go rfl
theorem Mem.kind (h : Mem B ti tr trr go cap Co Cb os bys vb hs w) : ∃ cs, w.heap[go]? = some (.cells cs ti (0, 0)) := cP h.out rfl
theorem Mem.alloc (h : Mem B ti tr trr go cap Co Cb os bys vb hs w) (o : Obj) : Mem B ti tr trr go cap Co Cb os bys vb hs (w.alloc o) :=
 ⟨h.out.alloc o, by rw [alF _ _ _ (lt_of_block h.co)]; exact h.co, by rw [alF _ _ _ (lt_of_block h.cb)]; exact h.cb, h.by_.alloc o, h.rows.keep fun _ _ _ _ h => h.alloc o, h.cne, h.cB⟩
theorem Mem.drew (h : Mem B ti tr trr go cap Co Cb os bys vb hs w) : Mem B ti tr trr go cap Co Cb os bys vb hs w.drew :=
 ⟨h.out.drew, h.co, h.cb, h.by_.drew, h.rows.keep fun _ _ _ _ h => h.drew, h.cne, h.cB⟩
theorem Mem.below (h : Mem B ti tr trr go cap Co Cb os bys vb hs w) {w' : World} (hb : Below w.heap.size w w') : Mem B ti tr trr go cap Co Cb os bys vb hs w' := by
 have hg : w.grownBy w' none := ⟨hb.os, hb.tape, hb.output, hb.size, fun k hk _ => hb.block k hk⟩
 have keep : ∀ {e n : Nat} {v : Value} {xs : List Value}, w.ownsRow B e 1 v n xs -> w'.ownsRow B e 1 v n xs := fun h => h.kept hg (by
  rename_i v xs
  cases v.ownBlock <;> simp)
 exact ⟨keep h.out, by rw [hb.block _ (lt_of_block h.co)]; exact h.co, by rw [hb.block _ (lt_of_block h.cb)]; exact h.cb, keep h.by_, h.rows.keep fun _ _ _ _ h => keep h, h.cne, h.cB⟩
theorem Mem.put (h : Mem B ti tr trr go cap Co Cb os bys vb hs w) (hne : ti ≠ tr) (hne2 : ti ≠ trr) (j : Nat) (x : Int) : Mem B ti tr trr go cap Co Cb (os.set j x) bys vb hs (w.setCell ⟨go, j, none⟩ (.int .i64 x)) := by
 obtain ⟨cs, hk⟩ := h.kind
 have n1 : Co ≠ go := fun e => by
  have h' := h.co
  rw [e, hk] at h'
  simp only [aj1, aly] at h'
  exact hne h'.2.1
 have n2 : Cb ≠ go := fun e => by
  have h' := h.cb
  rw [e, hk] at h'
  simp only [aj1, aly] at h'
  exact hne2 h'.2.1
 refine ⟨?_, ?_, ?_, ?_, ?_, h.cne, h.cB⟩
 ·have := (h.out.stored j (.int .i64 x)).1
  rw [akA]
  unfold vz at this ⊢
  rw [al7]
  exact this
 ·rw [akA, alg _ _ _ _ n1]; exact h.co
 ·rw [alg _ _ _ _ n2]; exact h.cb
 ·exact ownsRow_setCell_other h.by_ (cy h.by_ hk (fun e => hne e.symm)) _
 ·exact h.rows.keep fun i v l hv h' => ownsRow_setCell_other h' (h.rows.sep i v hv) _
theorem Mem.app (h : Mem B ti tr trr go cap Co Cb os bys vb hs w) (h1 : ti ≠ tr) (h2 : ti ≠ trr) (h3 : tr ≠ trr) {s : Nat} {l l' : List Nat} {v v' : Value} {w1 : World} {gb cb' : Nat} (hvb : vb = .slice (some ⟨gb, 0, none⟩) bys.length cb')
  (hs' : hs[s]? = some v) (hl : bys[s]? = some l) (hown : w1.ownsRow B ti 1 v' l'.length (vi l')) (hgr : w.grownBy w1 v.ownBlock) (hnew : v'.ownBlock = v.ownBlock \/ ∀ g, v'.ownBlock = some g -> w.heap.size <= g) :
  Mem B ti tr trr go cap Co Cb os (bys.set s l') vb (hs.set s v') (w1.setCell ⟨gb, s, none⟩ v') := by
 have hsl : s < bys.length := (amH.1 hl).1
 have hv := h.rows.own s v l hs' hl
 have other : ∀ {k : Nat} {cs : Array Value} {e : Nat}, w.heap[k]? = some (.cells cs e (0, 0)) -> ti ≠ e -> w1.heap[k]? = some (.cells cs e (0, 0)) := fun hk hne => by
  rw [hgr.block _ (lt_of_block hk) (fun e => cy hv hk hne e.symm)]; exact hk
 obtain ⟨cs, hk⟩ := cP h.by_ (g := gb) (by rw [hvb]; rfl)
 have hk1 := other hk h1
 have nb1 : Co ≠ gb := fun e => h.cne (by rw [hvb, e]; rfl)
 have nb2 : Cb ≠ gb := fun e => by
  have h' := h.cb
  rw [e, hk] at h'
  simp only [aj1, aly] at h'
  exact h3 h'.2.1
 have nb3 : go ≠ gb := fun e => by
  obtain ⟨cs', h'⟩ := h.kind
  rw [e, hk] at h'
  simp only [aj1, aly] at h'
  exact h1 h'.2.1.symm
 have hby1 : w1.ownsRow B tr 1 vb bys.length hs := h.by_.kept hgr (.inr (fun e => by
  cases hb : v.ownBlock with
  | none => rw [hb, hvb] at e; cases e
  | some b => exact cy h.by_ (cP hv hb).choose_spec (fun x => h1 x.symm) (by rw [e, hb])))
 refine ⟨?_, ?_, ?_, ?_, ?_, h.cne, h.cB⟩
 ·exact ownsRow_setCell_other (h.out.kept hgr (.inr fun e => h.rows.sep s v hs' e.symm)) (by simp only [Value.ownBlock, ne_eq, aj1]; exact nb3) _
 ·rw [alg _ _ _ _ nb1]; exact other h.co h1
 ·rw [alg _ _ _ _ nb2]; exact other h.cb h2
 ·rw [akA]
  rw [hvb] at hby1 ⊢
  exact (hby1.stored s v').1
 ·refine (h.rows.set hs' hsl hown hgr hnew h.goLt.2).keep fun j u m hu ho => ownsRow_setCell_other ho ?_ _
  exact cy ho hk1 h1
end
theorem Rows.snoc {B ti go : Nat} {w : World} {bys : List (List Nat)} {hs : List Value} (h : Rows B ti go w bys hs) : Rows B ti go w (bys ++ [[]]) (hs ++ [.slice none 0 0]) := by
 refine ⟨by rw [aj6, aj6, h.len]; rfl, fun j u m h1 h2 => ?_, fun j u h1 => ?_, fun i j u u' hij h1 h2 => ?_⟩
 ·by_cases e : j < bys.length
  ·rw [amB (by rw [h.len]; exact e)] at h1
   rw [amB e] at h2
   exact h.own j u m h1 h2
  ·have hj := (amH.1 h2).1
   rw [aj6] at hj
   simp only [aj4, aki] at hj
   obtain rfl : j = bys.length := by omega
   rw [amC (aj8 _), ale] at h2
   rw [<- h.len, amC (aj8 _), ale] at h1
   simp only [amE, aj1] at h1 h2
   subst h1; subst h2
   exact alX _ _ _ _
 ·rcases akg j hs.length with e | e
  ·rw [amB e] at h1
   exact h.sep j u h1
  ·rw [amC e] at h1
   cases hk : j - hs.length with
   | zero => rw [hk] at h1; simp only [amE, aj1] at h1; subst h1; simp [Value.ownBlock]
   | succ k => rw [hk] at h1; simp at h1
 ·have last : ∀ {k : Nat} {x : Value}, hs.length <= k -> (hs ++ [Value.slice none 0 0])[k]? = some x -> x.ownBlock = none := fun hk hx => by
   rename_i k x
   rw [amC hk] at hx
   cases he : k - hs.length with
   | zero => rw [he] at hx; simp only [amE, aj1] at hx; subst hx; rfl
   | succ k => rw [he] at hx; simp at hx
  rcases akg i hs.length with e | e
  ·rcases akg j hs.length with e2 | e2
   ·rw [amB e] at h1
    rw [amB e2] at h2
    exact h.dist i j u u' hij h1 h2
   ·rw [last e2 h2]
    cases u.ownBlock <;> simp
  ·exact .inl (last e h1)
section
variable {B ti tr trr go cap Co Cb : Nat} {os : List Int} {bys : List (List Nat)} {vb : Value} {hs : List Value} {w : World}
theorem Mem.grow (h : Mem B ti tr trr go cap Co Cb os bys vb hs w) (h1 : ti ≠ tr) (h2 : ti ≠ trr) (h3 : tr ≠ trr) {v' : Value} {w1 : World}
  (hown : w1.ownsRow B tr 1 v' (bys.length + 1) (hs ++ [.slice none 0 0])) (hgr : w.grownBy w1 vb.ownBlock) (hnew : v'.ownBlock = vb.ownBlock \/ ∀ g, v'.ownBlock = some g -> w.heap.size <= g) :
  Mem B ti tr trr go cap Co Cb os (bys ++ [[]]) v' (hs ++ [.slice none 0 0]) (w1.setCell ⟨Cb, 0, none⟩ v') := by
 have kindne : ∀ {k : Nat} {cs : Array Value} {e : Nat}, w.heap[k]? = some (.cells cs e (0, 0)) -> tr ≠ e -> some k ≠ vb.ownBlock := fun hk hne e => cy h.by_ hk hne e.symm
 have hcb1 : w1.heap[Cb]? = some (.cells #[vb] trr (0, 0)) := by rw [hgr.block _ (lt_of_block h.cb) (kindne h.cb h3)]; exact h.cb
 have hco1 : w1.heap[Co]? = some (.cells #[.slice (some ⟨go, 0, none⟩) os.length cap] tr (0, 0)) := by rw [hgr.block _ (lt_of_block h.co) (fun e => h.cne e.symm)]; exact h.co
 have keep : ∀ {n : Nat} {v : Value} {xs : List Value}, w.ownsRow B ti 1 v n xs -> w1.ownsRow B ti 1 v n xs := fun ho => ho.kept hgr (by
  rename_i v xs
  cases hb : v.ownBlock with
  | none => exact .inl rfl
  | some b =>
   obtain ⟨cs, hk⟩ := cP ho hb
   exact .inr (kindne hk (fun e => h1 e.symm)))
 have nCo : Co ≠ Cb := fun e => by
  have h' := h.co
  rw [e, h.cb] at h'
  simp only [aj1, aly] at h'
  exact h3 h'.2.1.symm
 have out1 := keep h.out
 refine ⟨ownsRow_setCell_other out1 (cy out1 hcb1 h2) _, by rw [alg _ _ _ _ nCo]; exact hco1, one_setCell hcb1, ?_, ?_, ?_, h.cB⟩
 ·rw [aj6]
  exact ownsRow_setCell_other hown (cy hown hcb1 h3) _
 ·exact (h.rows.keep fun j v l hv ho => ownsRow_setCell_other (keep ho) (cy (keep ho) hcb1 h2) v').snoc
 ·rcases hnew with hn | hn
  ·rw [hn]; exact h.cne
  ·intro e
   have := hn Co e
   have := lt_of_block h.co
   omega
end
theorem t8 {w : World} {B B' e n : Nat} {v : Value} {xs : List Value} (h : w.ownsRow B e 1 v n xs) (hb : B' <= B) : w.ownsRow B' e 1 v n xs := ⟨h.1, by
 rcases h.2 with h2 | ⟨g, cap, cur, h3, h4, h5⟩
 ·exact .inl h2
 ·exact .inr ⟨g, cap, cur, h3, akz hb h4, h5⟩⟩
theorem JI {B ti tr trr go cap : Nat} {os : List Int} {w : World} (h1 : ti ≠ tr) (h2 : ti ≠ trr) (hown : w.ownsRow B ti 1 (.slice (some ⟨go, 0, none⟩) os.length cap) os.length (vz os)) (hB : B <= w.heap.size) :
  Mem B ti tr trr go cap w.heap.size (w.heap.size + 2) os [[], []] (.slice (some ⟨w.heap.size + 1, 0, none⟩) 2 2) [.slice none 0 0, .slice none 0 0]
   (((w.alloc (.cells #[.slice (some ⟨go, 0, none⟩) os.length cap] tr)).alloc (.cells #[.slice none 0 0, .slice none 0 0] tr)).alloc (.cells #[.slice (some ⟨w.heap.size + 1, 0, none⟩) 2 2] trr)) := by
 have hgo := hown.lt go rfl
 have e1 : ∀ o, (w.alloc o).heap.size = w.heap.size + 1 := fun o => by simp
 have hlit := alc (base := B) (size := 1) (e := tr) (w.alloc (.cells #[.slice (some ⟨go, 0, none⟩) os.length cap] tr)) #[.slice none 0 0, .slice none 0 0] 2 (by rw [e1]; omega) (by unfold maxLen; omega) rfl
 rw [e1] at hlit
 refine ⟨((hown.alloc _).alloc _).alloc _, ?_, ?_, hlit.alloc _, ⟨rfl, fun j u m h1 h2 => ?_, fun j u h1 => ?_, fun i j u u' hij h1 h2 => .inl ?_⟩, ?_, by omega⟩
 ·rw [alF _ _ _ (by simp; omega), alF _ _ _ (by simp)]
  exact heap_alloc_new w _
 ·have := heap_alloc_new ((w.alloc (.cells #[.slice (some ⟨go, 0, none⟩) os.length cap] tr)).alloc (.cells #[.slice none 0 0, .slice none 0 0] tr)) (.cells #[.slice (some ⟨w.heap.size + 1, 0, none⟩) 2 2] trr)
  simpa using this
 ·match j with
  | 0 => simp at h1 h2; subst h1; subst h2; exact alX _ _ _ _
  | 1 => simp at h1 h2; subst h1; subst h2; exact alX _ _ _ _
  | j + 2 => simp at h1
 ·match j with
  | 0 => simp at h1; subst h1; simp [Value.ownBlock]
  | 1 => simp at h1; subst h1; simp [Value.ownBlock]
  | j + 2 => simp at h1
 ·match i with
  | 0 => simp at h1; subst h1; rfl
  | 1 => simp at h1; subst h1; rfl
  | i + 2 => simp at h1
 ·simp [Value.ownBlock]
open Go.Rv Go.RowKit Go.Lib
set_option linter.unusedSimpArgs false
theorem Nu : (Tryz.prog.info? 3).map (fun i => (i.zero, i.size, i.bytes)) = some (some (.int .i64 0), 1, 8) := by kernel_rfl
theorem WR : (Tryz.prog.info? 40).map (fun i => (i.zero, i.size, i.bytes)) = some (some (.slice none 0 0), 1, 24) := by kernel_rfl
theorem eu {w : World} {B e n : Nat} {v : Value} {xs : List Value} (h : w.ownsRow B e 1 v n xs) (hn : 0 < n) : ∃ g c, v = .slice (some ⟨g, 0, none⟩) n c := by
 rcases h.2 with ⟨_, h0⟩ | ⟨g, cap, cur, hv, _⟩
 ·omega
 ·exact ⟨g, cap, hv⟩
theorem Zy {B ti tr trr go cap Co Cb : Nat} {os : List Int} {bys : List (List Nat)} {vb v : Value} {hs : List Value} {w w2 : World} {s : Nat} {l : List Nat} (hM : Mem B ti tr trr go cap Co Cb os bys vb hs w) (hne : ti ≠ trr) (hv : hs[s]? = some v) (hl : bys[s]? = some l) (hg : w.grownBy w2 v.ownBlock) : w2.heap[Cb]? = some (.cells #[vb] trr (0, 0)) := by
 have h1 := hM.cb
 rw [hg.block _ (lt_of_block h1) (fun e => cy (hM.rows.own s v l hv hl) h1 hne e.symm)]
 exact h1
theorem by2 {B ti tr trr go cap Co Cb : Nat} {os : List Int} {bys : List (List Nat)} {v : Value} {hs : List Value} {w w2 : World} {s gb cb' : Nat} {l : List Nat} (hM : Mem B ti tr trr go cap Co Cb os bys (.slice (some ⟨gb, 0, none⟩) bys.length cb') hs w) (hne : ti ≠ tr) (hv : hs[s]? = some v) (hl : bys[s]? = some l) (hg : w.grownBy w2 v.ownBlock) : w2.frozen? ⟨gb, s, none⟩ = false /\ w2.cell? ⟨gb, s, none⟩ = some v := by
 have h1 := hM.by_
 obtain ⟨cs, hk⟩ := cP h1 (g := gb) rfl
 have h2 : w2.heap[gb]? = w.heap[gb]? := hg.block _ (lt_of_block hk) (fun e => cy (hM.rows.own s v l hv hl) hk hne e.symm)
 have hs0 : s < bys.length := (amH.1 hl).1
 refine ⟨frozen_of_row w2 gb s cs tr (h2.trans hk), ?_⟩
 have h4 := h1.cellAt s (by omega)
 rw [hv] at h4
 rw [<- h4]
 exact amS (w := w) h2
theorem KG {B go cap Co Cb : Nat} {os : List Int} {bys : List (List Nat)} {v : Value} {hs : List Value} {w : World} {s gb cb' : Nat} {l : List Nat} {x gn : Nat}
  {ops : Array Oper} {o : Oper} {a : Act} {K : Act -> World -> Prop} {Q : Exit -> Act -> World -> Prop} {E : Prop} (y z : Operand)
  (hv : hs[s]? = some v) (hl : bys[s]? = some l) (hlen : l.length <= 100000) (hM : Mem B 3 40 124 go cap Co Cb os bys (.slice (some ⟨gb, 0, none⟩) bys.length cb') hs w) {w0 : World} (hB0 : Below B w0 w)
  (hgd : o.guard = none) (hop : o.op = Op.call { callee := Callee.builtin Builtin.append, args := #[y, z], argTypes := #[40, 40] })
  (h1 : a.eval y = v) (h2 : a.eval z = .slice (some ⟨gn, 0, none⟩) 1 1) (h3 : w.cell? ⟨gn, 0, none⟩ = some (.int .i64 (x : Int)))
  (h : ∀ g' c' w2, Mem B 3 40 124 go cap Co Cb os (bys.set s (l ++ [x])) (.slice (some ⟨gb, 0, none⟩) bys.length cb') (hs.set s (.slice (some ⟨g', 0, none⟩) (l.length + 1) c')) (w2.setCell ⟨gb, s, none⟩ (.slice (some ⟨g', 0, none⟩) (l.length + 1) c')) -> Below B w0 (w2.setCell ⟨gb, s, none⟩ (.slice (some ⟨g', 0, none⟩) (l.length + 1) c')) ->
   w2.cell? ⟨Cb, 0, none⟩ = some (.slice (some ⟨gb, 0, none⟩) bys.length cb') -> w2.frozen? ⟨gb, s, none⟩ = false -> w2.cell? ⟨gb, s, none⟩ = some v -> K (a.put o.dst (.slice (some ⟨g', 0, none⟩) (l.length + 1) c')) w2) :
  if Region.wanted o (yielded ops a.tmps) = true then Oper.wp Tryz.prog o a w K Q else E := by
 obtain ⟨i0, hi, hz0, hz1, hz2⟩ := info_parts Nu
 refine iO hgd y z 40 hop B 3 i0 (.int .i64 0) 1 8 Tryz.underlying40 hi hz0 hz1 hz2 rfl (by decide) v l.length (vi l) h1 (hM.rows.own s v l hv hl) ⟨gn, 0, none⟩ 1 1 [.int .i64 (x : Int)] h2 rfl ?_ (by intro u hu; simp at hu; subst hu; rfl) (by unfold maxLen; omega) (by omega) ?_ ?_
 ·intro j u hj
  match j, hj with
  | 0, hj => simp at hj; subst hj; exact h3
 ·have := hM.goLt
  omega
 ·intro v' w2 hown2 hgr2 hnew2
  have hb := by2 hM (by decide) hv hl hgr2
  obtain ⟨g', c', rfl⟩ := eu hown2 (by omega)
  have hown3 : w2.ownsRow B 3 1 (.slice (some ⟨g', 0, none⟩) (l.length + 1) c') (l ++ [x]).length (vi (l ++ [x])) := by
   rw [show (l ++ [x]).length = l.length + 1 by simp, show vi (l ++ [x]) = vi l ++ [.int .i64 (x : Int)] by simp [vi]]; exact hown2
  have hgb := hM.by_.lt gb rfl
  exact h g' c' w2 (hM.app (by decide) (by decide) (by decide) rfl hv hl hown3 hgr2 hnew2) ((hB0.grown hgr2 (by omega) (fun k hk => ((hM.rows.own s v l hv hl).lt k hk).1)).setCell hgb.1 _) (cell_of_one (Zy hM (by decide) hv hl hgr2)) hb.1 hb.2
set_option maxHeartbeats 2000000 in
set_option maxRecDepth 100000 in
theorem qP {B go cap Co Cb : Nat} {os : List Int} {bys : List (List Nat)} {vb : Value} {hs : List Value} (w : World) (hM : Mem B 3 40 124 go cap Co Cb os bys vb hs w) (x s : Nat) (hx : x < os.length) (hs0 : s < bys.length) (hlen : (bys.getD s []).length <= 100000) :
  Calls Tryz.prog 213 #[.int .i64 x, .int .i64 s, .pointer (some ⟨Co, 0, none⟩), .pointer (some ⟨Cb, 0, none⟩)] w fun e w' => e = .returned (.tuple #[]) /\ Below B w w' /\
   ∃ hs', (∀ j : Nat, j ≠ s -> hs'[j]? = hs[j]?) /\ Mem B 3 40 124 go cap Co Cb (aU x s (os, bys)).1 (aU x s (os, bys)).2 vb hs' w' := by
 have hc1 := cell_of_one hM.co
 have hc2 : w.cell? ⟨go, x, none⟩ = some (.int .i64 (os[x]'hx)) := by
  rw [hM.out.cellAt x (by omega)]
  simp [vz, hx]
 have e1 : os.getD x 0 = os[x]'hx := by simp [List.getD, hx]
 obtain ⟨i0, hi, hz0, hz1, hz2⟩ := info_parts Nu
 by_cases hneg : os[x]'hx < 0
 ·obtain ⟨gb, cb', hvb⟩ := eu hM.by_ (by omega)
  subst hvb
  have hM1 := hM.put (by decide) (by decide) x (s : Int)
  have hf := hM.out.frozenAt x
  have hcb := cell_of_one hM1.cb
  have hh : s < hs.length := by rw [hM.rows.len]; exact hs0
  have hrow : (w.setCell ⟨go, x, none⟩ (.int .i64 (s : Int))).cell? ⟨gb, s, none⟩ = some (hs[s]'hh) := by
   rw [hM1.by_.cellAt s (by omega)]
   exact amF hh
  have hl : bys[s]? = some (bys.getD s []) := by
   rw [amF hs0]; simp [List.getD, hs0]
  have hv : hs[s]? = some (hs[s]'hh) := amF hh
  have hown := hM1.rows.own s _ _ hv hl
  have hcbA : ∀ o, ((w.setCell ⟨go, x, none⟩ (.int .i64 (s : Int))).alloc o).cell? ⟨Cb, 0, none⟩ = some (.slice (some ⟨gb, 0, none⟩) bys.length cb') := fun o => cell_of_one (hM1.alloc o).cb
  have hrowA : ∀ o, ((w.setCell ⟨go, x, none⟩ (.int .i64 (s : Int))).alloc o).cell? ⟨gb, s, none⟩ = some (hs[s]'hh) := fun o => by
   rw [(hM1.alloc o).by_.cellAt s (by omega)]
   exact amF hh
  have hB1 : Below B w (w.setCell ⟨go, x, none⟩ (.int .i64 (s : Int))) := (akG B w).setCell hM.goLt.1 _
  generalize hw1 : w.setCell ⟨go, x, none⟩ (.int .i64 (s : Int)) = w1 at *
  generalize hL : bys.getD s [] = l at *
  generalize hV : hs[s]'hh = v at *
  have hBw : B <= w1.heap.size := akz hM1.goLt.1 (Nat.le_of_lt hM1.goLt.2)
  go_enter Tryz.func213, Tryz.ntmps213
  go_wp2
  go_region_law (refine KG (x := x) (B := B) (go := go) (cap := cap) (Co := Co) (Cb := Cb) (os := os.set x (s : Int)) (gb := gb) (cb' := cb') (gn := w1.heap.size) (w0 := w) (.tmp 20) (.tmp 22) hv hl hlen (by first | exact (hM1.alloc _).drew | exact hM1.alloc _ | exact hM1.drew.alloc _ | exact (hM1.drew.alloc _).drew | exact (hM1.alloc _).drew.drew) (by first | exact (hB1.alloc hBw _).drew | exact hB1.alloc hBw _ | exact hB1.drew.alloc hBw _ | exact (hB1.drew.alloc hBw _).drew | exact (hB1.alloc hBw _).drew.drew) (by rfl) (by rfl) (by simp [Act.eval, Act.put]) (by simp [Act.eval, Act.put]) (by simp) ?_; intro g' c' w2 hM2 hB2 hcb2 hfr2 hby2)
  all_goals
   go_wp2
   refine bodyPost_end (results_none (by rfl) _ _ _) (by rfl) ?_
   refine ⟨rfl, hB2, hs.set s (.slice (some ⟨g', 0, none⟩) (l.length + 1) c'), fun j hj => amK (fun e => hj e.symm), ?_⟩
   have e2 : aU x s (os, bys) = (os.set x (s : Int), bys.set s (l ++ [x])) := by
    unfold aU
    rw [show (os, bys).1.getD x 0 = os[x]'hx from e1, ajX hneg, ajZ]
    show (_, bys.set s (bys.getD s [] ++ [x])) = _
    rw [hL]
   rw [e2]
   exact hM2
 ·go_enter Tryz.func213, Tryz.ntmps213
  go_wp2
  refine bodyPost_end (results_none (by rfl) _ _ _) (by rfl) ?_
  have e2 : aU x s (os, bys) = (os, bys) := by unfold aU; rw [show (os, bys).1.getD x 0 = os[x]'hx from e1, aj2 (by omega)]; rfl
  rw [e2]
  exact ⟨rfl, akG _ _, hs, fun _ _ => rfl, hM⟩
theorem Pc {B go cap Co Cb : Nat} {os : List Int} {bys : List (List Nat)} {vb : Value} {hs : List Value} {w : World} {gn : Nat}
  {ops : Array Oper} {rest : List Oper} {o : Oper} {a : Act} {Q : Exit -> Act -> World -> Prop} (hM : Mem B 3 40 124 go cap Co Cb os bys vb hs w) (y z : Operand) (hlen : bys.length <= 100000) {w0 : World} {B0 : Nat} (hB0 : Below B0 w0 w) (hle : B0 <= B)
  (hgd : o.guard = none) (ho : o.op = .call { callee := .builtin .append, args := #[y, z], argTypes := #[124, 124] })
  (h1 : a.eval y = vb) (h2 : a.eval z = .slice (some ⟨gn, 0, none⟩) 1 1) (h3 : w.cell? ⟨gn, 0, none⟩ = some (.slice none 0 0))
  (h : ∀ g' c' w2, Mem B 3 40 124 go cap Co Cb os (bys ++ [[]]) (.slice (some ⟨g', 0, none⟩) (bys.length + 1) c') (hs ++ [.slice none 0 0]) (w2.setCell ⟨Cb, 0, none⟩ (.slice (some ⟨g', 0, none⟩) (bys.length + 1) c')) ->
   Below B0 w0 (w2.setCell ⟨Cb, 0, none⟩ (.slice (some ⟨g', 0, none⟩) (bys.length + 1) c')) -> w2.frozen? ⟨Cb, 0, none⟩ = false -> w2.cell? ⟨Cb, 0, none⟩ = some vb -> wpList Tryz.prog ops Q rest (a.put o.dst (.slice (some ⟨g', 0, none⟩) (bys.length + 1) c')) w2) :
  wpList Tryz.prog ops Q (o :: rest) a w := by
 obtain ⟨i0, hi, hz0, hz1, hz2⟩ := info_parts WR
 refine dj hgd y z 124 ho B 40 i0 (.slice none 0 0) 1 24 Tryz.underlying124 hi hz0 hz1 hz2 rfl (by decide) vb bys.length hs h1 hM.by_ ⟨gn, 0, none⟩ 1 1 [.slice none 0 0] h2 rfl ?_ (by intro u hu; simp at hu; subst hu; rfl) (by unfold maxLen; omega) (by omega) ?_ ?_
 ·intro j u hj
  match j, hj with
  | 0, hj => simp at hj; subst hj; exact h3
 ·have := hM.goLt
  omega
 ·intro v' w2 hown2 hgr2 hnew2
  obtain ⟨g', c', rfl⟩ := eu hown2 (by omega)
  have hcb : w2.heap[Cb]? = some (.cells #[vb] 124 (0, 0)) := by
   rw [hgr2.block _ (lt_of_block hM.cb) (fun e => cy hM.by_ hM.cb (by decide) e.symm)]; exact hM.cb
  have hlt := hM.goLt
  exact h g' c' w2 (hM.grow (by decide) (by decide) (by decide) hown2 hgr2 hnew2) ((hB0.grown hgr2 (by omega) (fun k hk => akz hle (hM.by_.lt k hk).1)).setCell (akz hle hM.cB.2) _) (free_of_one hcb) (cell_of_one hcb)
theorem pC {B go : Nat} {w : World} {bys : List (List Nat)} {hs : List Value} (h : Rows B 3 go w bys hs) {j : Nat} (hj : j < bys.length) :
  ∃ A c, hs[j]? = some (.slice A (bys.getD j []).length c) /\ (0 < (bys.getD j []).length -> ∃ g, A = some ⟨g, 0, none⟩) := by
 have hh : j < hs.length := by rw [h.len]; exact hj
 have ho := h.own j _ _ (amF hh) (amF hj)
 rw [mb hj]
 rcases ho.2 with ⟨h1, h2⟩ | ⟨g, cap, cur, h1, _⟩
 ·exact ⟨none, 0, by rw [amF hh, h1, h2], fun h => by omega⟩
 ·exact ⟨_, cap, by rw [amF hh, h1], fun _ => ⟨g, rfl⟩⟩
theorem pB {B go : Nat} {w : World} {bys : List (List Nat)} {hs : List Value} (h : Rows B 3 go w bys hs) {j g c : Nat} {l : List Nat} (hj : j < bys.length) (hl : bys.getD j [] = l) (hv : hs[j]? = some (.slice (some ⟨g, 0, none⟩) l.length c)) {i : Nat} (hi : i < l.length) :
  w.cell? ⟨g, i, none⟩ = some (.int .i64 (l[i] : Nat)) := by
 have ho := h.own j _ _ hv (amF hj)
 rw [mb hj] at hl
 subst hl
 rw [ho.cellAt i (by omega)]
 unfold vi
 rw [amI, amF hi]
 rfl
def Inv (B B0 go cap Co Cb s : Nat) (vb : Value) (hs0 : List Value) (w : World) (st : SS) (wr : World) : Prop := ∃ hs, Mem B 3 40 124 go cap Co Cb st.1 st.2 vb hs wr /\ (∀ j : Nat, j ≠ s -> hs[j]? = hs0[j]?) /\ Below B0 w wr
theorem C7 {B B0 go cap Co Cb s x : Nat} {vb : Value} {hs0 : List Value} {w wr : World} {st : SS} (hle : B0 <= B) (h : Inv B B0 go cap Co Cb s vb hs0 w st wr) (hx : x < st.1.length) (hs : s < st.2.length) (hl : (st.2.getD s []).length <= 100000) :
  Calls Tryz.prog 213 #[.int .i64 x, .int .i64 s, .pointer (some ⟨Co, 0, none⟩), .pointer (some ⟨Cb, 0, none⟩)] wr fun e w' => e = .returned (.tuple #[]) /\ Inv B B0 go cap Co Cb s vb hs0 w (aU x s st) w' := by
 obtain ⟨hs1, hM, ho, hB⟩ := h
 refine (qP wr hM x s hx hs hl).mono ?_
 rintro e w' ⟨rfl, hb, hs2, ho2, hM2⟩
 exact ⟨rfl, hs2, hM2, fun j hj => (ho2 j hj).trans (ho j hj), hB.trans (hb.mono hle)⟩
structure cj (B go cap : Nat) (os : List Int) (rows : List (List Nat)) (vb : Value) (hs : List Value) (m : Nat) (w : World) : Prop where
 out : w.ownsRow B 3 1 (.slice (some ⟨go, 0, none⟩) os.length cap) os.length (vz os)
 by_ : w.ownsRow B 40 1 vb m (hs.take m)
 rws : Rows B 3 go w rows hs
 le : m <= rows.length
section
variable {B go cap m : Nat} {os : List Int} {rows : List (List Nat)} {vb : Value} {hs : List Value} {w : World}
theorem cj.goLt (h : cj B go cap os rows vb hs m w) : B <= go /\ go < w.heap.size := h.out.lt go rfl
theorem cj.kind (h : cj B go cap os rows vb hs m w) : ∃ cs, w.heap[go]? = some (.cells cs 3 (0, 0)) := cP h.out rfl
theorem cj.alloc (h : cj B go cap os rows vb hs m w) (o : Obj) : cj B go cap os rows vb hs m (w.alloc o) := ⟨h.out.alloc o, h.by_.alloc o, h.rws.keep fun _ _ _ _ h => h.alloc o, h.le⟩
theorem cj.drew (h : cj B go cap os rows vb hs m w) : cj B go cap os rows vb hs m w.drew := ⟨h.out.drew, h.by_.drew, h.rws.keep fun _ _ _ _ h => h.drew, h.le⟩
theorem cj.drewN (h : cj B go cap os rows vb hs m w) (n : Nat) : cj B go cap os rows vb hs m (w.drewN n) := ⟨h.out, h.by_, ⟨h.rws.len, h.rws.own, h.rws.sep, h.rws.dist⟩, h.le⟩
theorem cj.below (h : cj B go cap os rows vb hs m w) {w' : World} (hb : Below w.heap.size w w') : cj B go cap os rows vb hs m w' := by
 have hg : w.grownBy w' none := ⟨hb.os, hb.tape, hb.output, hb.size, fun k hk _ => hb.block k hk⟩
 have keep : ∀ {e n : Nat} {v : Value} {xs : List Value}, w.ownsRow B e 1 v n xs -> w'.ownsRow B e 1 v n xs := fun h => h.kept hg (by
  rename_i v xs
  cases v.ownBlock <;> simp)
 exact ⟨keep h.out, keep h.by_, h.rws.keep fun _ _ _ _ h => keep h, h.le⟩
theorem cj.put (h : cj B go cap os rows vb hs m w) (j : Nat) (x : Int) : cj B go cap (os.set j x) rows vb hs m (w.setCell ⟨go, j, none⟩ (.int .i64 x)) := by
 obtain ⟨cs, hk⟩ := h.kind
 refine ⟨?_, ownsRow_setCell_other h.by_ (cy h.by_ hk (by decide)) _, h.rws.keep fun i v l hv h' => ownsRow_setCell_other h' (h.rws.sep i v hv) _, h.le⟩
 have := (h.out.stored j (.int .i64 x)).1
 rw [akA]
 unfold vz at this ⊢
 rw [al7]
 exact this
theorem cj.app (h : cj B go cap os rows vb hs m w) {s : Nat} {l l' : List Nat} {v v' : Value} {w1 : World} (hs' : hs[s]? = some v) (hl : rows[s]? = some l) (hms : m <= s) (hown : w1.ownsRow B 3 1 v' l'.length (vi l')) (hgr : w.grownBy w1 v.ownBlock)
  (hnew : v'.ownBlock = v.ownBlock \/ ∀ g, v'.ownBlock = some g -> w.heap.size <= g) : cj B go cap os (rows.set s l') vb (hs.set s v') m w1 := by
 have hsl : s < rows.length := (amH.1 hl).1
 have hv := h.rws.own s v l hs' hl
 refine ⟨h.out.kept hgr (.inr fun e => h.rws.sep s v hs' e.symm), ?_, h.rws.set hs' hsl hown hgr hnew h.goLt.2, by rw [akA]; exact h.le⟩
 rw [List.take_set_of_le hms]
 refine h.by_.kept hgr ?_
 cases hb : vb.ownBlock with
 | none => exact .inl rfl
 | some b =>
  obtain ⟨cs, hk⟩ := cP h.by_ hb
  exact .inr fun e => cy hv hk (by decide) e.symm
theorem cj.app2 (h : cj B go cap os rows vb hs m w) {s gb cb : Nat} {l l' : List Nat} {v v' : Value} {w1 : World} (hvb : vb = .slice (some ⟨gb, 0, none⟩) m cb) (hs' : hs[s]? = some v) (hl : rows[s]? = some l) (hms : s < m) (hown : w1.ownsRow B 3 1 v' l'.length (vi l')) (hgr : w.grownBy w1 v.ownBlock)
  (hnew : v'.ownBlock = v.ownBlock \/ ∀ g, v'.ownBlock = some g -> w.heap.size <= g) : cj B go cap os (rows.set s l') vb (hs.set s v') m (w1.setCell ⟨gb, s, none⟩ v') := by
 have hsl : s < rows.length := (amH.1 hl).1
 have hv := h.rws.own s v l hs' hl
 obtain ⟨cs, hk⟩ := cP h.by_ (g := gb) (by rw [hvb]; rfl)
 have hk1 : w1.heap[gb]? = some (.cells cs 40 (0, 0)) := by rw [hgr.block _ (lt_of_block hk) (fun e => cy hv hk (by decide) e.symm)]; exact hk
 have hby1 : w1.ownsRow B 40 1 vb m (hs.take m) := h.by_.kept hgr (.inr fun e => cy hv hk (by decide) (by rw [<- e, hvb]; rfl))
 have out1 := h.out.kept hgr (.inr fun e => h.rws.sep s v hs' e.symm)
 refine ⟨ownsRow_setCell_other out1 (cy out1 hk1 (by decide)) _, ?_, (h.rws.set hs' hsl hown hgr hnew h.goLt.2).keep fun j u r hu ho => ownsRow_setCell_other ho (cy ho hk1 (by decide)) _, by rw [akA]; exact h.le⟩
 rw [hvb] at hby1 ⊢
 rw [amw]
 exact (hby1.stored s v').1
theorem cj.grow (h : cj B go cap os rows vb hs m w) (hm : rows.length = m + 1) {v' : Value} {w1 : World} (hown : w1.ownsRow B 40 1 v' (m + 1) hs) (hgr : w.grownBy w1 vb.ownBlock) : cj B go cap os rows v' hs (m + 1) w1 := by
 have keep : ∀ {n : Nat} {v : Value} {xs : List Value}, w.ownsRow B 3 1 v n xs -> w1.ownsRow B 3 1 v n xs := fun ho => ho.kept hgr (by
  rename_i v xs
  cases hb : v.ownBlock with
  | none => exact .inl rfl
  | some b =>
   obtain ⟨cs, hk⟩ := cP ho hb
   exact .inr fun e => cy h.by_ hk (by decide) e.symm)
 refine ⟨keep h.out, ?_, h.rws.keep fun _ _ _ _ ho => keep ho, by omega⟩
 rw [akZ (by rw [h.rws.len]; omega)]
 exact hown
theorem cj.fresh (h : cj B go cap os rows vb hs m w) (o : Obj) (ho : o = .cells #[] 3) : cj B go cap os (rows ++ [[]]) vb (hs ++ [.slice (some ⟨w.heap.size, 0, none⟩) 0 0]) m (w.alloc o) := by
 subst ho
 have h1 := h.alloc (.cells #[] 3)
 have hlt := h.goLt
 have hnew : (w.alloc (.cells #[] 3)).ownsRow B 3 1 (.slice (some ⟨w.heap.size, 0, none⟩) 0 0) 0 (vi []) := alc (size := 1) (e := 3) w #[] 0 (by omega) (by unfold maxLen; omega) rfl
 have hlen := h.rws.len
 refine ⟨h1.out, by rw [List.take_append_of_le_length (by rw [hlen]; exact h.le)]; exact h1.by_, ?_, by rw [aj6]; have := h.le; omega⟩
 have old : ∀ (j : Nat) u, hs[j]? = some u -> ∀ k, u.ownBlock = some k -> k < w.heap.size := fun j u hu k hk => by
  have hj : j < rows.length := by rw [<- hlen]; exact (amH.1 hu).1
  exact ((h.rws.own j u _ hu (amF hj)).lt k hk).2
 have last : ∀ {k : Nat} {x : Value}, hs.length <= k -> (hs ++ [Value.slice (some ⟨w.heap.size, 0, none⟩) 0 0])[k]? = some x -> k = hs.length /\ x = .slice (some ⟨w.heap.size, 0, none⟩) 0 0 := fun hk hx => by
  rename_i k x
  rw [amC hk] at hx
  cases he : k - hs.length with
  | zero => rw [he] at hx; simp only [amE, aj1] at hx; exact ⟨by omega, hx.symm⟩
  | succ k => rw [he] at hx; simp at hx
 refine ⟨by rw [aj6, aj6, hlen]; rfl, fun j u r h2 h3 => ?_, fun j u h2 => ?_, fun i j u u' hij h2 h3 => ?_⟩
 ·rcases akg j hs.length with e | e
  ·rw [amB e] at h2
   rw [amB (by rw [<- hlen]; exact e)] at h3
   exact h1.rws.own j u r h2 h3
  ·obtain ⟨rfl, rfl⟩ := last e h2
   rw [hlen, amC (aj8 _), ale] at h3
   simp only [amE, aj1] at h3
   subst h3
   exact hnew
 ·rcases akg j hs.length with e | e
  ·rw [amB e] at h2
   exact h.rws.sep j u h2
  ·obtain ⟨_, rfl⟩ := last e h2
   simp only [Value.ownBlock, ne_eq, aj1]
   omega
 ·rcases akg i hs.length with e | e <;> rcases akg j hs.length with e2 | e2
  ·rw [amB e] at h2
   rw [amB e2] at h3
   exact h.rws.dist i j u u' hij h2 h3
  ·rw [amB e] at h2
   obtain ⟨_, rfl⟩ := last e2 h3
   cases hb : u.ownBlock with
   | none => exact .inl rfl
   | some b =>
    have := old i u h2 b hb
    exact .inr (by simp only [Value.ownBlock, ne_eq, aj1]; omega)
  ·rw [amB e2] at h3
   obtain ⟨_, rfl⟩ := last e h2
   refine .inr ?_
   cases hb : u'.ownBlock with
   | none => simp [Value.ownBlock]
   | some b =>
    have := old j u' h3 b hb
    simp only [Value.ownBlock, ne_eq, aj1]
    omega
  ·obtain ⟨r1, _⟩ := last e h2
   obtain ⟨r2, _⟩ := last e2 h3
   omega
end
theorem Eg (w : World) (L : Nat) (hL : L <= 256) :
  cj w.heap.size w.heap.size L (List.replicate L 0) [[], []] (.slice (some ⟨w.heap.size + 3, 0, none⟩) 2 2) [.slice (some ⟨w.heap.size + 1, 0, none⟩) 0 0, .slice (some ⟨w.heap.size + 2, 0, none⟩) 0 0] 2
   ((((w.alloc (.cells (Array.replicate L (Value.int .i64 0)) 3)).alloc (.cells #[] 3)).alloc (.cells #[] 3)).alloc (.cells #[.slice (some ⟨w.heap.size + 1, 0, none⟩) 0 0, .slice (some ⟨w.heap.size + 2, 0, none⟩) 0 0] 40)) := by
 have e1 : ∀ (w : World) o, (w.alloc o).heap.size = w.heap.size + 1 := fun w o => by simp
 have h0 := alc (base := w.heap.size) (size := 1) (e := 3) w (Array.replicate L (Value.int .i64 0)) L (aj8 _) (by unfold maxLen; omega) (by simp)
 have h1 := alc (base := w.heap.size) (size := 1) (e := 3) (w.alloc (.cells (Array.replicate L (Value.int .i64 0)) 3)) #[] 0 (by rw [e1]; omega) (by unfold maxLen; omega) rfl
 have h2 := alc (base := w.heap.size) (size := 1) (e := 3) ((w.alloc (.cells (Array.replicate L (Value.int .i64 0)) 3)).alloc (.cells #[] 3)) #[] 0 (by rw [e1, e1]; omega) (by unfold maxLen; omega) rfl
 have h3 := alc (base := w.heap.size) (size := 1) (e := 40) (((w.alloc (.cells (Array.replicate L (Value.int .i64 0)) 3)).alloc (.cells #[] 3)).alloc (.cells #[] 3)) #[.slice (some ⟨w.heap.size + 1, 0, none⟩) 0 0, .slice (some ⟨w.heap.size + 2, 0, none⟩) 0 0] 2 (by rw [e1, e1, e1]; omega) (by unfold maxLen; omega) rfl
 rw [e1] at h1
 rw [e1, e1] at h2
 rw [e1, e1, e1] at h3
 have hv : vz (List.replicate L 0) = (Array.replicate L (Value.int .i64 0)).toList := by simp [vz]
 refine ⟨?_, h3, ⟨rfl, fun j u m h4 h5 => ?_, fun j u h4 => ?_, fun i j u u' hij h4 h5 => ?_⟩, aj8 _⟩
 ·rw [hv, alY]
  exact ((h0.alloc _).alloc _).alloc _
 ·match j with
  | 0 => simp at h4 h5; subst h4; subst h5; exact (h1.alloc _).alloc _
  | 1 => simp at h4 h5; subst h4; subst h5; exact h2.alloc _
  | j + 2 => simp at h4
 ·match j with
  | 0 => simp at h4; subst h4; simp [Value.ownBlock]
  | 1 => simp at h4; subst h4; simp [Value.ownBlock]
  | j + 2 => simp at h4
 ·match i, j with
  | 0, 0 => exact absurd rfl hij
  | 0, 1 => simp at h4 h5; subst h4; subst h5; simp [Value.ownBlock]
  | 1, 0 => simp at h4 h5; subst h4; subst h5; simp [Value.ownBlock]
  | 1, 1 => exact absurd rfl hij
  | i + 2, _ => simp at h4
  | 0, j + 2 => simp at h5
  | 1, j + 2 => simp at h5
end Go.Proofs.YtemihnclhcobnaaGreatDoor
