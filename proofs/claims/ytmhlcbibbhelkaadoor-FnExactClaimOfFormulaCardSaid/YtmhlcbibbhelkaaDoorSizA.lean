/- Sizes of formulas: rows of rows that an append takes on, as they lie in memory. -/
import Derived.Test.YtmhlcbibbhelkaaDoorRvLib
import Derived.Laws.AppendOwn
import Derived.Laws.OwnMore
import Derived.OneCell
import Derived.OwnWalk
import Derived.Below
import Derived.Deep.RegionLaw
namespace Go.Proofs.YtmhlcbibbhelkaaDoor
open Go.Rv Go.RowKit
set_option linter.unusedVariables false
/-- An append to a row of ours: where the row lies behind it. -/
theorem run_append_mine {P : Program} (w : World) (base : Nat) (t ty e : TypeId) (i : TypeInfo) (z : Value) (size bytes : Nat) (ht : P.underlying t = some (.slice e)) (hi : P.info? e = some i) (hz : i.zero = some z)
    (hsize : i.size = size) (hby : i.bytes = bytes) (hzs : z.cells.size = size) (hsz : 0 < size)
    (v : Value) (n : Nat) (xs : List Value) (hown : w.ownsRow base e size v n xs)
    (a : Addr) (m c : Nat) (news : List Value) (hl : news.length = m * size) (hnews : ∀ j u, news[j]? = some u → w.cell? (a.add j) = some u) (h1 : ∀ u ∈ news, u.oneCell' = true)
    (h63 : n + m ≤ maxLen) (hbytes : (n + m) * bytes ≤ 140737488355328) (hbase : base ≤ w.heap.size) :
    ∃ v' w', (Builtin.append_ #[t, t] ty #[v, .slice (some a) m c]).run P w = .ok v' w' ∧ w'.ownsRow base e size v' (n + m) (xs ++ news) ∧ w.grownBy w' v.ownBlock ∧
      (v'.ownBlock = v.ownBlock ∨ ∀ g, v'.ownBlock = some g → w.heap.size ≤ g) := by
  obtain ⟨v', w', hr, h2, h3, h4⟩ := run_append_own (P := P) w base t ty e i z size bytes ht hi hz hsize hby hzs hsz v n xs hown a m c news hl hnews h1 h63 hbytes hbase
  have h63' : n + m ≤ 9223372036854775807 := by rw [maxLen_eq] at h63; omega
  refine ⟨v', w', hr, h2, h3, ?_⟩
  rcases hown.2 with ⟨rfl, h0⟩ | ⟨g, cap, cur, rfl, hbg, hg, hnc, hcm, hcs, htake⟩
  · by_cases hm : m = 0
    · left; rw [h4.2 ⟨rfl, hm⟩]
    · right
      have hr2 := run_append_nil (P := P) w t ty e i z ht hi hz a m c news (by rw [hsize]; exact hl) hnews (by omega) (by omega) (by
        rw [hby]
        have : m * bytes ≤ (n + m) * bytes := Nat.mul_le_mul_right _ (by omega)
        omega)
      rw [hr] at hr2
      simp only [Result.ok.injEq] at hr2
      intro g hg
      rw [hr2.1] at hg
      simp [Value.ownBlock] at hg; omega
  · by_cases hroom : n + m ≤ cap
    · left
      obtain ⟨w2, hr2, _⟩ := run_append_fits (P := P) w base t ty e i size ht hi hsize g n cap xs hown a m c news hl hnews h1 hroom
      rw [hr] at hr2
      simp only [Result.ok.injEq] at hr2
      rw [hr2.1]; rfl
    · right
      have hr2 := run_append_grow (P := P) w t ty e i z ht hi hz ⟨g, 0, none⟩ n cap xs (by rw [hsize]; exact hown.1) (hown.cells (g := g) rfl) a m c news (by rw [hsize]; exact hl) hnews (by omega) (by omega) (growslice_fits (by omega) (by rw [hby]; exact hbytes))
      rw [hr] at hr2
      simp only [Result.ok.injEq] at hr2
      intro g' hg'
      rw [hr2.1] at hg'
      simp [Value.ownBlock] at hg'; omega
/-- .. as one step of a region that draws its order. -/
theorem step_append_mine {P : Program} {ops : Array Oper} {o : Oper} {a : Act} {w : World} {K : Act → World → Prop} {Q : Exit → Act → World → Prop} {E : Prop}
    (hgd : o.guard = none) (s x : Operand) (t : TypeId) (hop : o.op = Op.call { callee := Callee.builtin Builtin.append, args := #[s, x], argTypes := #[t, t] })
    (base : Nat) (e : TypeId) (i : TypeInfo) (z : Value) (size bytes : Nat) (ht : P.underlying t = some (.slice e)) (hi : P.info? e = some i) (hz : i.zero = some z)
    (hsize : i.size = size) (hby : i.bytes = bytes) (hzs : z.cells.size = size) (hsz : 0 < size)
    (v : Value) (n : Nat) (xs : List Value) (hs : a.eval s = v) (hown : w.ownsRow base e size v n xs)
    (ad : Addr) (m c : Nat) (news : List Value) (hx : a.eval x = .slice (some ad) m c) (hl : news.length = m * size) (hnews : ∀ j u, news[j]? = some u → w.cell? (ad.add j) = some u) (h1 : ∀ u ∈ news, u.oneCell' = true)
    (h63 : n + m ≤ maxLen) (hbytes : (n + m) * bytes ≤ 140737488355328) (hbase : base ≤ w.heap.size)
    (h : ∀ v' w', w'.ownsRow base e size v' (n + m) (xs ++ news) → w.grownBy w' v.ownBlock → (v'.ownBlock = v.ownBlock ∨ ∀ g, v'.ownBlock = some g → w.heap.size ≤ g) → K (a.put o.dst v') w') :
    if Region.wanted o (yielded ops a.tmps) = true then Oper.wp P o a w K Q else E := by
  have hw : Region.wanted o (yielded ops a.tmps) = true := by simp [Region.wanted, hgd]
  rw [if_pos hw]
  obtain ⟨v', w', hr, h2, h3, h4⟩ := run_append_mine (P := P) w base t o.type e i z size bytes ht hi hz hsize hby hzs hsz v n xs hown ad m c news hl hnews h1 h63 hbytes hbase
  unfold Oper.wp execOp
  simp only [hop, resolve, invoke, builtin, Sem.run_bind, Sem.run_pure, Result.andThen_ok, List.map_toArray, List.map_cons, List.map_nil, hs, hx, hr]
  exact h v' w' h2 h3 h4
theorem wpList_append_mine {P : Program} {w : World} {ops : Array Oper} {rest : List Oper} {o : Oper} {a : Act} {Q : Exit → Act → World → Prop} (hgd : o.guard = none) (s x : Operand) (t : TypeId)
    (ho : o.op = .call { callee := .builtin .append, args := #[s, x], argTypes := #[t, t] })
    (base : Nat) (e : TypeId) (i : TypeInfo) (z : Value) (size bytes : Nat) (ht : P.underlying t = some (.slice e)) (hi : P.info? e = some i) (hz : i.zero = some z)
    (hsize : i.size = size) (hby : i.bytes = bytes) (hzs : z.cells.size = size) (hsz : 0 < size)
    (v : Value) (n : Nat) (xs : List Value) (hs : a.eval s = v) (hown : w.ownsRow base e size v n xs)
    (ad : Addr) (m c : Nat) (news : List Value) (hx : a.eval x = .slice (some ad) m c) (hl : news.length = m * size) (hnews : ∀ j u, news[j]? = some u → w.cell? (ad.add j) = some u) (h1 : ∀ u ∈ news, u.oneCell' = true)
    (h63 : n + m ≤ maxLen) (hbytes : (n + m) * bytes ≤ 140737488355328) (hbase : base ≤ w.heap.size)
    (h : ∀ v' w', w'.ownsRow base e size v' (n + m) (xs ++ news) → w.grownBy w' v.ownBlock → (v'.ownBlock = v.ownBlock ∨ ∀ g, v'.ownBlock = some g → w.heap.size ≤ g) → wpList P ops Q rest (a.put o.dst v') w') : wpList P ops Q (o :: rest) a w :=
  wpList_plain hgd fun _ hK => by
    obtain ⟨v', w', hr, h2, h3, h4⟩ := run_append_mine (P := P) w base t o.type e i z size bytes ht hi hz hsize hby hzs hsz v n xs hown ad m c news hl hnews h1 h63 hbytes hbase
    unfold Oper.wp execOp
    simp only [ho, resolve, invoke, builtin, Sem.run_bind, Sem.run_pure, Result.andThen_ok, List.map_toArray, List.map_cons, List.map_nil, hs, hx, hr]
    exact hK _ _ (h v' w' h2 h3 h4)

/-- Numbers as the machine holds them. -/
def vi (l : List Nat) : List Value := l.map fun x : Nat => Value.int .i64 x
def vz (l : List Int) : List Value := l.map (Value.int .i64)
theorem vi_len (l : List Nat) : (vi l).length = l.length := List.length_map ..
theorem vz_len (l : List Int) : (vz l).length = l.length := List.length_map ..
/-- Rows of a row of rows, each in a block of its own. -/
structure Rows (B ti : Nat) (go : Nat) (w : World) (bys : List (List Nat)) (hs : List Value) : Prop where
  len : hs.length = bys.length
  own : ∀ (j : Nat) h l, hs[j]? = some h → bys[j]? = some l → w.ownsRow B ti 1 h l.length (vi l)
  sep : ∀ (j : Nat) h, hs[j]? = some h → h.ownBlock ≠ some go
  dist : ∀ (i j : Nat) h h', i ≠ j → hs[i]? = some h → hs[j]? = some h' → h.ownBlock = none ∨ h.ownBlock ≠ h'.ownBlock
theorem Rows.keep {B ti go : Nat} {w w' : World} {bys : List (List Nat)} {hs : List Value} (h : Rows B ti go w bys hs) (hk : ∀ (j : Nat) v l, hs[j]? = some v → w.ownsRow B ti 1 v l.length (vi l) → w'.ownsRow B ti 1 v l.length (vi l)) : Rows B ti go w' bys hs :=
  ⟨h.len, fun j v l h1 h2 => hk j v l h1 (h.own j v l h1 h2), h.sep, h.dist⟩
/-- An owned row's block, and its kind. -/
theorem own_kind {w : World} {B e n : Nat} {v : Value} {xs : List Value} (h : w.ownsRow B e 1 v n xs) {g : Nat} (hg : v.ownBlock = some g) : ∃ cs, w.heap[g]? = some (.cells cs e (0, 0)) := by
  rcases h.2 with ⟨rfl, _⟩ | ⟨g', cap, cur, rfl, _, hh, _⟩
  · cases hg
  · simp only [Value.ownBlock, Option.some.injEq] at hg
    subst hg
    exact ⟨cur, hh⟩
theorem own_ne {w : World} {B e e' n : Nat} {v : Value} {xs : List Value} (h : w.ownsRow B e 1 v n xs) {g : Nat} {cs : Array Value} {fr : Nat × Nat} (hg : w.heap[g]? = some (.cells cs e' fr)) (hne : e ≠ e') : v.ownBlock ≠ some g := by
  intro hv
  obtain ⟨cs', h'⟩ := own_kind h hv
  rw [h'] at hg
  simp only [Option.some.injEq, Obj.cells.injEq] at hg
  exact hne hg.2.1
/-- One row is taken on, or turned: the others stay. -/
theorem Rows.set {B ti go : Nat} {w w' : World} {bys : List (List Nat)} {hs : List Value} (h : Rows B ti go w bys hs) {s : Nat} {v v' : Value} {l : List Nat} (hv : hs[s]? = some v) (hsl : s < bys.length)
    (hown : w'.ownsRow B ti 1 v' l.length (vi l)) (hgr : w.grownBy w' v.ownBlock) (hnew : v'.ownBlock = v.ownBlock ∨ ∀ g, v'.ownBlock = some g → w.heap.size ≤ g) (hgo : go < w.heap.size) :
    Rows B ti go w' (bys.set s l) (hs.set s v') := by
  have hlt : ∀ (j : Nat) u, hs[j]? = some u → ∀ k, u.ownBlock = some k → k < w.heap.size := fun j u hu k hk => by
    have hj : j < bys.length := by rw [← h.len]; exact (List.getElem?_eq_some_iff.1 hu).1
    exact ((h.own j u _ hu (List.getElem?_eq_getElem hj)).lt k hk).2
  refine ⟨by rw [List.length_set, List.length_set, h.len], fun j u m h1 h2 => ?_, fun j u h1 => ?_, fun i j u u' hij h1 h2 => ?_⟩
  · by_cases e : s = j
    · subst e
      rw [List.getElem?_set_self (by rw [h.len]; exact hsl)] at h1
      rw [List.getElem?_set_self hsl] at h2
      cases h1; cases h2
      exact hown
    · rw [List.getElem?_set_ne e] at h1 h2
      refine (h.own j u m h1 h2).kept hgr ?_
      exact h.dist j s u v (fun x => e x.symm) h1 hv
  · by_cases e : s = j
    · subst e
      rw [List.getElem?_set_self (by rw [h.len]; exact hsl)] at h1
      cases h1
      rcases hnew with hn | hn
      · rw [hn]; exact h.sep s v hv
      · intro hx
        have := hn go hx
        omega
    · rw [List.getElem?_set_ne e] at h1
      exact h.sep j u h1
  · have fresh : ∀ (k : Nat) x, k ≠ s → hs[k]? = some x → (v'.ownBlock = none ∨ v'.ownBlock ≠ x.ownBlock) ∧ (x.ownBlock = none ∨ x.ownBlock ≠ v'.ownBlock) := fun k x hk hx => by
      rcases hnew with hn | hn
      · rw [hn]; exact ⟨h.dist s k v x (fun e => hk e.symm) hv hx, h.dist k s x v hk hx hv⟩
      · cases hb : x.ownBlock with
        | none =>
          refine ⟨?_, .inl rfl⟩
          cases v'.ownBlock <;> simp
        | some b =>
          have hlt' := hlt k x hx b hb
          have : v'.ownBlock ≠ some b := fun e => by have := hn b e; omega
          exact ⟨.inr this, .inr fun e => this e.symm⟩
    by_cases e : s = i
    · subst e
      rw [List.getElem?_set_self (by rw [h.len]; exact hsl)] at h1
      rw [List.getElem?_set_ne hij] at h2
      cases h1
      exact (fresh j u' (fun e => hij e.symm) h2).1
    · rw [List.getElem?_set_ne e] at h1
      by_cases e2 : s = j
      · subst e2
        rw [List.getElem?_set_self (by rw [h.len]; exact hsl)] at h2
        cases h2
        exact (fresh i u hij h1).2
      · rw [List.getElem?_set_ne e2] at h2
        exact h.dist i j u u' hij h1 h2
/-- What the sizes' program holds in memory: the row of sizes, the rows of words of each size, the two variables that the closure holds. -/
structure Mem (B ti tr trr go cap Co Cb : Nat) (os : List Int) (bys : List (List Nat)) (vb : Value) (hs : List Value) (w : World) : Prop where
  out : w.ownsRow B ti 1 (.slice (some ⟨go, 0, none⟩) os.length cap) os.length (vz os)
  co : w.heap[Co]? = some (.cells #[.slice (some ⟨go, 0, none⟩) os.length cap] tr (0, 0))
  cb : w.heap[Cb]? = some (.cells #[vb] trr (0, 0))
  by_ : w.ownsRow B tr 1 vb bys.length hs
  rows : Rows B ti go w bys hs
  cne : vb.ownBlock ≠ some Co
  cB : B ≤ Co ∧ B ≤ Cb
section
variable {B ti tr trr go cap Co Cb : Nat} {os : List Int} {bys : List (List Nat)} {vb : Value} {hs : List Value} {w : World}
theorem Mem.goLt (h : Mem B ti tr trr go cap Co Cb os bys vb hs w) : B ≤ go ∧ go < w.heap.size := h.out.lt go rfl
theorem Mem.kind (h : Mem B ti tr trr go cap Co Cb os bys vb hs w) : ∃ cs, w.heap[go]? = some (.cells cs ti (0, 0)) := own_kind h.out rfl
/-- A new block. -/
theorem Mem.alloc (h : Mem B ti tr trr go cap Co Cb os bys vb hs w) (o : Obj) : Mem B ti tr trr go cap Co Cb os bys vb hs (w.alloc o) :=
  ⟨h.out.alloc o, by rw [Below.heap_alloc _ _ _ (lt_of_block h.co)]; exact h.co, by rw [Below.heap_alloc _ _ _ (lt_of_block h.cb)]; exact h.cb, h.by_.alloc o, h.rows.keep fun _ _ _ _ h => h.alloc o, h.cne, h.cB⟩
theorem Mem.drew (h : Mem B ti tr trr go cap Co Cb os bys vb hs w) : Mem B ti tr trr go cap Co Cb os bys vb hs w.drew :=
  ⟨h.out.drew, h.co, h.cb, h.by_.drew, h.rows.keep fun _ _ _ _ h => h.drew, h.cne, h.cB⟩
/-- A call that leaves older memory alone. -/
theorem Mem.below (h : Mem B ti tr trr go cap Co Cb os bys vb hs w) {w' : World} (hb : Below w.heap.size w w') : Mem B ti tr trr go cap Co Cb os bys vb hs w' := by
  have hg : w.grownBy w' none := ⟨hb.os, hb.tape, hb.output, hb.size, fun k hk _ => hb.block k hk⟩
  have keep : ∀ {e n : Nat} {v : Value} {xs : List Value}, w.ownsRow B e 1 v n xs → w'.ownsRow B e 1 v n xs := fun h => h.kept hg (by
    rename_i v xs
    cases v.ownBlock <;> simp)
  exact ⟨keep h.out, by rw [hb.block _ (lt_of_block h.co)]; exact h.co, by rw [hb.block _ (lt_of_block h.cb)]; exact h.cb, keep h.by_, h.rows.keep fun _ _ _ _ h => keep h, h.cne, h.cB⟩
/-- A size is written. -/
theorem Mem.put (h : Mem B ti tr trr go cap Co Cb os bys vb hs w) (hne : ti ≠ tr) (hne2 : ti ≠ trr) (j : Nat) (x : Int) : Mem B ti tr trr go cap Co Cb (os.set j x) bys vb hs (w.setCell ⟨go, j, none⟩ (.int .i64 x)) := by
  obtain ⟨cs, hk⟩ := h.kind
  have n1 : Co ≠ go := fun e => by
    have h' := h.co
    rw [e, hk] at h'
    simp only [Option.some.injEq, Obj.cells.injEq] at h'
    exact hne h'.2.1
  have n2 : Cb ≠ go := fun e => by
    have h' := h.cb
    rw [e, hk] at h'
    simp only [Option.some.injEq, Obj.cells.injEq] at h'
    exact hne2 h'.2.1
  refine ⟨?_, ?_, ?_, ?_, ?_, h.cne, h.cB⟩
  · have := (h.out.stored j (.int .i64 x)).1
    rw [List.length_set]
    unfold vz at this ⊢
    rw [List.map_set]
    exact this
  · rw [List.length_set, Below.heap_setCell _ _ _ _ n1]; exact h.co
  · rw [Below.heap_setCell _ _ _ _ n2]; exact h.cb
  · exact ownsRow_setCell_other h.by_ (own_ne h.by_ hk (fun e => hne e.symm)) _
  · exact h.rows.keep fun i v l hv h' => ownsRow_setCell_other h' (h.rows.sep i v hv) _
/-- A word joins the words of a size: a block of its own with the word, the append, the store. -/
theorem Mem.app (h : Mem B ti tr trr go cap Co Cb os bys vb hs w) (h1 : ti ≠ tr) (h2 : ti ≠ trr) (h3 : tr ≠ trr) {s : Nat} {l l' : List Nat} {v v' : Value} {w1 : World} {gb cb' : Nat} (hvb : vb = .slice (some ⟨gb, 0, none⟩) bys.length cb')
    (hs' : hs[s]? = some v) (hl : bys[s]? = some l) (hown : w1.ownsRow B ti 1 v' l'.length (vi l')) (hgr : w.grownBy w1 v.ownBlock) (hnew : v'.ownBlock = v.ownBlock ∨ ∀ g, v'.ownBlock = some g → w.heap.size ≤ g) :
    Mem B ti tr trr go cap Co Cb os (bys.set s l') vb (hs.set s v') (w1.setCell ⟨gb, s, none⟩ v') := by
  have hsl : s < bys.length := (List.getElem?_eq_some_iff.1 hl).1
  have hv := h.rows.own s v l hs' hl
  have other : ∀ {k : Nat} {cs : Array Value} {e : Nat}, w.heap[k]? = some (.cells cs e (0, 0)) → ti ≠ e → w1.heap[k]? = some (.cells cs e (0, 0)) := fun hk hne => by
    rw [hgr.block _ (lt_of_block hk) (fun e => own_ne hv hk hne e.symm)]; exact hk
  obtain ⟨cs, hk⟩ := own_kind h.by_ (g := gb) (by rw [hvb]; rfl)
  have hk1 := other hk h1
  have nb1 : Co ≠ gb := fun e => h.cne (by rw [hvb, e]; rfl)
  have nb2 : Cb ≠ gb := fun e => by
    have h' := h.cb
    rw [e, hk] at h'
    simp only [Option.some.injEq, Obj.cells.injEq] at h'
    exact h3 h'.2.1
  have nb3 : go ≠ gb := fun e => by
    obtain ⟨cs', h'⟩ := h.kind
    rw [e, hk] at h'
    simp only [Option.some.injEq, Obj.cells.injEq] at h'
    exact h1 h'.2.1.symm
  have hby1 : w1.ownsRow B tr 1 vb bys.length hs := h.by_.kept hgr (.inr (fun e => by
    cases hb : v.ownBlock with
    | none => rw [hb, hvb] at e; cases e
    | some b => exact own_ne h.by_ (own_kind hv hb).choose_spec (fun x => h1 x.symm) (by rw [e, hb])))
  refine ⟨?_, ?_, ?_, ?_, ?_, h.cne, h.cB⟩
  · exact ownsRow_setCell_other (h.out.kept hgr (.inr fun e => h.rows.sep s v hs' e.symm)) (by simp only [Value.ownBlock, ne_eq, Option.some.injEq]; exact nb3) _
  · rw [Below.heap_setCell _ _ _ _ nb1]; exact other h.co h1
  · rw [Below.heap_setCell _ _ _ _ nb2]; exact other h.cb h2
  · rw [List.length_set]
    rw [hvb] at hby1 ⊢
    exact (hby1.stored s v').1
  · refine (h.rows.set hs' hsl hown hgr hnew h.goLt.2).keep fun j u m hu ho => ownsRow_setCell_other ho ?_ _
    exact own_ne ho hk1 h1
end
/-- A row without words more. -/
theorem Rows.snoc {B ti go : Nat} {w : World} {bys : List (List Nat)} {hs : List Value} (h : Rows B ti go w bys hs) : Rows B ti go w (bys ++ [[]]) (hs ++ [.slice none 0 0]) := by
  refine ⟨by rw [List.length_append, List.length_append, h.len]; rfl, fun j u m h1 h2 => ?_, fun j u h1 => ?_, fun i j u u' hij h1 h2 => ?_⟩
  · by_cases e : j < bys.length
    · rw [List.getElem?_append_left (by rw [h.len]; exact e)] at h1
      rw [List.getElem?_append_left e] at h2
      exact h.own j u m h1 h2
    · have hj := (List.getElem?_eq_some_iff.1 h2).1
      rw [List.length_append] at hj
      simp only [List.length_cons, List.length_nil] at hj
      obtain rfl : j = bys.length := by omega
      rw [List.getElem?_append_right (Nat.le_refl _), Nat.sub_self] at h2
      rw [← h.len, List.getElem?_append_right (Nat.le_refl _), Nat.sub_self] at h1
      simp only [List.getElem?_cons_zero, Option.some.injEq] at h1 h2
      subst h1; subst h2
      exact World.ownsRow_nil _ _ _ _
  · rcases Nat.lt_or_ge j hs.length with e | e
    · rw [List.getElem?_append_left e] at h1
      exact h.sep j u h1
    · rw [List.getElem?_append_right e] at h1
      cases hk : j - hs.length with
      | zero => rw [hk] at h1; simp only [List.getElem?_cons_zero, Option.some.injEq] at h1; subst h1; simp [Value.ownBlock]
      | succ k => rw [hk] at h1; simp at h1
  · have last : ∀ {k : Nat} {x : Value}, hs.length ≤ k → (hs ++ [Value.slice none 0 0])[k]? = some x → x.ownBlock = none := fun hk hx => by
      rename_i k x
      rw [List.getElem?_append_right hk] at hx
      cases he : k - hs.length with
      | zero => rw [he] at hx; simp only [List.getElem?_cons_zero, Option.some.injEq] at hx; subst hx; rfl
      | succ k => rw [he] at hx; simp at hx
    rcases Nat.lt_or_ge i hs.length with e | e
    · rcases Nat.lt_or_ge j hs.length with e2 | e2
      · rw [List.getElem?_append_left e] at h1
        rw [List.getElem?_append_left e2] at h2
        exact h.dist i j u u' hij h1 h2
      · rw [last e2 h2]
        cases u.ownBlock <;> simp
    · exact .inl (last e h1)
section
variable {B ti tr trr go cap Co Cb : Nat} {os : List Int} {bys : List (List Nat)} {vb : Value} {hs : List Value} {w : World}
theorem Mem.grow (h : Mem B ti tr trr go cap Co Cb os bys vb hs w) (h1 : ti ≠ tr) (h2 : ti ≠ trr) (h3 : tr ≠ trr) {v' : Value} {w1 : World}
    (hown : w1.ownsRow B tr 1 v' (bys.length + 1) (hs ++ [.slice none 0 0])) (hgr : w.grownBy w1 vb.ownBlock) (hnew : v'.ownBlock = vb.ownBlock ∨ ∀ g, v'.ownBlock = some g → w.heap.size ≤ g) :
    Mem B ti tr trr go cap Co Cb os (bys ++ [[]]) v' (hs ++ [.slice none 0 0]) (w1.setCell ⟨Cb, 0, none⟩ v') := by
  have kindne : ∀ {k : Nat} {cs : Array Value} {e : Nat}, w.heap[k]? = some (.cells cs e (0, 0)) → tr ≠ e → some k ≠ vb.ownBlock := fun hk hne e => own_ne h.by_ hk hne e.symm
  have hcb1 : w1.heap[Cb]? = some (.cells #[vb] trr (0, 0)) := by rw [hgr.block _ (lt_of_block h.cb) (kindne h.cb h3)]; exact h.cb
  have hco1 : w1.heap[Co]? = some (.cells #[.slice (some ⟨go, 0, none⟩) os.length cap] tr (0, 0)) := by rw [hgr.block _ (lt_of_block h.co) (fun e => h.cne e.symm)]; exact h.co
  have keep : ∀ {n : Nat} {v : Value} {xs : List Value}, w.ownsRow B ti 1 v n xs → w1.ownsRow B ti 1 v n xs := fun ho => ho.kept hgr (by
    rename_i v xs
    cases hb : v.ownBlock with
    | none => exact .inl rfl
    | some b =>
      obtain ⟨cs, hk⟩ := own_kind ho hb
      exact .inr (kindne hk (fun e => h1 e.symm)))
  have nCo : Co ≠ Cb := fun e => by
    have h' := h.co
    rw [e, h.cb] at h'
    simp only [Option.some.injEq, Obj.cells.injEq] at h'
    exact h3 h'.2.1.symm
  have out1 := keep h.out
  refine ⟨ownsRow_setCell_other out1 (own_ne out1 hcb1 h2) _, by rw [Below.heap_setCell _ _ _ _ nCo]; exact hco1, one_setCell hcb1, ?_, ?_, ?_, h.cB⟩
  · rw [List.length_append]
    exact ownsRow_setCell_other hown (own_ne hown hcb1 h3) _
  · exact (h.rows.keep fun j v l hv ho => ownsRow_setCell_other (keep ho) (own_ne (keep ho) hcb1 h2) v').snoc
  · rcases hnew with hn | hn
    · rw [hn]; exact h.cne
    · intro e
      have := hn Co e
      have := lt_of_block h.co
      omega
end
theorem own_base {w : World} {B B' e n : Nat} {v : Value} {xs : List Value} (h : w.ownsRow B e 1 v n xs) (hb : B' ≤ B) : w.ownsRow B' e 1 v n xs := ⟨h.1, by
  rcases h.2 with h2 | ⟨g, cap, cur, h3, h4, h5⟩
  · exact .inl h2
  · exact .inr ⟨g, cap, cur, h3, Nat.le_trans hb h4, h5⟩⟩
theorem mem_start {B ti tr trr go cap : Nat} {os : List Int} {w : World} (h1 : ti ≠ tr) (h2 : ti ≠ trr) (hown : w.ownsRow B ti 1 (.slice (some ⟨go, 0, none⟩) os.length cap) os.length (vz os)) (hB : B ≤ w.heap.size) :
    Mem B ti tr trr go cap w.heap.size (w.heap.size + 2) os [[], []] (.slice (some ⟨w.heap.size + 1, 0, none⟩) 2 2) [.slice none 0 0, .slice none 0 0]
      (((w.alloc (.cells #[.slice (some ⟨go, 0, none⟩) os.length cap] tr)).alloc (.cells #[.slice none 0 0, .slice none 0 0] tr)).alloc (.cells #[.slice (some ⟨w.heap.size + 1, 0, none⟩) 2 2] trr)) := by
  have hgo := hown.lt go rfl
  have e1 : ∀ o, (w.alloc o).heap.size = w.heap.size + 1 := fun o => by simp
  have hlit := World.ownsRow_lit (base := B) (size := 1) (e := tr) (w.alloc (.cells #[.slice (some ⟨go, 0, none⟩) os.length cap] tr)) #[.slice none 0 0, .slice none 0 0] 2 (by rw [e1]; omega) (by unfold maxLen; omega) rfl
  rw [e1] at hlit
  refine ⟨((hown.alloc _).alloc _).alloc _, ?_, ?_, hlit.alloc _, ⟨rfl, fun j u m h1 h2 => ?_, fun j u h1 => ?_, fun i j u u' hij h1 h2 => .inl ?_⟩, ?_, by omega⟩
  · rw [Below.heap_alloc _ _ _ (by simp; omega), Below.heap_alloc _ _ _ (by simp)]
    exact heap_alloc_new w _
  · have := heap_alloc_new ((w.alloc (.cells #[.slice (some ⟨go, 0, none⟩) os.length cap] tr)).alloc (.cells #[.slice none 0 0, .slice none 0 0] tr)) (.cells #[.slice (some ⟨w.heap.size + 1, 0, none⟩) 2 2] trr)
    simpa using this
  · match j with
    | 0 => simp at h1 h2; subst h1; subst h2; exact World.ownsRow_nil _ _ _ _
    | 1 => simp at h1 h2; subst h1; subst h2; exact World.ownsRow_nil _ _ _ _
    | j + 2 => simp at h1
  · match j with
    | 0 => simp at h1; subst h1; simp [Value.ownBlock]
    | 1 => simp at h1; subst h1; simp [Value.ownBlock]
    | j + 2 => simp at h1
  · match i with
    | 0 => simp at h1; subst h1; rfl
    | 1 => simp at h1; subst h1; rfl
    | i + 2 => simp at h1
  · simp [Value.ownBlock]
end Go.Proofs.YtmhlcbibbhelkaaDoor
