/- spec.l22Sizes, by a walk: the parts. -/
import Derived.Test.YtmhlcbibbhelkaaDoorSizB
import Derived.Test.YtmhlcbibbhelkaaDoorSizN
import Derived.Deep.QuietTactic
import Derived.BigQuiet
namespace Go.Proofs.YtmhlcbibbhelkaaDoor
open Go.Rv Go.RowKit Go.Lib
set_option linter.unusedVariables false
set_option linter.unusedSimpArgs false
/-- What the reference holds in memory: the row of sizes, the row of rows, the rows (the last may stand outside). -/
structure MemZ (B go cap : Nat) (os : List Int) (rows : List (List Nat)) (vb : Value) (hs : List Value) (m : Nat) (w : World) : Prop where
  out : w.ownsRow B 3 1 (.slice (some ⟨go, 0, none⟩) os.length cap) os.length (vz os)
  by_ : w.ownsRow B 25 1 vb m (hs.take m)
  rws : Rows B 3 go w rows hs
  le : m ≤ rows.length
section
variable {B go cap m : Nat} {os : List Int} {rows : List (List Nat)} {vb : Value} {hs : List Value} {w : World}
theorem MemZ.goLt (h : MemZ B go cap os rows vb hs m w) : B ≤ go ∧ go < w.heap.size := h.out.lt go rfl
theorem MemZ.kind (h : MemZ B go cap os rows vb hs m w) : ∃ cs, w.heap[go]? = some (.cells cs 3 (0, 0)) := own_kind h.out rfl
theorem MemZ.alloc (h : MemZ B go cap os rows vb hs m w) (o : Obj) : MemZ B go cap os rows vb hs m (w.alloc o) := ⟨h.out.alloc o, h.by_.alloc o, h.rws.keep fun _ _ _ _ h => h.alloc o, h.le⟩
theorem MemZ.drew (h : MemZ B go cap os rows vb hs m w) : MemZ B go cap os rows vb hs m w.drew := ⟨h.out.drew, h.by_.drew, h.rws.keep fun _ _ _ _ h => h.drew, h.le⟩
theorem MemZ.drewN (h : MemZ B go cap os rows vb hs m w) (n : Nat) : MemZ B go cap os rows vb hs m (w.drewN n) := ⟨h.out, h.by_, ⟨h.rws.len, h.rws.own, h.rws.sep, h.rws.dist⟩, h.le⟩
theorem MemZ.below (h : MemZ B go cap os rows vb hs m w) {w' : World} (hb : Below w.heap.size w w') : MemZ B go cap os rows vb hs m w' := by
  have hg : w.grownBy w' none := ⟨hb.os, hb.tape, hb.output, hb.size, fun k hk _ => hb.block k hk⟩
  have keep : ∀ {e n : Nat} {v : Value} {xs : List Value}, w.ownsRow B e 1 v n xs → w'.ownsRow B e 1 v n xs := fun h => h.kept hg (by
    rename_i v xs
    cases v.ownBlock <;> simp)
  exact ⟨keep h.out, keep h.by_, h.rws.keep fun _ _ _ _ h => keep h, h.le⟩
theorem MemZ.put (h : MemZ B go cap os rows vb hs m w) (j : Nat) (x : Int) : MemZ B go cap (os.set j x) rows vb hs m (w.setCell ⟨go, j, none⟩ (.int .i64 x)) := by
  obtain ⟨cs, hk⟩ := h.kind
  refine ⟨?_, ownsRow_setCell_other h.by_ (own_ne h.by_ hk (by decide)) _, h.rws.keep fun i v l hv h' => ownsRow_setCell_other h' (h.rws.sep i v hv) _, h.le⟩
  have := (h.out.stored j (.int .i64 x)).1
  rw [List.length_set]
  unfold vz at this ⊢
  rw [List.map_set]
  exact this
/-- Words join a row that stands outside the row of rows. -/
theorem MemZ.app (h : MemZ B go cap os rows vb hs m w) {s : Nat} {l l' : List Nat} {v v' : Value} {w1 : World} (hs' : hs[s]? = some v) (hl : rows[s]? = some l) (hms : m ≤ s) (hown : w1.ownsRow B 3 1 v' l'.length (vi l')) (hgr : w.grownBy w1 v.ownBlock)
    (hnew : v'.ownBlock = v.ownBlock ∨ ∀ g, v'.ownBlock = some g → w.heap.size ≤ g) : MemZ B go cap os (rows.set s l') vb (hs.set s v') m w1 := by
  have hsl : s < rows.length := (List.getElem?_eq_some_iff.1 hl).1
  have hv := h.rws.own s v l hs' hl
  refine ⟨h.out.kept hgr (.inr fun e => h.rws.sep s v hs' e.symm), ?_, h.rws.set hs' hsl hown hgr hnew h.goLt.2, by rw [List.length_set]; exact h.le⟩
  rw [List.take_set_of_le hms]
  refine h.by_.kept hgr ?_
  cases hb : vb.ownBlock with
  | none => exact .inl rfl
  | some b =>
    obtain ⟨cs, hk⟩ := own_kind h.by_ hb
    exact .inr fun e => own_ne hv hk (by decide) e.symm
/-- .. or one that stands in it: it is stored back. -/
theorem MemZ.app2 (h : MemZ B go cap os rows vb hs m w) {s gb cb : Nat} {l l' : List Nat} {v v' : Value} {w1 : World} (hvb : vb = .slice (some ⟨gb, 0, none⟩) m cb) (hs' : hs[s]? = some v) (hl : rows[s]? = some l) (hms : s < m) (hown : w1.ownsRow B 3 1 v' l'.length (vi l')) (hgr : w.grownBy w1 v.ownBlock)
    (hnew : v'.ownBlock = v.ownBlock ∨ ∀ g, v'.ownBlock = some g → w.heap.size ≤ g) : MemZ B go cap os (rows.set s l') vb (hs.set s v') m (w1.setCell ⟨gb, s, none⟩ v') := by
  have hsl : s < rows.length := (List.getElem?_eq_some_iff.1 hl).1
  have hv := h.rws.own s v l hs' hl
  obtain ⟨cs, hk⟩ := own_kind h.by_ (g := gb) (by rw [hvb]; rfl)
  have hk1 : w1.heap[gb]? = some (.cells cs 25 (0, 0)) := by rw [hgr.block _ (lt_of_block hk) (fun e => own_ne hv hk (by decide) e.symm)]; exact hk
  have hby1 : w1.ownsRow B 25 1 vb m (hs.take m) := h.by_.kept hgr (.inr fun e => own_ne hv hk (by decide) (by rw [← e, hvb]; rfl))
  have out1 := h.out.kept hgr (.inr fun e => h.rws.sep s v hs' e.symm)
  refine ⟨ownsRow_setCell_other out1 (own_ne out1 hk1 (by decide)) _, ?_, (h.rws.set hs' hsl hown hgr hnew h.goLt.2).keep fun j u r hu ho => ownsRow_setCell_other ho (own_ne ho hk1 (by decide)) _, by rw [List.length_set]; exact h.le⟩
  rw [hvb] at hby1 ⊢
  rw [List.take_set]
  exact (hby1.stored s v').1
/-- The row outside joins the row of rows. -/
theorem MemZ.grow (h : MemZ B go cap os rows vb hs m w) (hm : rows.length = m + 1) {v' : Value} {w1 : World} (hown : w1.ownsRow B 25 1 v' (m + 1) hs) (hgr : w.grownBy w1 vb.ownBlock) : MemZ B go cap os rows v' hs (m + 1) w1 := by
  have keep : ∀ {n : Nat} {v : Value} {xs : List Value}, w.ownsRow B 3 1 v n xs → w1.ownsRow B 3 1 v n xs := fun ho => ho.kept hgr (by
    rename_i v xs
    cases hb : v.ownBlock with
    | none => exact .inl rfl
    | some b =>
      obtain ⟨cs, hk⟩ := own_kind ho hb
      exact .inr fun e => own_ne h.by_ hk (by decide) e.symm)
  refine ⟨keep h.out, ?_, h.rws.keep fun _ _ _ _ ho => keep ho, by omega⟩
  rw [List.take_of_length_le (by rw [h.rws.len]; omega)]
  exact hown
/-- A new row, outside. -/
theorem MemZ.fresh (h : MemZ B go cap os rows vb hs m w) (o : Obj) (ho : o = .cells #[] 3) : MemZ B go cap os (rows ++ [[]]) vb (hs ++ [.slice (some ⟨w.heap.size, 0, none⟩) 0 0]) m (w.alloc o) := by
  subst ho
  have h1 := h.alloc (.cells #[] 3)
  have hlt := h.goLt
  have hnew : (w.alloc (.cells #[] 3)).ownsRow B 3 1 (.slice (some ⟨w.heap.size, 0, none⟩) 0 0) 0 (vi []) := World.ownsRow_lit (size := 1) (e := 3) w #[] 0 (by omega) (by unfold maxLen; omega) rfl
  have hlen := h.rws.len
  refine ⟨h1.out, by rw [List.take_append_of_le_length (by rw [hlen]; exact h.le)]; exact h1.by_, ?_, by rw [List.length_append]; have := h.le; omega⟩
  have old : ∀ (j : Nat) u, hs[j]? = some u → ∀ k, u.ownBlock = some k → k < w.heap.size := fun j u hu k hk => by
    have hj : j < rows.length := by rw [← hlen]; exact (List.getElem?_eq_some_iff.1 hu).1
    exact ((h.rws.own j u _ hu (List.getElem?_eq_getElem hj)).lt k hk).2
  have last : ∀ {k : Nat} {x : Value}, hs.length ≤ k → (hs ++ [Value.slice (some ⟨w.heap.size, 0, none⟩) 0 0])[k]? = some x → k = hs.length ∧ x = .slice (some ⟨w.heap.size, 0, none⟩) 0 0 := fun hk hx => by
    rename_i k x
    rw [List.getElem?_append_right hk] at hx
    cases he : k - hs.length with
    | zero => rw [he] at hx; simp only [List.getElem?_cons_zero, Option.some.injEq] at hx; exact ⟨by omega, hx.symm⟩
    | succ k => rw [he] at hx; simp at hx
  refine ⟨by rw [List.length_append, List.length_append, hlen]; rfl, fun j u r h2 h3 => ?_, fun j u h2 => ?_, fun i j u u' hij h2 h3 => ?_⟩
  · rcases Nat.lt_or_ge j hs.length with e | e
    · rw [List.getElem?_append_left e] at h2
      rw [List.getElem?_append_left (by rw [← hlen]; exact e)] at h3
      exact h1.rws.own j u r h2 h3
    · obtain ⟨rfl, rfl⟩ := last e h2
      rw [hlen, List.getElem?_append_right (Nat.le_refl _), Nat.sub_self] at h3
      simp only [List.getElem?_cons_zero, Option.some.injEq] at h3
      subst h3
      exact hnew
  · rcases Nat.lt_or_ge j hs.length with e | e
    · rw [List.getElem?_append_left e] at h2
      exact h.rws.sep j u h2
    · obtain ⟨_, rfl⟩ := last e h2
      simp only [Value.ownBlock, ne_eq, Option.some.injEq]
      omega
  · rcases Nat.lt_or_ge i hs.length with e | e <;> rcases Nat.lt_or_ge j hs.length with e2 | e2
    · rw [List.getElem?_append_left e] at h2
      rw [List.getElem?_append_left e2] at h3
      exact h.rws.dist i j u u' hij h2 h3
    · rw [List.getElem?_append_left e] at h2
      obtain ⟨_, rfl⟩ := last e2 h3
      cases hb : u.ownBlock with
      | none => exact .inl rfl
      | some b =>
        have := old i u h2 b hb
        exact .inr (by simp only [Value.ownBlock, ne_eq, Option.some.injEq]; omega)
    · rw [List.getElem?_append_left e2] at h3
      obtain ⟨_, rfl⟩ := last e h2
      refine .inr ?_
      cases hb : u'.ownBlock with
      | none => simp [Value.ownBlock]
      | some b =>
        have := old j u' h3 b hb
        simp only [Value.ownBlock, ne_eq, Option.some.injEq]
        omega
    · obtain ⟨r1, _⟩ := last e h2
      obtain ⟨r2, _⟩ := last e2 h3
      omega
end
theorem memz_start (w : World) (L : Nat) (hL : L ≤ 256) :
    MemZ w.heap.size w.heap.size L (List.replicate L 0) [[], []] (.slice (some ⟨w.heap.size + 3, 0, none⟩) 2 2) [.slice (some ⟨w.heap.size + 1, 0, none⟩) 0 0, .slice (some ⟨w.heap.size + 2, 0, none⟩) 0 0] 2
      ((((w.alloc (.cells (Array.replicate L (Value.int .i64 0)) 3)).alloc (.cells #[] 3)).alloc (.cells #[] 3)).alloc (.cells #[.slice (some ⟨w.heap.size + 1, 0, none⟩) 0 0, .slice (some ⟨w.heap.size + 2, 0, none⟩) 0 0] 25)) := by
  have e1 : ∀ (w : World) o, (w.alloc o).heap.size = w.heap.size + 1 := fun w o => by simp
  have h0 := World.ownsRow_lit (base := w.heap.size) (size := 1) (e := 3) w (Array.replicate L (Value.int .i64 0)) L (Nat.le_refl _) (by unfold maxLen; omega) (by simp)
  have h1 := World.ownsRow_lit (base := w.heap.size) (size := 1) (e := 3) (w.alloc (.cells (Array.replicate L (Value.int .i64 0)) 3)) #[] 0 (by rw [e1]; omega) (by unfold maxLen; omega) rfl
  have h2 := World.ownsRow_lit (base := w.heap.size) (size := 1) (e := 3) ((w.alloc (.cells (Array.replicate L (Value.int .i64 0)) 3)).alloc (.cells #[] 3)) #[] 0 (by rw [e1, e1]; omega) (by unfold maxLen; omega) rfl
  have h3 := World.ownsRow_lit (base := w.heap.size) (size := 1) (e := 25) (((w.alloc (.cells (Array.replicate L (Value.int .i64 0)) 3)).alloc (.cells #[] 3)).alloc (.cells #[] 3)) #[.slice (some ⟨w.heap.size + 1, 0, none⟩) 0 0, .slice (some ⟨w.heap.size + 2, 0, none⟩) 0 0] 2 (by rw [e1, e1, e1]; omega) (by unfold maxLen; omega) rfl
  rw [e1] at h1
  rw [e1, e1] at h2
  rw [e1, e1, e1] at h3
  have hv : vz (List.replicate L 0) = (Array.replicate L (Value.int .i64 0)).toList := by simp [vz]
  refine ⟨?_, h3, ⟨rfl, fun j u m h4 h5 => ?_, fun j u h4 => ?_, fun i j u u' hij h4 h5 => ?_⟩, Nat.le_refl _⟩
  · rw [hv, List.length_replicate]
    exact ((h0.alloc _).alloc _).alloc _
  · match j with
    | 0 => simp at h4 h5; subst h4; subst h5; exact (h1.alloc _).alloc _
    | 1 => simp at h4 h5; subst h4; subst h5; exact h2.alloc _
    | j + 2 => simp at h4
  · match j with
    | 0 => simp at h4; subst h4; simp [Value.ownBlock]
    | 1 => simp at h4; subst h4; simp [Value.ownBlock]
    | j + 2 => simp at h4
  · match i, j with
    | 0, 0 => exact absurd rfl hij
    | 0, 1 => simp at h4 h5; subst h4; subst h5; simp [Value.ownBlock]
    | 1, 0 => simp at h4 h5; subst h4; subst h5; simp [Value.ownBlock]
    | 1, 1 => exact absurd rfl hij
    | i + 2, _ => simp at h4
    | 0, j + 2 => simp at h5
    | 1, j + 2 => simp at h5
end Go.Proofs.YtmhlcbibbhelkaaDoor
