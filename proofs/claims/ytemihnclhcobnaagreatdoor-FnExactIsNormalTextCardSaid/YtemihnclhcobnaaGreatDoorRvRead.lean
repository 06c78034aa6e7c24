/- The evaluator's operations do what the machine's do: those that read memory. -/
import Derived.Test.YtemihnclhcobnaaGreatDoorRvOps
import Derived.ChangeSlices
namespace Go.Rv
set_option linter.unusedSimpArgs false
open Go.RowKit (Below)

theorem nB {α β : Type} {f : α -> List β} {n : Nat} (hn : ∀ x, (f x).length = n) (l : List α) : ∀ (i m : Nat), m < n -> (l.flatMap f)[i * n + m]? = (l[i]?).bind fun x => (f x)[m]? := by
 induction l with
 | nil => intro i m _; simp
 | cons a l ih =>
  intro i m hm
  rw [akR]
  cases i with
  | zero => rw [amB (by rw [hn]; omega)]; simp
  | succ i =>
   rw [amC (by rw [hn, als]; omega), hn]
   rw [show (i + 1) * n + m - n = i * n + m by rw [als]; omega]
   simpa using ih i m hm

theorem kk {α : Type} {d : α} {l : List α} {i : Int} (h0 : 0 <= i) (h : i < (l.length : Int)) : l[i.toNat]? = some (rd d l i) := by
 have : i.toNat < l.length := by omega
 simp [rd, List.getD, amF this]

namespace Row
theorem at_len (r : Row) (i : Int) : (r.at_ i).length = r.sz := by cases r <;> rfl
theorem sz_pos (r : Row) : 0 < r.sz := by cases r <;> simp [sz]
theorem cells_len {r : Row} (h : r.deep = false) : r.cells.length = r.len * r.sz := by
 cases r with
 | ints k l => simp [cells, len, sz]
 | strs l => simp [cells, len, sz]
 | bools l => simp [cells, len, sz]
 | pairs l => simp only [cells, len, sz, List.length_flatMap]; induction l <;> simp_all [als, deep]; omega
 | trips l => simp only [cells, len, sz, List.length_flatMap]; induction l <;> simp_all [als, deep]; omega
 | lists _ _ => cases h
theorem in_plain {r : Row} (h : r.deep = false) {S : Nat -> Prop} {wf : World} {xs : List Value} : r.cellsIn S wf xs ↔ xs = r.cells := by
 cases r <;> first | exact Iff.rfl | cases h
theorem in_len {r : Row} {S : Nat -> Prop} {wf : World} {xs : List Value} (h : r.cellsIn S wf xs) : xs.length = r.len * r.sz := by
 cases hd : r.deep with
 | false => rw [(in_plain hd).1 h]; exact cells_len hd
 | true =>
  cases r <;> try cases hd
  have := aB.length h
  simp [len, sz, this]
theorem at_in (r : Row) {i : Int} (h0 : 0 <= i) (h : i < (r.len : Int)) {S : Nat -> Prop} {wf : World} {xs : List Value} (hin : r.cellsIn S wf xs) {m : Nat} {s : SV} (hs : (r.at_ i)[m]? = some s) : ∃ u, xs[i.toNat * r.sz + m]? = some u /\ km S wf s u := by
 have hm : m < r.sz := by
  have := (amH.1 hs).1
  rwa [at_len] at this
 cases r with
 | ints k l =>
  have hin : xs = _ := hin
  subst hin
  simp only [sz] at hm; obtain rfl : m = 0 := by omega
  simp only [at_, amE, aj1] at hs; subst hs
  exact ⟨_, by simp only [cells, sz, akV, ak0, amI, kk (d := (0 : Int)) h0 h]; rfl, rfl⟩
 | strs l =>
  have hin : xs = _ := hin
  subst hin
  simp only [sz] at hm; obtain rfl : m = 0 := by omega
  simp only [at_, amE, aj1] at hs; subst hs
  exact ⟨_, by simp only [cells, sz, akV, ak0, amI, kk (d := ByteArray.empty) h0 h]; rfl, rfl⟩
 | bools l =>
  have hin : xs = _ := hin
  subst hin
  simp only [sz] at hm; obtain rfl : m = 0 := by omega
  simp only [at_, amE, aj1] at hs; subst hs
  exact ⟨_, by simp only [cells, sz, akV, ak0, amI, kk (d := false) h0 h]; rfl, rfl⟩
 | pairs l =>
  have hin : xs = _ := hin
  subst hin
  simp only [cells, sz] at hm ⊢
  rw [nB (n := 2) (fun _ => rfl) l _ m hm, kk (d := ((0, 0) : Int × Int)) h0 h]
  obtain rfl | rfl : m = 0 \/ m = 1 := by omega
  all_goals (simp [at_] at hs; subst hs; exact ⟨_, rfl, rfl⟩)
 | trips l =>
  have hin : xs = _ := hin
  subst hin
  simp only [cells, sz] at hm ⊢
  rw [nB (n := 3) (fun _ => rfl) l _ m hm, kk (d := ((0, 0, 0) : Int × Int × Int)) h0 h]
  obtain rfl | rfl | rfl : m = 0 \/ m = 1 \/ m = 2 := by omega
  all_goals (simp [at_] at hs; subst hs; exact ⟨_, rfl, rfl⟩)
 | lists e l =>
  have hin : aB (ej S wf e) l xs := hin
  simp only [sz] at hm; obtain rfl : m = 0 := by omega
  simp only [at_, amE, aj1] at hs; subst hs
  obtain ⟨u, h1, h2⟩ := hin.get _ _ (kk (d := ([] : List Int)) h0 h)
  exact ⟨u, by simpa [sz] using h1, h2⟩
end Row

section
variable {I : World -> Prop} {P : Program} {L : Lay} {X : Cx I} {lc : List Loc} {β : Type}
theorem xK {s : SV} {u : Value} (h : km X.ft X.fw s u) : aD X lc s u := by
 unfold km at h
 split at h <;> try exact h
 ·obtain ⟨h0, A, n, c, h1, h2, h3, h4⟩ := h
  exact ⟨⟨A, n, c, h1, h2, h3, _, rfl, h4⟩, h0⟩
 ·exact h.elim
theorem Ab {s : SV} {u : Value} (h : km X.fz X.w0 s u) : aD X lc (MI s) u := by
 unfold km at h
 split at h <;> try exact h
 ·obtain ⟨_, A, n, c, h1, h2, h3, h4⟩ := h
  exact ⟨A, n, c, h1, h2, h3, _, rfl, h4⟩
 ·exact h.elim

theorem bW {t : TypeId} {i : TypeInfo} (hi : P.info? t = some i) (w : World) : (sizeOf t).run P w = .ok i.size w := by simp [sizeOf, typeInfo, hi]
theorem qG {t : TypeId} {d : TypeDesc} (hu : P.underlying t = some d) (w : World) : (isAgg t).run P w = .ok (BB d) w := by
 unfold isAgg
 rw [akk, run_underlying hu w]
 cases d <;> simp [BB]

theorem cN (hL : aO P L) {t : TypeId} {l : List SV} {off : Nat} {x : TV} (h : loadAt L t l off = some x) (f : Nat -> Value) (hf : ∀ m s, l[off + m]? = some s -> aD X lc s (f m)) (A : Addr) :
  ∃ v, aC X lc x v /\ ∀ w', (∀ m, off + m < l.length -> w'.cell? (A.add m) = some (f m)) -> (Instr.loadAt t (.pointer (some A))).run P w' = .ok v w' := by
 have ht := hL t
 have single : ∀ d, P.underlying t = some d -> BB d = false -> cond (Nat.blt off l.length) (some (TV.v (.one (nth .und l off)))) none = some x ->
   ∃ v, aC X lc x v /\ ∀ w', (∀ m, off + m < l.length -> w'.cell? (A.add m) = some (f m)) -> (Instr.loadAt t (.pointer (some A))).run P w' = .ok v w' := by
  intro d hu hd h
  obtain ⟨hb, h⟩ := aH h
  cases h
  have hlt : off < l.length := by simpa [Nat.blt_eq] using hb
  refine ⟨f 0, hf 0 _ (by simpa using jy hlt), fun w' hw => ?_⟩
  have := hw 0 (by simpa using hlt)
  simp only [Addr.add_zero'] at this
  simp [Instr.loadAt, Instr.sureAddr, loadVar, qG hu, hd, this]
 unfold loadAt at h
 cases hti : L.at_ t with
 | struct fs cts b cmp =>
  rw [hti] at ht h
  obtain ⟨fields, zc, hu, _, ⟨i, hi, _, hsz, _⟩, _⟩ := ht
  obtain ⟨hb, h⟩ := aH h
  cases h
  have hle : off + cts.length <= l.length := by simpa [Nat.ble_eq] using hb
  refine ⟨.agg ((List.range cts.length).map f).toArray, ⟨_, rfl, ?_⟩, fun w' hw => ?_⟩
  ·refine .of_get (by simp [take]; omega) fun i x y hx hy => ?_
   simp only [take, amM, List.getElem?_drop] at hx
   split at hx
   ·rename_i hlt
    simp [hlt] at hy
    subst hy
    exact hf i x hx
   ·cases hx
  ·have hc := run_loadCells (P := P) w' A cts.length f (fun j hj => hw j (by omega))
   simp [Instr.loadAt, Instr.sureAddr, loadVar, qG hu, BB, bW hi, hsz, hc]
 | int k => rw [hti] at ht h; exact single _ ht.1 rfl h
 | bool => rw [hti] at ht h; exact single _ ht.1 rfl h
 | string => rw [hti] at ht h; exact single _ ht.1 rfl h
 | slice e => rw [hti] at ht h; exact single _ ht.1 rfl h
 | pointer e => rw [hti] at ht h; exact single _ ht.1 rfl h
 | map k e => rw [hti] at ht h; exact single _ ht.1 rfl h
 | func => rw [hti] at ht h; obtain ⟨_, _, _, hu⟩ := ht.1; exact single _ hu rfl h
 | array n e => rw [hti] at h; cases h
 | other => rw [hti] at h; cases h

theorem eW {o : Oper} {t : TypeId} {x : Operand} (ho : o.op = .load t x) (a : Act) {w w' : World} {v : Value} (h : (Instr.loadAt t (a.eval x)).run P w = .ok v w') : (execOp a.eval o).run P w = .ok (.value v) w' := by
 unfold execOp
 simp [ho, h]

theorem kb {G : Nat -> Prop} {w w' : World} (hb : Lat G w w') {g : Nat} (hg : ¬ G g) {o : Obj} (h : w.heap[g]? = some o) : w'.heap[g]? = some o := by
 rw [hb.block g (amy.1 h).1 hg]; exact h
theorem DV {w w' : World} (hb : Below w.heap.size w w') {g : Nat} {o : Obj} (h : w.heap[g]? = some o) : w'.heap[g]? = some o := by
 rw [hb.block g (amy.1 h).1]; exact h

theorem OZ {x : TV} {v : Value} (h : aC X lc x v) : aD X lc x.sv v := by
 cases x with
 | v z => cases z with
  | one s => exact h
  | agg _ => trivial
 | tup _ => trivial

theorem aN {x : TV} {s : SV} {v : Value} (h : aC X lc x v) (hs : x.sv = s) : aD X lc s v := hs ▸ OZ h

theorem ub {G : Nat -> Prop} {w : World} {base : Nat} {e : TypeId} {size n cap : Nat} {g : Nat} {xs : List Value} (h : w.ownsRow base e size (.slice (some ⟨g, 0, none⟩) n cap) n xs) {w' : World} (hb : Lat G w w') (hng : ¬ G g) {j : Nat} {u : Value}
  (hu : xs[j]? = some u) : w'.cell? ⟨g, j, none⟩ = some u := by
 rcases h.2 with ⟨h', _⟩ | ⟨g', cap', cur, h', _, hg, _, _, _, htake⟩
 ·simp at h'
 ·simp only [amf, aj1, amh, and_true, true_and] at h'
  obtain ⟨rfl, rfl⟩ := h'
  rw [cell_of_row w' g j cur e (0, 0) (kb hb hng hg)]
  rw [<- htake, amM] at hu
  split at hu
  ·simpa using hu
  ·cases hu

theorem gH {w : World} {base : Nat} {e : TypeId} {size n cap : Nat} {g : Nat} {xs : List Value} (h : w.ownsRow base e size (.slice (some ⟨g, 0, none⟩) n cap) n xs) {w' : World} (hb : Below w.heap.size w w') {j : Nat} {u : Value}
  (hu : xs[j]? = some u) : w'.cell? ⟨g, j, none⟩ = some u := by
 rcases h.2 with ⟨h', _⟩ | ⟨g', cap', cur, h', _, hg, _, _, _, htake⟩
 ·simp at h'
 ·simp only [amf, aj1, amh, and_true, true_and] at h'
  obtain ⟨rfl, rfl⟩ := h'
  rw [cell_of_row w' g j cur e (0, 0) (DV hb hg)]
  rw [<- htake, amM] at hu
  split at hu
  ·simpa using hu
  ·cases hu

theorem Hi {f : FS} {u : Value} (h : iJ X f u) : aD X lc f.sv u := by
 cases f <;> simp only [iJ] at h <;> simp only [FS.sv, aD] <;> try exact h
 ·exact ⟨#[], h, .nil⟩
 ·rename_i lf of
  obtain ⟨a, h1, h2, h3⟩ := h
  refine ⟨a, h1, h2, fun m f hm => ?_⟩
  rw [amI] at hm
  cases hl : lf[of + m]? with
  | none => rw [hl] at hm; cases hm
  | some f' =>
   rw [hl] at hm
   simp only [akB, aj1] at hm
   subst hm
   obtain ⟨u, hu, hr⟩ := h3 m f' hl
   exact ⟨u, hu, by cases f' <;> exact hr⟩

theorem t8 {w : World} {base base' : Nat} {e : TypeId} {size : Nat} {v : Value} {n : Nat} {xs : List Value} (h : w.ownsRow base e size v n xs) (hb : base' <= base) : w.ownsRow base' e size v n xs := by
 refine ⟨h.1, ?_⟩
 rcases h.2 with hn | ⟨g, cap, cur, h1, h2, rest⟩
 ·exact .inl hn
 ·exact .inr ⟨g, cap, cur, h1, akz hb h2, rest⟩
theorem uU {w : World} {t : TypeId} {q : Row} {v : Value} {xs : List Value} (hin : q.cellsIn X.ft X.fw xs) (h : w.ownsRow X.base t q.sz v q.len xs) : dh X lc w (.row t q) (.r v) :=
 ⟨fun g hg => .inl (h.lt g hg).1, xs, hin, t8 h (aks _)⟩
theorem cq {w : World} {b : Blk} {t : TypeId} {q : Row} {ℓ : Loc} (h : dh X lc w b ℓ) (hb : b.rowOf = some (t, q)) : ∃ v, ℓ = .r v /\ ∃ xs, q.cellsIn X.ft X.fw xs /\ w.ownsRow 0 t q.sz v q.len xs := by
 cases b with
 | cells _ _ => cases hb
 | pcells _ _ _ => cases hb
 | mp _ _ => cases hb
 | pmp _ _ _ => cases hb
 | dead => cases hb
 | srow _ _ => cases hb
 | row u r =>
  simp only [Blk.rowOf, aj1, akp] at hb
  obtain ⟨rfl, rfl⟩ := hb
  cases ℓ with
  | c g => exact h.elim
  | m g => exact h.elim
  | r v => exact ⟨v, rfl, h.2⟩
 | prow k u r =>
  simp only [Blk.rowOf, aj1, akp] at hb
  obtain ⟨rfl, rfl⟩ := hb
  cases ℓ with
  | c g => exact h.elim
  | m g => exact h.elim
  | r v => exact ⟨v, rfl, h.2⟩

theorem dl {w : World} {b : Blk} {t : TypeId} {l : List SV} {g : Nat} (h : dh X lc w b (.c g)) (hb : b.cellsOf = some (t, l)) : ∃ cs, w.heap[g]? = some (.cells cs t (0, 0)) /\ aB (aD X lc) l cs.toList := by
 cases b <;> simp only [Blk.cellsOf, aj1, akp, reduceCtorEq] at hb
 ·obtain ⟨rfl, rfl⟩ := hb; exact h.2
 ·obtain ⟨rfl, rfl⟩ := hb; exact h.2
theorem cV {bl : List Blk} {j : Nat} {t : TypeId} {l : List SV} (h : (nth .dead bl j).cellsOf = some (t, l)) : bl[j]? = some (nth .dead bl j) /\ (nth Blk.dead bl j).on = true := by
 refine ⟨cn rfl fun e => ?_, ?_⟩
 ·rw [e] at h; cases h
 ·cases hb : nth Blk.dead bl j with
  | dead => rw [hb] at h; cases h
  | _ => rfl
theorem tW {w : World} {b : Blk} {kd : MK} {l : Mp} {g : Nat} (h : dh X lc w b (.m g)) (hb : b.mpOf = some (kd, l)) : xt w g kd l := by
 cases b <;> simp only [Blk.mpOf, aj1, akp, reduceCtorEq] at hb
 ·obtain ⟨rfl, rfl⟩ := hb; exact h.2
 ·obtain ⟨rfl, rfl⟩ := hb; exact h.2
theorem dS {bl : List Blk} {j : Nat} {kd : MK} {l : Mp} (h : (nth .dead bl j).mpOf = some (kd, l)) : bl[j]? = some (nth .dead bl j) /\ (nth Blk.dead bl j).on = true := by
 refine ⟨cn rfl fun e => ?_, ?_⟩
 ·rw [e] at h; cases h
 ·cases hb : nth Blk.dead bl j with
  | dead => rw [hb] at h; cases h
  | _ => rfl

theorem qF {w : World} {b : Blk} {t : TypeId} {q : Row} {ℓ : Loc} (h : dh X lc w b ℓ) (hb : b.rowRd = some (t, q)) : ∃ v, ℓ = .r v /\ ∃ xs, q.cellsIn X.ft X.fw xs /\ w.readRow 0 t q.sz v q.len xs := by
 have go : b.rowOf = some (t, q) -> ∃ v, ℓ = .r v /\ ∃ xs, q.cellsIn X.ft X.fw xs /\ w.readRow 0 t q.sz v q.len xs := fun hb => by
  obtain ⟨v, h1, xs, h2, h3⟩ := cq h hb
  exact ⟨v, h1, xs, h2, ED h3⟩
 cases b with
 | srow u r =>
  simp only [Blk.rowRd, aj1, akp] at hb
  obtain ⟨rfl, rfl⟩ := hb
  cases ℓ with
  | c g => exact h.elim
  | m g => exact h.elim
  | r v =>
   exact ⟨v, rfl, h.2⟩
 | _ => exact go hb
theorem fL {bl : List Blk} {j : Nat} {t : TypeId} {q : Row} (h : (nth .dead bl j).rowRd = some (t, q)) : bl[j]? = some (nth .dead bl j) /\ (nth Blk.dead bl j).on = true := by
 refine ⟨cn rfl fun e => ?_, ?_⟩
 ·rw [e] at h; cases h
 ·cases hb : nth Blk.dead bl j with
  | dead => rw [hb] at h; cases h
  | _ => rfl
theorem uR {G : Nat -> Prop} {w : World} {base : Nat} {e : TypeId} {size n cap : Nat} {g : Nat} {xs : List Value} (h : w.readRow base e size (.slice (some ⟨g, 0, none⟩) n cap) n xs) {w' : World} (hb : Lat G w w') (hng : ¬ G g) {j : Nat} {u : Value}
  (hu : xs[j]? = some u) : w'.cell? ⟨g, j, none⟩ = some u := by
 rcases h.2 with ⟨h', _⟩ | ⟨g', cap', cur, fz, h', _, hg, htake⟩
 ·simp at h'
 ·simp only [amf, aj1, amh, and_true, true_and] at h'
  obtain ⟨rfl, rfl⟩ := h'
  rw [cell_of_row w' g j cur e fz (kb hb hng hg)]
  rw [<- htake, amM] at hu
  split at hu
  ·simpa using hu
  ·cases hu

theorem aR {bl : List Blk} {j : Nat} {t : TypeId} {q : Row} (h : (nth .dead bl j).rowOf = some (t, q)) : bl[j]? = some (nth .dead bl j) /\ (nth Blk.dead bl j).on = true := by
 refine ⟨cn rfl fun e => ?_, ?_⟩
 ·rw [e] at h; cases h
 ·cases hb : nth Blk.dead bl j with
  | dead => rw [hb] at h; cases h
  | _ => rfl

theorem GO {bl : List Blk} {w w' : World} {R : List Nat} {G : Nat -> Prop} {p : Addr} {u : Value} (hW : aK X bl w lc) (hV : vZ X bl lc R G) (hb : Lat G w w') (hf : X.ft p.block) (h : X.fw.cell? p = some u) : w'.cell? p = some u := by
 obtain ⟨h1, h2⟩ := hW.frz _ hf
 rw [amS (w := X.fw) ((hb.block _ h1 (hV.ft hf)).trans h2)]; exact h

theorem MJ (hL : aO P L) {o : Oper} {t : TypeId} {x : Operand} (ho : o.op = .load t x) {s : St} {a : Act} {w : World} (hR : Rel X s a w lc) {K : TV -> St -> Option β} {r : β}
  (h : sZ L t (aF s x).sv s K = some r) : fU P X o a w lc s K r := by
 have hx := az hR.tmps x
 unfold sZ at h
 split at h
 ·-- a cell of ours
  rename_i j off hj
  have hjr : j ∈ dE (aF s x) := by rw [jG hj (by simp)]; simp [iI]
  split at h
  ·rename_i u l hb
   have hblk := cV hb
   split at h
   ·rename_i y hy
    obtain ⟨g, hg, he⟩ := aN hx hj
    obtain ⟨cs, hh, hcs⟩ := dl (hR.world.blks j _ _ hblk.1 hg) hb
    have hlen := hcs.length
    obtain ⟨v, h1, h2⟩ := cN (X := X) (lc := lc) hL hy (fun m => (cs[off + m]?).getD undef) (fun m s hm => by
     obtain ⟨v, hv, hr⟩ := hcs.get _ _ hm
     have : cs[off + m]? = some v := by simpa using hv
     rw [this]; exact hr) ⟨g, off, none⟩
    refine ⟨y, v, h, h1, fun G hV w' hb' => eW ho a ?_⟩
    rw [he]
    refine h2 w' fun m hm => ?_
    have hng : ¬ G g := hV.no (fI (x := x) (by simp [ho, Op.operands]) hjr) hblk.1 hblk.2 hg rfl
    rw [akM, cell_of_row w' g (off + m) cs u (0, 0) (kb hb' hng hh)]
    have : off + m < cs.size := by rw [hlen] at hm; simpa using hm
    simp [amx this]
   ·cases h
  ·cases h
 ·-- an element of a row of ours
  rename_i j z i off hj
  split at h
  ·rename_i u q hb
   obtain ⟨hz, h2⟩ := aH h
   clear h
   have hz := aj3 hz
   subst hz
   split at h2
   ·rename_i y hy
    have h := h2
    obtain ⟨g, n, c, hg, h0, hn, he⟩ := aN hx hj
    obtain ⟨v', hv', xs, hin, hown⟩ := qF (hR.world.blks j _ _ (fL hb).1 hg) hb
    simp only [Loc.r.injEq] at hv'
    subst hv'
    have hnl : n = q.len := by
     rcases hown.2 with ⟨h', _⟩ | ⟨g', cap', cur, fz, h', _⟩
     ·simp at h'
     ·simp at h'; omega
    subst hnl
    obtain ⟨v, h1, h2⟩ := cN (X := X) (lc := lc) hL hy (fun m => (xs[i.toNat * q.sz + (off + m)]?).getD undef) (fun m s hm => by
     obtain ⟨u, hu, hr⟩ := q.at_in h0 hn hin hm
     rw [hu]; exact xK hr) ⟨g, i.toNat * q.sz + off, none⟩
    have hjr : j ∈ dE (aF s x) := by rw [jG hj (by simp)]; simp [iI]
    refine ⟨y, v, h, h1, fun G hV w' hb' => eW ho a ?_⟩
    rw [he]
    refine h2 w' fun m hm => ?_
    have hng : ¬ G g := hV.no (fI (x := x) (by simp [ho, Op.operands]) hjr) (fL hb).1 (fL hb).2 hg rfl
    rw [akM, ak2]
    obtain ⟨u, hu, _⟩ := q.at_in h0 hn hin (jy (d := .und) hm)
    rw [hu]
    exact uR hown hb' hng hu
   ·cases h2
  ·cases h
 ·rename_i q i off hj
  split at h
  ·rename_i y hy
   obtain ⟨h0, hn, A, he, hA, hc⟩ := aN hx hj
   obtain ⟨v, h1, h2⟩ := cN (X := X) (lc := lc) hL hy (fun m => (X.w0.cell? (A.add m)).getD undef) (fun m s hm => by
    rw [amI] at hm
    cases hf : (q.at_ i)[off + m]? with
    | none => rw [hf] at hm; cases hm
    | some f =>
     rw [hf] at hm
     simp only [akB, aj1] at hm
     subst hm
     obtain ⟨u, hu, hr⟩ := hc m f hf
     rw [hu]; exact Ab hr) A
   refine ⟨y, v, h, h1, fun G hV w' hb' => eW ho a ?_⟩
   rw [he]
   refine h2 w' fun m hm => ?_
   have hbl : X.old ((A.add m).block) := by rw [bL]; exact X.sub _ hA
   have e1 := hR.world.below.cell (p := A.add m) hbl
   have e2 := hb'.cell (p := A.add m) (aka hbl.1 hR.world.base_le) (hV.old hbl)
   rw [e2, e1]
   have hm' : off + m < (q.at_ i).length := by simpa using hm
   obtain ⟨u, hu, _⟩ := hc m _ (amF hm')
   rw [hu]; rfl
  ·cases h
 ·-- an element of a row that is told for ever
  rename_i q i off hj
  split at h
  ·rename_i y hy
   obtain ⟨h0, hn, A, he, hA, hc⟩ := aN hx hj
   obtain ⟨v, h1, h2⟩ := cN (X := X) (lc := lc) hL hy (fun m => (X.fw.cell? (A.add m)).getD undef) (fun m s hm => by
    obtain ⟨u, hu, hr⟩ := hc m s hm
    rw [hu]; exact xK hr) A
   refine ⟨y, v, h, h1, fun G hV w' hb' => eW ho a ?_⟩
   rw [he]
   refine h2 w' fun m hm => ?_
   obtain ⟨u, hu, _⟩ := hc m _ (jy (d := .und) hm)
   rw [hu]
   exact GO hR.world hV hb' (by rw [bL]; exact hA) hu
  ·cases h
 ·-- a node of a tree
  rename_i two T off hj
  split at h
  ·rename_i y hy
   obtain ⟨_, h⟩ := aA h
   obtain ⟨g, he, hT⟩ := aN hx hj
   cases T with
   | nil => cases hT
   | node ta tb tl tr =>
    obtain ⟨g', cs, t', z, vl, vr, e0, hft, hh, hcs, hl, hr⟩ := hT
    simp only [Value.pointer.injEq, aj1, amh, and_true] at e0
    subst e0
    have hrel : aB (aD X lc) (HC two (.node ta tb tl tr)) cs.toList := by
     rw [hcs]
     cases two with
     | false => exact .cons rfl (.cons hl (.cons hr .nil))
     | true => exact .cons rfl (.cons rfl (.cons hl (.cons hr .nil)))
    have hlen := hrel.length
    obtain ⟨v, h1, h2⟩ := cN (X := X) (lc := lc) hL hy (fun m => (cs[off + m]?).getD undef) (fun m s hm => by
     obtain ⟨v, hv, hr⟩ := hrel.get _ _ hm
     have : cs[off + m]? = some v := by simpa using hv
     rw [this]; exact hr) ⟨g, off, none⟩
    refine ⟨y, v, h, h1, fun G hV w' hb' => eW ho a ?_⟩
    rw [he]
    refine h2 w' fun m hm => ?_
    have hlt : off + m < cs.size := by rw [hlen] at hm; simpa using hm
    rw [akM]
    refine GO (p := ⟨g, off + m, none⟩) hR.world hV hb' hft ?_
    rw [cell_of_row X.fw g (off + m) cs t' z hh]
    simp [amx hlt]
  ·cases h
 ·rename_i l off hj
  split at h
  ·rename_i y hy
   obtain ⟨A, he, hA, hc⟩ := aN hx hj
   obtain ⟨v, h1, h2⟩ := cN (X := X) (lc := lc) hL hy (fun m => (X.w0.cell? (A.add m)).getD undef) (fun m s hm => by
    rw [amI] at hm
    cases hf : l[off + m]? with
    | none => rw [hf] at hm; cases hm
    | some f =>
     rw [hf] at hm
     simp only [akB, aj1] at hm
     subst hm
     obtain ⟨u, hu, hr⟩ := hc m f hf
     rw [hu]
     exact Hi hr) A
   refine ⟨y, v, h, h1, fun G hV w' hb' => eW ho a ?_⟩
   rw [he]
   refine h2 w' fun m hm => ?_
   have hbl : X.old ((A.add m).block) := by rw [bL]; exact X.sub _ hA
   have e1 := hR.world.below.cell (p := A.add m) hbl
   have e2 := hb'.cell (p := A.add m) (aka hbl.1 hR.world.base_le) (hV.old hbl)
   rw [e2, e1]
   have hm' : off + m < l.length := by simpa using hm
   obtain ⟨u, hu, _⟩ := hc m _ (amF hm')
   rw [hu]; rfl
  ·cases h
 ·cases h

end
end Go.Rv
