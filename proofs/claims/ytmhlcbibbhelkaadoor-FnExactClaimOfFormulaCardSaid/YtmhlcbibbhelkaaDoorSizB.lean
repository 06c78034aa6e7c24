/- impl.sizes and spec.l22Sizes, by walks: the parts. -/
import Derived.Test.YtmhlcbibbhelkaaDoorSizA
import Derived.Test.YtmhlcbibbhelkaaDoorSizM
import Derived.Test.YtmhlcbibbhelkaaDoorProg
import Derived.KernelRfl
import Derived.Laws.CopyOwn
import Derived.RangeFuncRecord
import Derived.Deep.RegionLaw
import Derived.Lib.Walk
import Derived.WalkKit
import Derived.Deep.LoopGhost
namespace Go.Proofs.YtmhlcbibbhelkaaDoor
open Go.Rv Go.RowKit Go.Lib
set_option linter.unusedVariables false
set_option linter.unusedSimpArgs false
theorem inf3 : (Tryd.prog.info? 3).map (fun i => (i.zero, i.size, i.bytes)) = some (some (.int .i64 0), 1, 8) := by kernel_rfl
theorem inf40 : (Tryd.prog.info? 25).map (fun i => (i.zero, i.size, i.bytes)) = some (some (.slice none 0 0), 1, 24) := by kernel_rfl
theorem own_some {w : World} {B e n : Nat} {v : Value} {xs : List Value} (h : w.ownsRow B e 1 v n xs) (hn : 0 < n) : ∃ g c, v = .slice (some ⟨g, 0, none⟩) n c := by
  rcases h.2 with ⟨_, h0⟩ | ⟨g, cap, cur, hv, _⟩
  · omega
  · exact ⟨g, cap, hv⟩
/-- Behind an append to one of the rows: the closure's variables, the row of rows. -/
theorem other2 {B ti tr trr go cap Co Cb : Nat} {os : List Int} {bys : List (List Nat)} {vb v : Value} {hs : List Value} {w w2 : World} {s : Nat} {l : List Nat} (hM : Mem B ti tr trr go cap Co Cb os bys vb hs w) (hne : ti ≠ trr) (hv : hs[s]? = some v) (hl : bys[s]? = some l) (hg : w.grownBy w2 v.ownBlock) : w2.heap[Cb]? = some (.cells #[vb] trr (0, 0)) := by
  have h1 := hM.cb
  rw [hg.block _ (lt_of_block h1) (fun e => own_ne (hM.rows.own s v l hv hl) h1 hne e.symm)]
  exact h1
theorem by2 {B ti tr trr go cap Co Cb : Nat} {os : List Int} {bys : List (List Nat)} {v : Value} {hs : List Value} {w w2 : World} {s gb cb' : Nat} {l : List Nat} (hM : Mem B ti tr trr go cap Co Cb os bys (.slice (some ⟨gb, 0, none⟩) bys.length cb') hs w) (hne : ti ≠ tr) (hv : hs[s]? = some v) (hl : bys[s]? = some l) (hg : w.grownBy w2 v.ownBlock) : w2.frozen? ⟨gb, s, none⟩ = false ∧ w2.cell? ⟨gb, s, none⟩ = some v := by
  have h1 := hM.by_
  obtain ⟨cs, hk⟩ := own_kind h1 (g := gb) rfl
  have h2 : w2.heap[gb]? = w.heap[gb]? := hg.block _ (lt_of_block hk) (fun e => own_ne (hM.rows.own s v l hv hl) hk hne e.symm)
  have hs0 : s < bys.length := (List.getElem?_eq_some_iff.1 hl).1
  refine ⟨frozen_of_row w2 gb s cs tr (h2.trans hk), ?_⟩
  have h4 := h1.cellAt s (by omega)
  rw [hv] at h4
  rw [← h4]
  exact World.cell?_of_block (w := w) h2
/-- A word is appended to one of the rows, as one step. -/
theorem step_take {B go cap Co Cb : Nat} {os : List Int} {bys : List (List Nat)} {v : Value} {hs : List Value} {w : World} {s gb cb' : Nat} {l : List Nat} {x gn : Nat}
    {ops : Array Oper} {o : Oper} {a : Act} {K : Act → World → Prop} {Q : Exit → Act → World → Prop} {E : Prop} (y z : Operand)
    (hv : hs[s]? = some v) (hl : bys[s]? = some l) (hlen : l.length ≤ 100000) (hM : Mem B 3 25 49 go cap Co Cb os bys (.slice (some ⟨gb, 0, none⟩) bys.length cb') hs w) {w0 : World} (hB0 : Below B w0 w)
    (hgd : o.guard = none) (hop : o.op = Op.call { callee := Callee.builtin Builtin.append, args := #[y, z], argTypes := #[25, 25] })
    (h1 : a.eval y = v) (h2 : a.eval z = .slice (some ⟨gn, 0, none⟩) 1 1) (h3 : w.cell? ⟨gn, 0, none⟩ = some (.int .i64 (x : Int)))
    (h : ∀ g' c' w2, Mem B 3 25 49 go cap Co Cb os (bys.set s (l ++ [x])) (.slice (some ⟨gb, 0, none⟩) bys.length cb') (hs.set s (.slice (some ⟨g', 0, none⟩) (l.length + 1) c')) (w2.setCell ⟨gb, s, none⟩ (.slice (some ⟨g', 0, none⟩) (l.length + 1) c')) → Below B w0 (w2.setCell ⟨gb, s, none⟩ (.slice (some ⟨g', 0, none⟩) (l.length + 1) c')) →
      w2.cell? ⟨Cb, 0, none⟩ = some (.slice (some ⟨gb, 0, none⟩) bys.length cb') → w2.frozen? ⟨gb, s, none⟩ = false → w2.cell? ⟨gb, s, none⟩ = some v → K (a.put o.dst (.slice (some ⟨g', 0, none⟩) (l.length + 1) c')) w2) :
    if Region.wanted o (yielded ops a.tmps) = true then Oper.wp Tryd.prog o a w K Q else E := by
  obtain ⟨i0, hi, hz0, hz1, hz2⟩ := info_parts inf3
  refine step_append_mine hgd y z 25 hop B 3 i0 (.int .i64 0) 1 8 Tryd.underlying25 hi hz0 hz1 hz2 rfl (by decide) v l.length (vi l) h1 (hM.rows.own s v l hv hl) ⟨gn, 0, none⟩ 1 1 [.int .i64 (x : Int)] h2 rfl ?_ (by intro u hu; simp at hu; subst hu; rfl) (by unfold maxLen; omega) (by omega) ?_ ?_
  · intro j u hj
    match j, hj with
    | 0, hj => simp at hj; subst hj; exact h3
  · have := hM.goLt
    omega
  · intro v' w2 hown2 hgr2 hnew2
    have hb := by2 hM (by decide) hv hl hgr2
    obtain ⟨g', c', rfl⟩ := own_some hown2 (by omega)
    have hown3 : w2.ownsRow B 3 1 (.slice (some ⟨g', 0, none⟩) (l.length + 1) c') (l ++ [x]).length (vi (l ++ [x])) := by
      rw [show (l ++ [x]).length = l.length + 1 by simp, show vi (l ++ [x]) = vi l ++ [.int .i64 (x : Int)] by simp [vi]]; exact hown2
    have hgb := hM.by_.lt gb rfl
    exact h g' c' w2 (hM.app (by decide) (by decide) (by decide) rfl hv hl hown3 hgr2 hnew2) ((hB0.grown hgr2 (by omega) (fun k hk => ((hM.rows.own s v l hv hl).lt k hk).1)).setCell hgb.1 _) (cell_of_one (other2 hM (by decide) hv hl hgr2)) hb.1 hb.2
set_option maxHeartbeats 2000000 in
set_option maxRecDepth 100000 in
theorem take_told {B go cap Co Cb : Nat} {os : List Int} {bys : List (List Nat)} {vb : Value} {hs : List Value} (w : World) (hM : Mem B 3 25 49 go cap Co Cb os bys vb hs w) (x s : Nat) (hx : x < os.length) (hs0 : s < bys.length) (hlen : (bys.getD s []).length ≤ 100000) :
    Calls Tryd.prog 34 #[.int .i64 x, .int .i64 s, .pointer (some ⟨Co, 0, none⟩), .pointer (some ⟨Cb, 0, none⟩)] w fun e w' => e = .returned (.tuple #[]) ∧ Below B w w' ∧
      ∃ hs', (∀ j : Nat, j ≠ s → hs'[j]? = hs[j]?) ∧ Mem B 3 25 49 go cap Co Cb (takeS x s (os, bys)).1 (takeS x s (os, bys)).2 vb hs' w' := by
  have hc1 := cell_of_one hM.co
  have hc2 : w.cell? ⟨go, x, none⟩ = some (.int .i64 (os[x]'hx)) := by
    rw [hM.out.cellAt x (by omega)]
    simp [vz, hx]
  have e1 : os.getD x 0 = os[x]'hx := by simp [List.getD, hx]
  obtain ⟨i0, hi, hz0, hz1, hz2⟩ := info_parts inf3
  by_cases hneg : os[x]'hx < 0
  · obtain ⟨gb, cb', hvb⟩ := own_some hM.by_ (by omega)
    subst hvb
    have hM1 := hM.put (by decide) (by decide) x (s : Int)
    have hf := hM.out.frozenAt x
    have hcb := cell_of_one hM1.cb
    have hh : s < hs.length := by rw [hM.rows.len]; exact hs0
    have hrow : (w.setCell ⟨go, x, none⟩ (.int .i64 (s : Int))).cell? ⟨gb, s, none⟩ = some (hs[s]'hh) := by
      rw [hM1.by_.cellAt s (by omega)]
      exact List.getElem?_eq_getElem hh
    have hl : bys[s]? = some (bys.getD s []) := by
      rw [List.getElem?_eq_getElem hs0]; simp [List.getD, hs0]
    have hv : hs[s]? = some (hs[s]'hh) := List.getElem?_eq_getElem hh
    have hown := hM1.rows.own s _ _ hv hl
    have hcbA : ∀ o, ((w.setCell ⟨go, x, none⟩ (.int .i64 (s : Int))).alloc o).cell? ⟨Cb, 0, none⟩ = some (.slice (some ⟨gb, 0, none⟩) bys.length cb') := fun o => cell_of_one (hM1.alloc o).cb
    have hrowA : ∀ o, ((w.setCell ⟨go, x, none⟩ (.int .i64 (s : Int))).alloc o).cell? ⟨gb, s, none⟩ = some (hs[s]'hh) := fun o => by
      rw [(hM1.alloc o).by_.cellAt s (by omega)]
      exact List.getElem?_eq_getElem hh
    have hB1 : Below B w (w.setCell ⟨go, x, none⟩ (.int .i64 (s : Int))) := (Below.refl B w).setCell hM.goLt.1 _
    generalize hw1 : w.setCell ⟨go, x, none⟩ (.int .i64 (s : Int)) = w1 at *
    generalize hL : bys.getD s [] = l at *
    generalize hV : hs[s]'hh = v at *
    have hBw : B ≤ w1.heap.size := Nat.le_trans hM1.goLt.1 (Nat.le_of_lt hM1.goLt.2)
    go_enter Tryd.func34, Tryd.ntmps34
    go_wp2
    go_region_law (refine step_take (x := x) (B := B) (go := go) (cap := cap) (Co := Co) (Cb := Cb) (os := os.set x (s : Int)) (gb := gb) (cb' := cb') (gn := w1.heap.size) (w0 := w) (.tmp 20) (.tmp 22) hv hl hlen (by first | exact (hM1.alloc _).drew | exact hM1.alloc _ | exact hM1.drew.alloc _ | exact (hM1.drew.alloc _).drew | exact (hM1.alloc _).drew.drew) (by first | exact (hB1.alloc hBw _).drew | exact hB1.alloc hBw _ | exact hB1.drew.alloc hBw _ | exact (hB1.drew.alloc hBw _).drew | exact (hB1.alloc hBw _).drew.drew) (by rfl) (by rfl) (by simp [Act.eval, Act.put]) (by simp [Act.eval, Act.put]) (by simp) ?_; intro g' c' w2 hM2 hB2 hcb2 hfr2 hby2)
    all_goals
      go_wp2
      refine bodyPost_end (results_none (by rfl) _ _ _) (by rfl) ?_
      refine ⟨rfl, hB2, hs.set s (.slice (some ⟨g', 0, none⟩) (l.length + 1) c'), fun j hj => List.getElem?_set_ne (fun e => hj e.symm), ?_⟩
      have e2 : takeS x s (os, bys) = (os.set x (s : Int), bys.set s (l ++ [x])) := by
        unfold takeS
        rw [show (os, bys).1.getD x 0 = os[x]'hx from e1, decide_eq_true hneg, cond_true]
        show (_, bys.set s (bys.getD s [] ++ [x])) = _
        rw [hL]
      rw [e2]
      exact hM2
  · go_enter Tryd.func34, Tryd.ntmps34
    go_wp2
    refine bodyPost_end (results_none (by rfl) _ _ _) (by rfl) ?_
    have e2 : takeS x s (os, bys) = (os, bys) := by unfold takeS; rw [show (os, bys).1.getD x 0 = os[x]'hx from e1, decide_eq_false (by omega)]; rfl
    rw [e2]
    exact ⟨rfl, Below.refl _ _, hs, fun _ _ => rfl, hM⟩
/-- A row without words is appended to the row of rows. -/
theorem wpl_grow {B go cap Co Cb : Nat} {os : List Int} {bys : List (List Nat)} {vb : Value} {hs : List Value} {w : World} {gn : Nat}
    {ops : Array Oper} {rest : List Oper} {o : Oper} {a : Act} {Q : Exit → Act → World → Prop} (hM : Mem B 3 25 49 go cap Co Cb os bys vb hs w) (y z : Operand) (hlen : bys.length ≤ 100000) {w0 : World} {B0 : Nat} (hB0 : Below B0 w0 w) (hle : B0 ≤ B)
    (hgd : o.guard = none) (ho : o.op = .call { callee := .builtin .append, args := #[y, z], argTypes := #[49, 49] })
    (h1 : a.eval y = vb) (h2 : a.eval z = .slice (some ⟨gn, 0, none⟩) 1 1) (h3 : w.cell? ⟨gn, 0, none⟩ = some (.slice none 0 0))
    (h : ∀ g' c' w2, Mem B 3 25 49 go cap Co Cb os (bys ++ [[]]) (.slice (some ⟨g', 0, none⟩) (bys.length + 1) c') (hs ++ [.slice none 0 0]) (w2.setCell ⟨Cb, 0, none⟩ (.slice (some ⟨g', 0, none⟩) (bys.length + 1) c')) →
      Below B0 w0 (w2.setCell ⟨Cb, 0, none⟩ (.slice (some ⟨g', 0, none⟩) (bys.length + 1) c')) → w2.frozen? ⟨Cb, 0, none⟩ = false → w2.cell? ⟨Cb, 0, none⟩ = some vb → wpList Tryd.prog ops Q rest (a.put o.dst (.slice (some ⟨g', 0, none⟩) (bys.length + 1) c')) w2) :
    wpList Tryd.prog ops Q (o :: rest) a w := by
  obtain ⟨i0, hi, hz0, hz1, hz2⟩ := info_parts inf40
  refine wpList_append_mine hgd y z 49 ho B 25 i0 (.slice none 0 0) 1 24 Tryd.underlying49 hi hz0 hz1 hz2 rfl (by decide) vb bys.length hs h1 hM.by_ ⟨gn, 0, none⟩ 1 1 [.slice none 0 0] h2 rfl ?_ (by intro u hu; simp at hu; subst hu; rfl) (by unfold maxLen; omega) (by omega) ?_ ?_
  · intro j u hj
    match j, hj with
    | 0, hj => simp at hj; subst hj; exact h3
  · have := hM.goLt
    omega
  · intro v' w2 hown2 hgr2 hnew2
    obtain ⟨g', c', rfl⟩ := own_some hown2 (by omega)
    have hcb : w2.heap[Cb]? = some (.cells #[vb] 49 (0, 0)) := by
      rw [hgr2.block _ (lt_of_block hM.cb) (fun e => own_ne hM.by_ hM.cb (by decide) e.symm)]; exact hM.cb
    have hlt := hM.goLt
    exact h g' c' w2 (hM.grow (by decide) (by decide) (by decide) hown2 hgr2 hnew2) ((hB0.grown hgr2 (by omega) (fun k hk => Nat.le_trans hle (hM.by_.lt k hk).1)).setCell (Nat.le_trans hle hM.cB.2) _) (free_of_one hcb) (cell_of_one hcb)
/-- How a row of words stands in its slot, and its cells. -/
theorem row_form {B go : Nat} {w : World} {bys : List (List Nat)} {hs : List Value} (h : Rows B 3 go w bys hs) {j : Nat} (hj : j < bys.length) :
    ∃ A c, hs[j]? = some (.slice A (bys.getD j []).length c) ∧ (0 < (bys.getD j []).length → ∃ g, A = some ⟨g, 0, none⟩) := by
  have hh : j < hs.length := by rw [h.len]; exact hj
  have ho := h.own j _ _ (List.getElem?_eq_getElem hh) (List.getElem?_eq_getElem hj)
  rw [getD_at hj]
  rcases ho.2 with ⟨h1, h2⟩ | ⟨g, cap, cur, h1, _⟩
  · exact ⟨none, 0, by rw [List.getElem?_eq_getElem hh, h1, h2], fun h => by omega⟩
  · exact ⟨_, cap, by rw [List.getElem?_eq_getElem hh, h1], fun _ => ⟨g, rfl⟩⟩
theorem row_cell {B go : Nat} {w : World} {bys : List (List Nat)} {hs : List Value} (h : Rows B 3 go w bys hs) {j g c : Nat} {l : List Nat} (hj : j < bys.length) (hl : bys.getD j [] = l) (hv : hs[j]? = some (.slice (some ⟨g, 0, none⟩) l.length c)) {i : Nat} (hi : i < l.length) :
    w.cell? ⟨g, i, none⟩ = some (.int .i64 (l[i] : Nat)) := by
  have ho := h.own j _ _ hv (List.getElem?_eq_getElem hj)
  rw [getD_at hj] at hl
  subst hl
  rw [ho.cellAt i (by omega)]
  unfold vi
  rw [List.getElem?_map, List.getElem?_eq_getElem hi]
  rfl
/-- What holds between two takings. -/
def Inv (B B0 go cap Co Cb s : Nat) (vb : Value) (hs0 : List Value) (w : World) (st : SS) (wr : World) : Prop := ∃ hs, Mem B 3 25 49 go cap Co Cb st.1 st.2 vb hs wr ∧ (∀ j : Nat, j ≠ s → hs[j]? = hs0[j]?) ∧ Below B0 w wr
theorem take_inv {B B0 go cap Co Cb s x : Nat} {vb : Value} {hs0 : List Value} {w wr : World} {st : SS} (hle : B0 ≤ B) (h : Inv B B0 go cap Co Cb s vb hs0 w st wr) (hx : x < st.1.length) (hs : s < st.2.length) (hl : (st.2.getD s []).length ≤ 100000) :
    Calls Tryd.prog 34 #[.int .i64 x, .int .i64 s, .pointer (some ⟨Co, 0, none⟩), .pointer (some ⟨Cb, 0, none⟩)] wr fun e w' => e = .returned (.tuple #[]) ∧ Inv B B0 go cap Co Cb s vb hs0 w (takeS x s st) w' := by
  obtain ⟨hs1, hM, ho, hB⟩ := h
  refine (take_told wr hM x s hx hs hl).mono ?_
  rintro e w' ⟨rfl, hb, hs2, ho2, hM2⟩
  exact ⟨rfl, hs2, hM2, fun j hj => (ho2 j hj).trans (ho j hj), hB.trans (hb.mono hle)⟩
end Go.Proofs.YtmhlcbibbhelkaaDoor
