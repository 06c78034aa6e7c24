/- spec.l22Sizes, by a walk. -/
import Derived.Test.YtemihnclhcobnaaGreatDoorSizB
import Derived.Test.YtemihnclhcobnaaGreatDoorRvNum
import Derived.Deep.RegionWith
import Derived.Deep.Cut
import Derived.Deep.CutRange
import Derived.Deep.Light
namespace Go.Proofs.YtemihnclhcobnaaGreatDoor
open Go.Rv Go.RowKit Go.Lib
set_option linter.unusedVariables false
set_option linter.unusedSimpArgs false
theorem eX (n : Nat) (hn : n <= 3) (w : World) : Calls Tryz.prog 160 #[.int .i64 n] w fun e w' => e = .returned (.int .i64 (full n : Nat)) /\ w' = w := by
 have hsh : wrap64 (wrap64 (2 ^ min (IntKind.u64.wrap (2 ^ n)).toNat 64) - 1) = ((full n : Nat) : Int) := by
  obtain rfl | rfl | rfl | rfl : n = 0 \/ n = 1 \/ n = 2 \/ n = 3 := by omega
  all_goals decide +kernel
 go_enter Tryz.func160, Tryz.ntmps160
 go_wp2
 go_ret
 refine ⟨?_, rfl⟩
 simp [hsh]
set_option maxRecDepth 100000 in
theorem KF {ops : Array Oper} {o : Oper} {a : Act} {w : World} {K : Act -> World -> Prop} {Q : Exit -> Act -> World -> Prop} {E : Prop} (x : Operand) (n : Nat) (hn : n <= 3)
  (hgd : o.guard = none) (hop : o.op = Op.call { callee := .value (.func 160), args := #[x], argTypes := #[3] })
  (hx : a.eval x = .int .i64 n) (hK : K (a.put o.dst (.int .i64 (full n : Nat))) w) :
  if Region.wanted o (yielded ops a.tmps) = true then Oper.wp Tryz.prog o a w K Q else E := by
 have hw : Region.wanted o (yielded ops a.tmps) = true := by simp [Region.wanted, hgd]
 rw [if_pos hw]
 unfold Oper.wp
 have he : (execOp a.eval o).run Tryz.prog w = .ok (.enter 160 #[.int .i64 n]) w := by
  have hb : (Tryz.f160.name == "runtime.NumGoroutine") = false := by kernel_rfl
  have hb2 : Tryz.f160.body.isNone = false := by kernel_rfl
  have hf : a.eval (.func 160) = .func (.func 160) #[] #[] := rfl
  unfold execOp
  simp only [hop, resolve, invoke, Deferred.ofValue, akk, akr, akb, ami, akD, ak8, hx, hf, callFunc, Tryz.func160, hb, hb2]
  rfl
 rw [he, Oper.upon_enter]
 refine (eX n hn w).mono ?_
 rintro e w' ⟨rfl, rfl⟩
 exact hK
theorem OV {B go cap m : Nat} {os : List Int} {rows : List (List Nat)} {v : Value} {hs : List Value} {w : World} {s gb cb' : Nat} {l : List Nat} {x1 x2 gn : Nat}
  {ops : Array Oper} {o : Oper} {a : Act} {K : Act -> World -> Prop} {Q : Exit -> Act -> World -> Prop} {E : Prop} (y z : Operand)
  (hv : hs[s]? = some v) (hl : rows[s]? = some l) (hsm : s < m) (hlen : l.length <= 100000) (hM : cj B go cap os rows (.slice (some ⟨gb, 0, none⟩) m cb') hs m w) {w0 : World} {B0 : Nat} (hB0 : Below B0 w0 w) (hle : B0 <= B)
  (hgd : o.guard = none) (hop : o.op = Op.call { callee := Callee.builtin Builtin.append, args := #[y, z], argTypes := #[40, 40] })
  (h1 : a.eval y = v) (h2 : a.eval z = .slice (some ⟨gn, 0, none⟩) 2 2) (h3 : w.cell? ⟨gn, 0, none⟩ = some (.int .i64 (x1 : Int))) (h4 : w.cell? ⟨gn, 1, none⟩ = some (.int .i64 (x2 : Int)))
  (h : ∀ g' c' w2, cj B go cap os (rows.set s (l ++ [x1, x2])) (.slice (some ⟨gb, 0, none⟩) m cb') (hs.set s (.slice (some ⟨g', 0, none⟩) (l.length + 2) c')) m (w2.setCell ⟨gb, s, none⟩ (.slice (some ⟨g', 0, none⟩) (l.length + 2) c')) -> Below B0 w0 (w2.setCell ⟨gb, s, none⟩ (.slice (some ⟨g', 0, none⟩) (l.length + 2) c')) ->
   w2.frozen? ⟨gb, s, none⟩ = false -> w2.cell? ⟨gb, s, none⟩ = some v -> K (a.put o.dst (.slice (some ⟨g', 0, none⟩) (l.length + 2) c')) w2) :
  if Region.wanted o (yielded ops a.tmps) = true then Oper.wp Tryz.prog o a w K Q else E := by
 obtain ⟨i0, hi, hz0, hz1, hz2⟩ := info_parts Nu
 have ho := hM.rws.own s v l hv hl
 refine iO hgd y z 40 hop B 3 i0 (.int .i64 0) 1 8 Tryz.underlying40 hi hz0 hz1 hz2 rfl (by decide) v l.length (vi l) h1 ho ⟨gn, 0, none⟩ 2 2 [.int .i64 (x1 : Int), .int .i64 (x2 : Int)] h2 rfl ?_ (by intro u hu; simp at hu; rcases hu with rfl | rfl <;> rfl) (by unfold maxLen; omega) (by omega) ?_ ?_
 ·intro j u hj
  match j, hj with
  | 0, hj => simp at hj; subst hj; exact h3
  | 1, hj => simp at hj; subst hj; exact h4
 ·have := hM.goLt
  omega
 ·intro v' w2 hown2 hgr2 hnew2
  obtain ⟨g', c', rfl⟩ := eu hown2 (by omega)
  have hown3 : w2.ownsRow B 3 1 (.slice (some ⟨g', 0, none⟩) (l.length + 2) c') (l ++ [x1, x2]).length (vi (l ++ [x1, x2])) := by
   rw [show (l ++ [x1, x2]).length = l.length + 2 by simp, show vi (l ++ [x1, x2]) = vi l ++ [.int .i64 (x1 : Int), .int .i64 (x2 : Int)] by simp [vi]]; exact hown2
  have hby := hM.by_
  have hgb := hby.lt gb rfl
  obtain ⟨cs, hk⟩ := cP hby (g := gb) rfl
  have hk2 : w2.heap[gb]? = w.heap[gb]? := hgr2.block _ (lt_of_block hk) (fun e => cy ho hk (by decide) e.symm)
  have hlt := hM.goLt
  refine h g' c' w2 (hM.app2 rfl hv hl hsm hown3 hgr2 hnew2) ((hB0.grown hgr2 (by omega) (fun k hk => akz hle (ho.lt k hk).1)).setCell (by show B0 <= gb; omega) _) (frozen_of_row w2 gb s cs 40 (hk2.trans hk)) ?_
  have hc := hby.cellAt s (by omega)
  rw [amN hsm, hv] at hc
  rw [<- hc]
  exact amS (w := w) hk2
theorem Vt {B go cap m : Nat} {os : List Int} {rows : List (List Nat)} {vb v : Value} {hs : List Value} {w : World} {s : Nat} {l : List Nat} {x gn : Nat}
  {ops : Array Oper} {rest : List Oper} {o : Oper} {a : Act} {Q : Exit -> Act -> World -> Prop} (hM : cj B go cap os rows vb hs m w) (hv : hs[s]? = some v) (hl : rows[s]? = some l) (hms : m <= s) (hlen : l.length <= 100000) {w0 : World} (hB0 : Below B w0 w) (y z : Operand)
  (hgd : o.guard = none) (ho : o.op = .call { callee := .builtin .append, args := #[y, z], argTypes := #[40, 40] })
  (h1 : a.eval y = v) (h2 : a.eval z = .slice (some ⟨gn, 0, none⟩) 1 1) (h3 : w.cell? ⟨gn, 0, none⟩ = some (.int .i64 (x : Int)))
  (h : ∀ g' c' w2, cj B go cap os (rows.set s (l ++ [x])) vb (hs.set s (.slice (some ⟨g', 0, none⟩) (l.length + 1) c')) m w2 -> Below B w0 w2 -> (∀ k, k < w.heap.size -> some k ≠ v.ownBlock -> w2.heap[k]? = w.heap[k]?) -> (some g' = v.ownBlock \/ w.heap.size <= g') ->
   wpList Tryz.prog ops Q rest (a.put o.dst (.slice (some ⟨g', 0, none⟩) (l.length + 1) c')) w2) :
  wpList Tryz.prog ops Q (o :: rest) a w := by
 obtain ⟨i0, hi, hz0, hz1, hz2⟩ := info_parts Nu
 have hr := hM.rws.own s v l hv hl
 refine dj hgd y z 40 ho B 3 i0 (.int .i64 0) 1 8 Tryz.underlying40 hi hz0 hz1 hz2 rfl (by decide) v l.length (vi l) h1 hr ⟨gn, 0, none⟩ 1 1 [.int .i64 (x : Int)] h2 rfl ?_ (by intro u hu; simp at hu; subst hu; rfl) (by unfold maxLen; omega) (by omega) ?_ ?_
 ·intro j u hj
  match j, hj with
  | 0, hj => simp at hj; subst hj; exact h3
 ·have := hM.goLt
  omega
 ·intro v' w2 hown2 hgr2 hnew2
  obtain ⟨g', c', rfl⟩ := eu hown2 (by omega)
  have hown3 : w2.ownsRow B 3 1 (.slice (some ⟨g', 0, none⟩) (l.length + 1) c') (l ++ [x]).length (vi (l ++ [x])) := by
   rw [show (l ++ [x]).length = l.length + 1 by simp, show vi (l ++ [x]) = vi l ++ [.int .i64 (x : Int)] by simp [vi]]; exact hown2
  have hlt := hM.goLt
  refine h g' c' w2 (hM.app hv hl hms hown3 hgr2 hnew2) (hB0.grown hgr2 (by omega) (fun k hk => (hr.lt k hk).1)) hgr2.block ?_
  rcases hnew2 with h4 | h4
  ·exact .inl h4
  ·exact .inr (h4 g' rfl)
theorem Pd {B go cap m : Nat} {os : List Int} {rows : List (List Nat)} {vb v : Value} {hs : List Value} {w : World} {gn : Nat}
  {ops : Array Oper} {rest : List Oper} {o : Oper} {a : Act} {Q : Exit -> Act -> World -> Prop} (hM : cj B go cap os rows vb hs m w) (hm : rows.length = m + 1) (hv : hs[m]? = some v) (hv1 : v.oneCell' = true) (hlen : m <= 100000) {w0 : World} (hB0 : Below B w0 w) (y z : Operand)
  (hgd : o.guard = none) (ho : o.op = .call { callee := .builtin .append, args := #[y, z], argTypes := #[124, 124] })
  (h1 : a.eval y = vb) (h2 : a.eval z = .slice (some ⟨gn, 0, none⟩) 1 1) (h3 : w.cell? ⟨gn, 0, none⟩ = some v)
  (h : ∀ g' c' w2, cj B go cap os rows (.slice (some ⟨g', 0, none⟩) (m + 1) c') hs (m + 1) w2 -> Below B w0 w2 -> wpList Tryz.prog ops Q rest (a.put o.dst (.slice (some ⟨g', 0, none⟩) (m + 1) c')) w2) :
  wpList Tryz.prog ops Q (o :: rest) a w := by
 obtain ⟨i0, hi, hz0, hz1, hz2⟩ := info_parts WR
 refine dj hgd y z 124 ho B 40 i0 (.slice none 0 0) 1 24 Tryz.underlying124 hi hz0 hz1 hz2 rfl (by decide) vb m (hs.take m) h1 hM.by_ ⟨gn, 0, none⟩ 1 1 [v] h2 rfl ?_ (by intro u hu; simp at hu; subst hu; exact hv1) (by unfold maxLen; omega) (by omega) ?_ ?_
 ·intro j u hj
  match j, hj with
  | 0, hj => simp at hj; subst hj; exact h3
 ·have := hM.goLt
  omega
 ·intro v' w2 hown2 hgr2 hnew2
  have hmlt : m < hs.length := (amH.1 hv).1
  have e : hs.take m ++ [v] = hs := by
   have h5 := akS hmlt
   rw [(amH.1 hv).2] at h5
   rw [<- h5, akZ (by rw [hM.rws.len]; omega)]
  rw [e] at hown2
  obtain ⟨g', c', rfl⟩ := eu hown2 (by omega)
  have hlt := hM.goLt
  exact h g' c' w2 (hM.grow hm hown2 hgr2) (hB0.grown hgr2 (by omega) (fun k hk => (hM.by_.lt k hk).1))
def np (B go cap s : Nat) (bys : List (List Nat)) (vb : Value) (hs0 : List Value) (w : World) (st : SZ) (s7 s9 : Value) (wr : World) : Prop :=
 ∃ hs g c, cj B go cap st.1 (bys ++ [st.2.1]) vb hs s wr /\ hs[s]? = some s9 /\ s9 = .slice (some ⟨g, 0, none⟩) st.2.1.length c /\ (∀ j : Nat, j < s -> hs[j]? = hs0[j]?) /\ s7 = .int .i64 st.2.2 /\ Below B w wr
def qS (wr : World) (s9 : Value) (go gl x1 x2 : Nat) : Prop := wr.cell? ⟨gl, 0, none⟩ = some (.int .i64 (x1 : Int)) /\ wr.cell? ⟨gl, 1, none⟩ = some (.int .i64 (x2 : Int)) /\ s9.ownBlock ≠ some gl /\ gl ≠ go /\ gl < wr.heap.size
theorem np.drewN {B go cap s : Nat} {bys : List (List Nat)} {vb : Value} {hs0 : List Value} {w : World} {st : SZ} {s7 s9 : Value} {wr : World} (h : np B go cap s bys vb hs0 w st s7 s9 wr) (n : Nat) : np B go cap s bys vb hs0 w st s7 s9 (wr.drewN n) := by
 obtain ⟨hs, g, c, hM, h9, h10, ho, h7, hB⟩ := h
 exact ⟨hs, g, c, hM.drewN n, h9, h10, ho, h7, ⟨hB.os, hB.tape, hB.output, hB.size, hB.block⟩⟩
theorem qS.drewN {wr : World} {s9 : Value} {go gl x1 x2 : Nat} (h : qS wr s9 go gl x1 x2) (n : Nat) : qS (wr.drewN n) s9 go gl x1 x2 := h
theorem Sa {B go cap s : Nat} {bys : List (List Nat)} {vb : Value} {hs0 : List Value} {w : World} {st : SZ} {s7 s9 : Value} {wr : World} (h : np B go cap s bys vb hs0 w st s7 s9 wr) (hb : bys.length = s) (x1 x2 : Nat) :
  np B go cap s bys vb hs0 w st s7 s9 (wr.alloc (.cells #[.int .i64 (x1 : Int), .int .i64 (x2 : Int)] 3)).drew /\ qS (wr.alloc (.cells #[.int .i64 (x1 : Int), .int .i64 (x2 : Int)] 3)).drew s9 go wr.heap.size x1 x2 := by
 obtain ⟨hs, g, c, hM, h9, h10, ho, h7, hB⟩ := h
 have hlt := hM.goLt
 have hg : g < wr.heap.size := by
  have := ((hM.rws.own s s9 st.2.1 h9 (by rw [amC (by omega), hb, ale]; rfl)).lt g (by rw [h10]; rfl)).2
  exact this
 refine ⟨⟨hs, g, c, (hM.alloc _).drew, h9, h10, ho, h7, (hB.alloc (by omega) _).drew⟩, by simp, by simp, ?_, by omega, by simp⟩
 rw [h10]
 simp only [Value.ownBlock, ne_eq, aj1]
 omega
theorem np.size {B go cap s : Nat} {bys : List (List Nat)} {vb : Value} {hs0 : List Value} {w : World} {st : SZ} {s7 s9 : Value} {wr : World} (h : np B go cap s bys vb hs0 w st s7 s9 wr) {L : Nat} (hl : st.1.length = L) {x : Nat} (hx : x < L) : wr.cell? ⟨go, x, none⟩ = some (.int .i64 (st.1.getD x 0)) /\ wr.frozen? ⟨go, x, none⟩ = false := by
 obtain ⟨hs, g, c, hM, _⟩ := h
 refine ⟨?_, hM.out.frozenAt x⟩
 rw [hM.out.cellAt x (by omega), mb (by omega)]
 unfold vz
 rw [amI, amF (by omega)]
 rfl
theorem MC {w : World} {v : Value} {t : TypeId} {g : Nat} (h : g = w.heap.size) : (w.alloc (.cells #[v] t)).cell? ⟨g, 0, none⟩ = some v := by
 subst h
 exact cell_of_one (heap_alloc_new w _)
theorem O6 {W Wa w5 : World} {s9 : Value} {go gl x1 x2 g' n c' : Nat} (h : qS W s9 go gl x1 x2) (hWa : ∀ k, k < W.heap.size -> k ≠ go -> Wa.heap[k]? = W.heap[k]?) (hsz : W.heap.size <= Wa.heap.size)
  (hk : ∀ k, k < Wa.heap.size -> some k ≠ s9.ownBlock -> w5.heap[k]? = Wa.heap[k]?) (hg : some g' = s9.ownBlock \/ Wa.heap.size <= g') : qS w5 (.slice (some ⟨g', 0, none⟩) n c') go gl x1 x2 := by
 obtain ⟨h1, h2, h3, h4, h5⟩ := h
 have hb : w5.heap[gl]? = W.heap[gl]? := (hk gl (by omega) (fun e => h3 e.symm)).trans (hWa gl h5 h4)
 have c1 : w5.cell? ⟨gl, 0, none⟩ = some (.int .i64 (x1 : Int)) := (amS (w := W) (a := ⟨gl, 0, none⟩) hb).trans h1
 refine ⟨c1, (amS (w := W) (a := ⟨gl, 1, none⟩) hb).trans h2, ?_, h4, amQ _ _ c1⟩
 simp only [Value.ownBlock, ne_eq, aj1]
 rcases hg with hg | hg
 ·exact fun e => h3 (by rw [<- hg, e])
 ·omega
set_option maxHeartbeats 4000000 in
set_option maxRecDepth 100000 in
theorem NB (n : Nat) (hn : n <= 3) (w : World)
    (hvar : ∀ i, i < n -> ∀ W, Below w.heap.size w W -> Calls Tryz.prog 207 #[.int .i64 n, .int .i64 i] W fun e w' => e = .returned (.int .i64 (vw n i : Nat)) /\ Below W.heap.size W w')
    (res : List Int) (hres : vc n = some res) :
    Calls Tryz.prog 145 #[.int .i64 n] w fun e w' => ∃ v', e = .returned v' /\ w'.ownsRow w.heap.size 3 1 v' res.length (vz res) /\ Below w.heap.size w w' := by
  have hL2 : 2 <= 2 ^ 2 ^ n /\ 2 ^ 2 ^ n <= 256 := by
    obtain rfl | rfl | rfl | rfl : n = 0 \/ n = 1 \/ n = 2 \/ n = 3 := by omega
    all_goals decide
  obtain ⟨L, hL⟩ : ∃ L, L = 2 ^ 2 ^ n := ⟨_, rfl⟩
  rw [<- hL] at hL2
  replace hL : Hid (L = 2 ^ 2 ^ n) := hL
  have hfu : Hid (full n = L - 1) := by show full n = L - 1; unfold full; rw [<- hL.out]
  have hw1 : wrap64 (((full n : Nat) : Int) + 1) = (L : Int) := by have := hfu.out; unfold wrap64; omega
  obtain ⟨i0, hi, hz0, hz1, hz2⟩ := info_parts Nu
  have hmk : ∀ W : World, (Instr.makeSlice 40 (.int .i64 (L : Int)) (.int .i64 (L : Int))).run Tryz.prog W = .ok (.slice (some ⟨W.heap.size, 0, none⟩) L L) (W.alloc (.cells (List.replicate L (Value.int .i64 0)).toArray 3)) := fun W => by
    have h := run_makeSlice (P := Tryz.prog) W 40 3 i0 (.int .i64 0) Tryz.underlying40 hi hz0 .i64 .i64 (L : Int) L (by omega) (by omega) (by rw [hz1]; simp; omega) (by rw [hz2]; simp; omega) (by omega)
    have e : madeCells (Value.int .i64 0).cells L = (List.replicate L (Value.int .i64 0)).toArray := by
      have h1 := toList_madeCells_one (Value.int .i64 0) L
      rw [<- h1]
      rfl
    rw [akc, hz1, akV, e] at h
    exact h
  go_enter Tryz.func145, Tryz.ntmps145
  go_wp2_with (go_at_call 160; refine (eX n hn _).mono ?_; rintro e w ⟨rfl, rfl⟩)
  have hst := Eg w L hL2.2
  have h0 : eM n 0 = (List.replicate L 0, []) := by rw [hL.out]; rfl
  clear hw1 hmk
  go_loopg [5] n (fun gg s5 wr => ∃ (i : Nat) (hs : List Value) (gb cb : Nat), s5 = .int .i64 i /\ i <= n /\ gg = n - i /\ cj w.heap.size w.heap.size L (eM n i).1 [[], (eM n i).2] (.slice (some ⟨w.heap.size + 3, 0, none⟩) 2 2) hs 2 wr /\ Below w.heap.size w wr)
  case atStart =>
    refine ⟨0, _, 0, 0, rfl, aks _, rfl, by rw [h0]; exact hst, ?_⟩
    have h1 := akG w.heap.size w
    exact (((h1.alloc (aj8 _) _).alloc (by simp) _).alloc (by simp; omega) _).alloc (by simp; omega) _
  case round => as_aux_lemma =>
    clear hst
    obtain ⟨i, hs, _, _, rfl, h1, rfl, hM, hB⟩ := hrel
    by_cases hi : i < n
    · have hiz : (i : Int) < (n : Int) := by omega
      have hv := W0 n hn i hi
      have ho := Au n hn i (by omega)
      go_wp2_with (go_at_call 207; fail)
      refine (hvar i hi wr hB).mono ?_
      rintro e w2 ⟨rfl, hb2⟩
      have hM2 := hM.below hb2
      have hB2 := hB.trans (hb2.mono hB.size)
      have hlen := ho.1
      rw [<- hL.out] at hlen
      have hx1 : vw n i < L := by rw [hL.out]; exact hv.1
      have hx2 : full n - vw n i < L := by have := hfu.out; omega
      have hsub : wrap64 (((full n : Nat) : Int) - ((vw n i : Nat) : Int)) = ((full n - vw n i : Nat) : Int) := by have := hv.2; have := hfu.out; unfold wrap64; omega
      obtain ⟨x1, e1⟩ : ∃ x, x = vw n i := ⟨_, rfl⟩
      obtain ⟨x2, e2⟩ : ∃ x, x = full n - vw n i := ⟨_, rfl⟩
      have hnx : eM n (i + 1) = (((eM n i).1.set x1 1).set x2 1, (eM n i).2 ++ [x1, x2]) := by rw [KO, e1, e2]
      rw [<- e2] at hx2 hsub
      rw [<- e1] at hx1 hsub ⊢
      clear e1 e2
      obtain ⟨os, eo⟩ : ∃ os, os = (eM n i).1 := ⟨_, rfl⟩
      obtain ⟨ws, ew⟩ : ∃ ws, ws = (eM n i).2 := ⟨_, rfl⟩
      rw [<- eo] at hM2 hlen hnx
      rw [<- ew] at hM2 hnx
      have hwl : ws.length <= 100 := by rw [ew, ho.2.1]; omega
      clear eo ew hM ho hv
      have hM3 := hM2.put x1 1
      have hM4 := hM3.put x2 1
      have hB4 := (hB2.setCell (p := ⟨w.heap.size, x1, none⟩) (aj8 _) (.int .i64 1)).setCell (p := ⟨w.heap.size, x2, none⟩) (aj8 _) (.int .i64 1)
      have q1 := hM2.out
      have q3 := hM3.out
      have q4 := hM4.out
      simp only [akA, hlen] at q1 q3 q4
      have c1 : w2.cell? ⟨w.heap.size, x1, none⟩ = some (.int .i64 (os[x1]'(by omega))) := by rw [q1.cellAt x1 (by omega)]; unfold vz; rw [amI, amF (by omega)]; rfl
      have c2 : (w2.setCell ⟨w.heap.size, x1, none⟩ (.int .i64 1)).cell? ⟨w.heap.size, x2, none⟩ = some (.int .i64 ((os.set x1 1)[x2]'(by rw [akA]; omega))) := by rw [q3.cellAt x2 (by omega)]; unfold vz; rw [amI, amF (by rw [akA]; omega)]; rfl
      have f1 := q1.frozenAt x1
      have f2 := q3.frozenAt x2
      have hh : 1 < hs.length := by rw [hM4.rws.len]; exact Nat.lt_succ_self 1
      obtain ⟨v1, hv1⟩ : ∃ v, hs[1]? = some v := ⟨_, amF hh⟩
      have hby : ((w2.setCell ⟨w.heap.size, x1, none⟩ (.int .i64 1)).setCell ⟨w.heap.size, x2, none⟩ (.int .i64 1)).cell? ⟨w.heap.size + 1 + 1 + 1, 1, none⟩ = some v1 := by
        rw [hM4.by_.cellAt 1 (by omega), amN (by omega)]; exact hv1
      clear q4
      go_wp2_with (go_at_call 160; refine (eX n hn _).mono ?_; rintro e w3 ⟨rfl, hw3⟩; subst hw3)
      generalize hw4 : (w2.setCell ⟨w.heap.size, x1, none⟩ (.int .i64 1)).setCell ⟨w.heap.size, x2, none⟩ (.int .i64 1) = w4 at *
      have hsub2 : IntKind.i64.wrap (((full n : Nat) : Int) - (x1 : Int)) = (x2 : Int) := by rw [alG]; have h := hsub; unfold wrap64 at h; omega
      have hbyA : ∀ o, (w4.alloc o).cell? ⟨w.heap.size + 1 + 1 + 1, 1, none⟩ = some v1 := fun o => by
        rw [(hM4.alloc o).by_.cellAt 1 (by omega), amN (by omega)]; exact hv1
      have hl1 : ([[], ws] : List (List Nat))[1]? = some ws := rfl
      have hB4w := hB4.size
      go_region_law (first | (refine KF (.tmp 44) n hn (by rfl) (by rfl) (by simp [Act.eval, Act.put]) ?_) | (refine OV (x1 := x1) (x2 := x2) (B := w.heap.size) (go := w.heap.size) (cap := L) (os := (os.set x1 1).set x2 1) (rows := [[], ws]) (gb := w.heap.size + 1 + 1 + 1) (cb' := 2) (gn := w4.heap.size) (m := 2) (w0 := w) (B0 := w.heap.size) (.tmp 42) (.tmp 48) hv1 hl1 (by omega) (by omega) (by first | exact (hM4.alloc _).drew | exact hM4.alloc _ | exact hM4.drew.alloc _ | exact (hM4.drew.alloc _).drew | exact (hM4.alloc _).drew.drew) (by first | exact (hB4.alloc hB4w _).drew | exact hB4.alloc hB4w _ | exact hB4.drew.alloc hB4w _ | exact (hB4.drew.alloc hB4w _).drew | exact (hB4.alloc hB4w _).drew.drew) (aj8 _) (by rfl) (by rfl) (by simp [Act.eval, Act.put]) (by simp [Act.eval, Act.put]) (by simp) (by simp [hsub2]) ?_; intro g' c' w5 hM5 hB5 hf5 hc5))
      all_goals
        go_wp2
        go_roundg (n - (i + 1))
        case measure => omega
        case rel => exact ⟨i + 1, hs.set 1 (.slice (some ⟨g', 0, none⟩) (ws.length + 2) c'), 0, 0, by go_num, hi, rfl, by rw [hnx]; exact hM5, hB5⟩
    · have hiz : ¬ (i : Int) < (n : Int) := by omega
      obtain rfl : i = n := by omega
      have hleft : wrap64 (wrap64 (wrap64 (((full i : Nat) : Int) + 1) - 2) - 2 * (i : Int)) = (L : Int) - 2 - 2 * (i : Int) := by have := hfu.out; unfold wrap64; omega
      go_wp2_with (go_at_call 160; refine (eX i hn _).mono ?_; rintro e w3 ⟨rfl, hw3⟩; subst hw3)
      have hvo := Au i hn i (by omega)
      have hvl := yg i hn
      have hlen0 := hvo.1
      rw [<- hL.out] at hlen0 hvl
      have hw0 : sJ L [[], (eM i i).2] := fun l hl => by
        simp only [akf, ala, or_false] at hl
        rcases hl with rfl | rfl
        · simp
        · refine ⟨by rw [hvo.2.1]; have := hL.out; obtain rfl | rfl | rfl | rfl : i = 0 \/ i = 1 \/ i = 2 \/ i = 3 := by omega
                     all_goals (rw [this]; decide), fun x hx => ?_⟩
          have := of_decide_eq_true (aku.1 hvo.2.2 x hx)
          rw [hL.out]; exact this
      clear hvar hvo
      go_loopg [4, 7, 8] 40 (fun gg s4 s7 s8 wr => ∃ (s : Nat) (os : List Int) (bys : List (List Nat)) (left : Int) (hs : List Value) (gb cb : Nat), s8 = .int .i64 s /\ s4 = .slice (some ⟨gb, 0, none⟩) s cb /\ s7 = .int .i64 left /\ 2 <= s /\ s + gg = 42 /\ qz (full i) gg s os bys left = some res /\
        os.length = L /\ sJ L bys /\ bys.length = s /\ left + 2 = zero os /\ cj w.heap.size w.heap.size L os bys (.slice (some ⟨gb, 0, none⟩) s cb) hs s wr /\ Below w.heap.size w wr)
      case atStart => exact ⟨2, _, _, _, hs, _, _, rfl, rfl, by rw [hleft], aj8 _, rfl, by unfold vc at hres; rw [<- hL.out] at hres; exact hres, hlen0, hw0, rfl, hvl, hM, hB⟩
      case round => as_aux_lemma =>
        clear hM hB hlen0 hw0 hvl hleft hres
        obtain ⟨s, os, bys, left, hs, gb, cb, rfl, rfl, rfl, h2s, hsg, hout, hlen, hwd, hbl, hlz, hM, hB⟩ := hrel
        have hzl : zero os <= os.length := alm
        cases gk with
        | zero => cases hout
        | succ F =>
          unfold qz at hout
          by_cases hpos : left > 0
          · rw [ajX hpos, ajZ] at hout
            have hpz : 0 < left := hpos
            go_wp2
            have hF := hM.fresh (.cells #[] 3) rfl
            have hg0 : gR L (os, ([] : List Nat), left) := ⟨hlen, by simp; omega, by simp, hlz⟩
            have hBF := hB.alloc hB.size (.cells #[] 3)
            obtain ⟨st0, est0⟩ : ∃ st0 : SZ, st0 = (os, [], left) := ⟨_, rfl⟩
            have hI0 : np w.heap.size w.heap.size L s bys (.slice (some ⟨gb, 0, none⟩) s cb) hs w (za (full i) s bys st0 0) (.int .i64 left) (.slice (some ⟨wr.heap.size, 0, none⟩) 0 0) (wr.alloc (.cells #[] 3)) := by
              rw [est0]
              refine ⟨_, wr.heap.size, 0, hF, ?_, rfl, fun j hj => amB (by rw [hM.rws.len]; omega), rfl, hBF⟩
              rw [amC (by rw [hM.rws.len]; omega), hM.rws.len, hbl, ale]
              rfl
            rw [<- est0] at hg0 hout
            obtain ⟨hrw, hhs⟩ : Rows w.heap.size 3 w.heap.size wr bys hs /\ True := ⟨hM.rws, trivial⟩
            clear hF hBF hM hB est0 hzl hlz
            go_loopg [7, 9, 10] (s - 1) (fun gg s7 s9 s10 wr => ∃ a : Nat, s10 = .int .i64 ((a + 1 : Nat) : Int) /\ a <= s - 1 /\ gg = s - 1 - a /\ np w.heap.size w.heap.size L s bys (.slice (some ⟨gb, 0, none⟩) s cb) hs w (za (full i) s bys st0 a) s7 s9 wr)
            case atStart => exact ⟨0, rfl, aks _, rfl, hI0⟩
            case round => as_aux_lemma =>
              clear hI0
              obtain ⟨a, rfl, h1, rfl, hI⟩ := hrel
              have hgA := zk hL.out (fu := full i) (by omega : 0 < s) hwd hg0 a
              by_cases ha : a < s - 1
              · have hz : (a : Int) + 1 < (s : Int) := by omega
                obtain ⟨stA, hstA⟩ : ∃ stA, stA = za (full i) s bys st0 a := ⟨_, rfl⟩
                have hnext : za (full i) s bys st0 (a + 1) = zf (full i) s (bys.getD (a + 1) []) (bys.getD (s - (a + 1)) []) stA := by rw [hstA]; exact Aw _ s bys st0 a
                rw [<- hstA] at hI hgA
                clear hstA
                obtain ⟨A1, c1, hA1, hA1'⟩ := pC hrw (j := a + 1) (by omega)
                obtain ⟨A2, c2, hA2, hA2'⟩ := pC hrw (j := s - (a + 1)) (by omega)
                obtain ⟨fs, hfs⟩ : ∃ fs, bys.getD (a + 1) [] = fs := ⟨_, rfl⟩
                obtain ⟨gs, hgs⟩ : ∃ gs, bys.getD (s - (a + 1)) [] = gs := ⟨_, rfl⟩
                have hfl := hwd.row (a + 1)
                have hgl := hwd.row (s - (a + 1))
                rw [hfs] at hA1 hA1' hnext hfl
                rw [hgs] at hA2 hA2' hnext hgl
                go_wp2
                go_loopg [7, 9, 11] fs.length (fun gg s7 s9 s11 wr => ∃ j : Nat, s11 = .int .i64 j /\ j <= fs.length /\ gg = fs.length - j /\ np w.heap.size w.heap.size L s bys (.slice (some ⟨gb, 0, none⟩) s cb) hs w (zf (full i) s (fs.take j) gs stA) s7 s9 wr)
                case atStart => exact ⟨0, rfl, aks _, rfl, hI⟩
                case round => as_aux_lemma =>
                  clear hI
                  obtain ⟨j, rfl, hj, rfl, hI⟩ := hrel
                  have hgF := zm hL.out (fu := full i) (by omega : 0 < s) hgl.2 (fs.take j) stA hgA (fun x hx => hfl.2 x (ak5 hx))
                  obtain ⟨hsF, g9, c9, hMF, h9, rfl, hoF, rfl, hBF⟩ := id hI
                  have hcA : wr.cell? ⟨gb, a + 1, none⟩ = some (.slice A1 fs.length c1) := by rw [hMF.by_.cellAt (a + 1) (by omega), amN (by omega), hoF _ (by omega)]; exact hA1
                  by_cases hjl : j < fs.length
                  · have hjz : (j : Int) < (fs.length : Int) := by omega
                    obtain ⟨gA, rfl⟩ := hA1' (by omega)
                    go_wp2
                    obtain ⟨f, hfj⟩ : ∃ f, f = fs[j] := ⟨_, rfl⟩
                    have hf : f < L := by rw [hfj]; exact hfl.2 _ (akn hjl)
                    have hnF : zf (full i) s (fs.take (j + 1)) gs stA = zg (full i) f s gs (zf (full i) s (fs.take j) gs stA) := by rw [akS hjl, VT, hfj]
                    have hcF : ∀ {W : World} {st : SZ} {s7 s9 : Value}, np w.heap.size w.heap.size L s bys (.slice (some ⟨gb, 0, none⟩) s cb) hs w st s7 s9 W -> W.cell? ⟨gA, j, none⟩ = some (.int .i64 (f : Nat)) := fun ⟨hs', _, _, hM', _, _, ho', _⟩ => by
                      rw [hfj]; exact pB hM'.rws (j := a + 1) (by rw [aj6]; omega) ((db (by omega)).trans hfs) ((ho' (a + 1) (by omega)).trans hA1) hjl
                    have hcA' : ∀ {W : World} {st : SZ} {s7 s9 : Value}, np w.heap.size w.heap.size L s bys (.slice (some ⟨gb, 0, none⟩) s cb) hs w st s7 s9 W -> W.cell? ⟨gb, a + 1, none⟩ = some (.slice (some ⟨gA, 0, none⟩) fs.length c1) := fun ⟨hs', _, _, hM', _, _, ho', _⟩ => by
                      rw [hM'.by_.cellAt (a + 1) (by omega), amN (by omega), ho' _ (by omega)]; exact hA1
                    have hcB' : ∀ {W : World} {st : SZ} {s7 s9 : Value}, np w.heap.size w.heap.size L s bys (.slice (some ⟨gb, 0, none⟩) s cb) hs w st s7 s9 W -> W.cell? ⟨gb, s - (a + 1), none⟩ = some (.slice A2 gs.length c2) := fun ⟨hs', _, _, hM', _, _, ho', _⟩ => by
                      rw [hM'.by_.cellAt (s - (a + 1)) (by omega), amN (by omega), ho' _ (by omega)]; exact hA2
                    clear hfj
                    generalize zf (full i) s (fs.take j) gs stA = stF at *
                    clear hMF hoF hBF hcA
                    go_loopg [7, 9, 12] gs.length (fun gg s7 s9 s12 wr => ∃ k : Nat, s12 = .int .i64 k /\ k <= gs.length /\ gg = gs.length - k /\ np w.heap.size w.heap.size L s bys (.slice (some ⟨gb, 0, none⟩) s cb) hs w (zg (full i) f s (gs.take k) stF) s7 s9 wr)
                    case atStart => exact ⟨0, rfl, aks _, rfl, hI⟩
                    case round => as_aux_lemma =>
                      clear hI h9
                      obtain ⟨k, rfl, hk, rfl, hI⟩ := hrel
                      have hgG := zn hL.out (fu := full i) (by omega : 0 < s) hf (gs.take k) stF hgF (fun x hx => hgl.2 x (ak5 hx))
                      have hcA := hcA' hI
                      have hcB := hcB' hI
                      have hcf := hcF hI
                      by_cases hkl : k < gs.length
                      · have hkz : (k : Int) < (gs.length : Int) := by omega
                        obtain ⟨gB, rfl⟩ := hA2' (by omega)
                        obtain ⟨g, hgk⟩ : ∃ g, g = gs[k] := ⟨_, rfl⟩
                        have hnG : zg (full i) f s (gs.take (k + 1)) stF = cw (full i) (f ||| g) s (cw (full i) (f &&& g) s (zg (full i) f s (gs.take k) stF)) := by rw [akS hkl, VU, hgk]
                        have hg : g < L := by rw [hgk]; exact hgl.2 _ (akn hkl)
                        have hcg : wr.cell? ⟨gB, k, none⟩ = some (.int .i64 (g : Nat)) := by
                          obtain ⟨hsG, _, _, hMG, _, _, hoG, _⟩ := hI
                          rw [hgk]
                          exact pB hMG.rws (j := s - (a + 1)) (by rw [aj6]; omega) ((db (by omega)).trans hgs) ((hoG _ (by omega)).trans hA2) hkl
                        clear hgk
                        generalize zg (full i) f s (gs.take k) stF = stG at *
                        have a1 : f &&& g < L := by rw [hL.out] at hg ⊢; exact alb _ hg
                        have a2 : f ||| g < L := by rw [hL.out] at hg hf ⊢; exact akL hf hg
                        have hand : bits BinOp.and IntKind.i64 (f : Nat) (g : Nat) = ((f &&& g : Nat) : Int) := Go.Rv.bAnd _ _ (by omega) (by omega)
                        have hor : bits BinOp.or IntKind.i64 (f : Nat) (g : Nat) = ((f ||| g : Nat) : Int) := Go.Rv.bOr _ _ (by omega) (by omega)
                        go_wp2
                        go_cut [13] from 88 to 122 (fun s13 wx => s13 = .slice (some ⟨wr.heap.size, 0, none⟩) 2 2 /\ wx = (wr.alloc (.cells #[.int .i64 ((f &&& g : Nat) : Int), .int .i64 ((f ||| g : Nat) : Int)] 3)).drew)
                        case first =>
                          go_region
                          all_goals (go_wp2_with fail; go_meet; exact ⟨rfl, rfl⟩)
                        obtain ⟨rfl, rfl⟩ := hcut
                        have hK := Sa hI hbl (f &&& g) (f ||| g)
                        have hglen := hgl.1
                        clear hI hcA hcB hcf hcg hand hor hf hg hgl hfl hcA' hcB' hcF hgF hgA hg0 hwd hrw hhs hA1 hA2 hA2' hA1' hnF hnext hout
                        generalize f &&& g = x1 at *
                        generalize f ||| g = x2 at *
                        generalize wr.heap.size = gl at *
                        go_wp2
                        go_loopg [7, 9, 14] 2 (fun gg s7 s9 s14 wr => ∃ q : Nat, s14 = .int .i64 q /\ q <= 2 /\ gg = 2 - q /\ np w.heap.size w.heap.size L s bys (.slice (some ⟨gb, 0, none⟩) s cb) hs w (qst (full i) s x1 x2 stG q) s7 s9 wr /\ qS wr s9 w.heap.size gl x1 x2)
                        case atStart => exact ⟨0, rfl, aks _, rfl, hK.1, hK.2⟩
                        case round => as_aux_lemma =>
                          clear hK
                          obtain ⟨q, rfl, hq, rfl, hI, hT⟩ := hrel
                          by_cases hql : q < 2
                          · have hqz : (q : Int) < 2 := by omega
                            obtain ⟨x, hx⟩ : ∃ x, x = cond (Nat.beq q 0) x1 x2 := ⟨_, rfl⟩
                            have hxL : x < L := by rw [hx]; cases Nat.beq q 0 <;> assumption
                            have hcx : ∀ {W : World} {v : Value}, qS W v w.heap.size gl x1 x2 -> W.cell? ⟨gl, q, none⟩ = some (.int .i64 (x : Int)) := fun h => by
                              rw [hx]
                              obtain rfl | rfl : q = 0 \/ q = 1 := by omega
                              · exact h.1
                              · exact h.2.1
                            have hnQ : qst (full i) s x1 x2 stG (q + 1) = cw (full i) x s (qst (full i) s x1 x2 stG q) := by rw [hx]; rfl
                            have hgQ := Nn (fu := full i) (s := s) hgG a1 a2 (by omega) q
                            generalize qst (full i) s x1 x2 stG q = stQ at *
                            clear hx hgG hnG
                            have hcq := hcx hT
                            obtain ⟨hcv, hfv⟩ := hI.size hgQ.len hxL
                            obtain ⟨v, hv⟩ : ∃ v, v = stQ.1.getD x 0 := ⟨_, rfl⟩
                            rw [<- hv] at hcv
                            replace hv : Hid (v = stQ.1.getD x 0) := hv
                            have hxz : (x : Int) < (L : Int) := by omega
                            by_cases c1 : v = 0
                            · subst c1
                              by_cases c2 : 0 < x
                              · have c2z : (0 : Int) < (x : Int) := by omega
                                by_cases c3 : x < full i
                                · have c3z : (x : Int) < ((full i : Nat) : Int) := by omega
                                  have hyes := ye (s := s) hv.out.symm c2 c3
                                  rw [hyes] at hnQ
                                  clear hyes
                                  go_wp2
                                  go_quiet ((go_at_call 160; exact Calls.quiet_of_same (eX i hn _)))
                                  have hI2 := hI.drewN nq
                                  have hT2 := hT.drewN nq
                                  obtain ⟨hcv2, hfv2⟩ := hI2.size hgQ.len hxL
                                  rw [<- hv.out] at hcv2
                                  have hcq2 := hcx hT2
                                  clear hI hT hcq hcv hfv
                                  generalize wr.drewN nq = W at *
                                  obtain ⟨hsQ, gQ, cQ, hMQ, h9, rfl, hoQ, rfl, hBQ⟩ := hI2
                                  have hM2 := hMQ.put x (s : Int)
                                  have hB2 := hBQ.setCell (p := ⟨w.heap.size, x, none⟩) (aj8 _) (.int .i64 (s : Int))
                                  have hBs := hB2.size
                                  have hcq3 : (W.setCell ⟨w.heap.size, x, none⟩ (.int .i64 (s : Int))).cell? ⟨gl, q, none⟩ = some (.int .i64 (x : Int)) := by
                                    rw [World.cell?_setCell_other _ _ _ _ (fun e => hT2.2.2.2.1 (congrArg Addr.block e).symm)]; exact hcq2
                                  have hrl : (bys ++ [stQ.2.1])[s]? = some stQ.2.1 := by rw [amC (by omega), hbl, ale]; rfl
                                  have hfl2 : stQ.2.1.length <= 100000 := by have := hgQ.row; omega
                                  have hzz : zero stQ.1 <= stQ.1.length := alm
                                  have hl1 : -2 <= stQ.2.2 := by have := hgQ.left; omega
                                  have hl2 : stQ.2.2 <= 256 := by have := hgQ.left; have := hgQ.len; omega
                                  have hll : wrap64 (stQ.2.2 - 1) = stQ.2.2 - 1 := by unfold wrap64; omega
                                  go_wp2_with (at_builtin; refine Vt (w0 := w) (x := x) (gn := W.heap.size) (hM2.alloc (.cells #[.int .i64 (x : Int)] 3)) h9 hrl (aj8 _) hfl2 (hB2.alloc hBs _) (.tmp 158) (.tmp 163) rfl rfl rfl rfl (MC (by simp)) ?_; intro g' c' w5 hM5 hB5 hk5 hg5)
                                  have hT5 := O6 (n := stQ.2.1.length + 1) (c' := c') hT2 (fun k hk hne => (alF _ _ _ (by simpa using hk)).trans (alg _ _ _ _ hne)) (by simp) hk5 hg5
                                  have hsl : s < hsQ.length := (amH.1 h9).1
                                  have hrs : (bys ++ [stQ.2.1]).set s (stQ.2.1 ++ [x]) = bys ++ [stQ.2.1 ++ [x]] := by rw [List.set_append_right _ _ (by omega), hbl, ale]; rfl
                                  rw [hrs] at hM5
                                  go_wp2
                                  go_roundg (2 - (q + 1))
                                  case measure => omega
                                  case rel => exact ⟨q + 1, by go_num, hql, rfl, by rw [hnQ]; exact ⟨hsQ.set s (.slice (some ⟨g', 0, none⟩) (stQ.2.1.length + 1) c'), g', c', hM5, amL hsl, by simp, fun j hj => (amK (by omega)).trans (hoQ j hj), rfl, hB5⟩, hT5⟩
                                · have c3z : ¬ (x : Int) < ((full i : Nat) : Int) := by omega
                                  have c3d : decide ((x : Int) < ((full i : Nat) : Int)) = false := aj2 c3z
                                  rw [pJ (fun h => c3 h.2.2)] at hnQ
                                  go_wp2
                                  go_quiet ((go_at_call 160; exact Calls.quiet_of_same (eX i hn _)))
                                  go_wp2
                                  go_roundg (2 - (q + 1))
                                  case measure => omega
                                  case rel => exact ⟨q + 1, by go_num, hql, rfl, by rw [hnQ]; exact hI.drewN _, hT.drewN _⟩
                              · have c2z : ¬ (0 : Int) < (x : Int) := by omega
                                have c2d : decide ((0 : Int) < (x : Int)) = false := aj2 c2z
                                rw [pJ (fun h => c2 h.2.1)] at hnQ
                                go_wp2
                                go_quiet (fail)
                                go_wp2
                                go_roundg (2 - (q + 1))
                                case measure => omega
                                case rel => exact ⟨q + 1, by go_num, hql, rfl, by rw [hnQ]; exact hI.drewN _, hT.drewN _⟩
                            · have c1d : decide (v = 0) = false := aj2 c1
                              have c1b : (v == 0) = false := by rw [beq_eq_false_iff_ne]; exact c1
                              rw [pJ (fun h => c1 (hv.out.trans h.1))] at hnQ
                              go_wp2
                              go_quiet (fail)
                              go_wp2
                              go_roundg (2 - (q + 1))
                              case measure => omega
                              case rel => exact ⟨q + 1, by go_num, hql, rfl, by rw [hnQ]; exact hI.drewN _, hT.drewN _⟩
                          · have hqz : ¬ (q : Int) < 2 := by omega
                            obtain rfl : q = 2 := by omega
                            go_wp2
                            go_roundg (gs.length - (k + 1))
                            case measure => omega
                            case rel => exact ⟨k + 1, by go_num, hkl, rfl, by rw [hnG]; exact hI⟩
                      · have hkz : ¬ (k : Int) < (gs.length : Int) := by omega
                        obtain rfl : k = gs.length := by omega
                        rw [alr, <- hnF] at hI
                        go_wp2
                        go_roundg (fs.length - (j + 1))
                        case measure => omega
                        case rel => exact ⟨j + 1, by go_num, hjl, rfl, hI⟩
                  · have hjz : ¬ (j : Int) < (fs.length : Int) := by omega
                    obtain rfl : j = fs.length := by omega
                    rw [alr] at hI
                    go_wp2
                    go_roundg (s - 1 - (a + 1))
                    case measure => omega
                    case rel => exact ⟨a + 1, by go_num, ha, rfl, by rw [hnext]; exact hI⟩
              · have hz : ¬ (a : Int) + 1 < (s : Int) := by omega
                obtain rfl : a = s - 1 := by omega
                generalize za (full i) s bys st0 (s - 1) = stE at *
                obtain ⟨hsE, gE, cE, hME, h9, rfl, hoE, rfl, hBE⟩ := hI
                have hBE2 := hBE.size
                have hwE : sJ L (bys ++ [stE.2.1]) := fun l hl => by
                  rcases akC.1 hl with h3 | h3
                  · exact hwd l h3
                  · simp only [akf, ala, or_false] at h3
                    subst h3
                    exact ⟨by have := hgA.row; omega, hgA.words⟩
                go_wp2_with (at_builtin; refine Pd (w0 := w) (hME.alloc _) (by rw [aj6, hbl]; rfl) h9 (by rfl) (by omega) (hBE.alloc hBE2 _) (.tmp 167) (.tmp 169) rfl rfl rfl rfl (by simp) ?_; intro g3 c3 w3 hM3 hB3)
                go_roundg F
                case measure => omega
                case rel => exact ⟨s + 1, stE.1, bys ++ [stE.2.1], stE.2.2, hsE, g3, c3, by go_num, rfl, rfl, by omega, by omega, hout, hgA.len, hwE, by rw [aj6, hbl]; rfl, hgA.left, hM3, hB3⟩
          · rw [aj2 hpos, ajY, aj1] at hout
            subst hout
            have hpz : ¬ 0 < left := hpos
            go_wp2
            go_ret
            have h5 := hM.out
            rw [hlen] at h5
            exact ⟨_, rfl, h5, hB⟩
end Go.Proofs.YtemihnclhcobnaaGreatDoor
