/- impl.sizes and spec.l22Sizes answer as their texts do. -/
import Derived.Test.YtmhlcbibbhelkaaDoorE0
import Derived.Test.YtmhlcbibbhelkaaDoorSizC
import Derived.Test.YtmhlcbibbhelkaaDoorSizE
import Derived.Test.YtmhlcbibbhelkaaDoorSizT
namespace Go.Proofs.YtmhlcbibbhelkaaDoor
open Go.Rv Go.RowKit
set_option linter.unusedVariables false
set_option linter.unusedSimpArgs false
theorem index_loop {β : Type} (N : Nat) (l : List Int) (x : Int) (hl : l.length ≤ 1000) (k0 : Int → Option β) (k1 : Option β) : ∀ (d F i : Nat), i + d = l.length → d < F →
    (∃ j : Nat, zj9 N F l x (l.length : Int) (i : Int) k0 k1 = k0 (j : Int) ∧ (l.drop i).contains x = true) ∨ (zj9 N F l x (l.length : Int) (i : Int) k0 k1 = k1 ∧ (l.drop i).contains x = false)
  | 0, 0, _, _, h => absurd h (Nat.not_lt_zero _)
  | 0, F + 1, i, hi, _ => by
    right
    obtain rfl : i = l.length := by omega
    refine ⟨?_, by simp⟩
    show zj8 N l x (l.length : Int) (l.length : Int) _ k0 k1 = k1
    unfold zj8
    rw [decide_eq_false (by omega)]
    rfl
  | d + 1, 0, _, _, h => absurd h (Nat.not_lt_zero _)
  | d + 1, F + 1, i, hi, hF => by
    have hlt : i < l.length := by omega
    have ih := index_loop N l x hl k0 k1 d F (i + 1) (by omega) (by omega)
    have hd : l.drop i = l[i] :: l.drop (i + 1) := List.drop_eq_getElem_cons hlt
    have hrd : rd 0 l (i : Int) = l[i] := by simp [rd, List.getD, hlt]
    have step : zj9 N (F + 1) l x (l.length : Int) (i : Int) k0 k1 = cond (x == l[i]) (k0 (i : Int)) (zj9 N F l x (l.length : Int) ((i + 1 : Nat) : Int) k0 k1) := by
      show zj8 N l x (l.length : Int) (i : Int) _ k0 k1 = _
      unfold zj8
      have hw : w64 ((i : Int) + 1) = ((i + 1 : Nat) : Int) := by
        show IntKind.wrap .i64 _ = _
        rw [IntKind.wrap_i64]; omega
      rw [decide_eq_true (by omega : (i : Int) < (l.length : Int)), decide_eq_true (by omega : (0 : Int) ≤ (i : Int)), hrd, hw]
      rfl
    rw [step, hd, List.contains_cons]
    cases hx : x == l[i] with
    | true => exact .inl ⟨i, rfl, rfl⟩
    | false =>
      rw [cond_false, Bool.false_or]
      exact ih
theorem contains_text {β : Type} (l : List Int) (x : Int) (hl : l.length ≤ 1000) (k : Bool → Option β) : zj11 2000 l x k = k (l.contains x) := by
  unfold zj11 zj10
  rcases index_loop 2000 l x hl (fun e => k (decide (e ≥ 0))) (k (decide ((-1 : Int) ≥ 0))) l.length 2000 0 (by omega) (by omega) with ⟨j, h1, h2⟩ | ⟨h1, h2⟩
  · rw [List.drop_zero] at h2
    rw [h2]
    exact h1.trans (by rw [decide_eq_true (by omega)])
  · rw [List.drop_zero] at h2
    rw [h2]
    exact h1.trans (by rw [decide_eq_false (by omega)])
theorem var_hr (n : Nat) (hn : n ≤ 3) (i : Nat) (hi : i < n) : S31 (β := TV) 100 [.v (.one (.int .i64 n)), .v (.one (.int .i64 i))] some = some (.v (.agg [.int .i64 n, .int .i64 (vw n i : Nat)])) := by
  obtain ⟨rfl, rfl⟩ | ⟨rfl, rfl⟩ | ⟨rfl, rfl⟩ | ⟨rfl, rfl⟩ | ⟨rfl, rfl⟩ | ⟨rfl, rfl⟩ : (n = 1 ∧ i = 0) ∨ (n = 2 ∧ i = 0) ∨ (n = 2 ∧ i = 1) ∨ (n = 3 ∧ i = 0) ∨ (n = 3 ∧ i = 1) ∨ (n = 3 ∧ i = 2) := by omega
  all_goals kernel_rfl
theorem svar_hr (n : Nat) (hn : n ≤ 3) (i : Nat) (hi : i < n) : S26 (β := TV) 100 [.v (.one (.int .i64 n)), .v (.one (.int .i64 i))] some = some (.v (.one (.int .i64 (vw n i : Nat)))) := by
  obtain ⟨rfl, rfl⟩ | ⟨rfl, rfl⟩ | ⟨rfl, rfl⟩ | ⟨rfl, rfl⟩ | ⟨rfl, rfl⟩ | ⟨rfl, rfl⟩ : (n = 1 ∧ i = 0) ∨ (n = 2 ∧ i = 0) ∨ (n = 2 ∧ i = 1) ∨ (n = 3 ∧ i = 0) ∨ (n = 3 ∧ i = 1) ∨ (n = 3 ∧ i = 2) := by omega
  all_goals kernel_rfl
theorem con_hr (l : List Int) (hl : l.length ≤ 1000) : S35 (β := TV) 2000 [.v (.one (.sl 3 (.ints .i64 l))), .v (.one (.int .i64 (-1)))] some = some (.v (.one (.bool (l.contains (-1))))) := by
  show zj11 2000 l (-1) (fun z => some (TV.v (.one (.bool z)))) = some (TV.v (.one (.bool (l.contains (-1)))))
  rw [contains_text l (-1) hl]
section
variable {X : Cx inv} (hX : SpecCx X)
include hX
theorem hvar_ok (n : Nat) (hn : n ≤ 3) (i : Nat) (hi : i < n) (W : World) (hB : RowKit.Below X.w0.heap.size X.w0 W) :
    Calls Tryd.prog 31 #[.int .i64 n, .int .i64 i] W fun e w' => e = .returned (.agg #[.int .i64 n, .int .i64 (vw n i : Nat)]) ∧ RowKit.Below W.heap.size W w' :=
  call_at (o31 (β := TV) 100) (var_hr n hn i hi) (fun X' lc v h => by
    obtain ⟨cs, rfl, h⟩ := h
    generalize hcs : cs.toList = l at h
    rcases h with _ | ⟨h1, h⟩
    rcases h with _ | ⟨h2, h⟩
    rcases h with _ | _
    refine congrArg Value.agg (Array.ext' ?_)
    rw [hcs]
    exact congr (congrArg List.cons h1) (congrArg (fun x => [x]) h2)) hX hB (vs := [.int .i64 n, .int .i64 i]) (.cons rfl (.cons rfl .nil))
theorem hsvar_ok (n : Nat) (hn : n ≤ 3) (i : Nat) (hi : i < n) (W : World) (hB : RowKit.Below X.w0.heap.size X.w0 W) :
    Calls Tryd.prog 26 #[.int .i64 n, .int .i64 i] W fun e w' => e = .returned (.int .i64 (vw n i : Nat)) ∧ RowKit.Below W.heap.size W w' :=
  call_at (o26 (β := TV) 100) (svar_hr n hn i hi) (fun X' lc v h => h) hX hB (vs := [.int .i64 n, .int .i64 i]) (.cons rfl (.cons rfl .nil))
theorem hcon_ok (g c : Nat) (l : List Int) (W : World) (B : Nat) (hB : RowKit.Below X.w0.heap.size X.w0 W) (hl : l.length ≤ 1000) (ho : W.ownsRow B 3 1 (.slice (some ⟨g, 0, none⟩) l.length c) l.length (vz l)) :
    Calls Tryd.prog 35 #[.slice (some ⟨g, 0, none⟩) l.length c, .int .i64 (-1)] W fun e w' => e = .returned (.bool (l.contains (-1))) ∧ RowKit.Below W.heap.size W w' :=
  call_at (o35 (β := TV) 2000) (con_hr l hl) (fun X' lc v h => h) hX hB (vs := [.slice (some ⟨g, 0, none⟩) l.length c, .int .i64 (-1)]) (.cons (by
    have hnc : l.length ≤ c := by
      rcases ho.2 with ⟨h, _⟩ | ⟨g', cap, cur, h, _, _, h4, _⟩
      · cases h
      · cases h; exact h4
    exact ⟨some ⟨g, 0, none⟩, l.length, c, rfl, rfl, hnc, vz l, rfl, fun m u hm => ⟨⟨g, 0, none⟩, rfl, (ho.lt g rfl).2, ho.cells (g := g) rfl m u hm⟩⟩) (.cons rfl .nil))
end
def S23 {β : Type} (N : Nat) : Rv.Spec β := szSpec 3 N
theorem o23 {β : Type} (N : Nat) : SpecOK (β := β) inv Tryd.prog 23 (S23 N) :=
  sz_ok Tryd.func23 (by kernel_rfl) (fun X n hX hn => by
    exact sizes_told n hn X.w0 (fun i hi W hB => hvar_ok hX n hn i hi W hB) (fun g c l W B hB hl ho => hcon_ok hX g c l W B hB hl ho) (szT n) (szT_I hn)) N
def S20 {β : Type} (N : Nat) : Rv.Spec β := szSpec 3 N
theorem o20 {β : Type} (N : Nat) : SpecOK (β := β) inv Tryd.prog 20 (S20 N) :=
  sz_ok Tryd.func20 (by kernel_rfl) (fun X n hX hn => by
    exact l22_told n hn X.w0 (fun i hi W hB => hsvar_ok hX n hn i hi W hB) (szT n) (szT_Z hn)) N
end Go.Proofs.YtmhlcbibbhelkaaDoor
