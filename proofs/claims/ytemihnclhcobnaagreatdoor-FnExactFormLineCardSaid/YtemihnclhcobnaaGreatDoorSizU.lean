/- impl.sizes and spec.l22Sizes bK as their texts do. -/
import Derived.Test.YtemihnclhcobnaaGreatDoorE0
import Derived.Test.YtemihnclhcobnaaGreatDoorSizC
import Derived.Test.YtemihnclhcobnaaGreatDoorSizE
import Derived.Test.YtemihnclhcobnaaGreatDoorSizT
namespace Go.Proofs.YtemihnclhcobnaaGreatDoor
open Go.Rv Go.RowKit
set_option linter.unusedVariables false
set_option linter.unusedSimpArgs false
theorem qW {β : Type} (N : Nat) (l : List Int) (x : Int) (hl : l.length ≤ 1000) (k0 : Int → Option β) (k1 : Option β) : ∀ (d F i : Nat), i + d = l.length → d < F →
  (∃ j : Nat, sU N F l x (l.length : Int) (i : Int) k0 k1 = k0 (j : Int) ∧ (l.drop i).contains x = true) ∨ (sU N F l x (l.length : Int) (i : Int) k0 k1 = k1 ∧ (l.drop i).contains x = false)
 | 0, 0, _, _, h => absurd h (Zz _)
 | 0, F + 1, i, hi, _ => by
  right
  obtain rfl : i = l.length := by omega
  refine ⟨?_, by simp⟩
  show LN N l x (l.length : Int) (l.length : Int) _ k0 k1 = k1
  unfold LN Qa
  rw [YD (by omega)]
  rfl
 | d + 1, 0, _, _, h => absurd h (Zz _)
 | d + 1, F + 1, i, hi, hF => by
  have hlt : i < l.length := by omega
  have ih := qW N l x hl k0 k1 d F (i + 1) (by omega) (by omega)
  have hd : l.drop i = l[i] :: l.drop (i + 1) := ZX hlt
  have hrd : rd 0 l (i : Int) = l[i] := by simp [rd, List.getD, hlt]
  have step : sU N (F + 1) l x (l.length : Int) (i : Int) k0 k1 = cond (x == l[i]) (k0 (i : Int)) (sU N F l x (l.length : Int) ((i + 1 : Nat) : Int) k0 k1) := by
   show LN N l x (l.length : Int) (i : Int) _ k0 k1 = _
   unfold LN Qa
   have hw : w64 ((i : Int) + 1) = ((i + 1 : Nat) : Int) := by
    show IntKind.wrap .i64 _ = _
    rw [aaf]; omega
   rw [Yx (by omega : (i : Int) < (l.length : Int)), Yx (by omega : (0 : Int) ≤ (i : Int)), hrd, hw]
   rfl
  rw [step, hd, List.contains_cons]
  cases hx : x == l[i] with
  | true => exact .inl ⟨i, rfl, rfl⟩
  | false =>
   rw [YB, Z3]
   exact ih
theorem tk {β : Type} (l : List Int) (x : Int) (hl : l.length ≤ 1000) (k : Bool → Option β) : Qv 2000 l x k = k (l.contains x) := by
 unfold Qv T5 LO T4
 rcases qW 2000 l x hl (fun e => k (decide (e ≥ 0))) (k (decide ((-1 : Int) ≥ 0))) l.length 2000 0 (by omega) (by omega) with ⟨j, h1, h2⟩ | ⟨h1, h2⟩
 ·rw [Z4] at h2
  rw [h2]
  exact h1.trans (by rw [Yx (by omega)])
 ·rw [Z4] at h2
  rw [h2]
  exact h1.trans (by rw [YD (by omega)])
theorem Tu (n : Nat) (hn : n ≤ 3) (i : Nat) (hi : i < n) : RE (β := TV) 100 [.v (.one (.int .i64 n)), .v (.one (.int .i64 i))] some = some (.v (.agg [.int .i64 n, .int .i64 (vw n i : Nat)])) := by
 obtain ⟨rfl, rfl⟩ | ⟨rfl, rfl⟩ | ⟨rfl, rfl⟩ | ⟨rfl, rfl⟩ | ⟨rfl, rfl⟩ | ⟨rfl, rfl⟩ : (n = 1 ∧ i = 0) ∨ (n = 2 ∧ i = 0) ∨ (n = 2 ∧ i = 1) ∨ (n = 3 ∧ i = 0) ∨ (n = 3 ∧ i = 1) ∨ (n = 3 ∧ i = 2) := by omega
 all_goals kernel_rfl
theorem O4 (n : Nat) (hn : n ≤ 3) (i : Nat) (hi : i < n) : RD (β := TV) 100 [.v (.one (.int .i64 n)), .v (.one (.int .i64 i))] some = some (.v (.one (.int .i64 (vw n i : Nat)))) := by
 obtain ⟨rfl, rfl⟩ | ⟨rfl, rfl⟩ | ⟨rfl, rfl⟩ | ⟨rfl, rfl⟩ | ⟨rfl, rfl⟩ | ⟨rfl, rfl⟩ : (n = 1 ∧ i = 0) ∨ (n = 2 ∧ i = 0) ∨ (n = 2 ∧ i = 1) ∨ (n = 3 ∧ i = 0) ∨ (n = 3 ∧ i = 1) ∨ (n = 3 ∧ i = 2) := by omega
 all_goals kernel_rfl
theorem Sa (l : List Int) (hl : l.length ≤ 1000) : RF (β := TV) 2000 [.v (.one (.sl 3 (.ints .i64 l))), .v (.one (.int .i64 (-1)))] some = some (.v (.one (.bool (l.contains (-1))))) := by
 show Qv 2000 l (-1) (fun z => some (TV.v (.one (.bool z)))) = some (TV.v (.one (.bool (l.contains (-1)))))
 rw [tk l (-1) hl]
section
variable {X : Cx inv} (hX : cr X)
include hX
theorem Nb (n : Nat) (hn : n ≤ 3) (i : Nat) (hi : i < n) (W : World) (hB : RowKit.Below X.w0.heap.size X.w0 W) :
  Calls Tryz.prog 212 #[.int .i64 n, .int .i64 i] W fun e w' => e = .returned (.agg #[.int .i64 n, .int .i64 (vw n i : Nat)]) ∧ RowKit.Below W.heap.size W w' :=
 wb (Wp (β := TV) 100) (Tu n hn i hi) (fun X' lc v h => by
  obtain ⟨cs, rfl, h⟩ := h
  generalize hcs : cs.toList = l at h
  rcases h with _ | ⟨h1, h⟩
  rcases h with _ | ⟨h2, h⟩
  rcases h with _ | _
  refine congrArg Value.agg (Array.ext' ?_)
  rw [hcs]
  exact congr (congrArg List.cons h1) (congrArg (fun x => [x]) h2)) hX hB (vs := [.int .i64 n, .int .i64 i]) (.cons rfl (.cons rfl .nil))
theorem Jd (n : Nat) (hn : n ≤ 3) (i : Nat) (hi : i < n) (W : World) (hB : RowKit.Below X.w0.heap.size X.w0 W) :
  Calls Tryz.prog 207 #[.int .i64 n, .int .i64 i] W fun e w' => e = .returned (.int .i64 (vw n i : Nat)) ∧ RowKit.Below W.heap.size W w' :=
 wb (Wo (β := TV) 100) (O4 n hn i hi) (fun X' lc v h => h) hX hB (vs := [.int .i64 n, .int .i64 i]) (.cons rfl (.cons rfl .nil))
theorem Na (g c : Nat) (l : List Int) (W : World) (B : Nat) (hB : RowKit.Below X.w0.heap.size X.w0 W) (hl : l.length ≤ 1000) (ho : W.ownsRow B 3 1 (.slice (some ⟨g, 0, none⟩) l.length c) l.length (vz l)) :
  Calls Tryz.prog 214 #[.slice (some ⟨g, 0, none⟩) l.length c, .int .i64 (-1)] W fun e w' => e = .returned (.bool (l.contains (-1))) ∧ RowKit.Below W.heap.size W w' :=
 wb (X3 (β := TV) 2000) (Sa l hl) (fun X' lc v h => h) hX hB (vs := [.slice (some ⟨g, 0, none⟩) l.length c, .int .i64 (-1)]) (.cons (by
  have hnc : l.length ≤ c := by
   rcases ho.2 with ⟨h, _⟩ | ⟨g', cap, cur, h, _, _, h4, _⟩
   ·cases h
   ·cases h; exact h4
  exact ⟨some ⟨g, 0, none⟩, l.length, c, rfl, rfl, hnc, vz l, rfl, fun m u hm => ⟨⟨g, 0, none⟩, rfl, (ho.lt g rfl).2, ho.cells (g := g) rfl m u hm⟩⟩) (.cons rfl .nil))
end
def U3 {β : Type} (N : Nat) : Rv.Spec β := xm 3 N
theorem XP {β : Type} (N : Nat) : ap (β := β) inv Tryz.prog 151 (U3 N) :=
 Rf Tryz.func151 (by kernel_rfl) (fun X n hX hn => by
  exact BP n hn X.w0 (fun i hi W hB => Nb hX n hn i hi W hB) (fun g c l W B hB hl ho => Na hX g c l W B hB hl ho) (szT n) (Re hn)) N
def U0 {β : Type} (N : Nat) : Rv.Spec β := xm 3 N
theorem XK {β : Type} (N : Nat) : ap (β := β) inv Tryz.prog 145 (U0 N) :=
 Rf Tryz.func145 (by kernel_rfl) (fun X n hX hn => by
  exact Jm n hn X.w0 (fun i hi W hB => Jd hX n hn i hi W hB) (szT n) (WN hn)) N
end Go.Proofs.YtemihnclhcobnaaGreatDoor
