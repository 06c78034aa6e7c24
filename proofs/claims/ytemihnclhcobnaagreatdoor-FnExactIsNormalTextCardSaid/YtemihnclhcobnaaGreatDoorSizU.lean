/- impl.sizes and spec.l22Sizes bz as their texts do. -/
import Derived.Test.YtemihnclhcobnaaGreatDoorE0
import Derived.Test.YtemihnclhcobnaaGreatDoorSizC
import Derived.Test.YtemihnclhcobnaaGreatDoorSizE
import Derived.Test.YtemihnclhcobnaaGreatDoorSizT
namespace Go.Proofs.YtemihnclhcobnaaGreatDoor
open Go.Rv Go.RowKit
set_option linter.unusedVariables false
set_option linter.unusedSimpArgs false
theorem tG {β : Type} (N : Nat) (l : List Int) (x : Int) (hl : l.length <= 1000) (k0 : Int -> Option β) (k1 : Option β) : ∀ (d F i : Nat), i + d = l.length -> d < F ->
  (∃ j : Nat, vN N F l x (l.length : Int) (i : Int) k0 k1 = k0 (j : Int) /\ (l.drop i).contains x = true) \/ (vN N F l x (l.length : Int) (i : Int) k0 k1 = k1 /\ (l.drop i).contains x = false)
 | 0, 0, _, _, h => absurd h (akW _)
 | 0, F + 1, i, hi, _ => by
  right
  obtain rfl : i = l.length := by omega
  refine ⟨?_, by simp⟩
  show QF N l x (l.length : Int) (l.length : Int) _ k0 k1 = k1
  unfold QF VC
  rw [aj2 (by omega)]
  rfl
 | d + 1, 0, _, _, h => absurd h (akW _)
 | d + 1, F + 1, i, hi, hF => by
  have hlt : i < l.length := by omega
  have ih := tG N l x hl k0 k1 d F (i + 1) (by omega) (by omega)
  have hd : l.drop i = l[i] :: l.drop (i + 1) := alJ hlt
  have hrd : rd 0 l (i : Int) = l[i] := by simp [rd, List.getD, hlt]
  have step : vN N (F + 1) l x (l.length : Int) (i : Int) k0 k1 = cond (x == l[i]) (k0 (i : Int)) (vN N F l x (l.length : Int) ((i + 1 : Nat) : Int) k0 k1) := by
   show QF N l x (l.length : Int) (i : Int) _ k0 k1 = _
   unfold QF VC
   have hw : w64 ((i : Int) + 1) = ((i + 1 : Nat) : Int) := by
    show IntKind.wrap .i64 _ = _
    rw [alG]; omega
   rw [ajX (by omega : (i : Int) < (l.length : Int)), ajX (by omega : (0 : Int) <= (i : Int)), hrd, hw]
   rfl
  rw [step, hd, List.contains_cons]
  cases hx : x == l[i] with
  | true => exact .inl ⟨i, rfl, rfl⟩
  | false =>
   rw [ajY, ak7]
   exact ih
theorem we {β : Type} (l : List Int) (x : Int) (hl : l.length <= 1000) (k : Bool -> Option β) : VV 2000 l x k = k (l.contains x) := by
 unfold VV aaW QG aaV
 rcases tG 2000 l x hl (fun e => k (decide (e >= 0))) (k (decide ((-1 : Int) >= 0))) l.length 2000 0 (by omega) (by omega) with ⟨j, h1, h2⟩ | ⟨h1, h2⟩
 ·rw [ali] at h2
  rw [h2]
  exact h1.trans (by rw [ajX (by omega)])
 ·rw [ali] at h2
  rw [h2]
  exact h1.trans (by rw [aj2 (by omega)])
theorem Z9 (n : Nat) (hn : n <= 3) (i : Nat) (hi : i < n) : XE (β := TV) 100 [.v (.one (.int .i64 n)), .v (.one (.int .i64 i))] some = some (.v (.agg [.int .i64 n, .int .i64 (vw n i : Nat)])) := by
 obtain ⟨rfl, rfl⟩ | ⟨rfl, rfl⟩ | ⟨rfl, rfl⟩ | ⟨rfl, rfl⟩ | ⟨rfl, rfl⟩ | ⟨rfl, rfl⟩ : (n = 1 /\ i = 0) \/ (n = 2 /\ i = 0) \/ (n = 2 /\ i = 1) \/ (n = 3 /\ i = 0) \/ (n = 3 /\ i = 1) \/ (n = 3 /\ i = 2) := by omega
 all_goals kernel_rfl
theorem T7 (n : Nat) (hn : n <= 3) (i : Nat) (hi : i < n) : XD (β := TV) 100 [.v (.one (.int .i64 n)), .v (.one (.int .i64 i))] some = some (.v (.one (.int .i64 (vw n i : Nat)))) := by
 obtain ⟨rfl, rfl⟩ | ⟨rfl, rfl⟩ | ⟨rfl, rfl⟩ | ⟨rfl, rfl⟩ | ⟨rfl, rfl⟩ | ⟨rfl, rfl⟩ : (n = 1 /\ i = 0) \/ (n = 2 /\ i = 0) \/ (n = 2 /\ i = 1) \/ (n = 3 /\ i = 0) \/ (n = 3 /\ i = 1) \/ (n = 3 /\ i = 2) := by omega
 all_goals kernel_rfl
theorem Yv (l : List Int) (hl : l.length <= 1000) : XF (β := TV) 2000 [.v (.one (.sl 3 (.ints .i64 l))), .v (.one (.int .i64 (-1)))] some = some (.v (.one (.bool (l.contains (-1))))) := by
 show VV 2000 l (-1) (fun z => some (TV.v (.one (.bool z)))) = some (TV.v (.one (.bool (l.contains (-1)))))
 rw [we l (-1) hl]
section
variable {X : Cx inv} (hX : cD X)
include hX
theorem R6 (n : Nat) (hn : n <= 3) (i : Nat) (hi : i < n) (W : World) (hB : RowKit.Below X.w0.heap.size X.w0 W) :
  Calls Tryz.prog 212 #[.int .i64 n, .int .i64 i] W fun e w' => e = .returned (.agg #[.int .i64 n, .int .i64 (vw n i : Nat)]) /\ RowKit.Below W.heap.size W w' :=
 yX (Zt (β := TV) 100) (Z9 n hn i hi) (fun X' lc v h => by
  obtain ⟨cs, rfl, h⟩ := h
  generalize hcs : cs.toList = l at h
  rcases h with _ | ⟨h1, h⟩
  rcases h with _ | ⟨h2, h⟩
  rcases h with _ | _
  refine congrArg Value.agg (Array.ext' ?_)
  rw [hcs]
  exact congr (congrArg List.cons h1) (congrArg (fun x => [x]) h2)) hX hB (vs := [.int .i64 n, .int .i64 i]) (.cons rfl (.cons rfl .nil))
theorem Nq (n : Nat) (hn : n <= 3) (i : Nat) (hi : i < n) (W : World) (hB : RowKit.Below X.w0.heap.size X.w0 W) :
  Calls Tryz.prog 207 #[.int .i64 n, .int .i64 i] W fun e w' => e = .returned (.int .i64 (vw n i : Nat)) /\ RowKit.Below W.heap.size W w' :=
 yX (adN (β := TV) 100) (T7 n hn i hi) (fun X' lc v h => h) hX hB (vs := [.int .i64 n, .int .i64 i]) (.cons rfl (.cons rfl .nil))
theorem R5 (g c : Nat) (l : List Int) (W : World) (B : Nat) (hB : RowKit.Below X.w0.heap.size X.w0 W) (hl : l.length <= 1000) (ho : W.ownsRow B 3 1 (.slice (some ⟨g, 0, none⟩) l.length c) l.length (vz l)) :
  Calls Tryz.prog 214 #[.slice (some ⟨g, 0, none⟩) l.length c, .int .i64 (-1)] W fun e w' => e = .returned (.bool (l.contains (-1))) /\ RowKit.Below W.heap.size W w' :=
 yX (ago (β := TV) 2000) (Yv l hl) (fun X' lc v h => h) hX hB (vs := [.slice (some ⟨g, 0, none⟩) l.length c, .int .i64 (-1)]) (.cons (by
  have hnc : l.length <= c := by
   rcases ho.2 with ⟨h, _⟩ | ⟨g', cap, cur, h, _, _, h4, _⟩
   ·cases h
   ·cases h; exact h4
  exact ⟨some ⟨g, 0, none⟩, l.length, c, rfl, rfl, hnc, vz l, rfl, fun m u hm => ⟨⟨g, 0, none⟩, rfl, (ho.lt g rfl).2, ho.cells (g := g) rfl m u hm⟩⟩) (.cons rfl .nil))
end
def abQ {β : Type} (N : Nat) : Rv.Spec β := As 3 N
theorem af7 {β : Type} (N : Nat) : ao (β := β) inv Tryz.prog 151 (abQ N) :=
 WY Tryz.func151 (by kernel_rfl) (fun X n hX hn => by
  exact EL n hn X.w0 (fun i hi W hB => R6 hX n hn i hi W hB) (fun g c l W B hB hl ho => R5 hX g c l W B hB hl ho) (szT n) (WX hn)) N
def abN {β : Type} (N : Nat) : Rv.Spec β := As 3 N
theorem af2 {β : Type} (N : Nat) : ao (β := β) inv Tryz.prog 145 (abN N) :=
 WY Tryz.func145 (by kernel_rfl) (fun X n hX hn => by
  exact NB n hn X.w0 (fun i hi W hB => Nq hX n hn i hi W hB) (szT n) (ael hn)) N
end Go.Proofs.YtemihnclhcobnaaGreatDoor
