/- slices.Clone of rows of terms. -/
import Derived.Test.YtemihnclhcobnaaGreatDoorShelf
import Derived.Test.YtemihnclhcobnaaGreatDoorProg
import Derived.KernelRfl
import Derived.Laws.CopyOwn
import Derived.RangeFuncRecord
import Derived.Deep.RegionLaw
import Derived.Lib.Walk
import Derived.Lib.SliceRun
import Derived.WalkKit
import Derived.Deep.LoopGhost
namespace Go.Proofs
open Go.RowKit Go.Lib
set_option linter.unusedVariables false
set_option linter.unusedSimpArgs false
theorem A7 (n c : Nat) (w : World) :
  Calls Tryz.prog 153 #[.slice none n c] w fun e w' => e = .returned (.slice none 0 0) ∧ w' = w := by
 have q22 : ∀ (w : World) (a : Option Addr) (n c n' c' : Nat), (binOp .eql 55 (.slice a n c) (.slice none n' c')).run Tryz.prog w = .ok (.bool a.isNone) w := fun w a n c n' c' => Lib.run_eql_slice_nil w _ _ a n c n' c' (by kernel_rfl : Tryz.prog.underlying 55 = some (.slice 93))
 go_enter Tryz.func153, Tryz.ntmps153
 go_wp2
 go_ret
 exact ⟨rfl, rfl⟩
theorem BW (l : List (Int × Int)) : (l.flatMap fun p => [Value.int .i64 p.1, Value.int .i64 p.2]).length = l.length * 2 := by
 induction l with
 | nil => rfl
 | cons x l ih => simp only [List.flatMap_cons, List.length_append, List.length_cons, List.length_nil, ih]; omega
set_option maxHeartbeats 2000000 in
set_option maxRecDepth 100000 in
theorem yC (ad : Addr) (c : Nat) (l : List (Int × Int)) (w : World) (hbig : l.length * 16 ≤ 140737488355328) (hc : ∀ (j : Nat) u, (l.flatMap fun p => [Value.int .i64 p.1, Value.int .i64 p.2])[j]? = some u → w.cell? (ad.add j) = some u) :
  Calls Tryz.prog 153 #[.slice (some ad) l.length c] w fun e w' => ∃ v', e = .returned v' ∧ w'.ownsRow w.heap.size 93 2 v' l.length (l.flatMap fun p => [Value.int .i64 p.1, Value.int .i64 p.2]) ∧ Below w.heap.size w w' := by
 have t22 : Tryz.prog.underlying 55 = some (.slice 93) := by kernel_rfl
 have hinf : (Tryz.prog.info? 93).map (fun i => (i.zero, i.size, i.bytes)) = some (some (.agg #[.int .i64 0, .int .i64 0]), 2, 16) := by kernel_rfl
 obtain ⟨i0, hi, hz0, hz1, hz2⟩ := info_parts hinf
 have q22 : ∀ (w : World) (a : Option Addr) (n c n' c' : Nat), (binOp .eql 55 (.slice a n c) (.slice none n' c')).run Tryz.prog w = .ok (.bool a.isNone) w := fun w a n c n' c' => Lib.run_eql_slice_nil w _ _ a n c n' c' t22
 have u22 : ∀ w, Sem.run Tryz.prog (underlying 55) w = .ok (TypeDesc.slice 93) w := run_underlying t22
 generalize hnews : (l.flatMap fun p => [Value.int .i64 p.1, Value.int .i64 p.2]) = news at *
 have hlen : news.length = l.length * 2 := by rw [← hnews]; exact BW l
 have hone : ∀ u ∈ news, u.oneCell' = true := fun u hu => by
  rw [← hnews] at hu
  obtain ⟨p, _, hp⟩ := List.mem_flatMap.1 hu
  simp at hp
  rcases hp with rfl | rfl <;> rfl
 have A : Aside (∀ (j : Nat) u, news[j]? = some u → w.cell? (ad.add j) = some u) := hc
 clear hc
 go_enter Tryz.func153, Tryz.ntmps153
 go_wp2_with (at_builtin; refine wpList_append_own _ rfl _ _ 55 rfl w.heap.size 93 i0 (.agg #[.int .i64 0, .int .i64 0]) 2 16 t22 hi hz0 hz1 hz2 rfl (by decide) _ _ _ rfl (World.ownsRow_made w #[] 0 (Nat.le_refl _) (Nat.zero_le _) rfl) ad l.length c news rfl ?qc1 ?qc2 ?qc3 ?qc4 ?qc5 ?qc6 ?_)
 case qc1 => exact hlen
 case qc2 =>
  intro j u hj
  exact Lib.cell?_alloc_some _ (A.out j u hj)
 case qc3 => intro u hu; exact hone u hu
 case qc4 => unfold maxLen; omega
 case qc5 => omega
 case qc6 => simp
 intro v' w1 hown hgrow hnil
 go_wp2
 go_ret
 refine ⟨v', rfl, by simpa using hown, ?_⟩
 exact ((Below.refl _ w).alloc (Nat.le_refl _) _).grown hgrow (by simp) (by intro k hk; simp [Value.ownBlock] at hk; omega)
end Go.Proofs
