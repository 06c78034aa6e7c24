/- slices.Repeat of one number. -/
import Derived.Test.YtemihnclhcobnaaGreatDoorShelf
import Derived.Test.YtemihnclhcobnaaGreatDoorProg
import Derived.KernelRfl
import Derived.Laws.CopyOwn
import Derived.RangeFuncRecord
import Derived.Deep.RegionLaw
import Derived.Lib.Walk
import Derived.Lib.Builder
import Derived.Lib.SliceRun
import Derived.WalkKit
import Derived.Deep.LoopGhost
namespace Go.Proofs
open Go.RowKit Go.Lib
set_option linter.unusedVariables false
set_option linter.unusedSimpArgs false
def bC (x : Int) (n j : Nat) : List Value := List.replicate j (Value.int .i64 x) ++ List.replicate (n - j) (Value.int .i64 0)
theorem EE (x : Int) {n j : Nat} (h : j <= n) : (bC x n j).length = n := by simp [bC]; omega
theorem wq (x : Int) {n j m : Nat} (h : j + m <= n) : splice (bC x n j) j (List.replicate m (Value.int .i64 x)) = bC x n (j + m) := by
 unfold splice bC
 rw [List.length_replicate, List.take_append_of_le_length (by simp), List.take_of_length_le (by simp), List.drop_append, List.drop_eq_nil_of_le (by simp), List.length_replicate, List.drop_replicate, List.nil_append, <- List.append_assoc, List.replicate_append_replicate]
 congr 2
 omega
theorem dX (j : Nat) (hj : j < 100000) (m : Nat) (hm : m < 100000) : IntKind.i64.wrap ((j : Int) + (m : Int)) = ((j + m : Nat) : Int) := by
 rw [IntKind.wrap_i64]
 omega
set_option maxHeartbeats 2000000 in
set_option maxRecDepth 100000 in
theorem CF (b off c : Nat) (x : Int) (n : Nat) (w : World) (hn : n <= 1000) (hc : 1 <= c) (hx : w.cell? ⟨b, off, none⟩ = some (.int .i64 x)) :
  Calls Tryz.prog 179 #[.slice (some ⟨b, off, none⟩) 1 c, .int .i64 (n : Int)] w fun e w' => ∃ v', e = .returned v' /\ w'.ownsRow w.heap.size 3 1 v' n ((List.replicate n x).map (Value.int .i64)) /\ Below w.heap.size w w' := by
 have hm : ∀ w, Calls Tryz.prog 227 #[.int .u64 1, .int .u64 (n : Int)] w fun e w' => e = .returned (.tuple #[.int .u64 0, .int .u64 (n : Int)]) /\ w' = w := fun w => by
  have h := Tryz.bits_Mul 1 n (by decide) (by omega) w
  rw [Nat.one_mul, Nat.div_eq_of_lt (by omega : n < 18446744073709551616), Nat.mod_eq_of_lt (by omega : n < 18446744073709551616)] at h
  exact h
 have hinf : (Tryz.prog.info? 3).map (fun i => (i.zero, i.size, i.bytes)) = some (some (.int .i64 0), 1, 8) := by kernel_rfl
 obtain ⟨i0, hi, hz0, hz1, hz2⟩ := info_parts hinf
 have hu : Tryz.prog.underlying 40 = some (.slice 3) := by kernel_rfl
 have hmk : ∀ W : World, (Instr.makeSlice 40 (.int .i64 (n : Int)) (.int .i64 (n : Int))).run Tryz.prog W = .ok (.slice (some ⟨W.heap.size, 0, none⟩) n n) (W.alloc (.cells (bC x n 0).toArray 3)) := fun W => by
  have h := run_makeSlice (P := Tryz.prog) W 40 3 i0 (.int .i64 0) hu hi hz0 .i64 .i64 (n : Int) n (by omega) (by omega) (by rw [hz1]; simp; omega) (by rw [hz2]; simp; omega) (by omega)
  have e : madeCells (Value.int .i64 0).cells n = (bC x n 0).toArray := by
   have h1 := toList_madeCells_one (Value.int .i64 0) n
   have h2 : bC x n 0 = List.replicate n (Value.int .i64 0) := by simp [bC]
   rw [h2, <- h1]
   rfl
  rw [Int.toNat_natCast, hz1, Nat.mul_one, e] at h
  exact h
 have hnn : ¬ (9223372036854775807 : Int) < (n : Int) := by omega
 go_enter Tryz.func179, Tryz.ntmps179
 go_wp2_with (go_at_fn 227)
 refine (hm _).mono ?_
 rintro e w' ⟨rfl, rfl⟩
 have hsz : (Tryz.prog.info? 3).map (·.size) = some 1 := by kernel_rfl
 rcases Nat.eq_zero_or_pos n with rfl | hpos
 ·have hmk0 : ∀ W : World, (Instr.makeSlice 40 (.int .i64 0) (.int .i64 0)).run Tryz.prog W = .ok (.slice (some ⟨W.heap.size, 0, none⟩) 0 0) (W.alloc (.cells (bC x 0 0).toArray 3)) := hmk
  clear hmk
  go_wp2
  rw [run_copy_none (P := Tryz.prog) _ 40 40 3 3 _ _ 0 0 1 c hu hsz rfl]
  go_wp2
  go_loopg [8] 0 (fun gg s8 wr => s8 = .int .i64 0 /\ wr.heap[w'.heap.size]? = some (.cells (bC x 0 0).toArray 3 (0, 0)) /\ Below w'.heap.size w' wr)
  case atStart => exact ⟨rfl, World.alloc_heap_new w' _, (Below.refl _ w').alloc (Nat.le_refl _) _⟩
  case round =>
   obtain ⟨rfl, h4, h5⟩ := hrel
   go_wp2
   go_ret
   exact ⟨_, rfl, ⟨by simp, .inr ⟨w'.heap.size, 0, _, rfl, Nat.le_refl _, h4, Nat.le_refl _, by unfold maxLen; omega, by simp [bC], by simp [bC]⟩⟩, h5⟩
 go_wp2
 have hcopy := run_copy_row (P := Tryz.prog) (w'.alloc (.cells (bC x n 0).toArray 3)) 40 40 3 3 w'.heap.size 0 n n ⟨b, off, none⟩ 1 c (bC x n 0).toArray 3 [.int .i64 x] hu hsz (World.alloc_heap_new w' _) (Nat.min_eq_left hpos).symm
  (fun j v hj => by
   cases j with
   | zero =>
    simp only [List.getElem?_cons_zero, Option.some.injEq] at hj
    subst hj
    exact Lib.cell?_alloc_some _ hx
   | succ j => simp at hj)
  (by simp [bC]; omega) (fun v hv => by simp only [List.mem_cons, List.not_mem_nil, or_false] at hv; subst hv; rfl)
 rw [hcopy]
 go_wp2
 go_loopg [8] n (fun gg s8 wr => ∃ j : Nat, s8 = .int .i64 j /\ 1 <= j /\ j <= n /\ n - j <= gg /\ wr.heap[w'.heap.size]? = some (.cells (bC x n j).toArray 3 (0, 0)) /\ Below w'.heap.size w' wr)
 case atStart =>
  refine ⟨1, rfl, Nat.le_refl _, hpos, by omega, ?_, below_setRow ((Below.refl _ w').alloc (Nat.le_refl _) _) (Nat.le_refl _) _⟩
  have h := setRow_heap (w'.alloc (.cells (bC x n 0).toArray 3)) w'.heap.size _ (Value.int .i64 x :: (bC x n 0).tail).toArray 3 _ (World.alloc_heap_new w' _)
  have e : Value.int .i64 x :: (bC x n 0).tail = bC x n 1 := by
   obtain ⟨k, rfl⟩ : ∃ k, n = k + 1 := ⟨n - 1, by omega⟩
   simp [bC, List.replicate_succ]
  rw [e] at h
  simpa [e] using h
 case round =>
  obtain ⟨j, rfl, h1, h2, h3, h4, h5⟩ := hrel
  by_cases hlt : j < n
  ·have hltz : (j : Int) < (n : Int) := by omega
   have hne : ¬ n = j := by omega
   have hcl : ∀ k, k < j -> wr.cell? ⟨w'.heap.size, 0 + k, none⟩ = some (.int .i64 x) := fun k hk => by
    rw [Nat.zero_add, Lib.cell_of_heap h4]
    show (bC x n j).toArray[k]? = _
    rw [List.getElem?_toArray]
    unfold bC
    rw [List.getElem?_append_left (by rw [List.length_replicate]; exact hk), List.getElem?_replicate, if_pos hk]
   go_wp2
   obtain ⟨m, hm1, hm2, hm3, hm4⟩ : ∃ m, m = Nat.min j (n - j) /\ 1 <= m /\ j + m <= n /\ m <= j := ⟨Nat.min j (n - j), rfl, by simp only [Nat.min_def]; split <;> omega, by simp only [Nat.min_def]; split <;> omega, Nat.min_le_left _ _⟩
   have hb4 : j + m <= 1000 := by omega
   have hwr : Value.int .i64 (IntKind.i64.wrap ((j : Int) + (m : Int))) = .int .i64 ((j + m : Nat) : Int) := congrArg _ (dX j (by omega) m (by omega))
   go_region_law (refine step_copy_splice rfl (.tmp 41) (.tmp 44) 40 40 rfl 3 hu hsz (some ⟨w'.heap.size, j, none⟩) (some ⟨w'.heap.size, 0, none⟩) (n - j) (n - j) j n (by simp [Act.eval, Act.put, hne]) (by simp [Act.eval, Act.put]) w'.heap.size j (bC x n j) 3 (by exact h4) (List.replicate m (.int .i64 x)) (by rw [List.length_replicate]; exact hm1) (fun _ => ⟨rfl, ⟨w'.heap.size, 0, none⟩, rfl, fun k v hk => by
    obtain ⟨hk1, hk2⟩ := List.getElem?_eq_some_iff.1 hk
    have hk3 : k < m := by have h := hk1; rwa [List.length_replicate] at h
    rw [List.getElem_replicate] at hk2
    subst hk2
    rw [Addr.add_lit]
    exact hcl k (by omega)⟩) (by rw [List.length_replicate, EE x h2]; omega) (fun v hv => by rw [List.eq_of_mem_replicate hv]; rfl) w'.heap.size w' (by first | exact h5 | exact h5.drew | exact h5.drew.drew) (Nat.le_refl _) ?_; intro w4 hg4 hb4)
   go_wp2
   go_roundg (n - (j + m))
   case measure => omega
   case rel =>
    refine ⟨j + m, by rw [<- hm1]; exact hwr, by omega, hm3, Nat.le_refl _, ?_, hb4⟩
    have := hg4
    rw [wq x hm3] at this
    exact this
  ·have hltz : ¬ (j : Int) < (n : Int) := by omega
   obtain rfl : n = j := by omega
   go_wp2
   go_ret
   refine ⟨_, rfl, ⟨by simp, .inr ⟨w'.heap.size, n, _, rfl, Nat.le_refl _, h4, Nat.le_refl _, by unfold maxLen; omega, by rw [Nat.mul_one]; simp [bC], by simp [bC]⟩⟩, h5⟩
end Go.Proofs
