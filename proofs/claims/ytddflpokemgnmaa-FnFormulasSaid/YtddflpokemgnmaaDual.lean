/- impl.DualFormula, by a walk: it answers as its text does. -/
import Derived.Test.YtddflpokemgnmaaE4
import Derived.Test.YtddflpokemgnmaaRvLaw
import Derived.Laws.IdiomStrings
import Derived.Laws.CopyOwn
import Derived.RangeFuncRecord
import Derived.Deep.RegionLaw
import Derived.Lib.Walk
import Derived.WalkKit
import Derived.Deep.LoopGhost
namespace Go.Proofs.Ytddflpokemgnmaa
open Go.Rv Go.RowKit Go.Lib
set_option linter.unusedVariables false
set_option linter.unusedSimpArgs false
/-- A call that answers a number or a word, below the world. -/
theorem plain_call {g : FuncId} {args : List TV} {y : SV} {v0 : Value} (hy : ∀ (X' : Cx inv) lc v, relT X' lc (takeT [] (.v (.one y))).1 v → v = v0)
    (h : ∀ (X : Cx inv) vs, SpecCx X → All2 (relT X []) args vs → Calls Try.prog g vs.toArray X.w0 (fun e w' => ∃ v, e = .returned v ∧ CallRes X w' (.v (.one y)) v))
    (X : Cx inv) (vs : List Value) (hX : SpecCx X) (hv : All2 (relT X []) args vs) : Calls Try.prog g vs.toArray X.w0 fun e w' => e = .returned v0 ∧ RowKit.Below X.w0.heap.size X.w0 w' :=
  (h X vs hX hv).mono fun e w' ⟨v, he, X', lc, hle, hW, hr, _⟩ => by
    refine ⟨by rw [he, hy _ _ _ hr], ?_⟩
    obtain ⟨ft, fw, _, _, _⟩ := hle
    have := hW.below
    exact ⟨this.os, this.tape, this.output, this.size, fun k hk => this.block k (hX.old hk)⟩
theorem known (w : World) : Known inv w := fun _ _ => trivial
def othI (n : Int) : Int := cond (n == 38) 124 (cond (n == 124) 38 (cond (n == 48) 49 (cond (n == 49) 48 n)))
theorem other_told (n : Int) (w : World) : Calls Try.prog 41 #[.int .u8 n] w fun e w' => e = .returned (.int .u8 (othI n)) ∧ RowKit.Below w.heap.size w w' := by
  have h := (o41 (β := Int) 0).2 [.v (.one (.int .u8 n))] (fun y => match y with | .v (.one (.int .u8 r)) => some r | _ => none) (othI n) (by
    show impl_other 0 n (fun z => some z) = some (othI n)
    unfold impl_other othI
    cases n == 38 <;> cases n == 124 <;> cases n == 48 <;> cases n == 49 <;> rfl)
  obtain ⟨y, hy, hc⟩ := h
  have hy' : y = .v (.one (.int .u8 (othI n))) := by
    split at hy
    · cases hy; rfl
    · cases hy
  subst hy'
  exact plain_call (y := .int .u8 (othI n)) (v0 := .int .u8 (othI n)) (fun _ _ v h => h) hc (cx0 (known w)) [.int .u8 n] (cx0_spec (known w)) (.cons rfl .nil)
/-- The row after some have been turned. -/
def dualRow (l : List UInt8) (cap j : Nat) : List Value := ((l.take j).map fun b => Value.int .u8 (othI b.toNat)) ++ ((l.drop j).map fun b => Value.int .u8 b.toNat) ++ List.replicate (cap - l.length) (.int .u8 0)
theorem dualRow_len (l : List UInt8) (cap j : Nat) (h : j ≤ l.length) : (dualRow l cap j).length = l.length + (cap - l.length) := by simp [dualRow]; omega

theorem heap_set {w : World} {g i : Nat} {cs : Array Value} {t : TypeId} {fr : Nat × Nat} (h : w.heap[g]? = some (.cells cs t fr)) (v : Value) : (w.setCell ⟨g, i, none⟩ v).heap[g]? = some (.cells (cs.setIfInBounds i v) t fr) := by
  simp [World.setCell, Array.getElem?_modify, h]
theorem frozen_past {w : World} {g i lo hi : Nat} {cs : Array Value} {t : TypeId} (h : w.heap[g]? = some (.cells cs t (lo, hi))) (hi : i < lo) : w.frozen? ⟨g, i, none⟩ = false := by
  unfold World.frozen?
  simp only [h]
  simp; omega
theorem dualRow_at (l : List UInt8) (cap j : Nat) (h : j < l.length) : (dualRow l cap j).toArray[j]? = some (.int .u8 (l[j].toNat : Int)) := by
  unfold dualRow
  rw [List.getElem?_toArray, List.append_assoc, List.getElem?_append_right (by simp; omega)]
  simp [Nat.min_eq_left (Nat.le_of_lt h)]
  rw [List.getElem?_append_left (by simp; omega)]
  simp [h]
theorem dualRow_set (l : List UInt8) (cap j : Nat) (h : j < l.length) : ((dualRow l cap j).toArray.setIfInBounds j (.int .u8 (othI l[j].toNat))) = (dualRow l cap (j + 1)).toArray := by
  apply Array.ext'
  rw [Array.toList_setIfInBounds]
  unfold dualRow
  rw [List.append_assoc, List.set_append_right _ _ (by simp; omega), List.drop_eq_getElem_cons h, List.take_add_one, List.getElem?_eq_getElem h]
  simp only [List.map_cons, List.cons_append, List.length_map, List.length_take, Nat.min_eq_left (Nat.le_of_lt h), Nat.sub_self, List.set_cons_zero, List.map_append, Option.toList_some, List.map_nil, List.nil_append, List.append_assoc]
theorem oth_all : ∀ m : Nat, m < 256 → othI (m : Int) = ((UInt8.ofNat (oth8 m)).toNat : Int) := by decide +kernel
theorem dualRow_end (l : List UInt8) (cap i : Nat) (hi : i < l.length) : (dualRow l cap l.length).toArray[i]? = some (.int .u8 (((l.map fun b => UInt8.ofNat (oth8 b.toNat))[i]'(by rw [List.length_map]; exact hi)).toNat : Int)) := by
  unfold dualRow
  rw [List.getElem?_toArray, List.append_assoc, List.getElem?_append_left (by simp; omega), List.take_length, List.getElem?_map, List.getElem?_eq_getElem hi, List.getElem_map]
  exact congrArg (fun x => some (Value.int .u8 x)) (oth_all _ l[i].toNat_lt)
/-- What is answered. -/
def dualAns (s : ByteArray) (b : Bool) : ByteArray × Bool := if b && !decide (0 ≤ Lib.indexByte s.data.toList 94) then (dualB s, true) else (ByteArray.empty, false)
set_option maxHeartbeats 4000000 in
set_option maxRecDepth 100000 in
theorem dual_told (s : ByteArray) (hs : s.size ≤ 1000) (b : Bool) (w : World) (hF : Calls Try.prog 8 #[.string s] w fun e w' => e = .returned (.bool b) ∧ RowKit.Below w.heap.size w w') :
    Calls Try.prog 12 #[.string s] w fun e w' => e = .returned (.tuple #[.string (dualAns s b).1, .bool (dualAns s b).2]) ∧ RowKit.Below w.heap.size w w' := by
  go_enter Try.func12, Try.ntmps12
  go_wp2_with (go_at_fn 8)
  refine hF.mono ?_
  rintro e w1 ⟨rfl, hw1⟩
  cases b with
  | false =>
    go_wp2
    go_ret2
    exact ⟨rfl, hw1⟩
  | true =>
    go_wp2_with (go_at_fn 40)
    refine (Try.strings_Contains_one s 94 w1).mono ?_
    rintro e w2 ⟨rfl, rfl⟩
    by_cases hc : 0 ≤ Lib.indexByte s.data.toList 94
    · go_wp2
      go_ret2
      refine ⟨?_, hw1⟩
      simp [dualAns, hc]; rfl
    · have hconv := fun W => run_bytes_of_string (P := Try.prog) W 9 22 5 s Try.underlying9 Try.underlying22 Try.underlying5
      obtain ⟨l, rfl⟩ : ∃ l : List UInt8, s = ⟨l.toArray⟩ := ⟨s.data.toList, by cases s; simp⟩
      have hsz : (ByteArray.mk l.toArray).size = l.length := by simp [ByteArray.size]
      rw [hsz] at hconv hs
      have hrow : ∀ cap, bytesRow (ByteArray.mk l.toArray) cap = (dualRow l cap 0).toArray := fun cap => by
        unfold bytesRow dualRow
        rw [hsz]
        simp
      simp only [hrow] at hconv
      go_wp2
      generalize hcap : grownCap w2 l.length 0 5 = cap at *
      go_loopg [18] l.length (fun gg s18 wr => ∃ j : Nat, s18 = .int .i64 j ∧ j ≤ l.length ∧ l.length - j ≤ gg ∧ wr.heap[w2.heap.size]? = some (.cells (dualRow l cap j).toArray 5 ((dualRow l cap 0).toArray.size, (dualRow l cap 0).toArray.size + 1)) ∧ RowKit.Below w2.heap.size w2 wr)
      case atStart =>
        refine ⟨0, rfl, Nat.zero_le _, by omega, ?_, ((Below.refl _ w2).alloc (Nat.le_refl _) _).drew⟩
        exact World.alloc_heap_new w2 _
      case round =>
        obtain ⟨j, rfl, h1, h2, h3, h4⟩ := hrel
        by_cases hlt : j < l.length
        · have hltz : (j : Int) < (l.length : Int) := by omega
          have hcell : wr.cell? ⟨w2.heap.size, j, none⟩ = some (.int .u8 (l[j].toNat : Int)) := by
            rw [Lib.cell_of_heap h3]; exact dualRow_at l cap j hlt
          go_wp2_with (go_at_fn 41)
          refine (other_told _ _).mono ?_
          rintro e w3 ⟨rfl, hw3⟩
          have hg : w2.heap.size < wr.heap.size := by
            rcases Nat.lt_or_ge w2.heap.size wr.heap.size with h | h
            · exact h
            · rw [Array.getElem?_eq_none h] at h3; cases h3
          have h3' := h3
          rw [← hw3.block _ hg] at h3'
          have hcell3 : w3.cell? ⟨w2.heap.size, j, none⟩ = some (.int .u8 (l[j].toNat : Int)) := by
            rw [Lib.cell_of_heap h3']; exact dualRow_at l cap j hlt
          have hfr : w3.frozen? ⟨w2.heap.size, j, none⟩ = false := frozen_past h3' (by
            have := dualRow_len l cap 0 (Nat.zero_le _)
            rw [List.size_toArray]; omega)
          have hwr : IntKind.i64.wrap ((j : Int) + 1) = ((j + 1 : Nat) : Int) := by rw [IntKind.wrap_i64]; omega
          go_wp2
          go_roundg (l.length - (j + 1))
          case measure => omega
          case rel =>
            refine ⟨j + 1, congrArg _ (by omega), by omega, Nat.le_refl _, ?_, ?_⟩
            · rw [heap_set h3', dualRow_set l cap j hlt]
            · exact (h4.trans (hw3.mono (by have := h4.size; omega))).setCell (Nat.le_refl _) _
        · have hltz : ¬ (j : Int) < (l.length : Int) := by omega
          obtain rfl : j = l.length := by omega
          have hback := run_convert_bytes_back (P := Try.prog) wr 22 9 5 ⟨w2.heap.size, 0, none⟩ cap (l.map fun b => UInt8.ofNat (oth8 b.toNat)) Try.underlying22 Try.underlying5 Try.underlying9 (fun i hi => by
            rw [List.length_map] at hi
            rw [Addr.add_lit, Nat.zero_add, Lib.cell_of_heap h3]
            exact dualRow_end l cap i hi)
          rw [List.length_map] at hback
          go_wp2
          go_ret2
          refine ⟨?_, hw1.trans (h4.mono hw1.size)⟩
          simp [dualAns, hc, dualB]
def VS12 {β : Type} (N : Nat) (q_impl_DualFormula : (a0 : ByteArray) → (k : ByteArray → Bool → Option β) → Option β) : Rv.Spec β := fun args K => match args with
  | [.v (.one (.str a0))] => q_impl_DualFormula a0 (fun z1 z2 => K (.tup [.one (.str z1), .one (.bool z2)]))
  | _ => none
def S12 {β : Type} (N : Nat) : Rv.Spec β := VS12 N (impl_DualFormula N)
theorem o12 {β : Type} (N : Nat) : SpecOK (β := β) inv Try.prog 12 (S12 N) := by
  refine ⟨body_of Try.func12 (by kernel_rfl), fun args K r hr => ?_⟩
  unfold S12 VS12 at hr
  split at hr
  · rename_i s
    unfold impl_DualFormula at hr
    obtain ⟨h1, hr⟩ := gd_some hr
    have h1 := of_decide_eq_true h1
    have h8 := (o8 (β := β) N).2 [.v (.one (.str s))] (fun y => match y with
      | .v (.one (.bool b)) => (cond b (strings_Contains N s (strOf [94]) fun r4 => cond r4 (K (.tup [.one (.str ByteArray.empty), .one (.bool false)])) (K (.tup [.one (.str (dualB s)), .one (.bool true)]))) (K (.tup [.one (.str ByteArray.empty), .one (.bool false)])))
      | _ => none) r hr
    obtain ⟨y, hy, hc⟩ := h8
    split at hy
    · rename_i b
      have hans : K (.tup [.one (.str (dualAns s b).1), .one (.bool (dualAns s b).2)]) = some r := by
        rw [← hy]
        unfold dualAns
        cases b with
        | false => rfl
        | true =>
          unfold strings_Contains
          rw [show strOf [94] = ⟨#[94]⟩ from rfl, show decide ((⟨#[94]⟩ : ByteArray).size = 1) = true from rfl]
          unfold gd
          show _ = cond (decide (0 ≤ Lib.indexByte s.data.toList 94)) _ _
          cases decide (0 ≤ Lib.indexByte s.data.toList 94) <;> rfl
      refine ⟨_, hans, fun X vs hX hv => ?_⟩
      rcases hv with _ | ⟨ha, hv⟩
      rcases hv with _ | _
      rename_i va
      obtain rfl : va = .string s := ha
      have hF := plain_call (y := .bool b) (v0 := .bool b) (fun _ _ v h => h) hc X [.string s] hX (.cons rfl .nil)
      exact (dual_told s h1 b X.w0 hF).mono fun e w' ⟨he, hw⟩ => ⟨_, he, callRes_plain hX hw rfl ⟨_, rfl, .cons rfl (.cons rfl .nil)⟩⟩
    · cases hy
  · cases hr
end Go.Proofs.Ytddflpokemgnmaa
