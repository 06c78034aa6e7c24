/- strings.Split at one byte: no global is read. -/
import Derived.Test.YtemihnclhcobnaaGreatDoorShelf
import Derived.Lib.IndexBytes
namespace Go.Proofs
set_option linter.unusedSimpArgs false
open Go.Shelf Go.RowKit Go.Lib
section
variable {P : Program} {ρ : Ren}
theorem YtemihnclhcobnaaGreatDoor.genSplit_one (L : Lays.n221 P ρ) (hi9 : (P.info? (ρ.t 9)).map (fun i => (i.zero, i.size, i.bytes)) = some (some (.string ByteArray.empty), 1, 16)) (s : ByteArray) (c : UInt8) (sv : Nat) (n : Int) (N : Nat) (w : World)
  (hs : s.size < 4294967281) (hsv : sv <= 1) (hn0 : n ≠ 0) (hn63 : n <= 9223372036854775807) (hN : (N : Int) = min (if n < 0 then (Lib.countB s ⟨#[c]⟩ : Int) + 1 else n) ((s.size : Int) + 1)) :
  Calls P (ρ.f 221) #[.string s, .string ⟨#[c]⟩, .int .i64 sv, .int .i64 n] w fun e w' =>
   e = .returned (.slice (some ⟨w.heap.size, 0, none⟩) (Lib.splitB ⟨#[c]⟩ sv (N - 1) s).length N) /\ w' = w.alloc (.cells (Lib.cellsOf (Lib.splitB ⟨#[c]⟩ sv (N - 1) s) N) (ρ.t 9)) :=
 Any.strings_genSplit_core L hi9 s ⟨#[c]⟩ sv n N w hs (Nat.le_refl _) hsv
  (fun x c' hx => (Any.strings_Index_one { L with } x c _).mono fun e w' ⟨he, hw⟩ => ⟨by
   rw [he]
   show _ = Ending.returned (Value.int .i64 (Lib.index x.data.toList [c]))
   rw [Lib.index_one], hw⟩)
  ((Any.strings_Count_one { L with } s c w).mono fun e w' ⟨he, hw⟩ => ⟨by
   rw [he]
   show _ = Ending.returned (Value.int .i64 ((Lib.count s.data.toList [c] : Nat) : Int))
   rw [Lib.count_one]
   rfl, hw⟩) hn0 hn63 hN

set_option maxHeartbeats 1000000 in
theorem YtemihnclhcobnaaGreatDoor.split_one (L : Lays.n146 P ρ) (hi9 : (P.info? (ρ.t 9)).map (fun i => (i.zero, i.size, i.bytes)) = some (some (.string ByteArray.empty), 1, 16)) (s : ByteArray) (b : UInt8) (w : World) (hs : s.size < 4294967281) :
  Calls P (ρ.f 146) #[.string s, .string ⟨#[b]⟩] w fun e w' =>
   e = .returned (.slice (some ⟨w.heap.size, 0, none⟩) (Lib.countB s ⟨#[b]⟩ + 1) (Lib.countB s ⟨#[b]⟩ + 1)) /\ w' = w.alloc (.cells ((Lib.splitB ⟨#[b]⟩ 0 (Lib.countB s ⟨#[b]⟩) s).map Value.string).toArray (ρ.t 9)) := by
 have h1 : 1 <= (⟨#[b]⟩ : ByteArray).size := Nat.le_refl _
 have hle := Lib.countB_le ⟨#[b]⟩ h1 s.size s (Nat.le_refl _)
 have hlen := Lib.splitB_all ⟨#[b]⟩ h1 0 _ s rfl
 have c := YtemihnclhcobnaaGreatDoor.genSplit_one { L with } hi9 s b 0 (-1) (Lib.countB s ⟨#[b]⟩ + 1) w hs (Nat.zero_le _) (by decide) (by decide) (by rw [if_pos (by decide)]; omega)
 rw [Nat.add_sub_cancel, hlen] at c
 have e2 : Lib.cellsOf (Lib.splitB ⟨#[b]⟩ 0 (Lib.countB s ⟨#[b]⟩) s) (Lib.countB s ⟨#[b]⟩ + 1) = ((Lib.splitB ⟨#[b]⟩ 0 (Lib.countB s ⟨#[b]⟩) s).map Value.string).toArray := by rw [<- hlen]; exact Lib.cellsOf_full _
 rw [e2] at c
 have t3 := L.t3; have t9 := L.t9; have t31 := L.t31
 have a3 := L.a3; have a9 := L.a9; have a31 := L.a31
 have z3 := L.z3; have v3 := L.v3; have z9 := L.z9; have v9 := L.v9; have z31 := L.z31; have v31 := L.v31
 have e221 : ∀ args w, (callFunc (ρ.f 221) args).run P w = .ok (.enter (ρ.f 221) args) w := enters_of L.f221 (by kernel_rfl) rfl
 go_enter L.f146, Body.n146_ntmps ρ
 go_wp2_with (go_at_fn (ρ.f 221); refine c.mono ?_; rintro e w' ⟨rfl, hw⟩; rw [hw])
 go_ret
 exact ⟨rfl, rfl⟩
end
theorem Tryz.split_told (s : ByteArray) (b : UInt8) (w : World) (hs : s.size < 4294967281) :
  Calls Tryz.prog 131 #[.string s, .string ⟨#[b]⟩] w fun e w' =>
   e = .returned (.slice (some ⟨w.heap.size, 0, none⟩) (Lib.countB s ⟨#[b]⟩ + 1) (Lib.countB s ⟨#[b]⟩ + 1)) /\ w' = w.alloc (.cells ((Lib.splitB ⟨#[b]⟩ 0 (Lib.countB s ⟨#[b]⟩) s).map Value.string).toArray 9) := YtemihnclhcobnaaGreatDoor.split_one Tryz.lays146 (by kernel_rfl) s b w hs
end Go.Proofs
