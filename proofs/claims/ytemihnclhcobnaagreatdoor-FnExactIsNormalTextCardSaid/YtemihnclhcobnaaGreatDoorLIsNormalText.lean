/- The program's IsNormalText returns what the reference's returns, for all arguments. -/
import Derived.Test.YtemihnclhcobnaaGreatDoorRows
import Derived.Test.YtemihnclhcobnaaGreatDoorE15
import Derived.Test.YtemihnclhcobnaaGreatDoorRvLaw
import Derived.Test.YtemihnclhcobnaaGreatDoorP93
import Derived.WalkKit
import Derived.ProofKit
import Derived.OpenShut
import Derived.ShutString
import Derived.ChangeOld
import Derived.LaidMore
import Derived.Lay
import Derived.Stop.Joined
import Derived.SevenTiedAt
import Derived.LaidSub
import Derived.Test.YtemihnclhcobnaaGreatDoorCards
import Derived.Test.YtemihnclhcobnaaGreatDoorTie
namespace Go.Proofs.YtemihnclhcobnaaGreatDoor.LIsNormalText
set_option linter.unusedSimpArgs false
open Go.Rv Go.ChangeShapes Go.WideShapes Go.ChangeAt Go.RowKit
set_option maxRecDepth 100000
set_option linter.unusedVariables false
theorem ad5 {n : Int} (h : (Lit.int .i64 n).wf = true) : -9223372036854775808 <= n /\ n <= 9223372036854775807 := by
 simpa [Lit.wf, IntKind.min, IntKind.max, IntKind.signed, IntKind.bits] using h
theorem tc9 {s : SV} (h : fO lay 9 s) : ∃ b, s = .str b /\ b.size <= maxLen := h
theorem tc3 {s : SV} (h : fO lay 3 s) : ∃ n, s = .int .i64 n /\ (Lit.int .i64 n).wf = true := h
theorem own : ownKnob Tryz.prog.godebug = none := by kernel_rfl
theorem law (xs : List TV) (h : aB (vA Tryz.prog lay) [9, 3, 9] xs) : S6 1048577 xs qm = some () := by
 rcases h with _ | ⟨hp0, h⟩
 rename_i p0 _
 rcases h with _ | ⟨hp1, h⟩
 rename_i p1 _
 rcases h with _ | ⟨hp2, h⟩
 rename_i p2 _
 rcases h with _ | _
 obtain ⟨s0, rfl, hc0_0⟩ := (show ∃ s, p0 = .v (.one s) /\ fO lay 9 s from hp0)
 obtain ⟨a0, rfl, wa0⟩ := tc9 hc0_0
 rw [dn] at wa0
 obtain ⟨s1, rfl, hc1_0⟩ := (show ∃ s, p1 = .v (.one s) /\ fO lay 3 s from hp1)
 obtain ⟨a1, rfl, wa1⟩ := tc3 hc1_0
 obtain ⟨s2, rfl, hc2_0⟩ := (show ∃ s, p2 = .v (.one s) /\ fO lay 9 s from hp2)
 obtain ⟨a2, rfl, wa2⟩ := tc9 hc2_0
 rw [dn] at wa2
 exact qn 1048577 (by omega) a0 a1 a2 (by omega) (ad5 wa1) (by omega) (fun z => qm (.v (.one (.bool z))))
/-- The table of powers of ten, by the row's own condition. -/
theorem Z5 {w : World} (h : laidMetH Tryz.prog Rows.fnExactIsNormalTextRow.laid w) : inv w := by
 have h1 := h.filter (fun x => x.1 == "internal/strconv.uint64pow10")
 have e : (Rows.fnExactIsNormalTextRow.laid.filter fun x => x.1 == "internal/strconv.uint64pow10") = [("internal/strconv.uint64pow10", Lib.tabData .u64 Lib.pow10Tab)] := by kernel_rfl
 rw [e] at h1
 exact Lib.tabIs_of_head (g := 0) (t := 212) (n := 20) (e := 136) (by kernel_rfl) (by kernel_rfl) (by kernel_rfl) (by kernel_rfl) (by kernel_rfl) (by kernel_rfl) h1
theorem YJ (os : Os) (started : os.Started) (H : Type) (enc : TypeId × Value -> H) :
  ReturnsInHanded {} Tryz.checked os 6 .any (fun w args => (Rows.fnExactIsNormalTextSpec.pre enc Tryz.prog Tryz.f6 [] false w args /\ laidMetH Tryz.prog Rows.fnExactIsNormalTextRow.laid w) /\ sizedMet enc Tryz.prog Tryz.f6 (OpenSpec.ofChange Rows.fnExactIsNormalTextSpec) false w args) (Rows.fnExactIsNormalTextSpec.post enc Tryz.prog Tryz.f6 false true false false) :=
 tO (I := inv) (X := fun w _ => laidMetH Tryz.prog Rows.fnExactIsNormalTextRow.laid w) (fun _ _ h => KI (Z5 h)) (fun _ _ _ hh h => h.of_heap hh) (C := Tryz.checked) (L := lay) (b := 4) own started (by kernel_rfl) Tryz.func6
  (ChangeSpec.witness_shaped (enc := enc) (C := Tryz.checked) (os := os) (X := fun w _ => laidMetH Tryz.prog Rows.fnExactIsNormalTextRow.laid w) false (World.laidAll Tryz.prog os Rows.fnExactIsNormalTextRow.laid) #[.string ByteArray.empty, .int .i64 0, .string ByteArray.empty] 8 (World.laidAll_os _ _ _) (World.shaped_of_ZipB (by kernel_rfl) (by kernel_rfl)) (by kernel_rfl) (by kernel_rfl) (by kernel_rfl) (by rw [MakeChecks.laidMetH_plain _ _ _ (by kernel_rfl)]; exact laidMet_laidAll _ (by kernel_rfl) (by kernel_rfl)))
  (by decide +kernel) au (by decide +kernel) rfl Tryz.underlying4 rfl
  (fun ds h => match ds, h with | [_, _, _], _ => ⟨rfl, rfl, rfl⟩)
  (o6 1048577) law
theorem over : Rows.fnExactIsNormalTextRow.holds Tryz.pinned (OpenSpec.ofChange Rows.fnExactIsNormalTextSpec) :=
 OpenClaim.holds_of_wide 6 Tryz.f6 rfl rfl rfl rfl rfl rfl rfl ⟨rfl, rfl, rfl, rfl, rfl⟩ rfl rfl rfl rfl rfl (by kernel_rfl) Tryz.func6 (by kernel_rfl)
  (of_decide_eq_true (by kernel_rfl)) (by unfold Func.isWrapper; first | (rw [if_pos (by decide +kernel)]; kernel_rfl) | (rw [if_neg (by decide +kernel)]; exact ⟨rfl, rfl⟩))
  (fun os started H enc _ => YJ os started H enc)
theorem card : Rows.FnExactIsNormalTextCardSaid :=
 Claim7.holds_tied_plain_at .later [] [.data, .data, .data, .data, .pinned] true (true, "a995deefdc2a0d9234742b8e7a2b487744575527d14801a2960b14dad51cb6f8") false
  over (fun _ h => by cases h) (by kernel_rfl) (fun _ h => by cases h) fnExactIsNormalText_row_tie rfl ⟨rfl, rfl⟩ (by kernel_rfl) rfl
  (fun f fn hf hfn => by
   obtain rfl : f = 6 := amq ((show Tryz.prog.funcNamed "loop.example/g03403/laws.FnExactIsNormalText" = some 6 by kernel_rfl).symm.trans hf) |>.symm
   obtain rfl : fn = Tryz.f6 := (amq (Tryz.func6.symm.trans hfn)).symm
   refine ⟨by kernel_rfl, fun j t ht => ?_⟩
   have hp : Tryz.f6.params = #[9, 3, 9] := by kernel_rfl
   rw [hp] at ht
   have hm : t ∈ [9, 3, 9] := by simpa using Array.mem_of_getElem? ht
   have hall : ([9, 3, 9].all fun u => !Tryz.prog.wantsStandIn u) = true := by kernel_rfl
   exact (show Tryz.prog.wantsStandIn t = false by simpa using aku.1 hall t hm))
  (by kernel_rfl)
end Go.Proofs.YtemihnclhcobnaaGreatDoor.LIsNormalText
namespace Go.Proofs.YtemihnclhcobnaaGreatDoor
open Go.Rv
/-- The tied card, under a short name, for the claim. -/
theorem fnExactIsNormalText_holds : Rows.FnExactIsNormalTextCardSaid := LIsNormalText.card
#print axioms fnExactIsNormalText_holds
end Go.Proofs.YtemihnclhcobnaaGreatDoor
