/- The program's ConvertText returns what the reference's returns, for all arguments. -/
import Derived.Test.YtmhlcbibbhelkaaGreatDoorRows
import Derived.Test.YtmhlcbibbhelkaaGreatDoorE15
import Derived.Test.YtmhlcbibbhelkaaGreatDoorRvLaw
import Derived.Test.YtmhlcbibbhelkaaGreatDoorP93
import Derived.WalkKit
import Derived.ProofKit
import Derived.OpenShut
import Derived.ShutString
import Derived.ChangeOld
import Derived.LaidMore
import Derived.Lay
import Derived.Stop.Joined
import Derived.SevenTiedAt
import Derived.LaidSub
import Derived.Test.YtmhlcbibbhelkaaGreatDoorCards
import Derived.Test.YtmhlcbibbhelkaaGreatDoorTie
namespace Go.Proofs.YtmhlcbibbhelkaaGreatDoor.LConvertText
set_option linter.unusedSimpArgs false
open Go.Rv Go.ChangeShapes Go.WideShapes Go.ChangeAt Go.RowKit
set_option maxRecDepth 100000
set_option linter.unusedVariables false
theorem abY {n : Int} (h : (Lit.int .i64 n).wf = true) : -9223372036854775808 ≤ n ∧ n ≤ 9223372036854775807 := by
 simpa [Lit.wf, IntKind.min, IntKind.max, IntKind.signed, IntKind.bits] using h
theorem tc9 {s : SV} (h : eL lay 9 s) : ∃ b, s = .str b ∧ b.size ≤ maxLen := h
theorem tc3 {s : SV} (h : eL lay 3 s) : ∃ n, s = .int .i64 n ∧ (Lit.int .i64 n).wf = true := h
theorem own : ownKnob Tryz.prog.godebug = none := by kernel_rfl
theorem law (xs : List TV) (h : aB (uB Tryz.prog lay) [9, 9, 3, 9] xs) : S3 1048577 xs qt = some () := by
 rcases h with _ | ⟨hp0, h⟩
 rename_i p0 _
 rcases h with _ | ⟨hp1, h⟩
 rename_i p1 _
 rcases h with _ | ⟨hp2, h⟩
 rename_i p2 _
 rcases h with _ | ⟨hp3, h⟩
 rename_i p3 _
 rcases h with _ | _
 obtain ⟨s0, rfl, hc0_0⟩ := (show ∃ s, p0 = .v (.one s) ∧ eL lay 9 s from hp0)
 obtain ⟨a0, rfl, wa0⟩ := tc9 hc0_0
 rw [cW] at wa0
 obtain ⟨s1, rfl, hc1_0⟩ := (show ∃ s, p1 = .v (.one s) ∧ eL lay 9 s from hp1)
 obtain ⟨a1, rfl, wa1⟩ := tc9 hc1_0
 rw [cW] at wa1
 obtain ⟨s2, rfl, hc2_0⟩ := (show ∃ s, p2 = .v (.one s) ∧ eL lay 3 s from hp2)
 obtain ⟨a2, rfl, wa2⟩ := tc3 hc2_0
 obtain ⟨s3, rfl, hc3_0⟩ := (show ∃ s, p3 = .v (.one s) ∧ eL lay 9 s from hp3)
 obtain ⟨a3, rfl, wa3⟩ := tc9 hc3_0
 rw [cW] at wa3
 exact rH 1048577 (by omega) a0 a1 a2 a3 (by omega) (by omega) (abY wa2) (by omega) (fun z => qt (.v (.one (.bool z))))
/-- The table of powers of ten, by the row's own condition. -/
theorem XX {w : World} (h : laidMetH Tryz.prog Rows.fnExactConvertTextRow.laid w) : inv w := by
 have h1 := h.filter (fun x => x.1 == "internal/strconv.uint64pow10")
 have e : (Rows.fnExactConvertTextRow.laid.filter fun x => x.1 == "internal/strconv.uint64pow10") = [("internal/strconv.uint64pow10", Lib.tabData .u64 Lib.pow10Tab)] := by kernel_rfl
 rw [e] at h1
 exact Lib.tabIs_of_head (g := 3) (t := 168) (n := 20) (e := 150) (by kernel_rfl) (by kernel_rfl) (by kernel_rfl) (by kernel_rfl) (by kernel_rfl) (by kernel_rfl) h1
theorem VR (os : Os) (started : os.Started) (H : Type) (enc : TypeId × Value → H) :
  ReturnsInHanded {} Tryz.checked os 3 .any (fun w args => (Rows.fnExactConvertTextSpec.pre enc Tryz.prog Tryz.f3 [] false w args ∧ laidMetH Tryz.prog Rows.fnExactConvertTextRow.laid w) ∧ sizedMet enc Tryz.prog Tryz.f3 (OpenSpec.ofChange Rows.fnExactConvertTextSpec) false w args) (Rows.fnExactConvertTextSpec.post enc Tryz.prog Tryz.f3 false true false false) :=
 tq (I := inv) (X := fun w _ => laidMetH Tryz.prog Rows.fnExactConvertTextRow.laid w) (fun _ _ h => In (XX h)) (fun _ _ _ hh h => h.of_heap hh) (C := Tryz.checked) (L := lay) (b := 4) own started (by kernel_rfl) Tryz.func3
  (ChangeSpec.witness_shaped (enc := enc) (C := Tryz.checked) (os := os) (X := fun w _ => laidMetH Tryz.prog Rows.fnExactConvertTextRow.laid w) false (World.laidAll Tryz.prog os Rows.fnExactConvertTextRow.laid) #[.string ByteArray.empty, .string ByteArray.empty, .int .i64 0, .string ByteArray.empty] 8 (World.laidAll_os _ _ _) (World.shaped_of_ZipB (by kernel_rfl) (by kernel_rfl)) (by kernel_rfl) (by kernel_rfl) (by kernel_rfl) (by rw [MakeChecks.laidMetH_plain _ _ _ (by kernel_rfl)]; exact laidMet_laidAll _ (by kernel_rfl) (by kernel_rfl)))
  (by decide +kernel) au (by decide +kernel) rfl Tryz.underlying4 rfl
  (fun ds h => match ds, h with | [_, _, _, _], _ => ⟨rfl, rfl, rfl⟩)
  (o3 1048577) law
theorem over : Rows.fnExactConvertTextRow.holds Tryz.pinned (OpenSpec.ofChange Rows.fnExactConvertTextSpec) :=
 OpenClaim.holds_of_wide 3 Tryz.f3 rfl rfl rfl rfl rfl rfl rfl ⟨rfl, rfl, rfl, rfl, rfl⟩ rfl rfl rfl rfl rfl (by kernel_rfl) Tryz.func3 (by kernel_rfl)
  (of_decide_eq_true (by kernel_rfl)) (by unfold Func.isWrapper; first | (rw [if_pos (by decide +kernel)]; kernel_rfl) | (rw [if_neg (by decide +kernel)]; exact ⟨rfl, rfl⟩))
  (fun os started H enc _ => VR os started H enc)
theorem card : Rows.FnExactConvertTextCardSaid :=
 Claim7.holds_tied_plain_at .later [] [.data, .data, .data, .data, .pinned] true (true, "956416e1a6824ced86ac2e979aab870490bc76d333fd138e2008d485aefbb202") false
  over (fun _ h => by cases h) (by kernel_rfl) (fun _ h => by cases h) fnExactConvertText_row_tie rfl ⟨rfl, rfl⟩ (by kernel_rfl) rfl
  (fun f fn hf hfn => by
   obtain rfl : f = 3 := ajn ((show Tryz.prog.funcNamed "loop.example/g03403/laws.FnExactConvertText" = some 3 by kernel_rfl).symm.trans hf) |>.symm
   obtain rfl : fn = Tryz.f3 := (ajn (Tryz.func3.symm.trans hfn)).symm
   refine ⟨by kernel_rfl, fun j t ht => ?_⟩
   have hp : Tryz.f3.params = #[9, 9, 3, 9] := by kernel_rfl
   rw [hp] at ht
   have hm : t ∈ [9, 9, 3, 9] := by simpa using Array.mem_of_getElem? ht
   have hall : ([9, 9, 3, 9].all fun u => !Tryz.prog.wantsStandIn u) = true := by kernel_rfl
   exact (show Tryz.prog.wantsStandIn t = false by simpa using aht.1 hall t hm))
  (by kernel_rfl)
end Go.Proofs.YtmhlcbibbhelkaaGreatDoor.LConvertText
namespace Go.Proofs.YtmhlcbibbhelkaaGreatDoor
open Go.Rv
/-- The tied card, under a short name, for the claim. -/
theorem fnExactConvertText_holds : Rows.FnExactConvertTextCardSaid := LConvertText.card
#print axioms fnExactConvertText_holds
end Go.Proofs.YtmhlcbibbhelkaaGreatDoor
