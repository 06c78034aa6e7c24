/- The program's FormLine returns what the reference's returns, for all arguments. -/
import Derived.Test.YtemihnclhcobnaaGreatDoorRows
import Derived.Test.YtemihnclhcobnaaGreatDoorE12
import Derived.Test.YtemihnclhcobnaaGreatDoorRvLaw
import Derived.Test.YtemihnclhcobnaaGreatDoorP92
import Derived.WalkKit
import Derived.ProofKit
import Derived.OpenShut
import Derived.ShutString
import Derived.ChangeOld
import Derived.LaidMore
import Derived.Stop.Joined
import Derived.SevenTiedAt
import Derived.LaidSub
import Derived.Test.YtemihnclhcobnaaGreatDoorCards
import Derived.Test.YtemihnclhcobnaaGreatDoorTie
namespace Go.Proofs.YtemihnclhcobnaaGreatDoor.LFormLine
set_option linter.unusedSimpArgs false
open Go.Rv Go.ChangeShapes Go.WideShapes Go.ChangeAt Go.RowKit
set_option maxRecDepth 100000
set_option linter.unusedVariables false
theorem Ra {n : Int} (h : (Lit.int .i64 n).wf = true) : -9223372036854775808 ≤ n ∧ n ≤ 9223372036854775807 := by
 simpa [Lit.wf, IntKind.min, IntKind.max, IntKind.signed, IntKind.bits] using h
theorem tc3 {s : SV} (h : jN lay 3 s) : ∃ n, s = .int .i64 n ∧ (Lit.int .i64 n).wf = true := h
theorem own : ownKnob Tryz.prog.godebug = none := by kernel_rfl
theorem law (xs : List TV) (h : aw (sM Tryz.prog lay) [23] xs) : S7 1048577 xs ol = some () := by
 rcases h with _ | ⟨hp0, h⟩
 rename_i p0 _
 rcases h with _ | _
 obtain ⟨cts, l, h1, rfl, h2⟩ := (show ∃ cts l, iD Tryz.prog 4 23 = some cts ∧ p0 = .v (.agg l) ∧ aw (jN lay) cts l from hp0)
 have e : iD Tryz.prog 4 23 = some [3, 3] := by kernel_rfl
 rw [e] at h1
 cases h1
 rcases h2 with _ | ⟨hc0_0, h2⟩
 rcases h2 with _ | ⟨hc0_1, h2⟩
 rcases h2 with _ | _
 obtain ⟨a0, rfl, wa0⟩ := tc3 hc0_0
 obtain ⟨a1, rfl, wa1⟩ := tc3 hc0_1
 exact wB 1048577 (by omega) a0 a1 (Ra wa0) (Ra wa1) (fun z => ol (.v (.one (.bool z))))
/-- The table of powers of ten, by the row's own condition. -/
theorem Tn {w : World} (h : laidMetH Tryz.prog Rows.fnExactFormLineRow.laid w) : inv w := by
 have h1 := h.filter (fun x => x.1 == "internal/strconv.uint64pow10")
 have e : (Rows.fnExactFormLineRow.laid.filter fun x => x.1 == "internal/strconv.uint64pow10") = [("internal/strconv.uint64pow10", Lib.tabData .u64 Lib.pow10Tab)] := by kernel_rfl
 rw [e] at h1
 exact Lib.tabIs_of_head (g := 0) (t := 212) (n := 20) (e := 136) (by kernel_rfl) (by kernel_rfl) (by kernel_rfl) (by kernel_rfl) (by kernel_rfl) (by kernel_rfl) h1
/-- The door's own heap meets the condition. -/
theorem II (os : Os) (args : Array Value) : laidMetH Tryz.prog Rows.fnExactFormLineRow.laid ((World.doorLaid Tryz.prog 34 os).forCall (fun _ _ => 0) ⟨#[], args, []⟩).memory :=
 laidMetH_of_parts3 (fuel := 8) (laidMet_of_run' 8 (by kernel_rfl) (by kernel_rfl)) (by kernel_rfl) (by kernel_rfl)
theorem Sn (os : Os) (started : os.Started) (H : Type) (enc : TypeId × Value → H) :
  ReturnsInHanded {} Tryz.checked os 7 .any (fun w args => (Rows.fnExactFormLineSpec.pre enc Tryz.prog Tryz.f7 [] false w args ∧ laidMetH Tryz.prog Rows.fnExactFormLineRow.laid w) ∧ sizedMet enc Tryz.prog Tryz.f7 (OpenSpec.ofChange Rows.fnExactFormLineSpec) false w args) (Rows.fnExactFormLineSpec.post enc Tryz.prog Tryz.f7 false true false false) :=
 q7 (I := inv) (X := fun w _ => laidMetH Tryz.prog Rows.fnExactFormLineRow.laid w) (fun _ _ h => G6 (Tn h)) (fun _ _ _ hh h => h.of_heap hh) (C := Tryz.checked) (L := lay) (b := 4) own started (by kernel_rfl) Tryz.func7
  (ChangeSpec.witness_shaped (enc := enc) (C := Tryz.checked) (os := os) (X := fun w _ => laidMetH Tryz.prog Rows.fnExactFormLineRow.laid w) false (World.doorLaid Tryz.prog 34 os) #[.agg #[.int .i64 0, .int .i64 0]] 8 rfl (World.shaped_of_RefB (by kernel_rfl) (by kernel_rfl)) (by kernel_rfl) (by kernel_rfl) (by kernel_rfl) (II os _))
  (by decide +kernel) ax (by decide +kernel) rfl Tryz.underlying4 rfl
  (fun ds h => match ds, h with | [_], _ => ⟨rfl, rfl, rfl⟩)
  (o7 1048577) law
theorem over : Rows.fnExactFormLineRow.holds Tryz.pinned (OpenSpec.ofChange Rows.fnExactFormLineSpec) :=
 OpenClaim.holds_of_wide 7 Tryz.f7 rfl rfl rfl rfl rfl rfl rfl ⟨rfl, rfl, rfl, rfl, rfl⟩ rfl rfl rfl rfl rfl (by kernel_rfl) Tryz.func7 (by kernel_rfl)
  (of_decide_eq_true (by kernel_rfl)) (by unfold Func.isWrapper; first | (rw [if_pos (by decide +kernel)]; kernel_rfl) | (rw [if_neg (by decide +kernel)]; exact ⟨rfl, rfl⟩))
  (fun os started H enc _ => Sn os started H enc)
theorem card : Rows.FnExactFormLineCardSaid :=
 Claim7.holds_tied_plain_at .later [] [.data, .data, .data] true (true, "a995deefdc2a0d9234742b8e7a2b487744575527d14801a2960b14dad51cb6f8") false
  over (fun _ h => by cases h) (by kernel_rfl) (fun _ h => by cases h) fnExactFormLine_row_tie rfl ⟨rfl, rfl⟩ (by kernel_rfl) rfl
  (fun f fn hf hfn => by
   obtain rfl : f = 7 := Option.some.inj ((show Tryz.prog.funcNamed "loop.example/g03403/laws.FnExactFormLine" = some 7 by kernel_rfl).symm.trans hf) |>.symm
   obtain rfl : fn = Tryz.f7 := (Option.some.inj (Tryz.func7.symm.trans hfn)).symm
   refine ⟨by kernel_rfl, fun j t ht => ?_⟩
   have hp : Tryz.f7.params = #[23] := by kernel_rfl
   rw [hp] at ht
   have hm : t ∈ [23] := by simpa using Array.mem_of_getElem? ht
   have hall : ([23].all fun u => !Tryz.prog.wantsStandIn u) = true := by kernel_rfl
   exact (show Tryz.prog.wantsStandIn t = false by simpa using Zc.1 hall t hm))
  (by kernel_rfl)
end Go.Proofs.YtemihnclhcobnaaGreatDoor.LFormLine
namespace Go.Proofs.YtemihnclhcobnaaGreatDoor
open Go.Rv
/-- The tied card, under a short name, for the claim. -/
theorem fnExactFormLine_holds : Rows.FnExactFormLineCardSaid := LFormLine.card
#print axioms fnExactFormLine_holds
end Go.Proofs.YtemihnclhcobnaaGreatDoor
