/- The program's WriteAs returns what the reference's returns, for all arguments. -/
import Derived.Test.YtemihnclhcobnaaGreatDoorRows
import Derived.Test.YtemihnclhcobnaaGreatDoorE10
import Derived.Test.YtemihnclhcobnaaGreatDoorRvLaw
import Derived.Test.YtemihnclhcobnaaGreatDoorP91
import Derived.WalkKit
import Derived.ProofKit
import Derived.OpenShut
import Derived.ShutString
import Derived.ChangeOld
import Derived.LaidMore
import Derived.Stop.Joined
import Derived.SevenTiedAt
import Derived.LaidSub
import Derived.Test.YtemihnclhcobnaaGreatDoorCards
import Derived.Test.YtemihnclhcobnaaGreatDoorTie
namespace Go.Proofs.YtemihnclhcobnaaGreatDoor.LWriteAs
open Go.Rv Go.ChangeShapes Go.WideShapes Go.ChangeAt Go.RowKit
set_option maxRecDepth 100000
set_option linter.unusedVariables false
theorem of_wf {n : Int} (h : (Lit.int .i64 n).wf = true) : -9223372036854775808 ≤ n ∧ n ≤ 9223372036854775807 := by
  simpa [Lit.wf, IntKind.min, IntKind.max, IntKind.signed, IntKind.bits] using h
theorem tc9 {s : SV} (h : typedS lay 9 s) : ∃ b, s = .str b ∧ b.size ≤ maxLen := h
theorem tc3 {s : SV} (h : typedS lay 3 s) : ∃ n, s = .int .i64 n ∧ (Lit.int .i64 n).wf = true := h
theorem own : ownKnob Tryz.prog.godebug = none := by kernel_rfl
theorem law (xs : List TV) (h : All2 (typedT Tryz.prog lay) [9, 23] xs) : S5 1048577 xs isTrue = some () := by
  rcases h with _ | ⟨hp0, h⟩
  rename_i p0 _
  rcases h with _ | ⟨hp1, h⟩
  rename_i p1 _
  rcases h with _ | _
  obtain ⟨s0, rfl, hc0_0⟩ := (show ∃ s, p0 = .v (.one s) ∧ typedS lay 9 s from hp0)
  obtain ⟨a0, rfl, wa0⟩ := tc9 hc0_0
  rw [maxLen_eq] at wa0
  obtain ⟨cts, l, h1, rfl, h2⟩ := (show ∃ cts l, flatOf Tryz.prog 4 23 = some cts ∧ p1 = .v (.agg l) ∧ All2 (typedS lay) cts l from hp1)
  have e : flatOf Tryz.prog 4 23 = some [3, 3] := by kernel_rfl
  rw [e] at h1
  cases h1
  rcases h2 with _ | ⟨hc1_0, h2⟩
  rcases h2 with _ | ⟨hc1_1, h2⟩
  rcases h2 with _ | _
  obtain ⟨a1, rfl, wa1⟩ := tc3 hc1_0
  obtain ⟨a2, rfl, wa2⟩ := tc3 hc1_1
  exact law_WriteAs 1048577 (by omega) a0 a1 a2 (by omega) (of_wf wa1) (of_wf wa2) (fun z => isTrue (.v (.one (.bool z))))
/-- The table of powers of ten, by the row's own condition. -/
theorem tab_of {w : World} (h : laidMetH Tryz.prog Rows.fnExactWriteAsRow.laid w) : inv w := by
  have h1 := h.filter (fun x => x.1 == "internal/strconv.uint64pow10")
  have e : (Rows.fnExactWriteAsRow.laid.filter fun x => x.1 == "internal/strconv.uint64pow10") = [("internal/strconv.uint64pow10", Lib.tabData .u64 Lib.pow10Tab)] := by kernel_rfl
  rw [e] at h1
  exact Lib.tabIs_of_head (g := 0) (t := 212) (n := 20) (e := 136) (by kernel_rfl) (by kernel_rfl) (by kernel_rfl) (by kernel_rfl) (by kernel_rfl) (by kernel_rfl) h1
/-- The door's own heap meets the condition. -/
theorem door_met (os : Os) (args : Array Value) : laidMetH Tryz.prog Rows.fnExactWriteAsRow.laid ((World.doorLaid Tryz.prog 34 os).forCall (fun _ _ => 0) ⟨#[], args, []⟩).memory :=
  laidMetH_of_parts3 (fuel := 8) (laidMet_of_run' 8 (by kernel_rfl) (by kernel_rfl)) (by kernel_rfl) (by kernel_rfl)
theorem lifted (os : Os) (started : os.Started) (H : Type) (enc : TypeId × Value → H) :
    ReturnsInHanded {} Tryz.checked os 5 .any (fun w args => (Rows.fnExactWriteAsSpec.pre enc Tryz.prog Tryz.f5 [] false w args ∧ laidMetH Tryz.prog Rows.fnExactWriteAsRow.laid w) ∧ sizedMet enc Tryz.prog Tryz.f5 (OpenSpec.ofChange Rows.fnExactWriteAsSpec) false w args) (Rows.fnExactWriteAsSpec.post enc Tryz.prog Tryz.f5 false true false false) :=
  law_lifted_and (I := inv) (X := fun w _ => laidMetH Tryz.prog Rows.fnExactWriteAsRow.laid w) (fun _ _ h => tab_known (tab_of h)) (fun _ _ _ hh h => h.of_heap hh) (C := Tryz.checked) (L := lay) (b := 4) own started (by kernel_rfl) Tryz.func5
    (ChangeSpec.witness_shaped (enc := enc) (C := Tryz.checked) (os := os) (X := fun w _ => laidMetH Tryz.prog Rows.fnExactWriteAsRow.laid w) false (World.doorLaid Tryz.prog 34 os) #[.string ByteArray.empty, .agg #[.int .i64 0, .int .i64 0]] 8 rfl (World.shaped_of_RefB (by kernel_rfl) (by kernel_rfl)) (by kernel_rfl) (by kernel_rfl) (by kernel_rfl) (door_met os _))
    (by decide +kernel) lay_ok (by decide +kernel) rfl Tryz.underlying4 rfl
    (fun ds h => match ds, h with | [_, _], _ => ⟨rfl, rfl, rfl⟩)
    (o5 1048577) law
theorem over : Rows.fnExactWriteAsRow.holds Tryz.pinned (OpenSpec.ofChange Rows.fnExactWriteAsSpec) :=
  OpenClaim.holds_of_wide 5 Tryz.f5 rfl rfl rfl rfl rfl rfl rfl ⟨rfl, rfl, rfl, rfl, rfl⟩ rfl rfl rfl rfl rfl (by kernel_rfl) Tryz.func5 (by kernel_rfl)
    (of_decide_eq_true (by kernel_rfl)) (by unfold Func.isWrapper; first | (rw [if_pos (by decide +kernel)]; kernel_rfl) | (rw [if_neg (by decide +kernel)]; exact ⟨rfl, rfl⟩))
    (fun os started H enc _ => lifted os started H enc)
theorem card : Rows.FnExactWriteAsCardSaid :=
  Claim7.holds_tied_plain_at .later [] [.data, .data, .data] true (true, "a995deefdc2a0d9234742b8e7a2b487744575527d14801a2960b14dad51cb6f8") false
    over (fun _ h => by cases h) (by kernel_rfl) (fun _ h => by cases h) fnExactWriteAs_row_tie rfl ⟨rfl, rfl⟩ (by kernel_rfl) rfl
    (fun f fn hf hfn => by
      obtain rfl : f = 5 := Option.some.inj ((show Tryz.prog.funcNamed "loop.example/g03403/laws.FnExactWriteAs" = some 5 by kernel_rfl).symm.trans hf) |>.symm
      obtain rfl : fn = Tryz.f5 := (Option.some.inj (Tryz.func5.symm.trans hfn)).symm
      refine ⟨by kernel_rfl, fun j t ht => ?_⟩
      have hp : Tryz.f5.params = #[9, 23] := by kernel_rfl
      rw [hp] at ht
      have hm : t ∈ [9, 23] := by simpa using Array.mem_of_getElem? ht
      have hall : ([9, 23].all fun u => !Tryz.prog.wantsStandIn u) = true := by kernel_rfl
      exact (show Tryz.prog.wantsStandIn t = false by simpa using List.all_eq_true.1 hall t hm))
    (by kernel_rfl)
end Go.Proofs.YtemihnclhcobnaaGreatDoor.LWriteAs
namespace Go.Proofs.YtemihnclhcobnaaGreatDoor
/-- The tied card, under a short name, for the claim. -/
theorem fnExactWriteAs_holds : Rows.FnExactWriteAsCardSaid := LWriteAs.card
#print axioms fnExactWriteAs_holds
end Go.Proofs.YtemihnclhcobnaaGreatDoor
