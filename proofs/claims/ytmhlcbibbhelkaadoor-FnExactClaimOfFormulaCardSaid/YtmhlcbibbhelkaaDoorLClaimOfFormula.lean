/- The program's ClaimOfFormula returns what the reference's returns, for all arguments. -/
import Derived.Test.YtmhlcbibbhelkaaDoorRows
import Derived.Test.YtmhlcbibbhelkaaDoorE5
import Derived.Test.YtmhlcbibbhelkaaDoorRvLaw
import Derived.Test.YtmhlcbibbhelkaaDoorP91
import Derived.WalkKit
import Derived.ProofKit
import Derived.OpenShut
import Derived.ShutString
import Derived.ChangeOld
import Derived.LaidMore
import Derived.Stop.Joined
import Derived.SevenTiedAt
import Derived.LaidSub
import Derived.Test.YtmhlcbibbhelkaaDoorCards
import Derived.Test.YtmhlcbibbhelkaaDoorTie
namespace Go.Proofs.YtmhlcbibbhelkaaDoor.LClaimOfFormula
open Go.Rv Go.ChangeShapes Go.WideShapes Go.ChangeAt Go.RowKit
set_option maxRecDepth 100000
set_option linter.unusedVariables false
theorem of_wf {n : Int} (h : (Lit.int .i64 n).wf = true) : -9223372036854775808 ≤ n ∧ n ≤ 9223372036854775807 := by
  simpa [Lit.wf, IntKind.min, IntKind.max, IntKind.signed, IntKind.bits] using h
theorem tc3 {s : SV} (h : typedS lay 3 s) : ∃ n, s = .int .i64 n ∧ (Lit.int .i64 n).wf = true := h
theorem own : ownKnob Tryd.prog.godebug = none := by kernel_rfl
theorem law (xs : List TV) (h : All2 (typedT Tryd.prog lay) [23] xs) : S3 1048577 xs isTrue = some () := by
  rcases h with _ | ⟨hp0, h⟩
  rename_i p0 _
  rcases h with _ | _
  obtain ⟨cts, l, h1, rfl, h2⟩ := (show ∃ cts l, flatOf Tryd.prog 4 23 = some cts ∧ p0 = .v (.agg l) ∧ All2 (typedS lay) cts l from hp0)
  have e : flatOf Tryd.prog 4 23 = some [3, 3] := by kernel_rfl
  rw [e] at h1
  cases h1
  rcases h2 with _ | ⟨hc0_0, h2⟩
  rcases h2 with _ | ⟨hc0_1, h2⟩
  rcases h2 with _ | _
  obtain ⟨a0, rfl, wa0⟩ := tc3 hc0_0
  obtain ⟨a1, rfl, wa1⟩ := tc3 hc0_1
  exact law_ClaimOfFormula 1048577 (by omega) a0 a1 (of_wf wa0) (of_wf wa1) (fun z => isTrue (.v (.one (.bool z))))
/-- The table of powers of ten, by the row's own condition. -/
theorem tab_of {w : World} (h : laidMetH Tryd.prog Rows.fnExactClaimOfFormulaRow.laid w) : inv w := by
  have h1 := h.filter (fun x => x.1 == "internal/strconv.uint64pow10")
  have e : (Rows.fnExactClaimOfFormulaRow.laid.filter fun x => x.1 == "internal/strconv.uint64pow10") = [("internal/strconv.uint64pow10", Lib.tabData .u64 Lib.pow10Tab)] := by kernel_rfl
  rw [e] at h1
  exact Lib.tabIs_of_head (g := 0) (t := 76) (n := 20) (e := 66) (by kernel_rfl) (by kernel_rfl) (by kernel_rfl) (by kernel_rfl) (by kernel_rfl) (by kernel_rfl) h1
/-- The door's own heap meets the condition. -/
theorem door_met (os : Os) (args : Array Value) : laidMetH Tryd.prog Rows.fnExactClaimOfFormulaRow.laid ((World.doorLaid Tryd.prog 24 os).forCall (fun _ _ => 0) ⟨#[], args, []⟩).memory :=
  laidMetH_of_parts3 (fuel := 8) (laidMet_of_run' 8 (by kernel_rfl) (by kernel_rfl)) (by kernel_rfl) (by kernel_rfl)
theorem lifted (os : Os) (started : os.Started) (H : Type) (enc : TypeId × Value → H) :
    ReturnsInHanded {} Tryd.checked os 3 .any (fun w args => (Rows.fnExactClaimOfFormulaSpec.pre enc Tryd.prog Tryd.f3 [] false w args ∧ laidMetH Tryd.prog Rows.fnExactClaimOfFormulaRow.laid w) ∧ sizedMet enc Tryd.prog Tryd.f3 (OpenSpec.ofChange Rows.fnExactClaimOfFormulaSpec) false w args) (Rows.fnExactClaimOfFormulaSpec.post enc Tryd.prog Tryd.f3 false true false false) :=
  law_lifted_and (I := inv) (X := fun w _ => laidMetH Tryd.prog Rows.fnExactClaimOfFormulaRow.laid w) (fun _ _ h => tab_known (tab_of h)) (fun _ _ _ hh h => h.of_heap hh) (C := Tryd.checked) (L := lay) (b := 4) own started (by kernel_rfl) Tryd.func3
    (ChangeSpec.witness_shaped (enc := enc) (C := Tryd.checked) (os := os) (X := fun w _ => laidMetH Tryd.prog Rows.fnExactClaimOfFormulaRow.laid w) false (World.doorLaid Tryd.prog 24 os) #[.agg #[.int .i64 0, .int .i64 0]] 8 rfl (World.shaped_of_RefB (by kernel_rfl) (by kernel_rfl)) (by kernel_rfl) (by kernel_rfl) (by kernel_rfl) (door_met os _))
    (by decide +kernel) lay_ok (by decide +kernel) rfl Tryd.underlying4 rfl
    (fun ds h => match ds, h with | [_], _ => ⟨rfl, rfl, rfl⟩)
    (o3 1048577) law
theorem over : Rows.fnExactClaimOfFormulaRow.holds Tryd.pinned (OpenSpec.ofChange Rows.fnExactClaimOfFormulaSpec) :=
  OpenClaim.holds_of_wide 3 Tryd.f3 rfl rfl rfl rfl rfl rfl rfl ⟨rfl, rfl, rfl, rfl, rfl⟩ rfl rfl rfl rfl rfl (by kernel_rfl) Tryd.func3 (by kernel_rfl)
    (of_decide_eq_true (by kernel_rfl)) (by unfold Func.isWrapper; first | (rw [if_pos (by decide +kernel)]; kernel_rfl) | (rw [if_neg (by decide +kernel)]; exact ⟨rfl, rfl⟩))
    (fun os started H enc _ => lifted os started H enc)
theorem card : Rows.FnExactClaimOfFormulaCardSaid :=
  Claim7.holds_tied_plain_at .later [] [.data, .data, .data] true (true, "e8eb3233cb2491f4d47154615285aab5aa1a1581e75300c14766a8964d103f80") false
    over (fun _ h => by cases h) (by kernel_rfl) (fun _ h => by cases h) fnExactClaimOfFormula_row_tie rfl ⟨rfl, rfl⟩ (by kernel_rfl) rfl
    (fun f fn hf hfn => by
      obtain rfl : f = 3 := Option.some.inj ((show Tryd.prog.funcNamed "loop.example/g03403/laws.FnExactClaimOfFormula" = some 3 by kernel_rfl).symm.trans hf) |>.symm
      obtain rfl : fn = Tryd.f3 := (Option.some.inj (Tryd.func3.symm.trans hfn)).symm
      refine ⟨by kernel_rfl, fun j t ht => ?_⟩
      have hp : Tryd.f3.params = #[23] := by kernel_rfl
      rw [hp] at ht
      have hm : t ∈ [23] := by simpa using Array.mem_of_getElem? ht
      have hall : ([23].all fun u => !Tryd.prog.wantsStandIn u) = true := by kernel_rfl
      exact (show Tryd.prog.wantsStandIn t = false by simpa using List.all_eq_true.1 hall t hm))
    (by kernel_rfl)
end Go.Proofs.YtmhlcbibbhelkaaDoor.LClaimOfFormula
namespace Go.Proofs.YtmhlcbibbhelkaaDoor
/-- The tied card, under a short name, for the claim. -/
theorem fnExactClaimOfFormula_holds : Rows.FnExactClaimOfFormulaCardSaid := LClaimOfFormula.card
#print axioms fnExactClaimOfFormula_holds
end Go.Proofs.YtmhlcbibbhelkaaDoor
