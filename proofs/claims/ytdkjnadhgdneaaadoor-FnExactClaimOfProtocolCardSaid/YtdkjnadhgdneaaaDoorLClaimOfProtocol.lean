/- The program's ClaimOfProtocol returns what the reference's returns, for all arguments. -/
import Derived.Test.YtdkjnadhgdneaaaDoorRows
import Derived.Test.YtdkjnadhgdneaaaDoorE5
import Derived.Test.YtdkjnadhgdneaaaDoorRvLaw
import Derived.Test.YtdkjnadhgdneaaaDoorP36
import Derived.WalkKit
import Derived.ProofKit
import Derived.OpenShut
import Derived.ShutString
import Derived.ChangeOld
import Derived.LaidMore
import Derived.Stop.Joined
import Derived.SevenTiedAt
import Derived.Test.YtdkjnadhgdneaaaDoorCards
import Derived.Test.YtdkjnadhgdneaaaDoorTie
namespace Go.Proofs.YtdkjnadhgdneaaaDoor.LClaimOfProtocol
open Go.Rv Go.ChangeShapes Go.WideShapes Go.ChangeAt Go.RowKit
set_option maxRecDepth 100000
set_option linter.unusedVariables false
theorem of_wf {n : Int} (h : (Lit.int .i64 n).wf = true) : -9223372036854775808 ≤ n ∧ n ≤ 9223372036854775807 := by
  simpa [Lit.wf, IntKind.min, IntKind.max, IntKind.signed, IntKind.bits] using h
theorem tc3 {s : SV} (h : typedS lay 3 s) : ∃ n, s = .int .i64 n ∧ (Lit.int .i64 n).wf = true := h
theorem own : ownKnob Tryd.prog.godebug = none := by kernel_rfl
theorem law (xs : List TV) (h : All2 (typedT Tryd.prog lay) [23, 3] xs) : S4 1048577 xs isTrue = some () := by
  rcases h with _ | ⟨hp0, h⟩
  rename_i p0 _
  rcases h with _ | ⟨hp1, h⟩
  rename_i p1 _
  rcases h with _ | _
  obtain ⟨cts, l, h1, rfl, h2⟩ := (show ∃ cts l, flatOf Tryd.prog 4 23 = some cts ∧ p0 = .v (.agg l) ∧ All2 (typedS lay) cts l from hp0)
  have e : flatOf Tryd.prog 4 23 = some [3, 3] := by kernel_rfl
  rw [e] at h1
  cases h1
  rcases h2 with _ | ⟨hc0_0, h2⟩
  rcases h2 with _ | ⟨hc0_1, h2⟩
  rcases h2 with _ | _
  obtain ⟨a0, rfl, wa0⟩ := tc3 hc0_0
  obtain ⟨a1, rfl, wa1⟩ := tc3 hc0_1
  obtain ⟨s1, rfl, hc1_0⟩ := (show ∃ s, p1 = .v (.one s) ∧ typedS lay 3 s from hp1)
  obtain ⟨a2, rfl, wa2⟩ := tc3 hc1_0
  exact law_ClaimOfProtocol 1048577 (by omega) a0 a1 a2 (of_wf wa0) (of_wf wa1) (of_wf wa2) (fun z => isTrue (.v (.one (.bool z))))
/-- The door's own heap meets the condition. -/
theorem door_met (os : Os) (args : Array Value) : laidMetH Tryd.prog Rows.fnExactClaimOfProtocolRow.laid ((World.doorLaid Tryd.prog 24 os).forCall (fun _ _ => 0) ⟨#[], args, []⟩).memory :=
  laidMetH_of_parts3 (fuel := 8) (laidMet_of_run' 8 (by kernel_rfl) (by kernel_rfl)) (by kernel_rfl) (by kernel_rfl)
theorem lifted (os : Os) (started : os.Started) (H : Type) (enc : TypeId × Value → H) :
    ReturnsInHanded {} Tryd.checked os 4 .any (fun w args => (Rows.fnExactClaimOfProtocolSpec.pre enc Tryd.prog Tryd.f4 [] false w args ∧ laidMetH Tryd.prog Rows.fnExactClaimOfProtocolRow.laid w) ∧ sizedMet enc Tryd.prog Tryd.f4 (OpenSpec.ofChange Rows.fnExactClaimOfProtocolSpec) false w args) (Rows.fnExactClaimOfProtocolSpec.post enc Tryd.prog Tryd.f4 false true false false) :=
  law_lifted_and (X := fun w _ => laidMetH Tryd.prog Rows.fnExactClaimOfProtocolRow.laid w) (fun _ _ _ hh h => h.of_heap hh) (C := Tryd.checked) (L := lay) (b := 4) own started (by kernel_rfl) Tryd.func4
    (ChangeSpec.witness_shaped (enc := enc) (C := Tryd.checked) (os := os) (X := fun w _ => laidMetH Tryd.prog Rows.fnExactClaimOfProtocolRow.laid w) false (World.doorLaid Tryd.prog 24 os) #[.agg #[.int .i64 0, .int .i64 0], .int .i64 0] 8 rfl (World.shaped_of_RefB (by kernel_rfl) (by kernel_rfl)) (by kernel_rfl) (by kernel_rfl) (by kernel_rfl) (door_met os _))
    (by decide +kernel) lay_ok (by decide +kernel) rfl Tryd.underlying4 rfl
    (fun ds h => match ds, h with | [_, _], _ => ⟨rfl, rfl, rfl⟩)
    (o4 1048577) law
theorem over : Rows.fnExactClaimOfProtocolRow.holds Tryd.pinned (OpenSpec.ofChange Rows.fnExactClaimOfProtocolSpec) :=
  OpenClaim.holds_of_wide 4 Tryd.f4 rfl rfl rfl rfl rfl rfl rfl ⟨rfl, rfl, rfl, rfl, rfl⟩ rfl rfl rfl rfl rfl (by kernel_rfl) Tryd.func4 (by kernel_rfl)
    (of_decide_eq_true (by kernel_rfl)) (by unfold Func.isWrapper; first | (rw [if_pos (by decide +kernel)]; kernel_rfl) | (rw [if_neg (by decide +kernel)]; exact ⟨rfl, rfl⟩))
    (fun os started H enc _ => lifted os started H enc)
theorem card : Rows.FnExactClaimOfProtocolCardSaid :=
  Claim7.holds_tied_plain_at .later [] [.data, .data, .data] true (true, "8bcea8df615a6bb085ca46e07e7d8a45755c86bc55c4574a6a269dc7cc6eb22f") false
    over (fun _ h => by cases h) (by kernel_rfl) (fun _ h => by cases h) fnExactClaimOfProtocol_row_tie rfl ⟨rfl, rfl⟩ (by kernel_rfl) rfl
    (fun f fn hf hfn => by
      obtain rfl : f = 4 := Option.some.inj ((show Tryd.prog.funcNamed "loop.example/g03403/laws.FnExactClaimOfProtocol" = some 4 by kernel_rfl).symm.trans hf) |>.symm
      obtain rfl : fn = Tryd.f4 := (Option.some.inj (Tryd.func4.symm.trans hfn)).symm
      refine ⟨by kernel_rfl, fun j t ht => ?_⟩
      have hp : Tryd.f4.params = #[23, 3] := by kernel_rfl
      rw [hp] at ht
      have hm : t ∈ [23, 3] := by simpa using Array.mem_of_getElem? ht
      have hall : ([23, 3].all fun u => !Tryd.prog.wantsStandIn u) = true := by kernel_rfl
      exact (show Tryd.prog.wantsStandIn t = false by simpa using List.all_eq_true.1 hall t hm))
    (by kernel_rfl)
end Go.Proofs.YtdkjnadhgdneaaaDoor.LClaimOfProtocol
namespace Go.Proofs.YtdkjnadhgdneaaaDoor
/-- The tied card, under a short name, for the claim. -/
theorem fnExactClaimOfProtocol_holds : Rows.FnExactClaimOfProtocolCardSaid := LClaimOfProtocol.card
#print axioms fnExactClaimOfProtocol_holds
end Go.Proofs.YtdkjnadhgdneaaaDoor
