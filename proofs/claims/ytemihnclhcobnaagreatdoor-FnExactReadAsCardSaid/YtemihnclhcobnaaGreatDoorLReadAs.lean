/- The program's ReadAs returns what the reference's returns, for all arguments. -/
import Derived.Test.YtemihnclhcobnaaGreatDoorRows
import Derived.Test.YtemihnclhcobnaaGreatDoorE8
import Derived.Test.YtemihnclhcobnaaGreatDoorRvLaw
import Derived.Test.YtemihnclhcobnaaGreatDoorP92
import Derived.WalkKit
import Derived.ProofKit
import Derived.OpenShut
import Derived.ShutString
import Derived.ChangeOld
import Derived.LaidMore
import Derived.Lay
import Derived.Stop.Joined
import Derived.SevenTiedAt
import Derived.LaidSub
import Derived.Test.YtemihnclhcobnaaGreatDoorCards
import Derived.Test.YtemihnclhcobnaaGreatDoorTie
namespace Go.Proofs.YtemihnclhcobnaaGreatDoor.LReadAs
open Go.Rv Go.ChangeShapes Go.WideShapes Go.ChangeAt Go.RowKit
set_option maxRecDepth 100000
set_option linter.unusedVariables false
theorem of_wf {n : Int} (h : (Lit.int .i64 n).wf = true) : -9223372036854775808 ≤ n ∧ n ≤ 9223372036854775807 := by
  simpa [Lit.wf, IntKind.min, IntKind.max, IntKind.signed, IntKind.bits] using h
theorem tc9 {s : SV} (h : typedS lay 9 s) : ∃ b, s = .str b ∧ b.size ≤ maxLen := h
theorem tc3 {s : SV} (h : typedS lay 3 s) : ∃ n, s = .int .i64 n ∧ (Lit.int .i64 n).wf = true := h
theorem own : ownKnob Tryz.prog.godebug = none := by kernel_rfl
theorem law (xs : List TV) (h : All2 (typedT Tryz.prog lay) [9, 3, 9] xs) : S4 1048577 xs isTrue = some () := by
  rcases h with _ | ⟨hp0, h⟩
  rename_i p0 _
  rcases h with _ | ⟨hp1, h⟩
  rename_i p1 _
  rcases h with _ | ⟨hp2, h⟩
  rename_i p2 _
  rcases h with _ | _
  obtain ⟨s0, rfl, hc0_0⟩ := (show ∃ s, p0 = .v (.one s) ∧ typedS lay 9 s from hp0)
  obtain ⟨a0, rfl, wa0⟩ := tc9 hc0_0
  rw [maxLen_eq] at wa0
  obtain ⟨s1, rfl, hc1_0⟩ := (show ∃ s, p1 = .v (.one s) ∧ typedS lay 3 s from hp1)
  obtain ⟨a1, rfl, wa1⟩ := tc3 hc1_0
  obtain ⟨s2, rfl, hc2_0⟩ := (show ∃ s, p2 = .v (.one s) ∧ typedS lay 9 s from hp2)
  obtain ⟨a2, rfl, wa2⟩ := tc9 hc2_0
  rw [maxLen_eq] at wa2
  exact law_ReadAs 1048577 (by omega) a0 a1 a2 (by omega) (of_wf wa1) (by omega) (fun z => isTrue (.v (.one (.bool z))))
theorem lifted (os : Os) (started : os.Started) (H : Type) (enc : TypeId × Value → H) :
    ReturnsInHanded {} Tryz.checked os 4 .any (fun w args => (Rows.fnExactReadAsSpec.pre enc Tryz.prog Tryz.f4 [] false w args ∧ laidMetH Tryz.prog Rows.fnExactReadAsRow.laid w) ∧ sizedMet enc Tryz.prog Tryz.f4 (OpenSpec.ofChange Rows.fnExactReadAsSpec) false w args) (Rows.fnExactReadAsSpec.post enc Tryz.prog Tryz.f4 false true false false) :=
  law_lifted_and (I := inv) (X := fun w _ => laidMetH Tryz.prog Rows.fnExactReadAsRow.laid w) (fun _ _ _ _ _ => trivial) (fun _ _ _ hh h => h.of_heap hh) (C := Tryz.checked) (L := lay) (b := 4) own started (by kernel_rfl) Tryz.func4
    (ChangeSpec.witness_shaped (enc := enc) (C := Tryz.checked) (os := os) (X := fun w _ => laidMetH Tryz.prog Rows.fnExactReadAsRow.laid w) false (World.laidAll Tryz.prog os Rows.fnExactReadAsRow.laid) #[.string ByteArray.empty, .int .i64 0, .string ByteArray.empty] 8 (World.laidAll_os _ _ _) (World.shaped_of_ZipB (by kernel_rfl) (by kernel_rfl)) (by kernel_rfl) (by kernel_rfl) (by kernel_rfl) (by rw [MakeChecks.laidMetH_plain _ _ _ (by kernel_rfl)]; exact laidMet_laidAll _ (by kernel_rfl) (by kernel_rfl)))
    (by decide +kernel) lay_ok (by decide +kernel) rfl Tryz.underlying4 rfl
    (fun ds h => match ds, h with | [_, _, _], _ => ⟨rfl, rfl, rfl⟩)
    (o4 1048577) law
theorem over : Rows.fnExactReadAsRow.holds Tryz.pinned (OpenSpec.ofChange Rows.fnExactReadAsSpec) :=
  OpenClaim.holds_of_wide 4 Tryz.f4 rfl rfl rfl rfl rfl rfl rfl ⟨rfl, rfl, rfl, rfl, rfl⟩ rfl rfl rfl rfl rfl (by kernel_rfl) Tryz.func4 (by kernel_rfl)
    (of_decide_eq_true (by kernel_rfl)) (by unfold Func.isWrapper; first | (rw [if_pos (by decide +kernel)]; kernel_rfl) | (rw [if_neg (by decide +kernel)]; exact ⟨rfl, rfl⟩))
    (fun os started H enc _ => lifted os started H enc)
theorem card : Rows.FnExactReadAsCardSaid :=
  Claim7.holds_tied_plain_at .later [] [.data, .pinned] true (true, "a995deefdc2a0d9234742b8e7a2b487744575527d14801a2960b14dad51cb6f8") false
    over (fun _ h => by cases h) (by kernel_rfl) (fun _ h => by cases h) fnExactReadAs_row_tie rfl ⟨rfl, rfl⟩ (by kernel_rfl) rfl
    (fun f fn hf hfn => by
      obtain rfl : f = 4 := Option.some.inj ((show Tryz.prog.funcNamed "loop.example/g03403/laws.FnExactReadAs" = some 4 by kernel_rfl).symm.trans hf) |>.symm
      obtain rfl : fn = Tryz.f4 := (Option.some.inj (Tryz.func4.symm.trans hfn)).symm
      refine ⟨by kernel_rfl, fun j t ht => ?_⟩
      have hp : Tryz.f4.params = #[9, 3, 9] := by kernel_rfl
      rw [hp] at ht
      have hm : t ∈ [9, 3, 9] := by simpa using Array.mem_of_getElem? ht
      have hall : ([9, 3, 9].all fun u => !Tryz.prog.wantsStandIn u) = true := by kernel_rfl
      exact (show Tryz.prog.wantsStandIn t = false by simpa using List.all_eq_true.1 hall t hm))
    (by kernel_rfl)
end Go.Proofs.YtemihnclhcobnaaGreatDoor.LReadAs
namespace Go.Proofs.YtemihnclhcobnaaGreatDoor
/-- The tied card, under a short name, for the claim. -/
theorem fnExactReadAs_holds : Rows.FnExactReadAsCardSaid := LReadAs.card
#print axioms fnExactReadAs_holds
end Go.Proofs.YtemihnclhcobnaaGreatDoor
