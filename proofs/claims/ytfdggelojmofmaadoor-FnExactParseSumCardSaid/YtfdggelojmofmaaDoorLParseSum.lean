/- The program's ParseSum returns what the reference's returns, for all arguments. -/
import Derived.Test.YtfdggelojmofmaaDoorRows
import Derived.Test.YtfdggelojmofmaaDoorE2
import Derived.Test.YtfdggelojmofmaaDoorRvLaw
import Derived.Test.YtfdggelojmofmaaDoorP86
import Derived.WalkKit
import Derived.ProofKit
import Derived.OpenShut
import Derived.ShutString
import Derived.ChangeOld
import Derived.LaidMore
import Derived.Lay
import Derived.Stop.Joined
import Derived.SevenTiedAt
import Derived.LaidSub
import Derived.Test.YtfdggelojmofmaaDoorCards
import Derived.Test.YtfdggelojmofmaaDoorTie
namespace Go.Proofs.YtfdggelojmofmaaDoor.LParseSum
open Go.Rv Go.ChangeShapes Go.WideShapes Go.ChangeAt Go.RowKit
set_option maxRecDepth 100000
set_option linter.unusedVariables false
theorem of_wf {n : Int} (h : (Lit.int .i64 n).wf = true) : -9223372036854775808 ≤ n ∧ n ≤ 9223372036854775807 := by
  simpa [Lit.wf, IntKind.min, IntKind.max, IntKind.signed, IntKind.bits] using h
theorem tc3 {s : SV} (h : typedS lay 3 s) : ∃ n, s = .int .i64 n ∧ (Lit.int .i64 n).wf = true := h
theorem tc9 {s : SV} (h : typedS lay 9 s) : ∃ b, s = .str b ∧ b.size ≤ maxLen := h
theorem own : ownKnob Tryd.prog.godebug = none := by kernel_rfl
theorem law (xs : List TV) (h : All2 (typedT Tryd.prog lay) [3, 9] xs) : S5 1048577 xs isTrue = some () := by
  rcases h with _ | ⟨hp0, h⟩
  rename_i p0 _
  rcases h with _ | ⟨hp1, h⟩
  rename_i p1 _
  rcases h with _ | _
  obtain ⟨s0, rfl, hc0_0⟩ := (show ∃ s, p0 = .v (.one s) ∧ typedS lay 3 s from hp0)
  obtain ⟨a0, rfl, wa0⟩ := tc3 hc0_0
  obtain ⟨s1, rfl, hc1_0⟩ := (show ∃ s, p1 = .v (.one s) ∧ typedS lay 9 s from hp1)
  obtain ⟨a1, rfl, wa1⟩ := tc9 hc1_0
  rw [maxLen_eq] at wa1
  exact law_ParseSum 1048577 (by omega) a0 a1 (of_wf wa0) (by omega) (fun z => isTrue (.v (.one (.bool z))))
theorem lifted (os : Os) (started : os.Started) (H : Type) (enc : TypeId × Value → H) :
    ReturnsInHanded {} Tryd.checked os 5 .any (fun w args => (Rows.fnExactParseSumSpec.pre enc Tryd.prog Tryd.f5 [] false w args ∧ laidMetH Tryd.prog Rows.fnExactParseSumRow.laid w) ∧ sizedMet enc Tryd.prog Tryd.f5 (OpenSpec.ofChange Rows.fnExactParseSumSpec) false w args) (Rows.fnExactParseSumSpec.post enc Tryd.prog Tryd.f5 false true false false) :=
  law_lifted_and (I := inv) (X := fun w _ => laidMetH Tryd.prog Rows.fnExactParseSumRow.laid w) (fun _ _ _ _ _ => trivial) (fun _ _ _ hh h => h.of_heap hh) (C := Tryd.checked) (L := lay) (b := 4) own started (by kernel_rfl) Tryd.func5
    (ChangeSpec.witness_shaped (enc := enc) (C := Tryd.checked) (os := os) (X := fun w _ => laidMetH Tryd.prog Rows.fnExactParseSumRow.laid w) false (World.laidAll Tryd.prog os Rows.fnExactParseSumRow.laid) #[.int .i64 0, .string ByteArray.empty] 8 (World.laidAll_os _ _ _)
      (World.shaped_of_ZipB (by kernel_rfl) (by kernel_rfl)) (by kernel_rfl) (by kernel_rfl) (by kernel_rfl)
      (by rw [MakeChecks.laidMetH_plain _ _ _ (by kernel_rfl)]; exact laidMet_laidAll _ (by kernel_rfl) (by kernel_rfl)))
    (by decide +kernel) lay_ok (by decide +kernel) rfl Tryd.underlying4 rfl
    (fun ds h => match ds, h with | [_, _], _ => ⟨rfl, rfl, rfl⟩)
    (o5 1048577) law
theorem over : Rows.fnExactParseSumRow.holds Tryd.pinned (OpenSpec.ofChange Rows.fnExactParseSumSpec) :=
  OpenClaim.holds_of_wide 5 Tryd.f5 rfl rfl rfl rfl rfl rfl rfl ⟨rfl, rfl, rfl, rfl, rfl⟩ rfl rfl rfl rfl rfl (by kernel_rfl) Tryd.func5 (by kernel_rfl)
    (of_decide_eq_true (by kernel_rfl)) (by unfold Func.isWrapper; first | (rw [if_pos (by decide +kernel)]; kernel_rfl) | (rw [if_neg (by decide +kernel)]; exact ⟨rfl, rfl⟩))
    (fun os started H enc _ => lifted os started H enc)
theorem card : Rows.FnExactParseSumCardSaid :=
  Claim7.holds_tied_plain_at .later [] [.data, .pinned] true (true, "d2e20be26b96bc0881c05f3fb613d506a3d45d15deea76a7fe5b8dda580a50d8") false
    over (fun _ h => by cases h) (by kernel_rfl) (fun _ h => by cases h) fnExactParseSum_row_tie rfl ⟨rfl, rfl⟩ (by kernel_rfl) rfl
    (fun f fn hf hfn => by
      obtain rfl : f = 5 := Option.some.inj ((show Tryd.prog.funcNamed "loop.example/g03403/laws.FnExactParseSum" = some 5 by kernel_rfl).symm.trans hf) |>.symm
      obtain rfl : fn = Tryd.f5 := (Option.some.inj (Tryd.func5.symm.trans hfn)).symm
      refine ⟨by kernel_rfl, fun j t ht => ?_⟩
      have hp : Tryd.f5.params = #[3, 9] := by kernel_rfl
      rw [hp] at ht
      have hm : t ∈ [3, 9] := by simpa using Array.mem_of_getElem? ht
      have hall : ([3, 9].all fun u => !Tryd.prog.wantsStandIn u) = true := by kernel_rfl
      exact (show Tryd.prog.wantsStandIn t = false by simpa using List.all_eq_true.1 hall t hm))
    (by kernel_rfl)
end Go.Proofs.YtfdggelojmofmaaDoor.LParseSum
namespace Go.Proofs.YtfdggelojmofmaaDoor
/-- The tied card, under a short name, for the claim. -/
theorem fnExactParseSum_holds : Rows.FnExactParseSumCardSaid := LParseSum.card
#print axioms fnExactParseSum_holds
end Go.Proofs.YtfdggelojmofmaaDoor
