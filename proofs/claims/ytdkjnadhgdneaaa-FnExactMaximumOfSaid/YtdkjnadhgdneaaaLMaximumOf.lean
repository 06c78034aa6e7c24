/- The program's MaximumOf returns what the reference's returns, for all arguments. -/
import Derived.Test.YtdkjnadhgdneaaaRows
import Derived.Test.YtdkjnadhgdneaaaE7
import Derived.Test.YtdkjnadhgdneaaaRvLaw
import Derived.Test.YtdkjnadhgdneaaaP21
import Derived.WalkKit
import Derived.ProofKit
import Derived.OpenShut
import Derived.ShutString
import Derived.ChangeOld
namespace Go.Proofs.Ytdkjnadhgdneaaa.LMaximumOf
open Go.Rv Go.ChangeShapes Go.WideShapes Go.ChangeAt Go.RowKit
set_option maxRecDepth 100000
set_option linter.unusedVariables false
theorem of_wf {n : Int} (h : (Lit.int .i64 n).wf = true) : -9223372036854775808 ≤ n ∧ n ≤ 9223372036854775807 := by
  simpa [Lit.wf, IntKind.min, IntKind.max, IntKind.signed, IntKind.bits] using h
theorem tc9 {s : SV} (h : typedS lay 9 s) : ∃ b, s = .str b ∧ b.size ≤ maxLen := h
theorem tc3 {s : SV} (h : typedS lay 3 s) : ∃ n, s = .int .i64 n ∧ (Lit.int .i64 n).wf = true := h
theorem own : ownKnob Try.prog.godebug = none := by kernel_rfl
theorem law (xs : List TV) (h : All2 (typedT Try.prog lay) [9, 3] xs) : S6 1048577 xs isTrue = some () := by
  rcases h with _ | ⟨hp0, h⟩
  rename_i p0 _
  rcases h with _ | ⟨hp1, h⟩
  rename_i p1 _
  rcases h with _ | _
  obtain ⟨s0, rfl, hc0_0⟩ := (show ∃ s, p0 = .v (.one s) ∧ typedS lay 9 s from hp0)
  obtain ⟨a0, rfl, wa0⟩ := tc9 hc0_0
  rw [maxLen_eq] at wa0
  obtain ⟨s1, rfl, hc1_0⟩ := (show ∃ s, p1 = .v (.one s) ∧ typedS lay 3 s from hp1)
  obtain ⟨a1, rfl, wa1⟩ := tc3 hc1_0
  exact law_MaximumOf 1048577 (by omega) a0 a1 (by omega) (of_wf wa1) (fun z => isTrue (.v (.one (.bool z))))
theorem lifted (os : Os) (started : os.Started) (H : Type) (enc : TypeId × Value → H) :
    ReturnsInHanded {} Try.checked os 6 .any (Rows.fnExactMaximumOfSpec.pre6 enc Try.prog Try.f6 Rows.fnExactMaximumOfRow.domain false) (Rows.fnExactMaximumOfSpec.post enc Try.prog Try.f6 false true false false) :=
  law_lifted (C := Try.checked) (L := lay) (b := 4) own started (by kernel_rfl) Try.func6
    (ChangeSpec.witness6 (enc := enc) (C := Try.checked) false ⟨#[], #[.string ByteArray.empty, .int .i64 0], []⟩ 8 (by kernel_rfl) (by kernel_rfl) (by kernel_rfl) (by kernel_rfl))
    (by decide +kernel) lay_ok (by decide +kernel) rfl Try.underlying4 rfl
    (fun ds h => match ds, h with | [_, _], _ => ⟨rfl, rfl, rfl⟩)
    (o6 1048577) law
theorem over : Rows.fnExactMaximumOfRow.holds Try.pinned (OpenSpec.ofChange Rows.fnExactMaximumOfSpec) :=
  OpenClaim.holds_of_wide 6 Try.f6 rfl rfl rfl rfl rfl rfl rfl ⟨rfl, rfl, rfl, rfl, rfl⟩ rfl rfl rfl rfl rfl (by kernel_rfl) Try.func6 (by kernel_rfl)
    (of_decide_eq_true (by kernel_rfl)) (by unfold Func.isWrapper; first | (rw [if_pos (by decide +kernel)]; kernel_rfl) | (rw [if_neg (by decide +kernel)]; exact ⟨rfl, rfl⟩))
    (fun os started H enc _ => lifted os started H enc)
end Go.Proofs.Ytdkjnadhgdneaaa.LMaximumOf
namespace Go.Proofs.Ytdkjnadhgdneaaa
/-- The row, under a short name, for the claim. -/
theorem fnExactMaximumOf_holds : Rows.FnExactMaximumOfSaid := LMaximumOf.over
#print axioms fnExactMaximumOf_holds
end Go.Proofs.Ytdkjnadhgdneaaa
