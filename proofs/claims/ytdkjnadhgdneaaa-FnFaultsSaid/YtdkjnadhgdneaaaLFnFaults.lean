/- The program's FnFaults returns what the reference's returns, for all arguments. -/
import Derived.Test.YtdkjnadhgdneaaaRows
import Derived.Test.YtdkjnadhgdneaaaE8
import Derived.Test.YtdkjnadhgdneaaaRvLaw
import Derived.Test.YtdkjnadhgdneaaaP16
import Derived.WalkKit
import Derived.ProofKit
import Derived.OpenShut
import Derived.ShutString
import Derived.ChangeOld
namespace Go.Proofs.Ytdkjnadhgdneaaa.LFnFaults
open Go.Rv Go.ChangeShapes Go.WideShapes Go.ChangeAt Go.RowKit
set_option maxRecDepth 100000
set_option linter.unusedVariables false
theorem of_wf {n : Int} (h : (Lit.int .i64 n).wf = true) : -9223372036854775808 ≤ n ∧ n ≤ 9223372036854775807 := by
  simpa [Lit.wf, IntKind.min, IntKind.max, IntKind.signed, IntKind.bits] using h
theorem tc22 {s : SV} (h : typedS lay 22 s) : ∃ l, s = .sl 5 (.ints .u8 l) ∧ l.length ≤ maxLen ∧ ∀ n ∈ l, (Lit.int .u8 n).wf = true := by
  obtain ⟨q, rfl, l, rfl, h1⟩ := (show ∃ q, s = .sl 5 q ∧ ∃ l, q = .ints .u8 l ∧ l.length ≤ maxLen ∧ ∀ n ∈ l, (Lit.int .u8 n).wf = true from h)
  exact ⟨l, rfl, h1⟩
theorem own : ownKnob Try.prog.godebug = none := by kernel_rfl
theorem law (xs : List TV) (h : All2 (typedT Try.prog lay) [22] xs) : S4 1048577 xs isTrue = some () := by
  rcases h with _ | ⟨hp0, h⟩
  rename_i p0 _
  rcases h with _ | _
  obtain ⟨s0, rfl, hc0_0⟩ := (show ∃ s, p0 = .v (.one s) ∧ typedS lay 22 s from hp0)
  obtain ⟨a0, rfl, wa0, _⟩ := tc22 hc0_0
  rw [maxLen_eq] at wa0
  exact law_FnFaults 1048577 (by omega) a0 (by omega) (fun z => isTrue (.v (.one (.bool z))))
theorem lifted (os : Os) (started : os.Started) (H : Type) (enc : TypeId × Value → H) :
    ReturnsInHanded {} Try.checked os 4 .any (Rows.fnFaultsSpec.pre6 enc Try.prog Try.f4 Rows.fnFaultsRow.domain false) (Rows.fnFaultsSpec.post enc Try.prog Try.f4 false true false false) :=
  law_lifted (C := Try.checked) (L := lay) (b := 4) own started (by kernel_rfl) Try.func4
    (ChangeSpec.witness6 (enc := enc) (C := Try.checked) false ⟨#[], #[.slice none 0 0], []⟩ 8 (by kernel_rfl) (by kernel_rfl) (by kernel_rfl) (by kernel_rfl))
    (by decide +kernel) lay_ok (by decide +kernel) rfl Try.underlying4 rfl
    (fun ds h => match ds, h with | [_], _ => ⟨rfl, rfl, rfl⟩)
    (o4 1048577) law
theorem over : Rows.fnFaultsRow.holds Try.pinned (OpenSpec.ofChange Rows.fnFaultsSpec) :=
  OpenClaim.holds_of_wide 4 Try.f4 rfl rfl rfl rfl rfl rfl rfl ⟨rfl, rfl, rfl, rfl, rfl⟩ rfl rfl rfl rfl rfl (by kernel_rfl) Try.func4 (by kernel_rfl)
    (of_decide_eq_true (by kernel_rfl)) (by unfold Func.isWrapper; first | (rw [if_pos (by decide +kernel)]; kernel_rfl) | (rw [if_neg (by decide +kernel)]; exact ⟨rfl, rfl⟩))
    (fun os started H enc _ => lifted os started H enc)
end Go.Proofs.Ytdkjnadhgdneaaa.LFnFaults
namespace Go.Proofs.Ytdkjnadhgdneaaa
/-- The row, under a short name, for the claim. -/
theorem fnFaults_holds : Rows.FnFaultsSaid := LFnFaults.over
#print axioms fnFaults_holds
end Go.Proofs.Ytdkjnadhgdneaaa
