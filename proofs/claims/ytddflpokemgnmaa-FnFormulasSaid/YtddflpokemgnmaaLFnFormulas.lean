/- The program's FnFormulas returns what the reference's returns, for all arguments. -/
import Derived.Test.YtddflpokemgnmaaRows
import Derived.Test.YtddflpokemgnmaaE5
import Derived.Test.YtddflpokemgnmaaRvLaw
import Derived.Test.YtddflpokemgnmaaP92
import Derived.WalkKit
import Derived.ProofKit
import Derived.OpenShut
import Derived.ShutString
import Derived.ChangeOld
namespace Go.Proofs.Ytddflpokemgnmaa.LFnFormulas
open Go.Rv Go.ChangeShapes Go.WideShapes Go.ChangeAt Go.RowKit
set_option maxRecDepth 100000
set_option linter.unusedVariables false
theorem of_wf {n : Int} (h : (Lit.int .i64 n).wf = true) : -9223372036854775808 ≤ n ∧ n ≤ 9223372036854775807 := by
  simpa [Lit.wf, IntKind.min, IntKind.max, IntKind.signed, IntKind.bits] using h
theorem tc22 {s : SV} (h : typedS lay 22 s) : ∃ l, s = .sl 5 (.ints .u8 l) ∧ l.length ≤ maxLen ∧ ∀ n ∈ l, (Lit.int .u8 n).wf = true := by
  obtain ⟨q, rfl, l, rfl, h1⟩ := (show ∃ q, s = .sl 5 q ∧ ∃ l, q = .ints .u8 l ∧ l.length ≤ maxLen ∧ ∀ n ∈ l, (Lit.int .u8 n).wf = true from h)
  exact ⟨l, rfl, h1⟩
theorem own : ownKnob Try.prog.godebug = none := by kernel_rfl
theorem law (xs : List TV) (h : All2 (typedT Try.prog lay) [22] xs) : S3 1048577 xs isTrue = some () := by
  rcases h with _ | ⟨hp0, h⟩
  rename_i p0 _
  rcases h with _ | _
  obtain ⟨s0, rfl, hc0_0⟩ := (show ∃ s, p0 = .v (.one s) ∧ typedS lay 22 s from hp0)
  obtain ⟨a0, rfl, wa0, _⟩ := tc22 hc0_0
  rw [maxLen_eq] at wa0
  exact law_FnFormulas 1048577 (by omega) a0 (by omega) (fun z => isTrue (.v (.one (.bool z))))
theorem lifted (os : Os) (started : os.Started) (H : Type) (enc : TypeId × Value → H) :
    ReturnsInHanded {} Try.checked os 3 .any (Rows.fnFormulasSpec.pre6 enc Try.prog Try.f3 Rows.fnFormulasRow.domain false) (Rows.fnFormulasSpec.post enc Try.prog Try.f3 false true false false) :=
  law_lifted (C := Try.checked) (L := lay) (b := 4) own started (by kernel_rfl) Try.func3
    (ChangeSpec.witness6 (enc := enc) (C := Try.checked) false ⟨#[], #[.slice none 0 0], []⟩ 8 (by kernel_rfl) (by kernel_rfl) (by kernel_rfl) (by kernel_rfl))
    (by decide +kernel) lay_ok (by decide +kernel) rfl Try.underlying4 rfl
    (fun ds h => match ds, h with | [_], _ => ⟨rfl, rfl, rfl⟩)
    (o3 1048577) law
theorem over : Rows.fnFormulasRow.holds Try.pinned (OpenSpec.ofChange Rows.fnFormulasSpec) :=
  OpenClaim.holds_of_wide 3 Try.f3 rfl rfl rfl rfl rfl rfl rfl ⟨rfl, rfl, rfl, rfl, rfl⟩ rfl rfl rfl rfl rfl (by kernel_rfl) Try.func3 (by kernel_rfl)
    (of_decide_eq_true (by kernel_rfl)) (by unfold Func.isWrapper; first | (rw [if_pos (by decide +kernel)]; kernel_rfl) | (rw [if_neg (by decide +kernel)]; exact ⟨rfl, rfl⟩))
    (fun os started H enc _ => lifted os started H enc)
end Go.Proofs.Ytddflpokemgnmaa.LFnFormulas
namespace Go.Proofs.Ytddflpokemgnmaa
/-- The row, under a short name, for the claim. -/
theorem fnFormulas_holds : Rows.FnFormulasSaid := LFnFormulas.over
#print axioms fnFormulas_holds
end Go.Proofs.Ytddflpokemgnmaa
