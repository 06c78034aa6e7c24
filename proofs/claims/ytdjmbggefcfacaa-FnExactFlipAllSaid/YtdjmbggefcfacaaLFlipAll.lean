/- The program's FlipAll returns what the reference's returns, for all arguments. -/
import Derived.Test.YtdjmbggefcfacaaRows
import Derived.Test.YtdjmbggefcfacaaE5
import Derived.Test.YtdjmbggefcfacaaRvLaw
import Derived.Test.YtdjmbggefcfacaaP10
import Derived.WalkKit
import Derived.ProofKit
import Derived.OpenShut
import Derived.ShutString
import Derived.ChangeOld
namespace Go.Proofs.Ytdjmbggefcfacaa.LFlipAll
open Go.Rv Go.ChangeShapes Go.WideShapes Go.ChangeAt Go.RowKit
set_option maxRecDepth 100000
set_option linter.unusedVariables false
theorem of_wf {n : Int} (h : (Lit.int .i64 n).wf = true) : -9223372036854775808 ≤ n ∧ n ≤ 9223372036854775807 := by
  simpa [Lit.wf, IntKind.min, IntKind.max, IntKind.signed, IntKind.bits] using h
theorem tc3 {s : SV} (h : typedS lay 3 s) : ∃ n, s = .int .i64 n ∧ (Lit.int .i64 n).wf = true := h
theorem tc25 {s : SV} (h : typedS lay 25 s) : ∃ l, s = .sl 3 (.ints .i64 l) ∧ l.length ≤ maxLen ∧ ∀ n ∈ l, (Lit.int .i64 n).wf = true := by
  obtain ⟨q, rfl, l, rfl, h1⟩ := (show ∃ q, s = .sl 3 q ∧ ∃ l, q = .ints .i64 l ∧ l.length ≤ maxLen ∧ ∀ n ∈ l, (Lit.int .i64 n).wf = true from h)
  exact ⟨l, rfl, h1⟩
theorem own : ownKnob Try.prog.godebug = none := by kernel_rfl
theorem law (xs : List TV) (h : All2 (typedT Try.prog lay) [39, 25] xs) : S8 1048577 xs isTrue = some () := by
  rcases h with _ | ⟨hp0, h⟩
  rename_i p0 _
  rcases h with _ | ⟨hp1, h⟩
  rename_i p1 _
  rcases h with _ | _
  obtain ⟨cts, l, h1, rfl, h2⟩ := (show ∃ cts l, flatOf Try.prog 4 39 = some cts ∧ p0 = .v (.agg l) ∧ All2 (typedS lay) cts l from hp0)
  have e : flatOf Try.prog 4 39 = some [3, 3, 3, 25] := by kernel_rfl
  rw [e] at h1
  cases h1
  rcases h2 with _ | ⟨hc0_0, h2⟩
  rcases h2 with _ | ⟨hc0_1, h2⟩
  rcases h2 with _ | ⟨hc0_2, h2⟩
  rcases h2 with _ | ⟨hc0_3, h2⟩
  rcases h2 with _ | _
  obtain ⟨a0, rfl, wa0⟩ := tc3 hc0_0
  obtain ⟨a1, rfl, wa1⟩ := tc3 hc0_1
  obtain ⟨a2, rfl, wa2⟩ := tc3 hc0_2
  obtain ⟨a3, rfl, wa3, _⟩ := tc25 hc0_3
  rw [maxLen_eq] at wa3
  obtain ⟨s1, rfl, hc1_0⟩ := (show ∃ s, p1 = .v (.one s) ∧ typedS lay 25 s from hp1)
  obtain ⟨a4, rfl, wa4, _⟩ := tc25 hc1_0
  rw [maxLen_eq] at wa4
  exact law_FlipAll 1048577 (by omega) a0 a1 a2 a3 a4 (of_wf wa0) (of_wf wa1) (of_wf wa2) (by omega) (by omega) (fun z => isTrue (.v (.one (.bool z))))
theorem lifted (os : Os) (started : os.Started) (H : Type) (enc : TypeId × Value → H) :
    ReturnsInHanded {} Try.checked os 8 .any (Rows.fnExactFlipAllSpec.pre6 enc Try.prog Try.f8 Rows.fnExactFlipAllRow.domain false) (Rows.fnExactFlipAllSpec.post enc Try.prog Try.f8 false true false false) :=
  law_lifted (C := Try.checked) (L := lay) (b := 4) own started (by kernel_rfl) Try.func8
    (ChangeSpec.witness6 (enc := enc) (C := Try.checked) false ⟨#[], #[.agg #[.int .i64 0, .int .i64 0, .int .i64 0, .slice none 0 0], .slice none 0 0], []⟩ 8 (by kernel_rfl) (by kernel_rfl) (by kernel_rfl) (by kernel_rfl))
    (by decide +kernel) lay_ok (by decide +kernel) rfl Try.underlying4 rfl
    (fun ds h => match ds, h with | [_, _], _ => ⟨rfl, rfl, rfl⟩)
    (o8 1048577) law
theorem over : Rows.fnExactFlipAllRow.holds Try.pinned (OpenSpec.ofChange Rows.fnExactFlipAllSpec) :=
  OpenClaim.holds_of_wide 8 Try.f8 rfl rfl rfl rfl rfl rfl rfl ⟨rfl, rfl, rfl, rfl, rfl⟩ rfl rfl rfl rfl rfl (by kernel_rfl) Try.func8 (by kernel_rfl)
    (of_decide_eq_true (by kernel_rfl)) (by unfold Func.isWrapper; first | (rw [if_pos (by decide +kernel)]; kernel_rfl) | (rw [if_neg (by decide +kernel)]; exact ⟨rfl, rfl⟩))
    (fun os started H enc _ => lifted os started H enc)
end Go.Proofs.Ytdjmbggefcfacaa.LFlipAll
namespace Go.Proofs.Ytdjmbggefcfacaa
/-- The row, under a short name, for the claim. -/
theorem fnExactFlipAll_holds : Rows.FnExactFlipAllSaid := LFlipAll.over
#print axioms fnExactFlipAll_holds
end Go.Proofs.Ytdjmbggefcfacaa
