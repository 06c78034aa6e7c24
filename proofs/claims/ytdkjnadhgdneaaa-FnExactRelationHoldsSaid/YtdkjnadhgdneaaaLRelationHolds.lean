/- The program's RelationHolds returns what the reference's returns, for all arguments. -/
import Derived.Test.YtdkjnadhgdneaaaRows
import Derived.Test.YtdkjnadhgdneaaaE8
import Derived.Test.YtdkjnadhgdneaaaRvLaw
import Derived.Test.YtdkjnadhgdneaaaP21
import Derived.WalkKit
import Derived.ProofKit
import Derived.OpenShut
import Derived.ShutString
import Derived.ChangeOld
namespace Go.Proofs.Ytdkjnadhgdneaaa.LRelationHolds
open Go.Rv Go.ChangeShapes Go.WideShapes Go.ChangeAt Go.RowKit
set_option maxRecDepth 100000
set_option linter.unusedVariables false
theorem of_wf {n : Int} (h : (Lit.int .i64 n).wf = true) : -9223372036854775808 ≤ n ∧ n ≤ 9223372036854775807 := by
  simpa [Lit.wf, IntKind.min, IntKind.max, IntKind.signed, IntKind.bits] using h
theorem tc9 {s : SV} (h : typedS lay 9 s) : ∃ b, s = .str b ∧ b.size ≤ maxLen := h
theorem tc3 {s : SV} (h : typedS lay 3 s) : ∃ n, s = .int .i64 n ∧ (Lit.int .i64 n).wf = true := h
theorem own : ownKnob Try.prog.godebug = none := by kernel_rfl
theorem law (xs : List TV) (h : All2 (typedT Try.prog lay) [9, 62] xs) : S7 1048577 xs isTrue = some () := by
  rcases h with _ | ⟨hp0, h⟩
  rename_i p0 _
  rcases h with _ | ⟨hp1, h⟩
  rename_i p1 _
  rcases h with _ | _
  obtain ⟨s0, rfl, hc0_0⟩ := (show ∃ s, p0 = .v (.one s) ∧ typedS lay 9 s from hp0)
  obtain ⟨a0, rfl, wa0⟩ := tc9 hc0_0
  rw [maxLen_eq] at wa0
  obtain ⟨cts, l, h1, rfl, h2⟩ := (show ∃ cts l, flatOf Try.prog 4 62 = some cts ∧ p1 = .v (.agg l) ∧ All2 (typedS lay) cts l from hp1)
  have e : flatOf Try.prog 4 62 = some [3, 3] := by kernel_rfl
  rw [e] at h1
  cases h1
  rcases h2 with _ | ⟨hc1_0, h2⟩
  rcases h2 with _ | ⟨hc1_1, h2⟩
  rcases h2 with _ | _
  obtain ⟨a1, rfl, wa1⟩ := tc3 hc1_0
  obtain ⟨a2, rfl, wa2⟩ := tc3 hc1_1
  exact law_RelationHolds 1048577 (by omega) a0 a1 a2 (by omega) (of_wf wa1) (of_wf wa2) (fun z => isTrue (.v (.one (.bool z))))
theorem lifted (os : Os) (started : os.Started) (H : Type) (enc : TypeId × Value → H) :
    ReturnsInHanded {} Try.checked os 7 .any (Rows.fnExactRelationHoldsSpec.pre6 enc Try.prog Try.f7 Rows.fnExactRelationHoldsRow.domain false) (Rows.fnExactRelationHoldsSpec.post enc Try.prog Try.f7 false true false false) :=
  law_lifted (C := Try.checked) (L := lay) (b := 4) own started (by kernel_rfl) Try.func7
    (ChangeSpec.witness6 (enc := enc) (C := Try.checked) false ⟨#[], #[.string ByteArray.empty, .agg #[.int .i64 0, .int .i64 0]], []⟩ 8 (by kernel_rfl) (by kernel_rfl) (by kernel_rfl) (by kernel_rfl))
    (by decide +kernel) lay_ok (by decide +kernel) rfl Try.underlying4 rfl
    (fun ds h => match ds, h with | [_, _], _ => ⟨rfl, rfl, rfl⟩)
    (o7 1048577) law
theorem over : Rows.fnExactRelationHoldsRow.holds Try.pinned (OpenSpec.ofChange Rows.fnExactRelationHoldsSpec) :=
  OpenClaim.holds_of_wide 7 Try.f7 rfl rfl rfl rfl rfl rfl rfl ⟨rfl, rfl, rfl, rfl, rfl⟩ rfl rfl rfl rfl rfl (by kernel_rfl) Try.func7 (by kernel_rfl)
    (of_decide_eq_true (by kernel_rfl)) (by unfold Func.isWrapper; first | (rw [if_pos (by decide +kernel)]; kernel_rfl) | (rw [if_neg (by decide +kernel)]; exact ⟨rfl, rfl⟩))
    (fun os started H enc _ => lifted os started H enc)
end Go.Proofs.Ytdkjnadhgdneaaa.LRelationHolds
namespace Go.Proofs.Ytdkjnadhgdneaaa
/-- The row, under a short name, for the claim. -/
theorem fnExactRelationHolds_holds : Rows.FnExactRelationHoldsSaid := LRelationHolds.over
#print axioms fnExactRelationHolds_holds
end Go.Proofs.Ytdkjnadhgdneaaa
