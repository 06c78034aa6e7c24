/- The program's EqualClaims returns what the reference's returns, for all arguments. -/
import Derived.Test.YtpiipfkopncbeaaRows
import Derived.Test.YtpiipfkopncbeaaE0
import Derived.Test.YtpiipfkopncbeaaRvLaw
import Derived.Test.YtpiipfkopncbeaaP1
import Derived.WalkKit
import Derived.ProofKit
import Derived.OpenShut
import Derived.ShutString
import Derived.ChangeOld
namespace Go.Proofs.Ytpiipfkopncbeaa.LEqualClaims
open Go.Rv Go.ChangeShapes Go.WideShapes Go.ChangeAt Go.RowKit
set_option maxRecDepth 100000
set_option linter.unusedVariables false
theorem of_wf {n : Int} (h : (Lit.int .i64 n).wf = true) : -9223372036854775808 ≤ n ∧ n ≤ 9223372036854775807 := by
  simpa [Lit.wf, IntKind.min, IntKind.max, IntKind.signed, IntKind.bits] using h
theorem tc3 {s : SV} (h : typedS lay 3 s) : ∃ n, s = .int .i64 n ∧ (Lit.int .i64 n).wf = true := h
theorem tc9 {s : SV} (h : typedS lay 9 s) : ∃ b, s = .str b ∧ b.size ≤ maxLen := h
theorem tc39 {s : SV} (h : typedS lay 39 s) : ∃ l, s = .sl 3 (.ints .i64 l) ∧ l.length ≤ maxLen ∧ ∀ n ∈ l, (Lit.int .i64 n).wf = true := by
  obtain ⟨q, rfl, l, rfl, h1⟩ := (show ∃ q, s = .sl 3 q ∧ ∃ l, q = .ints .i64 l ∧ l.length ≤ maxLen ∧ ∀ n ∈ l, (Lit.int .i64 n).wf = true from h)
  exact ⟨l, rfl, h1⟩
theorem own : ownKnob Try.prog.godebug = none := by kernel_rfl
theorem law (xs : List TV) (h : All2 (typedT Try.prog lay) [58, 58] xs) : S13 1048577 xs isTrue = some () := by
  rcases h with _ | ⟨hp0, h⟩
  rename_i p0 _
  rcases h with _ | ⟨hp1, h⟩
  rename_i p1 _
  rcases h with _ | _
  obtain ⟨cts, l, h1, rfl, h2⟩ := (show ∃ cts l, flatOf Try.prog 4 58 = some cts ∧ p0 = .v (.agg l) ∧ All2 (typedS lay) cts l from hp0)
  have e : flatOf Try.prog 4 58 = some [3, 3, 3, 3, 3, 9, 39] := by kernel_rfl
  rw [e] at h1
  cases h1
  rcases h2 with _ | ⟨hc0_0, h2⟩
  rcases h2 with _ | ⟨hc0_1, h2⟩
  rcases h2 with _ | ⟨hc0_2, h2⟩
  rcases h2 with _ | ⟨hc0_3, h2⟩
  rcases h2 with _ | ⟨hc0_4, h2⟩
  rcases h2 with _ | ⟨hc0_5, h2⟩
  rcases h2 with _ | ⟨hc0_6, h2⟩
  rcases h2 with _ | _
  obtain ⟨a0, rfl, wa0⟩ := tc3 hc0_0
  obtain ⟨a1, rfl, wa1⟩ := tc3 hc0_1
  obtain ⟨a2, rfl, wa2⟩ := tc3 hc0_2
  obtain ⟨a3, rfl, wa3⟩ := tc3 hc0_3
  obtain ⟨a4, rfl, wa4⟩ := tc3 hc0_4
  obtain ⟨a5, rfl, wa5⟩ := tc9 hc0_5
  rw [maxLen_eq] at wa5
  obtain ⟨a6, rfl, wa6, _⟩ := tc39 hc0_6
  rw [maxLen_eq] at wa6
  obtain ⟨cts, l, h1, rfl, h2⟩ := (show ∃ cts l, flatOf Try.prog 4 58 = some cts ∧ p1 = .v (.agg l) ∧ All2 (typedS lay) cts l from hp1)
  have e : flatOf Try.prog 4 58 = some [3, 3, 3, 3, 3, 9, 39] := by kernel_rfl
  rw [e] at h1
  cases h1
  rcases h2 with _ | ⟨hc1_0, h2⟩
  rcases h2 with _ | ⟨hc1_1, h2⟩
  rcases h2 with _ | ⟨hc1_2, h2⟩
  rcases h2 with _ | ⟨hc1_3, h2⟩
  rcases h2 with _ | ⟨hc1_4, h2⟩
  rcases h2 with _ | ⟨hc1_5, h2⟩
  rcases h2 with _ | ⟨hc1_6, h2⟩
  rcases h2 with _ | _
  obtain ⟨a7, rfl, wa7⟩ := tc3 hc1_0
  obtain ⟨a8, rfl, wa8⟩ := tc3 hc1_1
  obtain ⟨a9, rfl, wa9⟩ := tc3 hc1_2
  obtain ⟨a10, rfl, wa10⟩ := tc3 hc1_3
  obtain ⟨a11, rfl, wa11⟩ := tc3 hc1_4
  obtain ⟨a12, rfl, wa12⟩ := tc9 hc1_5
  rw [maxLen_eq] at wa12
  obtain ⟨a13, rfl, wa13, _⟩ := tc39 hc1_6
  rw [maxLen_eq] at wa13
  exact law_EqualClaims 1048577 (by omega) a0 a1 a2 a3 a4 a5 a6 a7 a8 a9 a10 a11 a12 a13 (by omega) (by omega) (by omega) (by omega) (fun z => isTrue (.v (.one (.bool z))))
theorem lifted (os : Os) (started : os.Started) (H : Type) (enc : TypeId × Value → H) :
    ReturnsInHanded {} Try.checked os 13 .any (Rows.fnExactEqualClaimsSpec.pre6 enc Try.prog Try.f13 Rows.fnExactEqualClaimsRow.domain false) (Rows.fnExactEqualClaimsSpec.post enc Try.prog Try.f13 false true false false) :=
  law_lifted (C := Try.checked) (L := lay) (b := 4) own started (by kernel_rfl) Try.func13
    (ChangeSpec.witness6 (enc := enc) (C := Try.checked) false ⟨#[], #[.agg #[.int .i64 0, .int .i64 0, .int .i64 0, .int .i64 0, .int .i64 0, .string ByteArray.empty, .slice none 0 0], .agg #[.int .i64 0, .int .i64 0, .int .i64 0, .int .i64 0, .int .i64 0, .string ByteArray.empty, .slice none 0 0]], []⟩ 8 (by kernel_rfl) (by kernel_rfl) (by kernel_rfl) (by kernel_rfl))
    (by decide +kernel) lay_ok (by decide +kernel) rfl Try.underlying4 rfl
    (fun ds h => match ds, h with | [_, _], _ => ⟨rfl, rfl, rfl⟩)
    (o13 1048577) law
theorem over : Rows.fnExactEqualClaimsRow.holds Try.pinned (OpenSpec.ofChange Rows.fnExactEqualClaimsSpec) :=
  OpenClaim.holds_of_wide 13 Try.f13 rfl rfl rfl rfl rfl rfl rfl ⟨rfl, rfl, rfl, rfl, rfl⟩ rfl rfl rfl rfl rfl (by kernel_rfl) Try.func13 (by kernel_rfl)
    (of_decide_eq_true (by kernel_rfl)) (by unfold Func.isWrapper; first | (rw [if_pos (by decide +kernel)]; kernel_rfl) | (rw [if_neg (by decide +kernel)]; exact ⟨rfl, rfl⟩))
    (fun os started H enc _ => lifted os started H enc)
end Go.Proofs.Ytpiipfkopncbeaa.LEqualClaims
namespace Go.Proofs.Ytpiipfkopncbeaa
/-- The row, under a short name, for the claim. -/
theorem fnExactEqualClaims_holds : Rows.FnExactEqualClaimsSaid := LEqualClaims.over
#print axioms fnExactEqualClaims_holds
end Go.Proofs.Ytpiipfkopncbeaa
