/- Two kept counts are compared by the program as by the reference, for all arguments. -/
import Derived.Test.YtpiipfkopncbeaaRows
import Derived.Test.YtpiipfkopncbeaaE0
import Derived.Test.YtpiipfkopncbeaaP0
import Derived.Test.YtpiipfkopncbeaaRvLaw
import Derived.WalkKit
import Derived.ProofKit
import Derived.OpenShut
import Derived.ShutString
import Derived.ChangeOld
namespace Go.Proofs.Ytpiipfkopncbeaa
open Go.Rv Go.ChangeShapes Go.WideShapes Go.ChangeAt Go.RowKit
set_option maxRecDepth 100000

theorem ty_int {s : SV} (h : typedS lay 3 s) : ∃ n, s = .int .i64 n ∧ (Lit.int .i64 n).wf = true := h
theorem ty_ints {s : SV} (h : typedS lay 39 s) : ∃ l, s = .sl 3 (.ints .i64 l) ∧ l.length ≤ maxLen ∧ ∀ n ∈ l, (Lit.int .i64 n).wf = true := by
  obtain ⟨q, rfl, l, rfl, h1, h2⟩ := (show ∃ q, s = .sl 3 q ∧ ∃ l, q = .ints .i64 l ∧ l.length ≤ maxLen ∧ ∀ n ∈ l, (Lit.int .i64 n).wf = true from h)
  exact ⟨l, rfl, h1, h2⟩
theorem ty_kept {x : TV} (h : typedT Try.prog lay 45 x) : ∃ a b c l, x = .v (.agg [.int .i64 a, .int .i64 b, .int .i64 c, .sl 3 (.ints .i64 l)]) ∧ l.length ≤ maxLen := by
  obtain ⟨cts, l, h1, rfl, h2⟩ := (show ∃ cts l, flatOf Try.prog 4 45 = some cts ∧ x = .v (.agg l) ∧ All2 (typedS lay) cts l from h)
  have e : flatOf Try.prog 4 45 = some [3, 3, 3, 39] := by kernel_rfl
  rw [e] at h1
  cases h1
  cases h2 with
  | cons a1 h2 => cases h2 with
    | cons a2 h2 => cases h2 with
      | cons a3 h2 => cases h2 with
        | cons a4 h2 => cases h2 with
          | nil =>
            obtain ⟨a, rfl, _⟩ := ty_int a1
            obtain ⟨b, rfl, _⟩ := ty_int a2
            obtain ⟨c, rfl, _⟩ := ty_int a3
            obtain ⟨l, rfl, hl, _⟩ := ty_ints a4
            exact ⟨a, b, c, l, rfl, hl⟩

namespace EqualKept
theorem own : ownKnob Try.prog.godebug = none := by kernel_rfl
theorem law (xs : List TV) (h : All2 (typedT Try.prog lay) [45, 45] xs) : S10 1048577 xs isTrue = some () := by
  cases h with
  | cons h1 h => cases h with
    | cons h2 h => cases h with
      | nil =>
        obtain ⟨a, b, c, l, rfl, hl⟩ := ty_kept h1
        obtain ⟨a', b', c', l', rfl, hl'⟩ := ty_kept h2
        rw [maxLen_eq] at hl hl'
        exact law_EqualKept 1048577 (by omega) a b c l a' b' c' l' (by omega) (by omega) (fun z => isTrue (.v (.one (.bool z))))
theorem lifted (os : Os) (started : os.Started) (H : Type) (enc : TypeId × Value → H) :
    ReturnsInHanded {} Try.checked os 10 .any (Rows.fnExactEqualKeptSpec.pre6 enc Try.prog Try.f10 Rows.fnExactEqualKeptRow.domain false) (Rows.fnExactEqualKeptSpec.post enc Try.prog Try.f10 false true false false) :=
  law_lifted (C := Try.checked) (L := lay) (b := 4) own started (by kernel_rfl) Try.func10
    (ChangeSpec.witness6 (enc := enc) (C := Try.checked) false ⟨#[], #[.agg #[.int .i64 0, .int .i64 0, .int .i64 0, .slice none 0 0], .agg #[.int .i64 0, .int .i64 0, .int .i64 0, .slice none 0 0]], []⟩ 8 (by kernel_rfl) (by kernel_rfl) (by kernel_rfl) (by kernel_rfl))
    (by decide +kernel) lay_ok (by decide +kernel) rfl Try.underlying4 rfl
    (fun ds h => match ds, h with | [_, _], _ => ⟨rfl, rfl, rfl⟩)
    (o10 1048577) law
theorem over : Rows.fnExactEqualKeptRow.holds Try.pinned (OpenSpec.ofChange Rows.fnExactEqualKeptSpec) :=
  OpenClaim.holds_of_wide 10 Try.f10 rfl rfl rfl rfl rfl rfl rfl ⟨rfl, rfl, rfl, rfl, rfl⟩ rfl rfl rfl rfl rfl (by kernel_rfl) Try.func10 (by kernel_rfl)
    (of_decide_eq_true (by kernel_rfl)) (by unfold Func.isWrapper; first | (rw [if_pos (by decide +kernel)]; kernel_rfl) | (rw [if_neg (by decide +kernel)]; exact ⟨rfl, rfl⟩))
    (fun os started H enc _ => lifted os started H enc)
end EqualKept
/-- The row, under a short name, for the claim. -/
theorem fnExactEqualKept_holds : Rows.FnExactEqualKeptSaid := EqualKept.over
#print axioms fnExactEqualKept_holds
end Go.Proofs.Ytpiipfkopncbeaa
