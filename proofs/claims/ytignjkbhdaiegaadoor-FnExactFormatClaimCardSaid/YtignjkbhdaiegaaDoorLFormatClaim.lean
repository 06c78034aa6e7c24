/- The program's FormatClaim returns what the reference's returns, for all arguments. -/
import Derived.Test.YtignjkbhdaiegaaDoorRows
import Derived.Test.YtignjkbhdaiegaaDoorE2
import Derived.Test.YtignjkbhdaiegaaDoorRvLaw
import Derived.Test.YtignjkbhdaiegaaDoorP53
import Derived.WalkKit
import Derived.ProofKit
import Derived.OpenShut
import Derived.ShutString
import Derived.ChangeOld
import Derived.LaidMore
import Derived.Stop.Joined
import Derived.SevenTiedAt
import Derived.LaidSub
import Derived.Test.YtignjkbhdaiegaaDoorCards
import Derived.Test.YtignjkbhdaiegaaDoorTie
namespace Go.Proofs.YtignjkbhdaiegaaDoor.LFormatClaim
open Go.Rv Go.ChangeShapes Go.WideShapes Go.ChangeAt Go.RowKit
set_option maxRecDepth 100000
set_option linter.unusedVariables false
theorem of_wf {n : Int} (h : (Lit.int .i64 n).wf = true) : -9223372036854775808 ≤ n ∧ n ≤ 9223372036854775807 := by
  simpa [Lit.wf, IntKind.min, IntKind.max, IntKind.signed, IntKind.bits] using h
theorem tc3 {s : SV} (h : typedS lay 3 s) : ∃ n, s = .int .i64 n ∧ (Lit.int .i64 n).wf = true := h
theorem tc9 {s : SV} (h : typedS lay 9 s) : ∃ b, s = .str b ∧ b.size ≤ maxLen := h
theorem tc24 {s : SV} (h : typedS lay 24 s) : ∃ l, s = .sl 3 (.ints .i64 l) ∧ l.length ≤ maxLen ∧ ∀ n ∈ l, (Lit.int .i64 n).wf = true := by
  obtain ⟨q, rfl, l, rfl, h1⟩ := (show ∃ q, s = .sl 3 q ∧ ∃ l, q = .ints .i64 l ∧ l.length ≤ maxLen ∧ ∀ n ∈ l, (Lit.int .i64 n).wf = true from h)
  exact ⟨l, rfl, h1⟩
theorem own : ownKnob Tryd.prog.godebug = none := by kernel_rfl
theorem law (xs : List TV) (h : All2 (typedT Tryd.prog lay) [26] xs) : S3 1048577 xs isTrue = some () := by
  rcases h with _ | ⟨hp0, h⟩
  rename_i p0 _
  rcases h with _ | _
  obtain ⟨cts, l, h1, rfl, h2⟩ := (show ∃ cts l, flatOf Tryd.prog 4 26 = some cts ∧ p0 = .v (.agg l) ∧ All2 (typedS lay) cts l from hp0)
  have e : flatOf Tryd.prog 4 26 = some [3, 3, 3, 3, 3, 9, 24] := by kernel_rfl
  rw [e] at h1
  cases h1
  rcases h2 with _ | ⟨hc0_0, h2⟩
  rcases h2 with _ | ⟨hc0_1, h2⟩
  rcases h2 with _ | ⟨hc0_2, h2⟩
  rcases h2 with _ | ⟨hc0_3, h2⟩
  rcases h2 with _ | ⟨hc0_4, h2⟩
  rcases h2 with _ | ⟨hc0_5, h2⟩
  rcases h2 with _ | ⟨hc0_6, h2⟩
  rcases h2 with _ | _
  obtain ⟨a0, rfl, wa0⟩ := tc3 hc0_0
  obtain ⟨a1, rfl, wa1⟩ := tc3 hc0_1
  obtain ⟨a2, rfl, wa2⟩ := tc3 hc0_2
  obtain ⟨a3, rfl, wa3⟩ := tc3 hc0_3
  obtain ⟨a4, rfl, wa4⟩ := tc3 hc0_4
  obtain ⟨a5, rfl, wa5⟩ := tc9 hc0_5
  rw [maxLen_eq] at wa5
  obtain ⟨a6, rfl, wa6, _⟩ := tc24 hc0_6
  rw [maxLen_eq] at wa6
  exact law_FormatClaim 1048577 (by omega) a0 a1 a2 a3 a4 a5 a6 (of_wf wa0) (of_wf wa1) (of_wf wa2) (of_wf wa3) (of_wf wa4) (by omega) (by omega) (fun z => isTrue (.v (.one (.bool z))))
/-- The table of powers of ten, by the row's own condition. -/
theorem tab_of {w : World} (h : laidMetH Tryd.prog Rows.fnExactFormatClaimRow.laid w) : inv w := by
  have h1 := h.filter (fun x => x.1 == "internal/strconv.uint64pow10")
  have e : (Rows.fnExactFormatClaimRow.laid.filter fun x => x.1 == "internal/strconv.uint64pow10") = [("internal/strconv.uint64pow10", Lib.tabData .u64 Lib.pow10Tab)] := by kernel_rfl
  rw [e] at h1
  exact Lib.tabIs_of_head (g := 1) (t := 100) (n := 20) (e := 94) (by kernel_rfl) (by kernel_rfl) (by kernel_rfl) (by kernel_rfl) (by kernel_rfl) (by kernel_rfl) h1
/-- The door's own heap meets the condition. -/
theorem door_met (os : Os) (args : Array Value) : laidMetH Tryd.prog Rows.fnExactFormatClaimRow.laid ((World.doorLaid Tryd.prog 24 os).forCall (fun _ _ => 0) ⟨#[], args, []⟩).memory :=
  laidMetH_of_parts3 (fuel := 8) (laidMet_of_run' 8 (by kernel_rfl) (by kernel_rfl)) (by kernel_rfl) (by kernel_rfl)
theorem lifted (os : Os) (started : os.Started) (H : Type) (enc : TypeId × Value → H) :
    ReturnsInHanded {} Tryd.checked os 3 .any (fun w args => (Rows.fnExactFormatClaimSpec.pre enc Tryd.prog Tryd.f3 [] false w args ∧ laidMetH Tryd.prog Rows.fnExactFormatClaimRow.laid w) ∧ sizedMet enc Tryd.prog Tryd.f3 (OpenSpec.ofChange Rows.fnExactFormatClaimSpec) false w args) (Rows.fnExactFormatClaimSpec.post enc Tryd.prog Tryd.f3 false true false false) :=
  law_lifted_and (I := inv) (X := fun w _ => laidMetH Tryd.prog Rows.fnExactFormatClaimRow.laid w) (fun _ _ h => tab_known (tab_of h)) (fun _ _ _ hh h => h.of_heap hh) (C := Tryd.checked) (L := lay) (b := 4) own started (by kernel_rfl) Tryd.func3
    (ChangeSpec.witness_shaped (enc := enc) (C := Tryd.checked) (os := os) (X := fun w _ => laidMetH Tryd.prog Rows.fnExactFormatClaimRow.laid w) false (World.doorLaid Tryd.prog 24 os) #[.agg #[.int .i64 0, .int .i64 0, .int .i64 0, .int .i64 0, .int .i64 0, .string ByteArray.empty, .slice none 0 0]] 8 rfl (World.shaped_of_RefB (by kernel_rfl) (by kernel_rfl)) (by kernel_rfl) (by kernel_rfl) (by kernel_rfl) (door_met os _))
    (by decide +kernel) lay_ok (by decide +kernel) rfl Tryd.underlying4 rfl
    (fun ds h => match ds, h with | [_], _ => ⟨rfl, rfl, rfl⟩)
    (o3 1048577) law
theorem over : Rows.fnExactFormatClaimRow.holds Tryd.pinned (OpenSpec.ofChange Rows.fnExactFormatClaimSpec) :=
  OpenClaim.holds_of_wide 3 Tryd.f3 rfl rfl rfl rfl rfl rfl rfl ⟨rfl, rfl, rfl, rfl, rfl⟩ rfl rfl rfl rfl rfl (by kernel_rfl) Tryd.func3 (by kernel_rfl)
    (of_decide_eq_true (by kernel_rfl)) (by unfold Func.isWrapper; first | (rw [if_pos (by decide +kernel)]; kernel_rfl) | (rw [if_neg (by decide +kernel)]; exact ⟨rfl, rfl⟩))
    (fun os started H enc _ => lifted os started H enc)
theorem card : Rows.FnExactFormatClaimCardSaid :=
  Claim7.holds_tied_plain_at .later [] [.data, .data, .data] true (true, "21a8bcc5414c7b9d3a604c67631ab39f9b8c7e3cba55634b3139969893ac97e3") false
    over (fun _ h => by cases h) (by kernel_rfl) (fun _ h => by cases h) fnExactFormatClaim_row_tie rfl ⟨rfl, rfl⟩ (by kernel_rfl) rfl
    (fun f fn hf hfn => by
      obtain rfl : f = 3 := Option.some.inj ((show Tryd.prog.funcNamed "loop.example/g03403/laws.FnExactFormatClaim" = some 3 by kernel_rfl).symm.trans hf) |>.symm
      obtain rfl : fn = Tryd.f3 := (Option.some.inj (Tryd.func3.symm.trans hfn)).symm
      refine ⟨by kernel_rfl, fun j t ht => ?_⟩
      have hp : Tryd.f3.params = #[26] := by kernel_rfl
      rw [hp] at ht
      have hm : t ∈ [26] := by simpa using Array.mem_of_getElem? ht
      have hall : ([26].all fun u => !Tryd.prog.wantsStandIn u) = true := by kernel_rfl
      exact (show Tryd.prog.wantsStandIn t = false by simpa using List.all_eq_true.1 hall t hm))
    (by kernel_rfl)
end Go.Proofs.YtignjkbhdaiegaaDoor.LFormatClaim
namespace Go.Proofs.YtignjkbhdaiegaaDoor
/-- The tied card, under a short name, for the claim. -/
theorem fnExactFormatClaim_holds : Rows.FnExactFormatClaimCardSaid := LFormatClaim.card
#print axioms fnExactFormatClaim_holds
end Go.Proofs.YtignjkbhdaiegaaDoor
