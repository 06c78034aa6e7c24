/- The program's FnHazards returns what the reference's returns, for all arguments. -/
import Derived.Test.YtddflpokemgnmaaGreatDoorRows
import Derived.Test.YtddflpokemgnmaaGreatDoorE10
import Derived.Test.YtddflpokemgnmaaGreatDoorRvLaw
import Derived.Test.YtddflpokemgnmaaGreatDoorP92
import Derived.WalkKit
import Derived.ProofKit
import Derived.OpenShut
import Derived.ShutString
import Derived.ChangeOld
import Derived.LaidMore
import Derived.Lay
import Derived.Stop.Joined
import Derived.SevenTiedAt
import Derived.LaidSub
import Derived.Test.YtddflpokemgnmaaGreatDoorCards
import Derived.Test.YtddflpokemgnmaaGreatDoorTie
namespace Go.Proofs.YtddflpokemgnmaaGreatDoor.LFnHazards
open Go.Rv Go.ChangeShapes Go.WideShapes Go.ChangeAt Go.RowKit
set_option maxRecDepth 100000
set_option linter.unusedVariables false
theorem of_wf {n : Int} (h : (Lit.int .i64 n).wf = true) : -9223372036854775808 ≤ n ∧ n ≤ 9223372036854775807 := by
  simpa [Lit.wf, IntKind.min, IntKind.max, IntKind.signed, IntKind.bits] using h
theorem tc22 {s : SV} (h : typedS lay 22 s) : ∃ l, s = .sl 5 (.ints .u8 l) ∧ l.length ≤ maxLen ∧ ∀ n ∈ l, (Lit.int .u8 n).wf = true := by
  obtain ⟨q, rfl, l, rfl, h1⟩ := (show ∃ q, s = .sl 5 q ∧ ∃ l, q = .ints .u8 l ∧ l.length ≤ maxLen ∧ ∀ n ∈ l, (Lit.int .u8 n).wf = true from h)
  exact ⟨l, rfl, h1⟩
theorem own : ownKnob Tryz.prog.godebug = none := by kernel_rfl
theorem law (xs : List TV) (h : All2 (typedT Tryz.prog lay) [22] xs) : S3 1048577 xs isTrue = some () := by
  rcases h with _ | ⟨hp0, h⟩
  rename_i p0 _
  rcases h with _ | _
  obtain ⟨s0, rfl, hc0_0⟩ := (show ∃ s, p0 = .v (.one s) ∧ typedS lay 22 s from hp0)
  obtain ⟨a0, rfl, wa0, _⟩ := tc22 hc0_0
  rw [maxLen_eq] at wa0
  exact law_FnHazards 1048577 (by omega) a0 (by omega) (fun z => isTrue (.v (.one (.bool z))))
theorem lifted (os : Os) (started : os.Started) (H : Type) (enc : TypeId × Value → H) :
    ReturnsInHanded {} Tryz.checked os 3 .any (fun w args => (Rows.fnHazardsSpec.pre enc Tryz.prog Tryz.f3 [] false w args ∧ laidMetH Tryz.prog Rows.fnHazardsRow.laid w) ∧ sizedMet enc Tryz.prog Tryz.f3 (OpenSpec.ofChange Rows.fnHazardsSpec) false w args) (Rows.fnHazardsSpec.post enc Tryz.prog Tryz.f3 false true false false) :=
  law_lifted_and (I := inv) (X := fun w _ => laidMetH Tryz.prog Rows.fnHazardsRow.laid w) (fun _ _ _ _ _ => trivial) (fun _ _ _ hh h => h.of_heap hh) (C := Tryz.checked) (L := lay) (b := 4) own started (by kernel_rfl) Tryz.func3
    (ChangeSpec.witness_shaped (enc := enc) (C := Tryz.checked) (os := os) (X := fun w _ => laidMetH Tryz.prog Rows.fnHazardsRow.laid w) false (World.laidAll Tryz.prog os Rows.fnHazardsRow.laid) #[.slice none 0 0] 8 (World.laidAll_os _ _ _) (World.shaped_of_ZipB (by kernel_rfl) (by kernel_rfl)) (by kernel_rfl) (by kernel_rfl) (by kernel_rfl) (by rw [MakeChecks.laidMetH_plain _ _ _ (by kernel_rfl)]; exact laidMet_laidAll _ (by kernel_rfl) (by kernel_rfl)))
    (by decide +kernel) lay_ok (by decide +kernel) rfl Tryz.underlying4 rfl
    (fun ds h => match ds, h with | [_], _ => ⟨rfl, rfl, rfl⟩)
    (o3 1048577) law
theorem over : Rows.fnHazardsRow.holds Tryz.pinned (OpenSpec.ofChange Rows.fnHazardsSpec) :=
  OpenClaim.holds_of_wide 3 Tryz.f3 rfl rfl rfl rfl rfl rfl rfl ⟨rfl, rfl, rfl, rfl, rfl⟩ rfl rfl rfl rfl rfl (by kernel_rfl) Tryz.func3 (by kernel_rfl)
    (of_decide_eq_true (by kernel_rfl)) (by unfold Func.isWrapper; first | (rw [if_pos (by decide +kernel)]; kernel_rfl) | (rw [if_neg (by decide +kernel)]; exact ⟨rfl, rfl⟩))
    (fun os started H enc _ => lifted os started H enc)
theorem card : Rows.FnHazardsCardSaid :=
  Claim7.holds_tied_plain_at .later [] [.data, .pinned] true (true, "9cecde405073e153ab6c295c5a4df29e51df68bb84a590d6efaad417a9f84431") false
    over (fun _ h => by cases h) (by kernel_rfl) (fun _ h => by cases h) fnHazards_row_tie rfl ⟨rfl, rfl⟩ (by kernel_rfl) rfl
    (fun f fn hf hfn => by
      obtain rfl : f = 3 := Option.some.inj ((show Tryz.prog.funcNamed "loop.example/g03403/laws.FnHazards" = some 3 by kernel_rfl).symm.trans hf) |>.symm
      obtain rfl : fn = Tryz.f3 := (Option.some.inj (Tryz.func3.symm.trans hfn)).symm
      refine ⟨by kernel_rfl, fun j t ht => ?_⟩
      have hp : Tryz.f3.params = #[22] := by kernel_rfl
      rw [hp] at ht
      have hm : t ∈ [22] := by simpa using Array.mem_of_getElem? ht
      have hall : ([22].all fun u => !Tryz.prog.wantsStandIn u) = true := by kernel_rfl
      exact (show Tryz.prog.wantsStandIn t = false by simpa using List.all_eq_true.1 hall t hm))
    (by kernel_rfl)
end Go.Proofs.YtddflpokemgnmaaGreatDoor.LFnHazards
namespace Go.Proofs.YtddflpokemgnmaaGreatDoor
/-- The tied card, under a short name, for the claim. -/
theorem fnHazards_holds : Rows.FnHazardsCardSaid := LFnHazards.card
#print axioms fnHazards_holds
end Go.Proofs.YtddflpokemgnmaaGreatDoor
