/- The program's FnProtocols returns what the reference's returns, for all arguments. -/
import Derived.Test.YtddflpokemgnmaaDoorRows
import Derived.Test.YtddflpokemgnmaaDoorE10
import Derived.Test.YtddflpokemgnmaaDoorRvLaw
import Derived.Test.YtddflpokemgnmaaDoorP92
import Derived.WalkKit
import Derived.ProofKit
import Derived.OpenShut
import Derived.ShutString
import Derived.ChangeOld
import Derived.LaidMore
import Derived.Stop.Joined
import Derived.SevenTiedAt
import Derived.LaidSub
import Derived.Test.YtddflpokemgnmaaDoorCards
import Derived.Test.YtddflpokemgnmaaDoorTie
namespace Go.Proofs.YtddflpokemgnmaaDoor.LFnProtocols
open Go.Rv Go.ChangeShapes Go.WideShapes Go.ChangeAt Go.RowKit
set_option maxRecDepth 100000
set_option linter.unusedVariables false
theorem of_wf {n : Int} (h : (Lit.int .i64 n).wf = true) : -9223372036854775808 ≤ n ∧ n ≤ 9223372036854775807 := by
  simpa [Lit.wf, IntKind.min, IntKind.max, IntKind.signed, IntKind.bits] using h
theorem tc22 {s : SV} (h : typedS lay 22 s) : ∃ l, s = .sl 5 (.ints .u8 l) ∧ l.length ≤ maxLen ∧ ∀ n ∈ l, (Lit.int .u8 n).wf = true := by
  obtain ⟨q, rfl, l, rfl, h1⟩ := (show ∃ q, s = .sl 5 q ∧ ∃ l, q = .ints .u8 l ∧ l.length ≤ maxLen ∧ ∀ n ∈ l, (Lit.int .u8 n).wf = true from h)
  exact ⟨l, rfl, h1⟩
theorem own : ownKnob Tryd.prog.godebug = none := by kernel_rfl
theorem law (xs : List TV) (h : All2 (typedT Tryd.prog lay) [22] xs) : S3 1048577 xs isTrue = some () := by
  rcases h with _ | ⟨hp0, h⟩
  rename_i p0 _
  rcases h with _ | _
  obtain ⟨s0, rfl, hc0_0⟩ := (show ∃ s, p0 = .v (.one s) ∧ typedS lay 22 s from hp0)
  obtain ⟨a0, rfl, wa0, _⟩ := tc22 hc0_0
  rw [maxLen_eq] at wa0
  exact law_FnProtocols 1048577 (by omega) a0 (by omega) (fun z => isTrue (.v (.one (.bool z))))
/-- The table of powers of ten, by the row's own condition. -/
theorem tab_of {w : World} (h : laidMetH Tryd.prog Rows.fnProtocolsRow.laid w) : inv w := by
  have h1 := h.filter (fun x => x.1 == "internal/strconv.uint64pow10")
  have e : (Rows.fnProtocolsRow.laid.filter fun x => x.1 == "internal/strconv.uint64pow10") = [("internal/strconv.uint64pow10", Lib.tabData .u64 Lib.pow10Tab)] := by kernel_rfl
  rw [e] at h1
  exact Lib.tabIs_of_head (g := 1) (t := 109) (n := 20) (e := 71) (by kernel_rfl) (by kernel_rfl) (by kernel_rfl) (by kernel_rfl) (by kernel_rfl) (by kernel_rfl) h1
/-- The door's own heap meets the condition. -/
theorem door_met (os : Os) (args : Array Value) : laidMetH Tryd.prog Rows.fnProtocolsRow.laid ((World.doorLaid Tryd.prog 24 os).forCall (fun _ _ => 0) ⟨#[], args, []⟩).memory :=
  laidMetH_of_parts3 (fuel := 8) (laidMet_of_run' 8 (by kernel_rfl) (by kernel_rfl)) (by kernel_rfl) (by kernel_rfl)
theorem lifted (os : Os) (started : os.Started) (H : Type) (enc : TypeId × Value → H) :
    ReturnsInHanded {} Tryd.checked os 3 .any (fun w args => (Rows.fnProtocolsSpec.pre enc Tryd.prog Tryd.f3 [] false w args ∧ laidMetH Tryd.prog Rows.fnProtocolsRow.laid w) ∧ sizedMet enc Tryd.prog Tryd.f3 (OpenSpec.ofChange Rows.fnProtocolsSpec) false w args) (Rows.fnProtocolsSpec.post enc Tryd.prog Tryd.f3 false true false false) :=
  law_lifted_and (I := inv) (X := fun w _ => laidMetH Tryd.prog Rows.fnProtocolsRow.laid w) (fun _ _ h => tab_known (tab_of h)) (fun _ _ _ hh h => h.of_heap hh) (C := Tryd.checked) (L := lay) (b := 4) own started (by kernel_rfl) Tryd.func3
    (ChangeSpec.witness_shaped (enc := enc) (C := Tryd.checked) (os := os) (X := fun w _ => laidMetH Tryd.prog Rows.fnProtocolsRow.laid w) false (World.doorLaid Tryd.prog 24 os) #[.slice none 0 0] 8 rfl (World.shaped_of_RefB (by kernel_rfl) (by kernel_rfl)) (by kernel_rfl) (by kernel_rfl) (by kernel_rfl) (door_met os _))
    (by decide +kernel) lay_ok (by decide +kernel) rfl Tryd.underlying4 rfl
    (fun ds h => match ds, h with | [_], _ => ⟨rfl, rfl, rfl⟩)
    (o3 1048577) law
theorem over : Rows.fnProtocolsRow.holds Tryd.pinned (OpenSpec.ofChange Rows.fnProtocolsSpec) :=
  OpenClaim.holds_of_wide 3 Tryd.f3 rfl rfl rfl rfl rfl rfl rfl ⟨rfl, rfl, rfl, rfl, rfl⟩ rfl rfl rfl rfl rfl (by kernel_rfl) Tryd.func3 (by kernel_rfl)
    (of_decide_eq_true (by kernel_rfl)) (by unfold Func.isWrapper; first | (rw [if_pos (by decide +kernel)]; kernel_rfl) | (rw [if_neg (by decide +kernel)]; exact ⟨rfl, rfl⟩))
    (fun os started H enc _ => lifted os started H enc)
theorem card : Rows.FnProtocolsCardSaid :=
  Claim7.holds_tied_plain_at .later [] [.data, .data, .data] true (true, "2d7c03edd7ff96f9a8b93ec50734e10c2ddc2461afda0131db76720c65f27d82") false
    over (fun _ h => by cases h) (by kernel_rfl) (fun _ h => by cases h) fnProtocols_row_tie rfl ⟨rfl, rfl⟩ (by kernel_rfl) rfl
    (fun f fn hf hfn => by
      obtain rfl : f = 3 := Option.some.inj ((show Tryd.prog.funcNamed "loop.example/g03403/laws.FnProtocols" = some 3 by kernel_rfl).symm.trans hf) |>.symm
      obtain rfl : fn = Tryd.f3 := (Option.some.inj (Tryd.func3.symm.trans hfn)).symm
      refine ⟨by kernel_rfl, fun j t ht => ?_⟩
      have hp : Tryd.f3.params = #[22] := by kernel_rfl
      rw [hp] at ht
      have hm : t ∈ [22] := by simpa using Array.mem_of_getElem? ht
      have hall : ([22].all fun u => !Tryd.prog.wantsStandIn u) = true := by kernel_rfl
      exact (show Tryd.prog.wantsStandIn t = false by simpa using List.all_eq_true.1 hall t hm))
    (by kernel_rfl)
end Go.Proofs.YtddflpokemgnmaaDoor.LFnProtocols
namespace Go.Proofs.YtddflpokemgnmaaDoor
/-- The tied card, under a short name, for the claim. -/
theorem fnProtocols_holds : Rows.FnProtocolsCardSaid := LFnProtocols.card
#print axioms fnProtocols_holds
end Go.Proofs.YtddflpokemgnmaaDoor
