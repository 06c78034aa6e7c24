/- Plain laws of the texts: two claims are compared alike. -/
import Derived.Test.YtfdggelojmofmaaP0
namespace Go.Proofs.Ytfdggelojmofmaa
open Go.Rv
variable {β : Type}
theorem laws_eqClaim_same (N : Nat) (a0 a1 a2 a3 a4 : Int) (s : ByteArray) (l : List Int) (hl : l.length ≤ 1048576) (hN : 1048576 < N) (k : Bool → Option β) : laws_eqClaim N a0 a1 a2 a3 a4 s l a0 a1 a2 a3 a4 s l k = k true := by
  unfold laws_eqClaim laws_eqTable
  simp [laws_eqIntS_eq N l l hl hN]
end Go.Proofs.Ytfdggelojmofmaa
