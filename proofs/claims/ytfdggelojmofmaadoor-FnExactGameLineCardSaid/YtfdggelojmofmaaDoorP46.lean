/- The line of a spectrum. -/
import Derived.Test.YtfdggelojmofmaaDoorP45
namespace Go.Proofs.YtfdggelojmofmaaDoor
open Go.Rv
variable {β : Type}
theorem sps_in (w n m : Nat) (hn : n ≤ 5) : ∀ x ∈ sps w n m, in64 x := by
  intro x hx
  simp only [sps, List.mem_map] at hx
  obtain ⟨u, _, rfl⟩ := hx
  have := sumTo_le (tm w u) (tm_range w u) (2 ^ n)
  have := size_le hn
  unfold in64
  omega
theorem wr_in (l : List Int) (i x : Int) (hx : in64 x) (hl : ∀ y ∈ l, in64 y) : ∀ y ∈ wr l i x, in64 y := by
  intro y hy
  unfold wr at hy
  rcases List.mem_or_eq_of_mem_set hy with h | rfl
  · exact hl y h
  · exact hx
theorem en_in (l z : List Int) (hz : ∀ y ∈ z, in64 y) : ∀ i, ∀ y ∈ en l z i, in64 y
  | 0 => hz
  | i + 1 => wr_in _ _ _ (w64_in _) (en_in l z hz i)
theorem zeros_in (n : Nat) : ∀ y ∈ List.replicate n (0 : Int), in64 y := by
  intro y hy
  have := (List.mem_replicate.1 hy).2
  subst this
  unfold in64; omega
theorem nonl_in (w n : Nat) : in64 (nonl w n) := w64_in _
theorem ci_in (l : List Int) (n : Int) (hn : in64 n) : ∀ i, in64 (ci l n i)
  | 0 => hn
  | i + 1 => by
    have h1 := ci_in l n hn i
    have h2 := w64_in ((ones i : Int) - 1)
    simp only [ci]
    generalize w64 ((ones i : Int) - 1) = z at h2 ⊢
    generalize ci l n i = y at h1 ⊢
    cases (decide (0 < i) && (rd 0 l (i : Int) != 0)) with
    | false => exact h1
    | true =>
      simp only [cond_true, mnI]
      split
      · exact h2
      · exact h1
theorem rj2_in (w x : Nat) (s : Int) (hs : in64 s) : ∀ y, in64 (rj2 w x s y)
  | 0 => hs
  | _ + 1 => w64_in _
theorem rj1_in (w m : Nat) : ∀ x, in64 (rj1 w m x)
  | 0 => by unfold rj1 in64; omega
  | x + 1 => rj2_in w x _ (rj1_in w m x) m

theorem joinB_B (l : List (List UInt8)) (s : List UInt8) : joinB (l.map B) (B s) = B (Lib.join l s) := by
  unfold joinB B
  rw [List.map_map]
  have : ((fun x : ByteArray => x.data.toList) ∘ fun l : List UInt8 => (⟨l.toArray⟩ : ByteArray)) = id := by
    funext l
    simp
  rw [this]
  simp

/-- The line. -/
def specLine (S E nl im re : List UInt8) : List UInt8 :=
  Lib.join [[115, 112, 101, 99, 116, 114, 117, 109], S, [108, 101, 118, 101, 108, 115], E, [110, 111, 110, 108, 105, 110, 101, 97, 114, 105, 116, 121], nl, [105, 109, 109, 117, 110, 105, 116, 121], im, [114, 101, 106, 101, 99, 116, 115], re] [32]
end Go.Proofs.YtfdggelojmofmaaDoor
