/- The evaluator's operations bK alike whatever stands behind them. -/
import Derived.Test.YtemihnclhcobnaaGreatDoorRvMem2
import Derived.Test.YtemihnclhcobnaaGreatDoorRvMap
namespace Go.Rv
set_option linter.unusedSimpArgs false
section
variable {L : Lay} {β : Type} {s : St} {r : β}

abbrev Ans := TV × St
def oE (x : TV) (s : St) : Option Ans := some (x, s)

def ed (q : Bool) (s : St) (F : (γ : Type) → (TV → St → Option γ) → Option γ) : Prop :=
 ∀ (γ : Type) (K : TV → St → Option γ) (r : γ), F γ K = some r → ∃ x bl, F Ans oE = some (x, ⟨s.tmps, bl⟩) ∧ K x ⟨s.tmps, bl⟩ = some r ∧ (q = true → bl = s.blks)

section
variable {q : Bool}
theorem aU (x : TV) (s : St) : ed q s fun _ K => K x s := fun _ _ _ h => ⟨x, s.blks, rfl, h, fun _ => rfl⟩
theorem dZ (x : TV) (s : St) (b : List Blk) : ed false s fun _ K => K x ⟨s.tmps, b⟩ := fun _ _ _ h => ⟨x, b, rfl, h, fun h => by cases h⟩
theorem aN {s : St} : ed q s fun _ _ => none := fun _ _ _ h => by cases h
theorem ef {s : St} {F} (b : Bool) (h : ed q s F) : ed q s fun γ K => gd b (F γ K) := by
 cases b
 ·exact aN
 ·exact h
theorem bU {s : St} {F G} (b : Bool) (h : ed q s F) (h' : ed q s G) : ed q s fun γ K => cond b (F γ K) (G γ K) := by
 cases b
 ·exact h'
 ·exact h

theorem Bp (op : BinOp) (k : IntKind) (a b : Int) (s : St) : ed q s fun _ K => vX op k a b fun v => K (one v) s := by
 cases op <;> first | exact aU _ _ | exact ef _ (aU _ _) | exact aN
theorem Bq (op : BinOp) (a b : ByteArray) (s : St) : ed q s fun _ K => vY op a b fun v => K (one v) s := by
 cases op <;> first | exact aU _ _ | exact ef _ (aU _ _) | exact aN

theorem NW (op : BinOp) (t : TypeId) (x y : TV) (s : St) : ed q s fun _ K => uh L op t x y fun v => K v s := by
 unfold uh
 split
 ·repeat' first | exact aU _ _ | exact aN | split
 ·split
  ·exact ef _ (aU _ _)
  ·exact ef _ (aU _ _)
  ·exact bU _ (Bp _ _ _ _ _) aN
 ·exact Bq _ _ _ _
 ·split
  ·exact aU _ _
  ·exact aU _ _
  ·exact aN
 ·split
  ·split
   ·exact aU _ _
   ·exact aU _ _
   ·exact aN
  ·exact aN
 ·exact aN

theorem SH (op : UnOp) (x : TV) (s : St) : ed q s fun _ K => IO op x fun v => K v s := by
 unfold IO
 repeat' first | exact aU _ _ | exact aN | split
theorem zo (H : ej) (d : Option Tmp) (t : TypeId) (x : Operand) (s : St) : ed false s fun _ K => eR L H d t x s K := by
 unfold eR
 repeat' first | exact aU _ _ | exact dZ _ _ _ | exact aN | apply bU | split
theorem Ju (t : TypeId) (x : SV) (s : St) : ed q s fun _ K => qC L t x s K := by
 unfold qC
 repeat' first | exact aU _ _ | exact aN | apply ef | apply bU | split
theorem F8 (t : TypeId) (x : SV) (v : TV) (s : St) : ed false s fun _ K => nc t L x v s K := by
 unfold nc
 repeat' first | exact aU _ _ | exact dZ _ _ _ | exact aN | apply bU | split
theorem tw (t : TypeId) (x i : SV) (s : St) : ed q s fun _ K => dT L t x i s K := by
 unfold dT
 repeat' first | exact aU _ _ | exact aN | apply ef | apply bU | split
theorem NX (t : TypeId) (x : SV) (s : St) : ed q s fun _ K => yI L t x s K := by
 unfold yI
 repeat' first | exact aU _ _ | exact aN | split
theorem Br (t : TypeId) (x : SV) (i : TV) (ok : Bool) (s : St) : ed q s fun _ K => jn L t x i ok s K := by
 unfold jn
 repeat' first | exact aU _ _ | exact aN | apply bU | split
theorem tz (t : TypeId) (x : SV) (i v : TV) (s : St) : ed false s fun _ K => dU L t x i v s K := by
 unfold dU
 repeat' first | exact aU _ _ | exact dZ _ _ _ | exact aN | apply bU | split
theorem Bo (ts : List TypeId) (x y : SV) (s : St) : ed false s fun _ K => eQ L ts x y s K := by
 unfold eQ
 repeat' first | exact aU _ _ | exact dZ _ _ _ | exact aN | apply ef | apply bU | split
theorem F7 (ts : List TypeId) (x : SV) (s : St) : ed false s fun _ K => nb L ts x s K := by
 unfold nb
 repeat' first | exact aU _ _ | exact dZ _ _ _ | exact aN | apply ef | apply bU | split
theorem ny (b : ByteArray) (lo hi : Option TV) (s : St) : ed q s fun _ K => bv b lo hi fun v => K v s := by
 unfold bv
 repeat' first | exact aU _ _ | exact aN | apply ef | split

theorem wG (t : TypeId) (x : SV) (lo hi : Option TV) (s : St) : ed false s fun _ K => dz L t x lo hi s K := by
 unfold dz
 repeat' first | exact aU _ _ | exact dZ _ _ _ | exact aN | apply ef | split

theorem rh (H : ej) (d : Option Tmp) (t : TypeId) (x : Operand) (s : St) (h : bx (.move x) = true) : ed q s fun _ K => eR L H d t x s K := by
 unfold eR
 split
 ·simp [bx] at h
 ·exact aU _ _
theorem wW {x : Operand} : bx (.assign x) = bx (.move x) := by
 cases x with
 | const v => cases v <;> rfl
 | _ => rfl

theorem SF (q : Bool) (H : ej) (o : Oper) (s : St) (hc : bY o.op = false) (hq : q = true → bx o.op = true) : ed q s fun γ K => dy L (⟨[], [], [], [], H⟩ : Env γ) o s K := by
  have mem : bx o.op = false → q = false := fun h => by
    cases q with
    | false => rfl
    | true => rw [hq rfl] at h; cases h

  unfold dy
  simp only
  split
  all_goals first
    | exact Br _ _ _ _ _ | exact Ju _ _ _ | exact NW _ _ _ _ _ | exact SH _ _ _ | exact tw _ _ _ _
    | (rename_i ho
       rw [ho] at mem
       obtain rfl := mem rfl
       first
         | exact F8 _ _ _ _
         | exact tz _ _ _ _ _
         | (repeat' first | exact aU _ _ | exact dZ _ _ _ | exact aN | exact ny _ _ _ _ | exact wG _ _ _ _ _ | apply ef | apply bU | split))
    | skip
  · rename_i x ho
    cases q with
    | false => exact zo _ _ _ _ _
    | true => exact rh _ _ _ _ _ (by rw [← ho]; exact hq rfl)
  · rename_i x ho
    cases q with
    | false => exact zo _ _ _ _ _
    | true => exact rh _ _ _ _ _ (by rw [← wW, ← ho]; exact hq rfl)
  all_goals first
    | (rename_i src dst y ho
       cases hb : Nat.beq src dst with
       | true =>
         rw [ho] at mem
         obtain rfl := mem (by simp [bx, hb])
         repeat' first | exact aU _ _ | exact dZ _ _ _ | exact aN | apply bU | split
       | false => repeat' first | exact aU _ _ | exact aN | simp only [YB] | split)
    | (rename_i c ho
       rw [ho] at hc mem
       unfold mo
       split
       · rename_i f hf
         exfalso
         revert hc
         obtain ⟨callee, args, ts⟩ := c
         simp only at hf
         subst hf
         simp [bY]
       · repeat' first | exact aU _ _ | exact aN | exact NX _ _ _ | split
       · repeat' first | exact aU _ _ | exact aN | apply bU | split
       · repeat' first | exact aU _ _ | exact aN | apply bU | split
       · rename_i hf
         obtain ⟨callee, args, ts⟩ := c
         simp only at hf
         subst hf
         obtain rfl := mem rfl
         repeat' first | exact aU _ _ | exact aN | exact Bo _ _ _ _ | split
       · rename_i hf
         obtain ⟨callee, args, ts⟩ := c
         simp only at hf
         subst hf
         obtain rfl := mem rfl
         repeat' first | exact aU _ _ | exact aN | exact F7 _ _ _ | split
       · exact aN)
    | (repeat' first | exact aU _ _ | exact aN | exact ny _ _ _ _ | apply ef | apply bU | split)
end
end
end Go.Rv
