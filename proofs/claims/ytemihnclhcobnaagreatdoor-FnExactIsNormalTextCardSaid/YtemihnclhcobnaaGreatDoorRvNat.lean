/- The evaluator's operations bz alike whatever stands behind them. -/
import Derived.Test.YtemihnclhcobnaaGreatDoorRvMem2
import Derived.Test.YtemihnclhcobnaaGreatDoorRvMap
namespace Go.Rv
set_option linter.unusedSimpArgs false
section
variable {L : Lay} {β : Type} {s : St} {r : β}

abbrev Ans := TV × St
def qB (x : TV) (s : St) : Option Ans := some (x, s)

def eH (q : Bool) (s : St) (F : (γ : Type) -> (TV -> St -> Option γ) -> Option γ) : Prop :=
 ∀ (γ : Type) (K : TV -> St -> Option γ) (r : γ), F γ K = some r -> ∃ x bl, F Ans qB = some (x, ⟨s.tmps, bl⟩) /\ K x ⟨s.tmps, bl⟩ = some r /\ (q = true -> bl = s.blks)

section
variable {q : Bool}
theorem aV (x : TV) (s : St) : eH q s fun _ K => K x s := fun _ _ _ h => ⟨x, s.blks, rfl, h, fun _ => rfl⟩
theorem er (x : TV) (s : St) (b : List Blk) : eH false s fun _ K => K x ⟨s.tmps, b⟩ := fun _ _ _ h => ⟨x, b, rfl, h, fun h => by cases h⟩
theorem aT {s : St} : eH q s fun _ _ => none := fun _ _ _ h => by cases h
theorem eK {s : St} {F} (b : Bool) (h : eH q s F) : eH q s fun γ K => gd b (F γ K) := by
 cases b
 ·exact aT
 ·exact h
theorem b7 {s : St} {F G} (b : Bool) (h : eH q s F) (h' : eH q s G) : eH q s fun γ K => cond b (F γ K) (G γ K) := by
 cases b
 ·exact h'
 ·exact h

theorem Ej (op : BinOp) (k : IntKind) (a b : Int) (s : St) : eH q s fun _ K => yP op k a b fun v => K (one v) s := by
 cases op <;> first | exact aV _ _ | exact eK _ (aV _ _) | exact aT
theorem Ek (op : BinOp) (a b : ByteArray) (s : St) : eH q s fun _ K => yQ op a b fun v => K (one v) s := by
 cases op <;> first | exact aV _ _ | exact eK _ (aV _ _) | exact aT

theorem SX (op : BinOp) (t : TypeId) (x y : TV) (s : St) : eH q s fun _ K => wY L op t x y fun v => K v s := by
 unfold wY
 split
 ·repeat' first | exact aV _ _ | exact aT | split
 ·split
  ·exact eK _ (aV _ _)
  ·exact eK _ (aV _ _)
  ·exact b7 _ (Ej _ _ _ _ _) aT
 ·exact Ek _ _ _ _
 ·split
  ·exact aV _ _
  ·exact aV _ _
  ·exact aT
 ·split
  ·split
   ·exact aV _ _
   ·exact aV _ _
   ·exact aT
  ·exact aT
 ·exact aT

theorem Zj (op : UnOp) (x : TV) (s : St) : eH q s fun _ K => MN op x fun v => K v s := by
 unfold MN
 repeat' first | exact aV _ _ | exact aT | split
theorem Ce (H : eN) (d : Option Tmp) (t : TypeId) (x : Operand) (s : St) : eH false s fun _ K => fk L H d t x s K := by
 unfold fk
 repeat' first | exact aV _ _ | exact er _ _ _ | exact aT | apply b7 | split
theorem NM (t : TypeId) (x : SV) (s : St) : eH q s fun _ K => sZ L t x s K := by
 unfold sZ
 repeat' first | exact aV _ _ | exact aT | apply eK | apply b7 | split
theorem JK (t : TypeId) (x : SV) (v : TV) (s : St) : eH false s fun _ K => o0 t L x v s K := by
 unfold o0
 repeat' first | exact aV _ _ | exact er _ _ _ | exact aT | apply b7 | split
theorem wm (t : TypeId) (x i : SV) (s : St) : eH q s fun _ K => ee L t x i s K := by
 unfold ee
 repeat' first | exact aV _ _ | exact aT | apply eK | apply b7 | split
theorem SY (t : TypeId) (x : SV) (s : St) : eH q s fun _ K => BM L t x s K := by
 unfold BM
 repeat' first | exact aV _ _ | exact aT | split
theorem El (t : TypeId) (x : SV) (i : TV) (ok : Bool) (s : St) : eH q s fun _ K => j4 L t x i ok s K := by
 unfold j4
 repeat' first | exact aV _ _ | exact aT | apply b7 | split
theorem wn (t : TypeId) (x : SV) (i v : TV) (s : St) : eH false s fun _ K => ef L t x i v s K := by
 unfold ef
 repeat' first | exact aV _ _ | exact er _ _ _ | exact aT | apply b7 | split
theorem Ei (ts : List TypeId) (x y : SV) (s : St) : eH false s fun _ K => fj L ts x y s K := by
 unfold fj
 repeat' first | exact aV _ _ | exact er _ _ _ | exact aT | apply eK | apply b7 | split
theorem JJ (ts : List TypeId) (x : SV) (s : St) : eH false s fun _ K => oY L ts x s K := by
 unfold oY
 repeat' first | exact aV _ _ | exact er _ _ _ | exact aT | apply eK | apply b7 | split
theorem pm (b : ByteArray) (lo hi : Option TV) (s : St) : eH q s fun _ K => bA b lo hi fun v => K v s := by
 unfold bA
 repeat' first | exact aV _ _ | exact aT | apply eK | split

theorem zB (t : TypeId) (x : SV) (lo hi : Option TV) (s : St) : eH false s fun _ K => dN L t x lo hi s K := by
 unfold dN
 repeat' first | exact aV _ _ | exact er _ _ _ | exact aT | apply eK | split

theorem tX (H : eN) (d : Option Tmp) (t : TypeId) (x : Operand) (s : St) (h : bB (.move x) = true) : eH q s fun _ K => fk L H d t x s K := by
 unfold fk
 split
 ·simp [bB] at h
 ·exact aV _ _
theorem z8 {x : Operand} : bB (.assign x) = bB (.move x) := by
 cases x with
 | const v => cases v <;> rfl
 | _ => rfl

theorem Zi (q : Bool) (H : eN) (o : Oper) (s : St) (hc : cg o.op = false) (hq : q = true -> bB o.op = true) : eH q s fun γ K => dM L (⟨[], [], [], [], H⟩ : Env γ) o s K := by
  have mem : bB o.op = false -> q = false := fun h => by
    cases q with
    | false => rfl
    | true => rw [hq rfl] at h; cases h

  unfold dM
  simp only
  split
  all_goals first
    | exact El _ _ _ _ _ | exact NM _ _ _ | exact SX _ _ _ _ _ | exact Zj _ _ _ | exact wm _ _ _ _
    | (rename_i ho
       rw [ho] at mem
       obtain rfl := mem rfl
       first
         | exact JK _ _ _ _
         | exact wn _ _ _ _ _
         | (repeat' first | exact aV _ _ | exact er _ _ _ | exact aT | exact pm _ _ _ _ | exact zB _ _ _ _ _ | apply eK | apply b7 | split))
    | skip
  · rename_i x ho
    cases q with
    | false => exact Ce _ _ _ _ _
    | true => exact tX _ _ _ _ _ (by rw [<- ho]; exact hq rfl)
  · rename_i x ho
    cases q with
    | false => exact Ce _ _ _ _ _
    | true => exact tX _ _ _ _ _ (by rw [<- z8, <- ho]; exact hq rfl)
  all_goals first
    | (rename_i src dst y ho
       cases hb : Nat.beq src dst with
       | true =>
         rw [ho] at mem
         obtain rfl := mem (by simp [bB, hb])
         repeat' first | exact aV _ _ | exact er _ _ _ | exact aT | apply b7 | split
       | false => repeat' first | exact aV _ _ | exact aT | simp only [ajY] | split)
    | (rename_i c ho
       rw [ho] at hc mem
       unfold nz
       split
       · rename_i f hf
         exfalso
         revert hc
         obtain ⟨callee, args, ts⟩ := c
         simp only at hf
         subst hf
         simp [cg]
       · repeat' first | exact aV _ _ | exact aT | exact SY _ _ _ | split
       · repeat' first | exact aV _ _ | exact aT | apply b7 | split
       · repeat' first | exact aV _ _ | exact aT | apply b7 | split
       · rename_i hf
         obtain ⟨callee, args, ts⟩ := c
         simp only at hf
         subst hf
         obtain rfl := mem rfl
         repeat' first | exact aV _ _ | exact aT | exact Ei _ _ _ _ | split
       · rename_i hf
         obtain ⟨callee, args, ts⟩ := c
         simp only at hf
         subst hf
         obtain rfl := mem rfl
         repeat' first | exact aV _ _ | exact aT | exact JJ _ _ _ | split
       · exact aT)
    | (repeat' first | exact aV _ _ | exact aT | exact pm _ _ _ _ | apply eK | apply b7 | split)
end
end
end Go.Rv
