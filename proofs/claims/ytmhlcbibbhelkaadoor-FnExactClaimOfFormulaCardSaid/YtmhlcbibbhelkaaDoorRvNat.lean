/- The evaluator's operations answer alike whatever stands behind them. -/
import Derived.Test.YtmhlcbibbhelkaaDoorRvMem2
import Derived.Test.YtmhlcbibbhelkaaDoorRvMap
namespace Go.Rv
section
variable {L : Lay} {β : Type} {s : St} {r : β}

abbrev Ans := TV × St
def pair (x : TV) (s : St) : Option Ans := some (x, s)

def Nat1 (q : Bool) (s : St) (F : (γ : Type) → (TV → St → Option γ) → Option γ) : Prop :=
  ∀ (γ : Type) (K : TV → St → Option γ) (r : γ), F γ K = some r → ∃ x bl, F Ans pair = some (x, ⟨s.tmps, bl⟩) ∧ K x ⟨s.tmps, bl⟩ = some r ∧ (q = true → bl = s.blks)

section
variable {q : Bool}
theorem nat_ret (x : TV) (s : St) : Nat1 q s fun _ K => K x s := fun _ _ _ h => ⟨x, s.blks, rfl, h, fun _ => rfl⟩
theorem nat_retb (x : TV) (s : St) (b : List Blk) : Nat1 false s fun _ K => K x ⟨s.tmps, b⟩ := fun _ _ _ h => ⟨x, b, rfl, h, fun h => by cases h⟩
theorem nat_none {s : St} : Nat1 q s fun _ _ => none := fun _ _ _ h => by cases h
theorem nat_gd {s : St} {F} (b : Bool) (h : Nat1 q s F) : Nat1 q s fun γ K => gd b (F γ K) := by
  cases b
  · exact nat_none
  · exact h
theorem nat_cond {s : St} {F G} (b : Bool) (h : Nat1 q s F) (h' : Nat1 q s G) : Nat1 q s fun γ K => cond b (F γ K) (G γ K) := by
  cases b
  · exact h'
  · exact h

theorem nat_binInt (op : BinOp) (k : IntKind) (a b : Int) (s : St) : Nat1 q s fun _ K => binInt op k a b fun v => K (one v) s := by
  cases op <;> first | exact nat_ret _ _ | exact nat_gd _ (nat_ret _ _) | exact nat_none
theorem nat_binStr (op : BinOp) (a b : ByteArray) (s : St) : Nat1 q s fun _ K => binStr op a b fun v => K (one v) s := by
  cases op <;> first | exact nat_ret _ _ | exact nat_gd _ (nat_ret _ _) | exact nat_none

theorem nat_bin (op : BinOp) (t : TypeId) (x y : TV) (s : St) : Nat1 q s fun _ K => evBin L op t x y fun v => K v s := by
  unfold evBin
  split
  · repeat' first | exact nat_ret _ _ | exact nat_none | split
  · split
    · exact nat_gd _ (nat_ret _ _)
    · exact nat_gd _ (nat_ret _ _)
    · exact nat_cond _ (nat_binInt _ _ _ _ _) nat_none
  · exact nat_binStr _ _ _ _
  · split
    · exact nat_ret _ _
    · exact nat_ret _ _
    · exact nat_none
  · split
    · split
      · exact nat_ret _ _
      · exact nat_ret _ _
      · exact nat_none
    · exact nat_none
  · exact nat_none

theorem nat_un (op : UnOp) (x : TV) (s : St) : Nat1 q s fun _ K => evUn op x fun v => K v s := by
  unfold evUn
  repeat' first | exact nat_ret _ _ | exact nat_none | split
theorem nat_move (H : Hints) (d : Option Tmp) (t : TypeId) (x : Operand) (s : St) : Nat1 false s fun _ K => evMove L H d t x s K := by
  unfold evMove
  repeat' first | exact nat_ret _ _ | exact nat_retb _ _ _ | exact nat_none | apply nat_cond | split
theorem nat_load (t : TypeId) (x : SV) (s : St) : Nat1 q s fun _ K => evLoad L t x s K := by
  unfold evLoad
  repeat' first | exact nat_ret _ _ | exact nat_none | apply nat_gd | apply nat_cond | split
theorem nat_store (t : TypeId) (x : SV) (v : TV) (s : St) : Nat1 false s fun _ K => evStore t L x v s K := by
  unfold evStore
  repeat' first | exact nat_ret _ _ | exact nat_retb _ _ _ | exact nat_none | apply nat_cond | split
theorem nat_indexAddr (t : TypeId) (x i : SV) (s : St) : Nat1 q s fun _ K => evIndexAddr L t x i s K := by
  unfold evIndexAddr
  repeat' first | exact nat_ret _ _ | exact nat_none | apply nat_gd | apply nat_cond | split
theorem nat_len (t : TypeId) (x : SV) (s : St) : Nat1 q s fun _ K => evLen L t x s K := by
  unfold evLen
  repeat' first | exact nat_ret _ _ | exact nat_none | split
theorem nat_lookup (t : TypeId) (x : SV) (i : TV) (ok : Bool) (s : St) : Nat1 q s fun _ K => evLookup L t x i ok s K := by
  unfold evLookup
  repeat' first | exact nat_ret _ _ | exact nat_none | apply nat_cond | split
theorem nat_mapUpdate (t : TypeId) (x : SV) (i v : TV) (s : St) : Nat1 false s fun _ K => evMapUpdate L t x i v s K := by
  unfold evMapUpdate
  repeat' first | exact nat_ret _ _ | exact nat_retb _ _ _ | exact nat_none | apply nat_cond | split
theorem nat_append (ts : List TypeId) (x y : SV) (s : St) : Nat1 false s fun _ K => evAppend L ts x y s K := by
  unfold evAppend
  repeat' first | exact nat_ret _ _ | exact nat_retb _ _ _ | exact nat_none | apply nat_gd | apply nat_cond | split
theorem nat_clear (ts : List TypeId) (x : SV) (s : St) : Nat1 false s fun _ K => evClear L ts x s K := by
  unfold evClear
  repeat' first | exact nat_ret _ _ | exact nat_retb _ _ _ | exact nat_none | apply nat_gd | apply nat_cond | split
theorem nat_sliceStr (b : ByteArray) (lo hi : Option TV) (s : St) : Nat1 q s fun _ K => evSliceStr b lo hi fun v => K v s := by
  unfold evSliceStr
  repeat' first | exact nat_ret _ _ | exact nat_none | apply nat_gd | split

theorem nat_sliceRow (t : TypeId) (x : SV) (lo hi : Option TV) (s : St) : Nat1 false s fun _ K => evSliceRow L t x lo hi s K := by
  unfold evSliceRow
  repeat' first | exact nat_ret _ _ | exact nat_retb _ _ _ | exact nat_none | apply nat_gd | split

theorem nat_move_q (H : Hints) (d : Option Tmp) (t : TypeId) (x : Operand) (s : St) (h : quietB (.move x) = true) : Nat1 q s fun _ K => evMove L H d t x s K := by
  unfold evMove
  split
  · simp [quietB] at h
  · exact nat_ret _ _
theorem quiet_assign {x : Operand} : quietB (.assign x) = quietB (.move x) := by
  cases x with
  | const v => cases v <;> rfl
  | _ => rfl

theorem nat_op (q : Bool) (H : Hints) (o : Oper) (s : St) (hc : callB o.op = false) (hq : q = true → quietB o.op = true) : Nat1 q s fun γ K => evOp L (⟨[], [], [], [], H⟩ : Env γ) o s K := by
  have mem : quietB o.op = false → q = false := fun h => by
    cases q with
    | false => rfl
    | true => rw [hq rfl] at h; cases h

  unfold evOp
  simp only
  split
  all_goals first
    | exact nat_lookup _ _ _ _ _ | exact nat_load _ _ _ | exact nat_bin _ _ _ _ _ | exact nat_un _ _ _ | exact nat_indexAddr _ _ _ _
    | (rename_i ho
       rw [ho] at mem
       obtain rfl := mem rfl
       first
         | exact nat_store _ _ _ _
         | exact nat_mapUpdate _ _ _ _ _
         | (repeat' first | exact nat_ret _ _ | exact nat_retb _ _ _ | exact nat_none | exact nat_sliceStr _ _ _ _ | exact nat_sliceRow _ _ _ _ _ | apply nat_gd | apply nat_cond | split))
    | skip
  · rename_i x ho
    cases q with
    | false => exact nat_move _ _ _ _ _
    | true => exact nat_move_q _ _ _ _ _ (by rw [← ho]; exact hq rfl)
  · rename_i x ho
    cases q with
    | false => exact nat_move _ _ _ _ _
    | true => exact nat_move_q _ _ _ _ _ (by rw [← quiet_assign, ← ho]; exact hq rfl)
  all_goals first
    | (rename_i src dst y ho
       cases hb : Nat.beq src dst with
       | true =>
         rw [ho] at mem
         obtain rfl := mem (by simp [quietB, hb])
         repeat' first | exact nat_ret _ _ | exact nat_retb _ _ _ | exact nat_none | apply nat_cond | split
       | false => repeat' first | exact nat_ret _ _ | exact nat_none | simp only [cond_false] | split)
    | (rename_i c ho
       rw [ho] at hc mem
       unfold evCall
       split
       · rename_i f hf
         exfalso
         revert hc
         obtain ⟨callee, args, ts⟩ := c
         simp only at hf
         subst hf
         simp [callB]
       · repeat' first | exact nat_ret _ _ | exact nat_none | exact nat_len _ _ _ | split
       · repeat' first | exact nat_ret _ _ | exact nat_none | apply nat_cond | split
       · repeat' first | exact nat_ret _ _ | exact nat_none | apply nat_cond | split
       · rename_i hf
         obtain ⟨callee, args, ts⟩ := c
         simp only at hf
         subst hf
         obtain rfl := mem rfl
         repeat' first | exact nat_ret _ _ | exact nat_none | exact nat_append _ _ _ _ | split
       · rename_i hf
         obtain ⟨callee, args, ts⟩ := c
         simp only at hf
         subst hf
         obtain rfl := mem rfl
         repeat' first | exact nat_ret _ _ | exact nat_none | exact nat_clear _ _ _ | split
       · exact nat_none)
    | (repeat' first | exact nat_ret _ _ | exact nat_none | exact nat_sliceStr _ _ _ _ | apply nat_gd | apply nat_cond | split)
end
end
end Go.Rv
