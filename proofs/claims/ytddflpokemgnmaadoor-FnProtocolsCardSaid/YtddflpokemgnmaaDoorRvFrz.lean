/- Functions whose rows, handed back, are told by their content for ever. -/
import Derived.Test.YtddflpokemgnmaaDoorRvUse
namespace Go.Rv
section
variable {I : World → Prop} {P : Program} {L : Lay} {β : Type}

def frzAns (y : TV) : TV := (frzT (takeT [] y).2 (takeT [] y).1).1
def fixS : SV → Bool
  | .int .. | .bool _ | .str _ | .fsl .. | .tr .. => true
  | _ => false
def fixA : AV → Bool
  | .one s => fixS s
  | .agg l => l.all fixS
def fixT : TV → Bool
  | .v x => fixA x
  | .tup l => l.all fixA
def frzK (K : TV → Option β) (y : TV) : Option β := match fixT (frzAns y) with
  | true => K (frzAns y)
  | false => none
theorem fixS_take {s : SV} (h : fixS s = true) (bl : List Blk) : takeS bl s = (s, bl) ∧ renS [] s = s ∧ ansS s = true := by cases s <;> first | exact ⟨rfl, rfl, rfl⟩ | cases h
theorem fixL_take : ∀ {l : List SV}, l.all fixS = true → ∀ bl, takeL bl l = (l, bl) ∧ l.map (renS []) = l ∧ l.all ansS = true
  | [], _, bl => ⟨rfl, rfl, rfl⟩
  | s :: l, h, bl => by
    simp only [List.all_cons, Bool.and_eq_true] at h
    obtain ⟨h1, h2, h3⟩ := fixS_take h.1 bl
    obtain ⟨k1, k2, k3⟩ := fixL_take h.2 bl
    refine ⟨by simp only [takeL, h1, k1], by rw [List.map_cons, h2, k2], by rw [List.all_cons, h3, k3]; rfl⟩
theorem fixA_take {x : AV} (h : fixA x = true) (bl : List Blk) : takeA bl x = (x, bl) ∧ renA [] x = x ∧ ansA x = true := by
  cases x with
  | one s =>
    obtain ⟨h1, h2, h3⟩ := fixS_take h bl
    exact ⟨by simp only [takeA, h1], by simp only [renA, h2], h3⟩
  | agg l =>
    obtain ⟨h1, h2, h3⟩ := fixL_take h bl
    exact ⟨by simp only [takeA, h1], by simp only [renA, h2], h3⟩
theorem fixAs_take : ∀ {l : List AV}, l.all fixA = true → ∀ bl, takeAs bl l = (l, bl) ∧ l.map (renA []) = l ∧ l.all ansA = true
  | [], _, bl => ⟨rfl, rfl, rfl⟩
  | s :: l, h, bl => by
    simp only [List.all_cons, Bool.and_eq_true] at h
    obtain ⟨h1, h2, h3⟩ := fixA_take h.1 bl
    obtain ⟨k1, k2, k3⟩ := fixAs_take h.2 bl
    refine ⟨by simp only [takeAs, h1, k1], by rw [List.map_cons, h2, k2], by rw [List.all_cons, h3, k3]; rfl⟩
theorem fixT_take {y : TV} (h : fixT y = true) (bl : List Blk) : takeT bl y = (y, bl) ∧ renT [] y = y ∧ ansT y = true := by
  cases y with
  | v x =>
    obtain ⟨h1, h2, h3⟩ := fixA_take h bl
    exact ⟨by simp only [takeT, h1], by simp only [renT, h2], h3⟩
  | tup l =>
    obtain ⟨h1, h2, h3⟩ := fixAs_take h bl
    exact ⟨by simp only [takeT, h1], by simp only [renT, h2], h3⟩

theorem frz_call {X : Cx I} {w' : World} {y : TV} {v : Value} (hf : fixT (frzAns y) = true) (h : CallRes X w' y v) : CallRes X w' (frzAns y) v := by
  obtain ⟨X', lc, h1, h2, h3, _⟩ := h
  obtain ⟨X2, k1, k2, k3⟩ := frzT_rel h2 h3
  obtain ⟨f1, f2, f3⟩ := fixT_take hf []
  have hs := k2.sel (sel := []) .nil
  have hr := renT_rel (sel := []) k3
  refine ⟨X2, [], h1.trans k1, by rw [f1]; exact hs, ?_, f3⟩
  rw [f1]
  have hr : relT X2 [] (renT [] (frzAns y)) v := hr
  rwa [f2] at hr

theorem frz_ok {g : FuncId} {S T : Spec β} (h : SpecOK I P g S) (ht : ∀ args K r, T args K = some r → S args (frzK K) = some r) : SpecOK I P g T :=
  ⟨h.1, fun args K r hr => by
    obtain ⟨y, hy, hc⟩ := h.2 args (frzK K) r (ht args K r hr)
    unfold frzK at hy
    split at hy
    · rename_i hf
      exact ⟨frzAns y, hy, fun X vs hX hv => (hc X vs hX hv).mono fun e w' ⟨v, he, hr⟩ => ⟨v, he, frz_call hf hr⟩⟩
    · cases hy⟩

theorem spec_of_frz (hL : LayOK P L) (hm : P.follows .mixedOrders = true) {E : Env β} (hE : SpecsOK I P E) (hM : MutsOK I P E) (hG : GsOK I P E) {f : FuncId} {fn : Func} (hf : P.funcs[f]? = some fn) (hc : ((fn.name == "runtime.NumGoroutine") || fn.body.isNone) = false)
    (n : Nat) (hn : Nat.beq (fnLoops fn).length n = true) (hr : RAll L E (retMask fn) (lp fn) n) {S : Spec β} (hS : ∀ args K r, S args K = some r → evFn L E fn args (frzK K) = some r) : SpecOK I P f S :=
  frz_ok (spec_of hL hm hE hM hG hf hc n hn hr (S := fun args K => evFn L E fn args K) fun _ _ _ h => h) hS
end
end Go.Rv
