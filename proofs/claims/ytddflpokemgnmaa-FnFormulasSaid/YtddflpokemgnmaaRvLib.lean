/- Library functions, told by their contracts. -/
import Derived.Test.YtddflpokemgnmaaRvShape
import Derived.Lib.Join
import Derived.Lib.ItoaNum
import Derived.Lib.LaidTab
import Derived.Lib.AppendIntMem
import Derived.Lib.Bytealg
import Derived.Lib.SplitLaws
import Derived.Lib.IndexAny
namespace Go.Rv
section
variable {I : World → Prop} {P : Program} {β : Type}

/-- A function's answer without memory, from its contract. -/
theorem callRes_plain {X : Cx I} (hX : SpecCx X) {w' : World} (hb : RowKit.Below X.w0.heap.size X.w0 w') {y : TV} {v : Value} (hy : plainT y = true) (hr : relT X [] y v) : CallRes X w' y v := by
  have hplain : ∀ bl (s : SV), plainS s = true → takeS bl s = (s, bl) := fun bl s h => by cases s <;> first | rfl | cases h
  have hpl : ∀ bl (l : List SV), l.all plainS = true → takeL bl l = (l, bl) := fun bl l h => by
    induction l with
    | nil => rfl
    | cons s l ih =>
      simp only [List.all_cons, Bool.and_eq_true] at h
      simp only [takeL, hplain bl s h.1, ih h.2]
  have ha : ∀ bl (a : AV), plainA a = true → takeA bl a = (a, bl) := fun bl a h => by
    cases a with
    | one s => simp only [takeA, hplain bl s h]
    | agg l => simp only [takeA, hpl bl l h]
  have has : ∀ bl (l : List AV), l.all plainA = true → takeAs bl l = (l, bl) := fun bl l h => by
    induction l with
    | nil => rfl
    | cons s l ih =>
      simp only [List.all_cons, Bool.and_eq_true] at h
      simp only [takeAs, ha bl s h.1, ih h.2]
  have ht : takeT [] y = (y, []) := by
    cases y with
    | v a => simp only [takeT, ha [] a hy]
    | tup l => simp only [takeT, has [] l hy]
  refine ⟨X, [], .refl X, ?_, ?_, ?_⟩
  · rw [ht]; exact (RelW.empty hX).later hb
  · rw [ht]; exact hr
  · have hs : ∀ s : SV, plainS s = true → ansS s = true := fun s h => by cases s <;> first | rfl | cases h
    have hA : ∀ a : AV, plainA a = true → ansA a = true := fun a h => by
      cases a with
      | one s => exact hs s h
      | agg l => exact List.all_eq_true.2 fun s hm => hs s (List.all_eq_true.1 h s hm)
    cases y with
    | v a => exact hA a hy
    | tup l => exact List.all_eq_true.2 fun s hm => hA s (List.all_eq_true.1 hy s hm)

theorem body_of {f : FuncId} {fn : Func} (hf : P.funcs[f]? = some fn) (hc : ((fn.name == "runtime.NumGoroutine") || fn.body.isNone) = false) : ∃ fn c, P.funcs[f]? = some fn ∧ fn.body = some c ∧ (fn.name == "runtime.NumGoroutine") = false := by
  simp only [Bool.or_eq_false_iff] at hc
  cases hb : fn.body with
  | none => rw [hb] at hc; cases hc.2
  | some c => exact ⟨fn, c, hf, hb, hc.1⟩

/-! ### strings.Join -/
/-! ### strings.IndexByte -/
/-! ### strconv.Itoa -/
/-! ### slices.Clone of numbers -/
/-! ### slices.Repeat of one number, at most a thousand times -/
/-! ### strings.Split at one byte -/
/-! ### strings.Contains, strings.Count at one byte, strings.ContainsAny on plain bytes -/
def byteOf (t : ByteArray) : UInt8 := t.data.toList.getD 0 0
def strings_Contains (_N : Nat) (s t : ByteArray) (k : Bool → Option β) : Option β := gd (decide (t.size = 1)) (k (decide (0 ≤ Lib.indexByte s.data.toList (byteOf t))))
def strings_Count (_N : Nat) (s t : ByteArray) (k : Int → Option β) : Option β := gd (decide (t.size = 1)) (k (Lib.countByte s.data.toList (byteOf t)))
def strings_ContainsAny (_N : Nat) (s t : ByteArray) (k : Bool → Option β) : Option β :=
  gd (decide (s.size < 4294967281)) (gd (decide (t.size < 4294967281)) (gd (s.data.toList.all fun b => decide (b.toNat < 128)) (gd (t.data.toList.all fun b => decide (b.toNat < 128)) (k (Lib.containsAny s.data.toList t.data.toList)))))
def countSpec (N : Nat) : Spec β := fun args K => match args with
  | [.v (.one (.str s)), .v (.one (.str t))] => strings_Count N s t fun r => K (.v (.one (.int .i64 r)))
  | _ => none
def containsAnySpec (N : Nat) : Spec β := fun args K => match args with
  | [.v (.one (.str s)), .v (.one (.str t))] => strings_ContainsAny N s t fun r => K (.v (.one (.bool r)))
  | _ => none
theorem count_ok {g : FuncId} {fn : Func} (hf : P.funcs[g]? = some fn) (hc : ((fn.name == "runtime.NumGoroutine") || fn.body.isNone) = false)
    (h : ∀ (s : ByteArray) (c : UInt8) (w : World), Calls P g #[.string s, .string ⟨#[c]⟩] w fun e w' => e = .returned (.int .i64 (Lib.countByte s.data.toList c)) ∧ w' = w) (N : Nat) :
    SpecOK (β := β) I P g (countSpec N) := by
  refine ⟨body_of hf hc, fun args K r hr => ?_⟩
  unfold countSpec at hr
  split at hr
  · rename_i s t
    unfold strings_Count at hr
    obtain ⟨h1, hr⟩ := gd_some hr
    obtain ⟨b, rfl⟩ := Lib.one_byte t (of_decide_eq_true h1)
    refine ⟨_, hr, fun X vs hX hv => ?_⟩
    rcases hv with _ | ⟨ha, hv⟩
    rcases hv with _ | ⟨hb, hv⟩
    rcases hv with _ | _
    rename_i va vb
    obtain rfl : va = .string s := ha
    obtain rfl : vb = .string ⟨#[b]⟩ := hb
    exact (h s b X.w0).mono fun e w' ⟨he, hw⟩ => ⟨_, he, callRes_plain hX (by rw [hw]; exact RowKit.Below.refl _ _) rfl rfl⟩
  · cases hr
theorem containsAny_ok {g : FuncId} {fn : Func} (hf : P.funcs[g]? = some fn) (hc : ((fn.name == "runtime.NumGoroutine") || fn.body.isNone) = false)
    (h : ∀ (s chars : ByteArray) (w : World), s.size < 4294967281 → chars.size < 4294967281 → (∀ (j : Nat) b, s.data.toList[j]? = some b → b.toNat < 128) → (∀ (j : Nat) b, chars.data.toList[j]? = some b → b.toNat < 128) →
      Calls P g #[.string s, .string chars] w fun e w' => e = .returned (.bool (Lib.containsAny s.data.toList chars.data.toList)) ∧ RowKit.Below w.heap.size w w') (N : Nat) :
    SpecOK (β := β) I P g (containsAnySpec N) := by
  refine ⟨body_of hf hc, fun args K r hr => ?_⟩
  unfold containsAnySpec at hr
  split at hr
  · rename_i s t
    unfold strings_ContainsAny at hr
    obtain ⟨h1, hr⟩ := gd_some hr
    obtain ⟨h2, hr⟩ := gd_some hr
    obtain ⟨h3, hr⟩ := gd_some hr
    obtain ⟨h4, hr⟩ := gd_some hr
    refine ⟨_, hr, fun X vs hX hv => ?_⟩
    rcases hv with _ | ⟨ha, hv⟩
    rcases hv with _ | ⟨hb, hv⟩
    rcases hv with _ | _
    rename_i va vb
    obtain rfl : va = .string s := ha
    obtain rfl : vb = .string t := hb
    exact (h s t X.w0 (of_decide_eq_true h1) (of_decide_eq_true h2) (fun j b hj => of_decide_eq_true (List.all_eq_true.1 h3 b (List.mem_of_getElem? hj))) (fun j b hj => of_decide_eq_true (List.all_eq_true.1 h4 b (List.mem_of_getElem? hj)))).mono fun e w' ⟨he, hw⟩ => ⟨_, he, callRes_plain hX hw rfl rfl⟩
  · cases hr
end
end Go.Rv
