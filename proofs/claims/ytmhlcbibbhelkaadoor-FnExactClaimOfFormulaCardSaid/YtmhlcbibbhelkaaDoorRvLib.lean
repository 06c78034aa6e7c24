/- Library functions, told by their contracts. -/
import Derived.Test.YtmhlcbibbhelkaaDoorRvShape
import Derived.Lib.Join
import Derived.Lib.ItoaNum
import Derived.Lib.LaidTab
import Derived.Lib.AppendIntMem
import Derived.Lib.Bytealg
import Derived.Lib.SplitLaws
import Derived.Lib.IndexAny
namespace Go.Rv
section
variable {I : World → Prop} {P : Program} {β : Type}

theorem callRes_plain {X : Cx I} (hX : SpecCx X) {w' : World} (hb : RowKit.Below X.w0.heap.size X.w0 w') {y : TV} {v : Value} (hy : plainT y = true) (hr : relT X [] y v) : CallRes X w' y v := by
  have hplain : ∀ bl (s : SV), plainS s = true → takeS bl s = (s, bl) := fun bl s h => by cases s <;> first | rfl | cases h
  have hpl : ∀ bl (l : List SV), l.all plainS = true → takeL bl l = (l, bl) := fun bl l h => by
    induction l with
    | nil => rfl
    | cons s l ih =>
      simp only [List.all_cons, Bool.and_eq_true] at h
      simp only [takeL, hplain bl s h.1, ih h.2]
  have ha : ∀ bl (a : AV), plainA a = true → takeA bl a = (a, bl) := fun bl a h => by
    cases a with
    | one s => simp only [takeA, hplain bl s h]
    | agg l => simp only [takeA, hpl bl l h]
  have has : ∀ bl (l : List AV), l.all plainA = true → takeAs bl l = (l, bl) := fun bl l h => by
    induction l with
    | nil => rfl
    | cons s l ih =>
      simp only [List.all_cons, Bool.and_eq_true] at h
      simp only [takeAs, ha bl s h.1, ih h.2]
  have ht : takeT [] y = (y, []) := by
    cases y with
    | v a => simp only [takeT, ha [] a hy]
    | tup l => simp only [takeT, has [] l hy]
  refine ⟨X, [], .refl X, ?_, ?_, ?_⟩
  · rw [ht]; exact (RelW.empty hX).later hb
  · rw [ht]; exact hr
  · have hs : ∀ s : SV, plainS s = true → ansS s = true := fun s h => by cases s <;> first | rfl | cases h
    have hA : ∀ a : AV, plainA a = true → ansA a = true := fun a h => by
      cases a with
      | one s => exact hs s h
      | agg l => exact List.all_eq_true.2 fun s hm => hs s (List.all_eq_true.1 h s hm)
    cases y with
    | v a => exact hA a hy
    | tup l => exact List.all_eq_true.2 fun s hm => hA s (List.all_eq_true.1 hy s hm)

theorem body_of {f : FuncId} {fn : Func} (hf : P.funcs[f]? = some fn) (hc : ((fn.name == "runtime.NumGoroutine") || fn.body.isNone) = false) : ∃ fn c, P.funcs[f]? = some fn ∧ fn.body = some c ∧ (fn.name == "runtime.NumGoroutine") = false := by
  simp only [Bool.or_eq_false_iff] at hc
  cases hb : fn.body with
  | none => rw [hb] at hc; cases hc.2
  | some c => exact ⟨fn, c, hf, hb, hc.1⟩

def itoaB (n : Int) : ByteArray := ⟨(Lib.itoa n).toArray⟩
def strconv_Itoa (_N : Nat) (n : Int) (k : ByteArray → Option β) : Option β :=
  gd (decide (-9223372036854775808 ≤ n)) (gd (decide (n ≤ 9223372036854775807)) (k (itoaB n)))
def itoaSpec (N : Nat) : Spec β := fun args K => match args with
  | [.v (.one (.int .i64 n))] => strconv_Itoa N n fun r => K (.v (.one (.str r)))
  | _ => none
def tabInv (P : Program) (w : World) : Prop := Lib.TabIs P w "internal/strconv.uint64pow10" .u64 Lib.pow10Tab
theorem itoa_ok {g : FuncId} {fn : Func} (hf : P.funcs[g]? = some fn) (hc : ((fn.name == "runtime.NumGoroutine") || fn.body.isNone) = false)
    (h : ∀ (n : Int) (_ : -9223372036854775808 ≤ n) (_ : n ≤ 9223372036854775807) (w : World) (_ : Lib.TabIs P w "internal/strconv.uint64pow10" .u64 Lib.pow10Tab),
      Calls P g #[.int .i64 n] w fun e w' => e = .returned (.string ⟨(Lib.itoa n).toArray⟩) ∧ ∃ k os, w' = Go.Sort.grow (w.drewN k) os) (N : Nat) :
    SpecOK (β := β) (tabInv P) P g (itoaSpec N) := by
  refine ⟨body_of hf hc, fun args K r hr => ?_⟩
  unfold itoaSpec at hr
  split at hr
  · rename_i n
    unfold strconv_Itoa at hr
    obtain ⟨h1, hr⟩ := gd_some hr
    obtain ⟨h2, hr⟩ := gd_some hr
    have h1 := of_decide_eq_true h1
    have h2 := of_decide_eq_true h2
    refine ⟨_, hr, fun X vs hX hv => ?_⟩
    rcases hv with _ | ⟨ha, hv⟩
    rcases hv with _ | _
    rename_i va
    obtain rfl : va = .int .i64 n := ha
    refine (h n h1 h2 X.w0 (X.keep X.w0 fun _ _ _ _ => rfl)).mono fun e w' ⟨he, k, os, hw⟩ => ⟨_, he, callRes_plain hX (by rw [hw]; exact Lib.below_grow _ _ (Nat.le_refl _) _ _) rfl rfl⟩
  · cases hr
theorem callRes_ints {X : Cx I} (hX : SpecCx X) {w' : World} (hb : RowKit.Below X.w0.heap.size X.w0 w') {t : TypeId} {k : IntKind} {l : List Int} {v : Value}
    (hown : w'.ownsRow X.w0.heap.size t 1 v l.length (l.map (Value.int k))) : CallRes X w' (.v (.one (.sl t (.ints k l)))) v := by
  have hbase := (RelW.empty hX).base_le
  refine ⟨X, [] ++ [.r v], .refl X, ?_, ?_, rfl⟩
  · show RelW X ([] ++ [.row t (.ints k l)]) w' ([] ++ [.r v])
    refine (RelW.empty hX).push hb ?_ (fun g hg => (hown.lt g hg).1)
    exact ⟨fun g hg => .inl (Nat.le_trans hbase (hown.lt g hg).1), _, rfl, hown.1, hown.2.imp_right fun ⟨g, cap, cur, h1, h2, h3⟩ => ⟨g, cap, cur, h1, Nat.zero_le _, h3⟩⟩
  · refine ⟨rfl, ?_⟩
    rcases hown.2 with ⟨h1, _⟩ | ⟨g, cap, cur, h1, _⟩
    · exact ⟨_, _, _, h1⟩
    · exact ⟨_, _, _, h1⟩
theorem tab_known {w : World} (h : tabInv P w) : ∀ w' : World, (∀ k, k < w.heap.size → w'.heap[k]? = w.heap[k]?) → tabInv P w' := by
  intro w' hw
  unfold tabInv Lib.TabIs World.var? at h ⊢
  cases hg : P.globalNamed "internal/strconv.uint64pow10" with
  | none => rw [hg] at h; cases h
  | some g =>
    rw [hg] at h
    simp only [Option.bind_some] at h ⊢
    have hlt : g < w.heap.size := by
      rcases Nat.lt_or_ge g w.heap.size with hl | hl
      · exact hl
      · rw [Array.getElem?_eq_none hl] at h; cases h
    rw [hw g hlt]
    exact h
end
end Go.Rv
