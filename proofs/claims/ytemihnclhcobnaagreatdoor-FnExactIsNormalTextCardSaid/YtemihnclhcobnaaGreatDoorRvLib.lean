/- Library functions, told by their contracts. -/
import Derived.Test.YtemihnclhcobnaaGreatDoorRvShape
import Derived.Lib.Join
import Derived.Lib.ItoaNum
import Derived.Lib.LaidTab
import Derived.Lib.AppendIntMem
import Derived.Lib.Bytealg
import Derived.Lib.SplitLaws
import Derived.Lib.IndexAny
namespace Go.Rv
set_option linter.unusedSimpArgs false
section
variable {I : World -> Prop} {P : Program} {β : Type}

theorem gC {X : Cx I} (hX : cD X) {w' : World} (hb : RowKit.Below X.w0.heap.size X.w0 w') {y : TV} {v : Value} (hy : dg y = true) (hr : aC X [] y v) : dY X w' y v := by
 have hplain : ∀ bl (s : SV), bO s = true -> aU bl s = (s, bl) := fun bl s h => by cases s <;> first | rfl | cases h
 have hpl : ∀ bl (l : List SV), l.all bO = true -> dq bl l = (l, bl) := fun bl l h => by
  induction l with
  | nil => rfl
  | cons s l ih =>
   simp only [akd, aj0] at h
   simp only [dq, hplain bl s h.1, ih h.2]
 have ha : ∀ bl (a : AV), cH a = true -> cu bl a = (a, bl) := fun bl a h => by
  cases a with
  | one s => simp only [cu, hplain bl s h]
  | agg l => simp only [cu, hpl bl l h]
 have has : ∀ bl (l : List AV), l.all cH = true -> ct bl l = (l, bl) := fun bl l h => by
  induction l with
  | nil => rfl
  | cons s l ih =>
   simp only [akd, aj0] at h
   simp only [ct, ha bl s h.1, ih h.2]
 have ht : bJ [] y = (y, []) := by
  cases y with
  | v a => simp only [bJ, ha [] a hy]
  | tup l => simp only [bJ, has [] l hy]
 refine ⟨X, [], .refl X, ?_, ?_, ?_⟩
 ·rw [ht]; exact (aK.empty hX).later hb
 ·rw [ht]; exact hr
 ·have hs : ∀ s : SV, bO s = true -> oQ s = true := fun s h => by cases s <;> first | rfl | cases h
  have hA : ∀ a : AV, cH a = true -> sN a = true := fun a h => by
   cases a with
   | one s => exact hs s h
   | agg l => exact aku.2 fun s hm => hs s (aku.1 h s hm)
  cases y with
  | v a => exact hA a hy
  | tup l => exact aku.2 fun s hm => hA s (aku.1 hy s hm)

theorem rK {f : FuncId} {fn : Func} (hf : P.funcs[f]? = some fn) (hc : ((fn.name == "runtime.NumGoroutine") || fn.body.isNone) = false) : ∃ fn c, P.funcs[f]? = some fn /\ fn.body = some c /\ (fn.name == "runtime.NumGoroutine") = false := by
 simp only [ak3] at hc
 cases hb : fn.body with
 | none => rw [hb] at hc; cases hc.2
 | some c => exact ⟨fn, c, hf, hb, hc.1⟩

def tL (l : List ByteArray) (sep : ByteArray) : ByteArray := ⟨(Lib.join (l.map (·.data.toList)) sep.data.toList).toArray⟩
def strings_Join (_N : Nat) (l : List ByteArray) (sep : ByteArray) (k : ByteArray -> Option β) : Option β :=
 gd (decide (l.length <= 140737488355328)) (gd (decide ((tL l sep).size <= 140737488355328)) (k (tL l sep)))
def tM (N : Nat) : Spec β := fun args K => match args with
 | [.v (.one (.sl _ (.strs l))), .v (.one (.str b))] => strings_Join N l b fun r => K (.v (.one (.str r)))
 | _ => none
theorem R9 {g : FuncId} {fn : Func} (hf : P.funcs[g]? = some fn) (hc : ((fn.name == "runtime.NumGoroutine") || fn.body.isNone) = false)
  (h0 : ∀ (a : Option Addr) (c : Nat) (sep : ByteArray) (w : World), Calls P g #[.slice a 0 c, .string sep] w fun e w' => e = .returned (.string ⟨#[]⟩) /\ w' = w)
  (h : ∀ (bk o c : Nat) (xs : List ByteArray) (sep : ByteArray) (w : World), (∀ (j : Nat) x, xs[j]? = some x -> w.cell? ⟨bk, o + j, none⟩ = some (.string x)) -> bk < w.heap.size -> xs.length <= 140737488355328 -> xs.length <= c ->
   (Lib.join (xs.map (·.data.toList)) sep.data.toList).length <= 140737488355328 ->
   Calls P g #[.slice (some ⟨bk, o, none⟩) xs.length c, .string sep] w fun e w' => e = .returned (.string ⟨(Lib.join (xs.map (·.data.toList)) sep.data.toList).toArray⟩) /\ RowKit.Below w.heap.size w w') (N : Nat) :
  ao (β := β) I P g (tM N) := by
 refine ⟨rK hf hc, fun args K r hr => ?_⟩
 unfold tM at hr
 split at hr
 ·rename_i t l b
  unfold strings_Join at hr
  obtain ⟨h1, hr⟩ := aA hr
  obtain ⟨h2, hr⟩ := aA hr
  have h1 := of_decide_eq_true h1
  have h2 := of_decide_eq_true h2
  refine ⟨_, hr, fun X vs hX hv => ?_⟩
  rcases hv with _ | ⟨ha, hv⟩
  rcases hv with _ | ⟨hb, hv⟩
  rcases hv with _ | _
  rename_i va vb
  obtain ⟨A, n, c, rfl, hn, hnc, xs, hin, hcells⟩ := (show dL X (.strs l) va from ha)
  obtain rfl : vb = .string b := hb
  obtain rfl : xs = l.map .string := hin
  have hn : n = l.length := hn
  subst hn
  cases l with
  | nil =>
   refine (h0 A c b X.w0).mono fun e w' ⟨he, hw⟩ => ⟨_, he, gC hX (by rw [hw]; exact RowKit.Below.refl _ _) rfl ?_⟩
   show Value.string ⟨#[]⟩ = .string (tL [] b)
   simp [tL, Lib.join_nil]
  | cons x r =>
   obtain ⟨a, rfl, hz, hc0⟩ := hcells 0 (.string x) rfl
   have hsp : a.spot = none := by
    unfold World.cell? at hc0
    simp only [Addr.add, if_true] at hc0
    split at hc0
    ·split at hc0
     ·cases hc0
     ·rename_i hs; simpa using hs
    ·cases hc0
   obtain ⟨bk, o, sp⟩ := a
   simp only at hsp
   subst hsp
   refine (h bk o c (x :: r) b X.w0 (fun j y hy => ?_) (amQ X.w0 _ hc0) h1 hnc (by simpa [tL, ByteArray.size] using h2)).mono fun e w' ⟨he, hw⟩ => ⟨_, he, gC hX hw rfl rfl⟩
   obtain ⟨a', ha', _, hcj⟩ := hcells j (.string y) (by rw [amI, hy]; rfl)
   cases ha'
   rw [<- hcj]
   unfold Addr.add
   split
   ·rename_i h; subst h; rfl
   ·rfl
 ·cases hr

def adq (n : Int) : ByteArray := ⟨(Lib.itoa n).toArray⟩
def strconv_Itoa (_N : Nat) (n : Int) (k : ByteArray -> Option β) : Option β :=
 gd (decide (-9223372036854775808 <= n)) (gd (decide (n <= 9223372036854775807)) (k (adq n)))
def tJ (N : Nat) : Spec β := fun args K => match args with
 | [.v (.one (.int .i64 n))] => strconv_Itoa N n fun r => K (.v (.one (.str r)))
 | _ => none
def vj (P : Program) (w : World) : Prop := Lib.TabIs P w "internal/strconv.uint64pow10" .u64 Lib.pow10Tab
theorem R8 {g : FuncId} {fn : Func} (hf : P.funcs[g]? = some fn) (hc : ((fn.name == "runtime.NumGoroutine") || fn.body.isNone) = false)
  (h : ∀ (n : Int) (_ : -9223372036854775808 <= n) (_ : n <= 9223372036854775807) (w : World) (_ : Lib.TabIs P w "internal/strconv.uint64pow10" .u64 Lib.pow10Tab),
   Calls P g #[.int .i64 n] w fun e w' => e = .returned (.string ⟨(Lib.itoa n).toArray⟩) /\ ∃ k os, w' = Go.Sort.grow (w.drewN k) os) (N : Nat) :
  ao (β := β) (vj P) P g (tJ N) := by
 refine ⟨rK hf hc, fun args K r hr => ?_⟩
 unfold tJ at hr
 split at hr
 ·rename_i n
  unfold strconv_Itoa at hr
  obtain ⟨h1, hr⟩ := aA hr
  obtain ⟨h2, hr⟩ := aA hr
  have h1 := of_decide_eq_true h1
  have h2 := of_decide_eq_true h2
  refine ⟨_, hr, fun X vs hX hv => ?_⟩
  rcases hv with _ | ⟨ha, hv⟩
  rcases hv with _ | _
  rename_i va
  obtain rfl : va = .int .i64 n := ha
  refine (h n h1 h2 X.w0 (X.keep X.w0 fun _ _ _ _ => rfl)).mono fun e w' ⟨he, k, os, hw⟩ => ⟨_, he, gC hX (by rw [hw]; exact Lib.below_grow _ _ (aj8 _) _ _) rfl rfl⟩
 ·cases hr
theorem yV {X : Cx I} (hX : cD X) {w' : World} (hb : RowKit.Below X.w0.heap.size X.w0 w') {t : TypeId} {k : IntKind} {l : List Int} {v : Value}
  (hown : w'.ownsRow X.w0.heap.size t 1 v l.length (l.map (Value.int k))) : dY X w' (.v (.one (.sl t (.ints k l)))) v := by
 have hbase := (aK.empty hX).base_le
 refine ⟨X, [] ++ [.r v], .refl X, ?_, ?_, rfl⟩
 ·show aK X ([] ++ [.row t (.ints k l)]) w' ([] ++ [.r v])
  refine (aK.empty hX).push hb ?_ (fun g hg => (hown.lt g hg).1)
  exact ⟨fun g hg => .inl (akz hbase (hown.lt g hg).1), _, rfl, hown.1, hown.2.imp_right fun ⟨g, cap, cur, h1, h2, h3⟩ => ⟨g, cap, cur, h1, aks _, h3⟩⟩
 ·refine ⟨rfl, ?_⟩
  rcases hown.2 with ⟨h1, _⟩ | ⟨g, cap, cur, h1, _⟩
  ·exact ⟨_, _, _, h1⟩
  ·exact ⟨_, _, _, h1⟩
theorem yW {X : Cx I} (hX : cD X) {w' : World} (hb : RowKit.Below X.w0.heap.size X.w0 w') {t : TypeId} {l : List ByteArray} {v : Value}
  (hown : w'.ownsRow X.w0.heap.size t 1 v l.length (l.map Value.string)) : dY X w' (.v (.one (.sl t (.strs l)))) v := by
 have hbase := (aK.empty hX).base_le
 refine ⟨X, [] ++ [.r v], .refl X, ?_, ?_, rfl⟩
 ·show aK X ([] ++ [.row t (.strs l)]) w' ([] ++ [.r v])
  refine (aK.empty hX).push hb ?_ (fun g hg => (hown.lt g hg).1)
  exact ⟨fun g hg => .inl (akz hbase (hown.lt g hg).1), _, rfl, hown.1, hown.2.imp_right fun ⟨g, cap, cur, h1, h2, h3⟩ => ⟨g, cap, cur, h1, aks _, h3⟩⟩
 ·refine ⟨rfl, ?_⟩
  rcases hown.2 with ⟨h1, _⟩ | ⟨g, cap, cur, h1, _⟩
  ·exact ⟨_, _, _, h1⟩
  ·exact ⟨_, _, _, h1⟩
def strings_Split (_N : Nat) (s sep : ByteArray) (k : List ByteArray -> Option β) : Option β :=
 gd (decide (sep.size = 1)) (gd (decide (s.size < 4294967281)) (k (Lib.splitB sep 0 (Lib.countB s sep) s)))
def qM (t : TypeId) (N : Nat) : Spec β := fun args K => match args with
 | [.v (.one (.str s)), .v (.one (.str sep))] => strings_Split N s sep fun r => K (.v (.one (.sl t (.strs r))))
 | _ => none
theorem OU {g : FuncId} {fn : Func} {t : TypeId} (hf : P.funcs[g]? = some fn) (hc : ((fn.name == "runtime.NumGoroutine") || fn.body.isNone) = false)
  (h : ∀ (s : ByteArray) (b : UInt8) (w : World), s.size < 4294967281 -> Calls P g #[.string s, .string ⟨#[b]⟩] w fun e w' =>
   e = .returned (.slice (some ⟨w.heap.size, 0, none⟩) (Lib.countB s ⟨#[b]⟩ + 1) (Lib.countB s ⟨#[b]⟩ + 1)) /\ w' = w.alloc (.cells ((Lib.splitB ⟨#[b]⟩ 0 (Lib.countB s ⟨#[b]⟩) s).map Value.string).toArray t)) (N : Nat) :
  ao (β := β) I P g (qM t N) := by
 refine ⟨rK hf hc, fun args K r hr => ?_⟩
 unfold qM at hr
 split at hr
 ·rename_i s sep
  unfold strings_Split at hr
  obtain ⟨h1, hr⟩ := aA hr
  obtain ⟨h2, hr⟩ := aA hr
  have h1 := of_decide_eq_true h1
  have h2 := of_decide_eq_true h2
  obtain ⟨b, rfl⟩ := Lib.one_byte sep h1
  refine ⟨_, hr, fun X vs hX hv => ?_⟩
  rcases hv with _ | ⟨ha, hv⟩
  rcases hv with _ | ⟨hb, hv⟩
  rcases hv with _ | _
  rename_i va vb
  obtain rfl : va = .string s := ha
  obtain rfl : vb = .string ⟨#[b]⟩ := hb
  have hlen := Lib.splitB_all ⟨#[b]⟩ (aj8 _) 0 _ s rfl
  have hle := Lib.countB_le ⟨#[b]⟩ (aj8 _) s.size s (aj8 _)
  refine (h s b X.w0 h2).mono fun e w' ⟨he, hw⟩ => ⟨_, he, yW hX (by rw [hw]; exact (RowKit.Below.refl _ X.w0).alloc (aj8 _) _) ?_⟩
  rw [hlen]
  refine ⟨by rw [akx, hlen, akV], .inr ⟨X.w0.heap.size, _, _, rfl, aj8 _, by rw [hw]; exact heap_alloc_new X.w0 _, aj8 _, by unfold maxLen; omega, by rw [alC, akx, hlen, akV], ?_⟩⟩
  rw [akZ (by rw [akx, hlen, akV]; exact aj8 _)]
 ·cases hr
theorem KI {w : World} (h : vj P w) : ∀ w' : World, (∀ k, k < w.heap.size -> w'.heap[k]? = w.heap[k]?) -> vj P w' := by
 intro w' hw
 unfold vj Lib.TabIs World.var? at h ⊢
 cases hg : P.globalNamed "internal/strconv.uint64pow10" with
 | none => rw [hg] at h; cases h
 | some g =>
  rw [hg] at h
  simp only [Option.bind_some] at h ⊢
  have hlt : g < w.heap.size := by
   rcases akg g w.heap.size with hl | hl
   ·exact hl
   ·rw [Array.getElem?_eq_none hl] at h; cases h
  rw [hw g hlt]
  exact h
end
end Go.Rv
