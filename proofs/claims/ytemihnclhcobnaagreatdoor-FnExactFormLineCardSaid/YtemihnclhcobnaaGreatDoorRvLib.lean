/- Library functions, told by their contracts. -/
import Derived.Test.YtemihnclhcobnaaGreatDoorRvShape
import Derived.Lib.Join
import Derived.Lib.ItoaNum
import Derived.Lib.LaidTab
import Derived.Lib.AppendIntMem
import Derived.Lib.Bytealg
import Derived.Lib.SplitLaws
import Derived.Lib.IndexAny
namespace Go.Rv
set_option linter.unusedSimpArgs false
section
variable {I : World → Prop} {P : Program} {β : Type}

theorem fU {X : Cx I} (hX : cr X) {w' : World} (hb : RowKit.Below X.w0.heap.size X.w0 w') {y : TV} {v : Value} (hy : cR y = true) (hr : aC X [] y v) : dI X w' y v := by
 have hplain : ∀ bl (s : SV), bI s = true → aP bl s = (s, bl) := fun bl s h => by cases s <;> first | rfl | cases h
 have hpl : ∀ bl (l : List SV), l.all bI = true → c7 bl l = (l, bl) := fun bl l h => by
  induction l with
  | nil => rfl
  | cons s l ih =>
   simp only [YK, Yz] at h
   simp only [c7, hplain bl s h.1, ih h.2]
 have ha : ∀ bl (a : AV), cw a = true → cg bl a = (a, bl) := fun bl a h => by
  cases a with
  | one s => simp only [cg, hplain bl s h]
  | agg l => simp only [cg, hpl bl l h]
 have has : ∀ bl (l : List AV), l.all cw = true → ce bl l = (l, bl) := fun bl l h => by
  induction l with
  | nil => rfl
  | cons s l ih =>
   simp only [YK, Yz] at h
   simp only [ce, ha bl s h.1, ih h.2]
 have ht : bE [] y = (y, []) := by
  cases y with
  | v a => simp only [bE, ha [] a hy]
  | tup l => simp only [bE, has [] l hy]
 refine ⟨X, [], .refl X, ?_, ?_, ?_⟩
 ·rw [ht]; exact (aH.empty hX).later hb
 ·rw [ht]; exact hr
 ·have hs : ∀ s : SV, bI s = true → m2 s = true := fun s h => by cases s <;> first | rfl | cases h
  have hA : ∀ a : AV, cw a = true → qr a = true := fun a h => by
   cases a with
   | one s => exact hs s h
   | agg l => exact Zc.2 fun s hm => hs s (Zc.1 h s hm)
  cases y with
  | v a => exact hA a hy
  | tup l => exact Zc.2 fun s hm => hA s (Zc.1 hy s hm)

theorem pI {f : FuncId} {fn : Func} (hf : P.funcs[f]? = some fn) (hc : ((fn.name == "runtime.NumGoroutine") || fn.body.isNone) = false) : ∃ fn c, P.funcs[f]? = some fn ∧ fn.body = some c ∧ (fn.name == "runtime.NumGoroutine") = false := by
 simp only [ZR] at hc
 cases hb : fn.body with
 | none => rw [hb] at hc; cases hc.2
 | some c => exact ⟨fn, c, hf, hb, hc.1⟩

def ns (l : List ByteArray) (sep : ByteArray) : ByteArray := ⟨(Lib.join (l.map (·.data.toList)) sep.data.toList).toArray⟩
def strings_Join (_N : Nat) (l : List ByteArray) (sep : ByteArray) (k : ByteArray → Option β) : Option β :=
 gd (decide (l.length ≤ 140737488355328)) (gd (decide ((ns l sep).size ≤ 140737488355328)) (k (ns l sep)))
def q5 (N : Nat) : Spec β := fun args K => match args with
 | [.v (.one (.sl _ (.strs l))), .v (.one (.str b))] => strings_Join N l b fun r => K (.v (.one (.str r)))
 | _ => none
theorem Ng {g : FuncId} {fn : Func} (hf : P.funcs[g]? = some fn) (hc : ((fn.name == "runtime.NumGoroutine") || fn.body.isNone) = false)
  (h0 : ∀ (a : Option Addr) (c : Nat) (sep : ByteArray) (w : World), Calls P g #[.slice a 0 c, .string sep] w fun e w' => e = .returned (.string ⟨#[]⟩) ∧ w' = w)
  (h : ∀ (bk o c : Nat) (xs : List ByteArray) (sep : ByteArray) (w : World), (∀ (j : Nat) x, xs[j]? = some x → w.cell? ⟨bk, o + j, none⟩ = some (.string x)) → bk < w.heap.size → xs.length ≤ 140737488355328 → xs.length ≤ c →
   (Lib.join (xs.map (·.data.toList)) sep.data.toList).length ≤ 140737488355328 →
   Calls P g #[.slice (some ⟨bk, o, none⟩) xs.length c, .string sep] w fun e w' => e = .returned (.string ⟨(Lib.join (xs.map (·.data.toList)) sep.data.toList).toArray⟩) ∧ RowKit.Below w.heap.size w w') (N : Nat) :
  ap (β := β) I P g (q5 N) := by
 refine ⟨pI hf hc, fun args K r hr => ?_⟩
 unfold q5 at hr
 split at hr
 ·rename_i t l b
  unfold strings_Join at hr
  obtain ⟨h1, hr⟩ := av hr
  obtain ⟨h2, hr⟩ := av hr
  have h1 := of_decide_eq_true h1
  have h2 := of_decide_eq_true h2
  refine ⟨_, hr, fun X vs hX hv => ?_⟩
  rcases hv with _ | ⟨ha, hv⟩
  rcases hv with _ | ⟨hb, hv⟩
  rcases hv with _ | _
  rename_i va vb
  obtain ⟨A, n, c, rfl, hn, hnc, xs, hin, hcells⟩ := (show dc X (.strs l) va from ha)
  obtain rfl : vb = .string b := hb
  obtain rfl : xs = l.map .string := hin
  have hn : n = l.length := hn
  subst hn
  cases l with
  | nil =>
   refine (h0 A c b X.w0).mono fun e w' ⟨he, hw⟩ => ⟨_, he, fU hX (by rw [hw]; exact RowKit.Below.refl _ _) rfl ?_⟩
   show Value.string ⟨#[]⟩ = .string (ns [] b)
   simp [ns, Lib.join_nil]
  | cons x r =>
   obtain ⟨a, rfl, hz, hc0⟩ := hcells 0 (.string x) rfl
   have hsp : a.spot = none := by
    unfold World.cell? at hc0
    simp only [Addr.add, if_true] at hc0
    split at hc0
    ·split at hc0
     ·cases hc0
     ·rename_i hs; simpa using hs
    ·cases hc0
   obtain ⟨bk, o, sp⟩ := a
   simp only at hsp
   subst hsp
   refine (h bk o c (x :: r) b X.w0 (fun j y hy => ?_) (abm X.w0 _ hc0) h1 hnc (by simpa [ns, ByteArray.size] using h2)).mono fun e w' ⟨he, hw⟩ => ⟨_, he, fU hX hw rfl rfl⟩
   obtain ⟨a', ha', _, hcj⟩ := hcells j (.string y) (by rw [abe, hy]; rfl)
   cases ha'
   rw [← hcj]
   unfold Addr.add
   split
   ·rename_i h; subst h; rfl
   ·rfl
 ·cases hr

def V6 (n : Int) : ByteArray := ⟨(Lib.itoa n).toArray⟩
def strconv_Itoa (_N : Nat) (n : Int) (k : ByteArray → Option β) : Option β :=
 gd (decide (-9223372036854775808 ≤ n)) (gd (decide (n ≤ 9223372036854775807)) (k (V6 n)))
def qY (N : Nat) : Spec β := fun args K => match args with
 | [.v (.one (.int .i64 n))] => strconv_Itoa N n fun r => K (.v (.one (.str r)))
 | _ => none
def sC (P : Program) (w : World) : Prop := Lib.TabIs P w "internal/strconv.uint64pow10" .u64 Lib.pow10Tab
theorem Nd {g : FuncId} {fn : Func} (hf : P.funcs[g]? = some fn) (hc : ((fn.name == "runtime.NumGoroutine") || fn.body.isNone) = false)
  (h : ∀ (n : Int) (_ : -9223372036854775808 ≤ n) (_ : n ≤ 9223372036854775807) (w : World) (_ : Lib.TabIs P w "internal/strconv.uint64pow10" .u64 Lib.pow10Tab),
   Calls P g #[.int .i64 n] w fun e w' => e = .returned (.string ⟨(Lib.itoa n).toArray⟩) ∧ ∃ k os, w' = Go.Sort.grow (w.drewN k) os) (N : Nat) :
  ap (β := β) (sC P) P g (qY N) := by
 refine ⟨pI hf hc, fun args K r hr => ?_⟩
 unfold qY at hr
 split at hr
 ·rename_i n
  unfold strconv_Itoa at hr
  obtain ⟨h1, hr⟩ := av hr
  obtain ⟨h2, hr⟩ := av hr
  have h1 := of_decide_eq_true h1
  have h2 := of_decide_eq_true h2
  refine ⟨_, hr, fun X vs hX hv => ?_⟩
  rcases hv with _ | ⟨ha, hv⟩
  rcases hv with _ | _
  rename_i va
  obtain rfl : va = .int .i64 n := ha
  refine (h n h1 h2 X.w0 (X.keep X.w0 fun _ _ _ _ => rfl)).mono fun e w' ⟨he, k, os, hw⟩ => ⟨_, he, fU hX (by rw [hw]; exact Lib.below_grow _ _ (YG _) _ _) rfl rfl⟩
 ·cases hr
theorem wa {X : Cx I} (hX : cr X) {w' : World} (hb : RowKit.Below X.w0.heap.size X.w0 w') {t : TypeId} {k : IntKind} {l : List Int} {v : Value}
  (hown : w'.ownsRow X.w0.heap.size t 1 v l.length (l.map (Value.int k))) : dI X w' (.v (.one (.sl t (.ints k l)))) v := by
 have hbase := (aH.empty hX).base_le
 refine ⟨X, [] ++ [.r v], .refl X, ?_, ?_, rfl⟩
 ·show aH X ([] ++ [.row t (.ints k l)]) w' ([] ++ [.r v])
  refine (aH.empty hX).push hb ?_ (fun g hg => (hown.lt g hg).1)
  exact ⟨fun g hg => .inl (Zd hbase (hown.lt g hg).1), _, rfl, hown.1, hown.2.imp_right fun ⟨g, cap, cur, h1, h2, h3⟩ => ⟨g, cap, cur, h1, YV _, h3⟩⟩
 ·refine ⟨rfl, ?_⟩
  rcases hown.2 with ⟨h1, _⟩ | ⟨g, cap, cur, h1, _⟩
  ·exact ⟨_, _, _, h1⟩
  ·exact ⟨_, _, _, h1⟩
theorem lO {X : Cx I} (hX : cr X) {w' : World} (hb : RowKit.Below X.w0.heap.size X.w0 w') {t : TypeId} {l : List (Int × Int)} {v : Value}
  (hown : w'.ownsRow X.w0.heap.size t 2 v l.length (l.flatMap fun p => [Value.int .i64 p.1, Value.int .i64 p.2])) : dI X w' (.v (.one (.sl t (.pairs l)))) v := by
 have hbase := (aH.empty hX).base_le
 refine ⟨X, [] ++ [.r v], .refl X, ?_, ?_, rfl⟩
 ·show aH X ([] ++ [.row t (.pairs l)]) w' ([] ++ [.r v])
  refine (aH.empty hX).push hb ?_ (fun g hg => (hown.lt g hg).1)
  exact ⟨fun g hg => .inl (Zd hbase (hown.lt g hg).1), _, rfl, hown.1, hown.2.imp_right fun ⟨g, cap, cur, h1, h2, h3⟩ => ⟨g, cap, cur, h1, YV _, h3⟩⟩
 ·refine ⟨rfl, ?_⟩
  rcases hown.2 with ⟨h1, _⟩ | ⟨g, cap, cur, h1, _⟩
  ·exact ⟨_, _, _, h1⟩
  ·exact ⟨_, _, _, h1⟩
def aX (_N : Nat) (l : List (Int × Int)) (k : List (Int × Int) → Option β) : Option β := gd (decide (l.length * 16 ≤ 140737488355328)) (k l)
def mm (t : TypeId) (N : Nat) : Spec β := fun args K => match args with
 | [.v (.one (.sl _ (.pairs l)))] => aX N l fun r => K (.v (.one (.sl t (.pairs r))))
 | _ => none
theorem E3 {g : FuncId} {fn : Func} {t : TypeId} (hf : P.funcs[g]? = some fn) (hc : ((fn.name == "runtime.NumGoroutine") || fn.body.isNone) = false)
  (h0 : ∀ (n c : Nat) (w : World), Calls P g #[.slice none n c] w fun e w' => e = .returned (.slice none 0 0) ∧ w' = w)
  (h : ∀ (a : Addr) (c : Nat) (l : List (Int × Int)) (w : World), l.length * 16 ≤ 140737488355328 → (∀ (j : Nat) u, (l.flatMap fun p => [Value.int .i64 p.1, Value.int .i64 p.2])[j]? = some u → w.cell? (a.add j) = some u) →
   Calls P g #[.slice (some a) l.length c] w fun e w' => ∃ v', e = .returned v' ∧ w'.ownsRow w.heap.size t 2 v' l.length (l.flatMap fun p => [Value.int .i64 p.1, Value.int .i64 p.2]) ∧ RowKit.Below w.heap.size w w') (N : Nat) :
  ap (β := β) I P g (mm t N) := by
 refine ⟨pI hf hc, fun args K r hr => ?_⟩
 unfold mm at hr
 split at hr
 ·rename_i t' l
  unfold aX at hr
  obtain ⟨h1, hr⟩ := av hr
  have h1 := of_decide_eq_true h1
  refine ⟨_, hr, fun X vs hX hv => ?_⟩
  rcases hv with _ | ⟨ha, hv⟩
  rcases hv with _ | _
  rename_i va
  obtain ⟨A, n, c, rfl, hn, hnc, xs, hin, hcells⟩ := (show dc X (.pairs l) va from ha)
  obtain rfl : xs = l.flatMap fun p => [Value.int .i64 p.1, Value.int .i64 p.2] := hin
  have hn : n = l.length := hn
  subst hn
  cases A with
  | none =>
   cases l with
   | nil => exact (h0 0 c X.w0).mono fun e w' ⟨he, hw⟩ => ⟨_, he, lO hX (by rw [hw]; exact RowKit.Below.refl _ _) (aad _ _ _ _)⟩
   | cons x r =>
    obtain ⟨a, ha, _⟩ := hcells 0 (.int .i64 x.1) rfl
    cases ha
  | some a =>
   refine (h a c l X.w0 h1 (fun j u hj => ?_)).mono fun e w' ⟨v', he, hown, hw⟩ => ⟨_, he, lO hX hw hown⟩
   obtain ⟨a', ha', _, hcj⟩ := hcells j u hj
   cases ha'
   exact hcj
 ·cases hr
theorem G6 {w : World} (h : sC P w) : ∀ w' : World, (∀ k, k < w.heap.size → w'.heap[k]? = w.heap[k]?) → sC P w' := by
 intro w' hw
 unfold sC Lib.TabIs World.var? at h ⊢
 cases hg : P.globalNamed "internal/strconv.uint64pow10" with
 | none => rw [hg] at h; cases h
 | some g =>
  rw [hg] at h
  simp only [Option.bind_some] at h ⊢
  have hlt : g < w.heap.size := by
   rcases YM g w.heap.size with hl | hl
   ·exact hl
   ·rw [Array.getElem?_eq_none hl] at h; cases h
  rw [hw g hlt]
  exact h
end
end Go.Rv
