/- What a function's own text must show: its loops round by round, its calls one by one. -/
import Derived.Test.YtmhlcbibbhelkaaDoorRvLay
namespace Go.Rv
section
variable {I : World → Prop} {P : Program} {L : Lay} {β : Type}

def InnerLater (ret : Nat) (c : Code) : Prop := ∀ (ex : List (Nat × Nat)) (out : Nat) (i : Nat) (l : LoopAt), (loopsOf ret c ex out)[i]? = some l →
    ∀ l' ∈ loopsOf ret l.body l.ex (l.lv ret), ∃ j, i < j ∧ (loopsOf ret c ex out)[j]? = some l'

theorem loopsOf_inner (ret : Nat) (c : Code) : InnerLater ret c := by
  have both : InnerLater ret c ∧ ∀ c', c = .loop c' → InnerLater ret c' := by
    induction c with
    | seq a b iha ihb =>
      refine ⟨fun ex out i l h l' hl' => ?_, fun c' h => by cases h⟩
      simp only [loopsOf] at h ⊢
      rcases Nat.lt_or_ge i (loopsOf ret a ex (live ret b ex out)).length with hlt | hge
      · rw [List.getElem?_append_left hlt] at h
        obtain ⟨j, h1, h2⟩ := iha.1 _ _ _ _ h l' hl'
        exact ⟨j, h1, by rw [List.getElem?_append_left (List.getElem?_eq_some_iff.1 h2).1]; exact h2⟩
      · rw [List.getElem?_append_right hge] at h
        obtain ⟨j, h1, h2⟩ := ihb.1 _ _ _ _ h l' hl'
        exact ⟨(loopsOf ret a ex (live ret b ex out)).length + j, by omega, by rw [List.getElem?_append_right (by omega)]; simpa using h2⟩
    | cond c a b iha ihb =>
      refine ⟨fun ex out i l h l' hl' => ?_, fun c' h => by cases h⟩
      simp only [loopsOf] at h ⊢
      rcases Nat.lt_or_ge i (loopsOf ret a ex out).length with hlt | hge
      · rw [List.getElem?_append_left hlt] at h
        obtain ⟨j, h1, h2⟩ := iha.1 _ _ _ _ h l' hl'
        exact ⟨j, h1, by rw [List.getElem?_append_left (List.getElem?_eq_some_iff.1 h2).1]; exact h2⟩
      · rw [List.getElem?_append_right hge] at h
        obtain ⟨j, h1, h2⟩ := ihb.1 _ _ _ _ h l' hl'
        exact ⟨(loopsOf ret a ex out).length + j, by omega, by rw [List.getElem?_append_right (by omega)]; simpa using h2⟩
    | block id c ih =>
      refine ⟨fun ex out i l h l' hl' => ?_, fun c' h => by cases h⟩
      have plain : (loopsOf ret c ((id, out) :: ex) out)[i]? = some l → ∃ j, i < j ∧ (loopsOf ret c ((id, out) :: ex) out)[j]? = some l' := fun h => ih.1 _ _ _ _ h l' hl'
      cases c with
      | loop c =>
        simp only [loopsOf] at h ⊢
        cases i with
        | zero =>
          simp only [List.getElem?_cons_zero, Option.some.injEq] at h
          subst h
          obtain ⟨j, hj⟩ := List.mem_iff_getElem?.1 hl'
          exact ⟨j + 1, by omega, by simpa [LoopAt.lv] using hj⟩
        | succ i =>
          simp only [List.getElem?_cons_succ] at h
          obtain ⟨j, h1, h2⟩ := ih.2 c rfl _ _ _ _ h l' hl'
          exact ⟨j + 1, by omega, by simpa using h2⟩
      | _ => exact plain h
    | loop c ih => exact ⟨fun ex out i l h => by simp [loopsOf] at h, fun c' h => by cases h; exact ih.1⟩
    | _ => exact ⟨fun ex out i l h => by simp [loopsOf] at h, fun c' h => by cases h⟩
  exact both.1

def nextR (rec_ : St → Option β) (K : Exit → St → Option β) : Exit → St → Option β
  | .normal, s => rec_ s
  | e, s => K e s

theorem rounds_next {E : Env β} {ret : Nat} {l : LoopAt} {F : Nat} {s : St} {K : Exit → St → Option β} :
    l.rounds L E ret (F + 1) s K = ev L E ret l.body l.ex (l.lv ret) s (nextR (fun s' => l.rounds L E ret F (s'.tidy (l.lv ret)) K) K) := by
  show ev L E ret l.body l.ex (l.lv ret) s _ = _
  congr 1
  funext e s'
  cases e <;> rfl

def RoundsOK (L : Lay) (E : Env β) (ret : Nat) (l : LoopAt) : Prop := ∀ s K r, lookL E.loops l.id s K = some r → ∃ F, l.rounds L E ret F s K = some r

theorem loops_run (hL : LayOK P L) (hm : P.follows .mixedOrders = true) {E : Env β} (hE : SpecsOK I P E) (hM : MutsOK I P E) (hG : GsOK I P E) {ret : Nat} {c : Code} {ex : List (Nat × Nat)} {out : Nat} {ls : List LoopAt} (hls : ls = loopsOf ret c ex out) (h : ∀ (i : Nat) l, ls[i]? = some l → RoundsOK L E ret l) :
    ∀ l ∈ ls, LoopOK I P E l := by
  subst hls
  have key : ∀ (k : Nat) (i : Nat) l, (loopsOf ret c ex out)[i]? = some l → (loopsOf ret c ex out).length - i ≤ k → LoopOK I P E l := by
    intro k
    induction k with
    | zero =>
      intro i l hi hk
      have := (List.getElem?_eq_some_iff.1 hi).1
      omega
    | succ k ih =>
      intro i l hi hk s K r hr
      obtain ⟨F, hF⟩ := h i l hi s K r hr
      refine rounds_run hL hm hE hM hG (ret := ret) (l := l) (fun l' hl' => ?_) F s K r hF
      obtain ⟨j, h1, h2⟩ := loopsOf_inner _ _ _ _ _ _ hi l' hl'
      exact ih j l' h2 (by have := (List.getElem?_eq_some_iff.1 h2).1; omega)
  intro l hl
  obtain ⟨i, hi⟩ := List.mem_iff_getElem?.1 hl
  exact key _ i l hi (Nat.le_refl _)

def lp (fn : Func) (i : Nat) : LoopAt := nth ⟨0, .skip, []⟩ (fnLoops fn) i
def lpM (fn : Func) (i : Nat) : LoopAt := nth ⟨0, .skip, []⟩ (fnLoopsM fn) i

def RAll (L : Lay) (E : Env β) (ret : Nat) (g : Nat → LoopAt) : Nat → Prop
  | 0 => True
  | n + 1 => RAll L E ret g n ∧ RoundsOK L E ret (g n)

theorem rall {E : Env β} {ret : Nat} {ls : List LoopAt} {n : Nat} (hn : Nat.beq ls.length n = true) (h : RAll L E ret (nth ⟨0, .skip, []⟩ ls) n) : ∀ (i : Nat) l, ls[i]? = some l → RoundsOK L E ret l := by
  intro i l hi
  have hlt := (List.getElem?_eq_some_iff.1 hi).1
  rw [Nat.eq_of_beq_eq_true hn] at hlt
  have : nth ⟨0, .skip, []⟩ ls i = l := nth_of hi
  rw [← this]
  have key : ∀ n, RAll L E ret (nth ⟨0, .skip, []⟩ ls) n → ∀ i, i < n → RoundsOK L E ret (nth ⟨0, .skip, []⟩ ls i) := by
    intro n
    induction n with
    | zero => intro _ i hi; omega
    | succ n ih =>
      intro h i hi
      rcases Nat.lt_or_ge i n with hl | hg
      · exact ih h.1 i hl
      · have : i = n := by omega
        subst this; exact h.2
  exact key n h i hlt

theorem specs_nil : SpecsOK I P (⟨[], [], [], [], ⟨[], [], [], []⟩⟩ : Env β) := specsOK_of fun g S h => by simp at h
theorem specs_loops {H H' : Hints} {fns : List (FuncId × Spec β)} {ms ms' : List (FuncId × MSpec β)} {ls ls' : List (Nat × LSpec β)} {gs gs' : List (FuncId × GSpec β)} (h : SpecsOK I P ⟨fns, ms, ls, gs, H⟩) : SpecsOK I P ⟨fns, ms', ls', gs', H'⟩ := h
theorem specs_cons {H : Hints} {g : FuncId} {S : Spec β} {fns : List (FuncId × Spec β)} {ms : List (FuncId × MSpec β)} {ls : List (Nat × LSpec β)} {gs : List (FuncId × GSpec β)} (h : SpecOK I P g S) (hs : SpecsOK I P ⟨fns, ms, ls, gs, H⟩) : SpecsOK I P ⟨(g, S) :: fns, ms, ls, gs, H⟩ := by
  intro g' args K r hr
  simp only [specOf] at hr
  cases hb : Nat.beq g g' with
  | true =>
    rw [hb] at hr
    have := Nat.eq_of_beq_eq_true hb
    subst this
    exact ⟨h.1, h.2 args K r hr⟩
  | false =>
    rw [hb] at hr
    exact hs g' args K r hr

theorem muts_nil {H : Hints} {fns : List (FuncId × Spec β)} {ls : List (Nat × LSpec β)} {gs : List (FuncId × GSpec β)} : MutsOK I P (⟨fns, [], ls, gs, H⟩ : Env β) := fun g MS h => by cases h
theorem muts_cons {H : Hints} {g : FuncId} {S : MSpec β} {fns : List (FuncId × Spec β)} {ms : List (FuncId × MSpec β)} {ls : List (Nat × LSpec β)} {gs : List (FuncId × GSpec β)} (h : MutOK I P g S) (hs : MutsOK I P ⟨fns, ms, ls, gs, H⟩) : MutsOK I P ⟨fns, (g, S) :: ms, ls, gs, H⟩ := by
  intro g' MS hr
  simp only [mutOf] at hr
  cases hb : Nat.beq g g' with
  | true =>
    rw [hb] at hr
    simp only [cond_true, Option.some.injEq] at hr
    rw [← hr, ← Nat.eq_of_beq_eq_true hb]
    exact h
  | false =>
    rw [hb] at hr
    exact hs g' MS hr

theorem spec_of (hL : LayOK P L) (hm : P.follows .mixedOrders = true) {E : Env β} (hE : SpecsOK I P E) (hM : MutsOK I P E) (hG : GsOK I P E) {f : FuncId} {fn : Func} (hf : P.funcs[f]? = some fn) (hc : ((fn.name == "runtime.NumGoroutine") || fn.body.isNone) = false)
    (n : Nat) (hn : Nat.beq (fnLoops fn).length n = true) (hr : RAll L E (retMask fn) (lp fn) n) {S : Spec β} (hS : ∀ args K r, S args K = some r → evFn L E fn args K = some r) : SpecOK I P f S := by
  simp only [Bool.or_eq_false_iff] at hc
  cases hb : fn.body with
  | none => rw [hb] at hc; cases hc.2
  | some c =>
    exact fn_run hL hm hE hM hG hf hc.1 (loops_run hL hm hE hM hG (c := c) (ex := []) (out := retMask fn) (by unfold fnLoops; rw [hb]) (rall hn hr)) hS (by rw [hb]; rfl)

theorem mut_of (hL : LayOK P L) (hm : P.follows .mixedOrders = true) {E : Env β} (hE : SpecsOK I P E) (hM : MutsOK I P E) (hG : GsOK I P E) {f : FuncId} {fn : Func} (hf : P.funcs[f]? = some fn) (hc : ((fn.name == "runtime.NumGoroutine") || fn.body.isNone) = false)
    (n : Nat) (hn : Nat.beq (fnLoopsM fn).length n = true) (hr : RAll L E (retMaskM fn) (lpM fn) n) {S : MSpec β} (hS : ∀ args bl K r, S args bl K = some r → evFnM L E fn args bl K = some r) : MutOK I P f S := by
  simp only [Bool.or_eq_false_iff] at hc
  cases hb : fn.body with
  | none => rw [hb] at hc; cases hc.2
  | some c =>
    exact fnM_run hL hm hE hM hG hf hc.1 (loops_run hL hm hE hM hG (c := c) (ex := []) (out := retMaskM fn) (by unfold fnLoopsM; rw [hb]) (rall hn hr)) hS (by rw [hb]; rfl)
theorem gs_nil {H : Hints} {fns : List (FuncId × Spec β)} {ms : List (FuncId × MSpec β)} {ls : List (Nat × LSpec β)} : GsOK I P (⟨fns, ms, ls, [], H⟩ : Env β) := fun g MS h => by cases h
theorem s_none {f : FuncId} {fn : Func} (hf : P.funcs[f]? = some fn) (hc : ((fn.name == "runtime.NumGoroutine") || fn.body.isNone) = false) : SpecOK (β := β) I P f (fun _ _ => none) := by
  simp only [Bool.or_eq_false_iff] at hc
  cases hb : fn.body with
  | none => rw [hb] at hc; cases hc.2
  | some c => exact ⟨⟨fn, c, hf, hb, hc.1⟩, fun args K r h => by cases h⟩
theorem s_zero {f : FuncId} {fn : Func} (hf : P.funcs[f]? = some fn) (hc : ((fn.name == "runtime.NumGoroutine") || fn.body.isNone) = false) {S : Spec β} (h : ∀ args K r, S args K = some r → (none : Option β) = some r) : SpecOK I P f S :=
  ⟨(s_none (β := β) (I := I) hf hc).1, fun args K r hr => by cases h args K r hr⟩
end

abbrev w64 (x : Int) : Int := IntKind.wrap .i64 x
abbrev w8 (x : Int) : Int := IntKind.wrap .u8 x
abbrev wu64 (x : Int) : Int := IntKind.wrap .u64 x
end Go.Rv
