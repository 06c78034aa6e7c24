/- What a function's own text must show: its loops round by round, its calls one by one. -/
import Derived.Test.YtemihnclhcobnaaGreatDoorRvLay
namespace Go.Rv
set_option linter.unusedSimpArgs false
section
variable {I : World → Prop} {P : Program} {L : Lay} {β : Type}

def mc (ret : Nat) (c : Code) : Prop := ∀ (ex : List (Nat × Nat)) (out : Nat) (i : Nat) (l : bV), (aW ret c ex out)[i]? = some l →
  ∀ l' ∈ aW ret l.body l.ex (l.lv ret), ∃ j, i < j ∧ (aW ret c ex out)[j]? = some l'

theorem tu (ret : Nat) (c : Code) : mc ret c := by
 have jj : mc ret c ∧ ∀ c', c = .loop c' → mc ret c' := by
  induction c with
  | seq a b iha ihb =>
   refine ⟨fun ex out i l h l' hl' => ?_, fun c' h => by cases h⟩
   simp only [aW] at h ⊢
   rcases YM i (aW ret a ex (jw ret b ex out)).length with hlt | hge
   ·rw [aa7 hlt] at h
    obtain ⟨j, h1, h2⟩ := iha.1 _ _ _ _ h l' hl'
    exact ⟨j, h1, by rw [aa7 (abd.1 h2).1]; exact h2⟩
   ·rw [aa8 hge] at h
    obtain ⟨j, h1, h2⟩ := ihb.1 _ _ _ _ h l' hl'
    exact ⟨(aW ret a ex (jw ret b ex out)).length + j, by omega, by rw [aa8 (by omega)]; simpa using h2⟩
  | cond c a b iha ihb =>
   refine ⟨fun ex out i l h l' hl' => ?_, fun c' h => by cases h⟩
   simp only [aW] at h ⊢
   rcases YM i (aW ret a ex out).length with hlt | hge
   ·rw [aa7 hlt] at h
    obtain ⟨j, h1, h2⟩ := iha.1 _ _ _ _ h l' hl'
    exact ⟨j, h1, by rw [aa7 (abd.1 h2).1]; exact h2⟩
   ·rw [aa8 hge] at h
    obtain ⟨j, h1, h2⟩ := ihb.1 _ _ _ _ h l' hl'
    exact ⟨(aW ret a ex out).length + j, by omega, by rw [aa8 (by omega)]; simpa using h2⟩
  | block id c ih =>
   refine ⟨fun ex out i l h l' hl' => ?_, fun c' h => by cases h⟩
   have plain : (aW ret c ((id, out) :: ex) out)[i]? = some l → ∃ j, i < j ∧ (aW ret c ((id, out) :: ex) out)[j]? = some l' := fun h => ih.1 _ _ _ _ h l' hl'
   cases c with
   | loop c =>
    simp only [aW] at h ⊢
    cases i with
    | zero =>
     simp only [aba, Yy] at h
     subst h
     obtain ⟨j, hj⟩ := abk.1 hl'
     exact ⟨j + 1, by omega, by simpa [bV.lv] using hj⟩
    | succ i =>
     simp only [aa9] at h
     obtain ⟨j, h1, h2⟩ := ih.2 c rfl _ _ _ _ h l' hl'
     exact ⟨j + 1, by omega, by simpa using h2⟩
   | _ => exact plain h
  | loop c ih => exact ⟨fun ex out i l h => by simp [aW] at h, fun c' h => by cases h; exact ih.1⟩
  | _ => exact ⟨fun ex out i l h => by simp [aW] at h, fun c' h => by cases h⟩
 exact jj.1

def Q9 (rec_ : St → Option β) (K : Exit → St → Option β) : Exit → St → Option β
 | .normal, s => rec_ s
 | e, s => K e s

theorem am {E : Env β} {ret : Nat} {l : bV} {F : Nat} {s : St} {K : Exit → St → Option β} :
  l.rounds L E ret (F + 1) s K = ev L E ret l.body l.ex (l.lv ret) s (Q9 (fun s' => l.rounds L E ret F (s'.tidy (l.lv ret)) K) K) := by
 show ev L E ret l.body l.ex (l.lv ret) s _ = _
 congr 1
 funext e s'
 cases e <;> rfl

def az (L : Lay) (E : Env β) (ret : Nat) (l : bV) : Prop := ∀ s K r, aS E.loops l.id s K = some r → ∃ F, l.rounds L E ret F s K = some r

theorem uD (hL : aJ P L) (hm : P.follows .mixedOrders = true) {E : Env β} (hE : bp I P E) (hM : b7 I P E) (hG : fS I P E) {ret : Nat} {c : Code} {ex : List (Nat × Nat)} {out : Nat} {ls : List bV} (hls : ls = aW ret c ex out) (h : ∀ (i : Nat) l, ls[i]? = some l → az L E ret l) :
  ∀ l ∈ ls, mf I P E l := by
 subst hls
 have key : ∀ (k : Nat) (i : Nat) l, (aW ret c ex out)[i]? = some l → (aW ret c ex out).length - i ≤ k → mf I P E l := by
  intro k
  induction k with
  | zero =>
   intro i l hi hk
   have := (abd.1 hi).1
   omega
  | succ k ih =>
   intro i l hi hk s K r hr
   obtain ⟨F, hF⟩ := h i l hi s K r hr
   refine BJ hL hm hE hM hG (ret := ret) (l := l) (fun l' hl' => ?_) F s K r hF
   obtain ⟨j, h1, h2⟩ := tu _ _ _ _ _ _ hi l' hl'
   exact ih j l' h2 (by have := (abd.1 h2).1; omega)
 intro l hl
 obtain ⟨i, hi⟩ := abk.1 hl
 exact key _ i l hi (YG _)

def lp (fn : Func) (i : Nat) : bV := nth ⟨0, .skip, []⟩ (dK fn) i
def EX (L : Lay) (E : Env β) (ret : Nat) (g : Nat → bV) : Nat → Prop
 | 0 => True
 | n + 1 => EX L E ret g n ∧ az L E ret (g n)

theorem WC {E : Env β} {ret : Nat} {ls : List bV} {n : Nat} (hn : Nat.beq ls.length n = true) (h : EX L E ret (nth ⟨0, .skip, []⟩ ls) n) : ∀ (i : Nat) l, ls[i]? = some l → az L E ret l := by
 intro i l hi
 have hlt := (abd.1 hi).1
 rw [YA hn] at hlt
 have : nth ⟨0, .skip, []⟩ ls i = l := Bv hi
 rw [← this]
 have key : ∀ n, EX L E ret (nth ⟨0, .skip, []⟩ ls) n → ∀ i, i < n → az L E ret (nth ⟨0, .skip, []⟩ ls i) := by
  intro n
  induction n with
  | zero => intro _ i hi; omega
  | succ n ih =>
   intro h i hi
   rcases YM i n with hl | hg
   ·exact ih h.1 i hl
   ·have : i = n := by omega
    subst this; exact h.2
 exact key n h i hlt

theorem ai : bp I P (⟨[], [], [], [], ⟨[], [], [], []⟩⟩ : Env β) := BS fun g S h => by simp at h
theorem af {H H' : ej} {fns : List (FuncId × Spec β)} {ms ms' : List (FuncId × lM β)} {ls ls' : List (Nat × ay β)} {gs gs' : List (FuncId × bO β)} (h : bp I P ⟨fns, ms, ls, gs, H⟩) : bp I P ⟨fns, ms', ls', gs', H'⟩ := h
theorem aa {H : ej} {g : FuncId} {S : Spec β} {fns : List (FuncId × Spec β)} {ms : List (FuncId × lM β)} {ls : List (Nat × ay β)} {gs : List (FuncId × bO β)} (h : ap I P g S) (hs : bp I P ⟨fns, ms, ls, gs, H⟩) : bp I P ⟨(g, S) :: fns, ms, ls, gs, H⟩ := by
 intro g' args K r hr
 simp only [f6] at hr
 cases hb : Nat.beq g g' with
 | true =>
  rw [hb] at hr
  have := YA hb
  subst this
  exact ⟨h.1, h.2 args K r hr⟩
 | false =>
  rw [hb] at hr
  exact hs g' args K r hr

theorem ak {H : ej} {fns : List (FuncId × Spec β)} {ls : List (Nat × ay β)} {gs : List (FuncId × bO β)} : b7 I P (⟨fns, [], ls, gs, H⟩ : Env β) := fun g MS h => by cases h
theorem aq (hL : aJ P L) (hm : P.follows .mixedOrders = true) {E : Env β} (hE : bp I P E) (hM : b7 I P E) (hG : fS I P E) {f : FuncId} {fn : Func} (hf : P.funcs[f]? = some fn) (hc : ((fn.name == "runtime.NumGoroutine") || fn.body.isNone) = false)
  (n : Nat) (hn : Nat.beq (dK fn).length n = true) (hr : EX L E (ah fn) (lp fn) n) {S : Spec β} (hS : ∀ args K r, S args K = some r → aQ L E fn args K = some r) : ap I P f S := by
 simp only [ZR] at hc
 cases hb : fn.body with
 | none => rw [hb] at hc; cases hc.2
 | some c =>
  exact Se hL hm hE hM hG hf hc.1 (uD hL hm hE hM hG (c := c) (ex := []) (out := ah fn) (by unfold dK; rw [hb]) (WC hn hr)) hS (by rw [hb]; rfl)

theorem aA {H : ej} {fns : List (FuncId × Spec β)} {ms : List (FuncId × lM β)} {ls : List (Nat × ay β)} : fS I P (⟨fns, ms, ls, [], H⟩ : Env β) := fun g MS h => by cases h
theorem dM {H : ej} {g : FuncId} {S : bO β} {fns : List (FuncId × Spec β)} {ms : List (FuncId × lM β)} {ls : List (Nat × ay β)} {gs : List (FuncId × bO β)} (h : GOK I P g S) (hs : fS I P ⟨fns, ms, ls, gs, H⟩) : fS I P ⟨fns, ms, ls, (g, S) :: gs, H⟩ := by
 intro g' MS hr
 simp only [gOf] at hr
 cases hb : Nat.beq g g' with
 | true =>
  rw [hb] at hr
  simp only [YC, Yy] at hr
  rw [← hr, ← YA hb]
  exact h
 | false =>
  rw [hb] at hr
  exact hs g' MS hr

theorem Be (hL : aJ P L) (hm : P.follows .mixedOrders = true) {E : Env β} (hE : bp I P E) (hM : b7 I P E) (hG : fS I P E) {f : FuncId} {fn : Func} (hf : P.funcs[f]? = some fn) (hc : ((fn.name == "runtime.NumGoroutine") || fn.body.isNone) = false)
  (n : Nat) (hn : Nat.beq (dK fn).length n = true) (hr : EX L E (ah fn) (lp fn) n) {S : bO β} (hS : ∀ args bl K r, S args bl K = some r → lQ L E fn args bl K = some r) : GOK I P f S := by
 simp only [ZR] at hc
 cases hb : fn.body with
 | none => rw [hb] at hc; cases hc.2
 | some c =>
  exact M6 hL hm hE hM hG hf hc.1 (uD hL hm hE hM hG (c := c) (ex := []) (out := ah fn) (by unfold dK; rw [hb]) (WC hn hr)) hS (by rw [hb]; rfl)
theorem Sh {f : FuncId} {fn : Func} (hf : P.funcs[f]? = some fn) (hc : ((fn.name == "runtime.NumGoroutine") || fn.body.isNone) = false) : GOK (β := β) I P f (fun _ _ _ => none) := by
 simp only [ZR] at hc
 cases hb : fn.body with
 | none => rw [hb] at hc; cases hc.2
 | some c => exact ⟨⟨fn, c, hf, hb, hc.1⟩, fun args bl K r h => by cases h⟩
theorem Tk {f : FuncId} {fn : Func} (hf : P.funcs[f]? = some fn) (hc : ((fn.name == "runtime.NumGoroutine") || fn.body.isNone) = false) : ap (β := β) I P f (fun _ _ => none) := by
 simp only [ZR] at hc
 cases hb : fn.body with
 | none => rw [hb] at hc; cases hc.2
 | some c => exact ⟨⟨fn, c, hf, hb, hc.1⟩, fun args K r h => by cases h⟩
theorem oK {f : FuncId} {fn : Func} (hf : P.funcs[f]? = some fn) (hc : ((fn.name == "runtime.NumGoroutine") || fn.body.isNone) = false) {S : Spec β} (h : ∀ args K r, S args K = some r → (none : Option β) = some r) : ap I P f S :=
 ⟨(Tk (β := β) (I := I) hf hc).1, fun args K r hr => by cases h args K r hr⟩
theorem I8 {f : FuncId} {fn : Func} (hf : P.funcs[f]? = some fn) (hc : ((fn.name == "runtime.NumGoroutine") || fn.body.isNone) = false) {S : bO β} (h : ∀ args bl K r, S args bl K = some r → (none : Option β) = some r) : GOK I P f S :=
 ⟨(Sh (β := β) (I := I) hf hc).1, fun args bl K r hr => by cases h args bl K r hr⟩
end

abbrev w64 (x : Int) : Int := IntKind.wrap .i64 x
abbrev w8 (x : Int) : Int := IntKind.wrap .u8 x
abbrev P6 (x : Int) : Int := IntKind.wrap .u64 x
end Go.Rv
namespace Go.Rv
section
variable {I : World → Prop} {P : Program} {L : Lay} {β : Type}

def n8 (y : TV) : TV := (wj (bE [] y).2 (bE [] y).1).1
def M5 : SV → Bool
 | .int .. | .bool _ | .str _ | .fsl .. | .tr .. => true
 | _ => false
def M4 : AV → Bool
 | .one s => M5 s
 | .agg l => l.all M5
def Sd : TV → Bool
 | .v x => M4 x
 | .tup l => l.all M4
def I5 (K : TV → Option β) (y : TV) : Option β := match Sd (n8 y) with
 | true => K (n8 y)
 | false => none
theorem uk {s : SV} (h : M5 s = true) (bl : List Blk) : aP bl s = (s, bl) ∧ f5 [] s = s ∧ m2 s = true := by cases s <;> first | exact ⟨rfl, rfl, rfl⟩ | cases h
theorem uj : ∀ {l : List SV}, l.all M5 = true → ∀ bl, c7 bl l = (l, bl) ∧ l.map (f5 []) = l ∧ l.all m2 = true
 | [], _, bl => ⟨rfl, rfl, rfl⟩
 | s :: l, h, bl => by
  simp only [YK, Yz] at h
  obtain ⟨h1, h2, h3⟩ := uk h.1 bl
  obtain ⟨k1, k2, k3⟩ := uj h.2 bl
  refine ⟨by simp only [c7, h1, k1], by rw [Zh, h2, k2], by rw [YK, h3, k3]; rfl⟩
theorem ui {x : AV} (h : M4 x = true) (bl : List Blk) : cg bl x = (x, bl) ∧ sk [] x = x ∧ qr x = true := by
 cases x with
 | one s =>
  obtain ⟨h1, h2, h3⟩ := uk h bl
  exact ⟨by simp only [cg, h1], by simp only [sk, h2], h3⟩
 | agg l =>
  obtain ⟨h1, h2, h3⟩ := uj h bl
  exact ⟨by simp only [cg, h1], by simp only [sk, h2], h3⟩
theorem qG : ∀ {l : List AV}, l.all M4 = true → ∀ bl, ce bl l = (l, bl) ∧ l.map (sk []) = l ∧ l.all qr = true
 | [], _, bl => ⟨rfl, rfl, rfl⟩
 | s :: l, h, bl => by
  simp only [YK, Yz] at h
  obtain ⟨h1, h2, h3⟩ := ui h.1 bl
  obtain ⟨k1, k2, k3⟩ := qG h.2 bl
  refine ⟨by simp only [ce, h1, k1], by rw [Zh, h2, k2], by rw [YK, h3, k3]; rfl⟩
theorem Fb {y : TV} (h : Sd y = true) (bl : List Blk) : bE bl y = (y, bl) ∧ mB [] y = y ∧ EZ y = true := by
 cases y with
 | v x =>
  obtain ⟨h1, h2, h3⟩ := ui h bl
  exact ⟨by simp only [bE, h1], by simp only [mB, h2], h3⟩
 | tup l =>
  obtain ⟨h1, h2, h3⟩ := qG h bl
  exact ⟨by simp only [bE, h1], by simp only [mB, h2], h3⟩

theorem I6 {X : Cx I} {w' : World} {y : TV} {v : Value} (hf : Sd (n8 y) = true) (h : dI X w' y v) : dI X w' (n8 y) v := by
 obtain ⟨X', lc, h1, h2, h3, _⟩ := h
 obtain ⟨X2, k1, k2, k3⟩ := qL h2 h3
 obtain ⟨f1, f2, f3⟩ := Fb hf []
 have hs := k2.sel (sel := []) .nil
 have hr := nG (sel := []) k3
 refine ⟨X2, [], h1.trans k1, by rw [f1]; exact hs, ?_, f3⟩
 rw [f1]
 have hr : aC X2 [] (mB [] (n8 y)) v := hr
 rwa [f2] at hr

theorem Sf {g : FuncId} {S T : Spec β} (h : ap I P g S) (ht : ∀ args K r, T args K = some r → S args (I5 K) = some r) : ap I P g T :=
 ⟨h.1, fun args K r hr => by
  obtain ⟨y, hy, hc⟩ := h.2 args (I5 K) r (ht args K r hr)
  unfold I5 at hy
  split at hy
  ·rename_i hf
   exact ⟨n8 y, hy, fun X vs hX hv => (hc X vs hX hv).mono fun e w' ⟨v, he, hr⟩ => ⟨v, he, I6 hf hr⟩⟩
  ·cases hy⟩

theorem Af (hL : aJ P L) (hm : P.follows .mixedOrders = true) {E : Env β} (hE : bp I P E) (hM : b7 I P E) (hG : fS I P E) {f : FuncId} {fn : Func} (hf : P.funcs[f]? = some fn) (hc : ((fn.name == "runtime.NumGoroutine") || fn.body.isNone) = false)
  (n : Nat) (hn : Nat.beq (dK fn).length n = true) (hr : EX L E (ah fn) (lp fn) n) {S : Spec β} (hS : ∀ args K r, S args K = some r → aQ L E fn args (I5 K) = some r) : ap I P f S :=
 Sf (aq hL hm hE hM hG hf hc n hn hr (S := fun args K => aQ L E fn args K) fun _ _ _ h => h) hS
end
end Go.Rv
namespace Go.Rv
section
variable {I : World → Prop} {P : Program} {L : Lay} {β : Type}

end
end Go.Rv
