/- What a function's own text must show: its loops round by round, its calls one by one. -/
import Derived.Test.YtemihnclhcobnaaGreatDoorRvLay
namespace Go.Rv
set_option linter.unusedSimpArgs false
section
variable {I : World -> Prop} {P : Program} {L : Lay} {β : Type}
def nn (ret : Nat) (c : Code) : Prop := ∀ (ex : List (Nat × Nat)) (out : Nat) (i : Nat) (l : b8), (aZ ret c ex out)[i]? = some l ->
  ∀ l' ∈ aZ ret l.body l.ex (l.lv ret), ∃ j, i < j /\ (aZ ret c ex out)[j]? = some l'
theorem wk (ret : Nat) (c : Code) : nn ret c := by
 have both : nn ret c /\ ∀ c', c = .loop c' -> nn ret c' := by
  induction c with
  | seq a b iha ihb =>
   refine ⟨fun ex out i l h l' hl' => ?_, fun c' h => by cases h⟩
   simp only [aZ] at h ⊢
   rcases akg i (aZ ret a ex (kc ret b ex out)).length with hlt | hge
   ·rw [amB hlt] at h
    obtain ⟨j, h1, h2⟩ := iha.1 _ _ _ _ h l' hl'
    exact ⟨j, h1, by rw [amB (amH.1 h2).1]; exact h2⟩
   ·rw [amC hge] at h
    obtain ⟨j, h1, h2⟩ := ihb.1 _ _ _ _ h l' hl'
    exact ⟨(aZ ret a ex (kc ret b ex out)).length + j, by omega, by rw [amC (by omega)]; simpa using h2⟩
  | cond c a b iha ihb =>
   refine ⟨fun ex out i l h l' hl' => ?_, fun c' h => by cases h⟩
   simp only [aZ] at h ⊢
   rcases akg i (aZ ret a ex out).length with hlt | hge
   ·rw [amB hlt] at h
    obtain ⟨j, h1, h2⟩ := iha.1 _ _ _ _ h l' hl'
    exact ⟨j, h1, by rw [amB (amH.1 h2).1]; exact h2⟩
   ·rw [amC hge] at h
    obtain ⟨j, h1, h2⟩ := ihb.1 _ _ _ _ h l' hl'
    exact ⟨(aZ ret a ex out).length + j, by omega, by rw [amC (by omega)]; simpa using h2⟩
  | block id c ih =>
   refine ⟨fun ex out i l h l' hl' => ?_, fun c' h => by cases h⟩
   have plain : (aZ ret c ((id, out) :: ex) out)[i]? = some l -> ∃ j, i < j /\ (aZ ret c ((id, out) :: ex) out)[j]? = some l' := fun h => ih.1 _ _ _ _ h l' hl'
   cases c with
   | loop c =>
    simp only [aZ] at h ⊢
    cases i with
    | zero =>
     simp only [amE, aj1] at h
     subst h
     obtain ⟨j, hj⟩ := amO.1 hl'
     exact ⟨j + 1, by omega, by simpa [b8.lv] using hj⟩
    | succ i =>
     simp only [amD] at h
     obtain ⟨j, h1, h2⟩ := ih.2 c rfl _ _ _ _ h l' hl'
     exact ⟨j + 1, by omega, by simpa using h2⟩
   | _ => exact plain h
  | loop c ih => exact ⟨fun ex out i l h => by simp [aZ] at h, fun c' h => by cases h; exact ih.1⟩
  | _ => exact ⟨fun ex out i l h => by simp [aZ] at h, fun c' h => by cases h⟩
 exact both.1
def WT (rec_ : St -> Option β) (K : Exit -> St -> Option β) : Exit -> St -> Option β
 | .normal, s => rec_ s
 | e, s => K e s
theorem am {E : Env β} {ret : Nat} {l : b8} {F : Nat} {s : St} {K : Exit -> St -> Option β} :
  l.rounds L E ret (F + 1) s K = ev L E ret l.body l.ex (l.lv ret) s (WT (fun s' => l.rounds L E ret F (s'.tidy (l.lv ret)) K) K) := by
 show ev L E ret l.body l.ex (l.lv ret) s _ = _
 congr 1
 funext e s'
 cases e <;> rfl
def ay (L : Lay) (E : Env β) (ret : Nat) (l : b8) : Prop := ∀ s K r, aS E.loops l.id s K = some r -> ∃ F, l.rounds L E ret F s K = some r
theorem xr (hL : aO P L) (hm : P.follows .mixedOrders = true) {E : Env β} (hE : bo I P E) (hM : cl I P E) (hG : gy I P E) {ret : Nat} {c : Code} {ex : List (Nat × Nat)} {out : Nat} {ls : List b8} (hls : ls = aZ ret c ex out) (h : ∀ (i : Nat) l, ls[i]? = some l -> ay L E ret l) :
  ∀ l ∈ ls, nr I P E l := by
 subst hls
 have key : ∀ (k : Nat) (i : Nat) l, (aZ ret c ex out)[i]? = some l -> (aZ ret c ex out).length - i <= k -> nr I P E l := by
  intro k
  induction k with
  | zero =>
   intro i l hi hk
   have := (amH.1 hi).1
   omega
  | succ k ih =>
   intro i l hi hk s K r hr
   obtain ⟨F, hF⟩ := h i l hi s K r hr
   refine EF hL hm hE hM hG (ret := ret) (l := l) (fun l' hl' => ?_) F s K r hF
   obtain ⟨j, h1, h2⟩ := wk _ _ _ _ _ _ hi l' hl'
   exact ih j l' h2 (by have := (amH.1 h2).1; omega)
 intro l hl
 obtain ⟨i, hi⟩ := amO.1 hl
 exact key _ i l hi (aj8 _)
def lp (fn : Func) (i : Nat) : b8 := nth ⟨0, .skip, []⟩ (d0 fn) i
def It (L : Lay) (E : Env β) (ret : Nat) (g : Nat -> b8) : Nat -> Prop
 | 0 => True
 | n + 1 => It L E ret g n /\ ay L E ret (g n)
theorem aeb {E : Env β} {ret : Nat} {ls : List b8} {n : Nat} (hn : Nat.beq ls.length n = true) (h : It L E ret (nth ⟨0, .skip, []⟩ ls) n) : ∀ (i : Nat) l, ls[i]? = some l -> ay L E ret l := by
 intro i l hi
 have hlt := (amH.1 hi).1
 rw [aj3 hn] at hlt
 have : nth ⟨0, .skip, []⟩ ls i = l := Ep hi
 rw [<- this]
 have key : ∀ n, It L E ret (nth ⟨0, .skip, []⟩ ls) n -> ∀ i, i < n -> ay L E ret (nth ⟨0, .skip, []⟩ ls i) := by
  intro n
  induction n with
  | zero => intro _ i hi; omega
  | succ n ih =>
   intro h i hi
   rcases akg i n with hl | hg
   ·exact ih h.1 i hl
   ·have : i = n := by omega
    subst this; exact h.2
 exact key n h i hlt
theorem ag : bo I P (⟨[], [], [], [], ⟨[], [], [], []⟩⟩ : Env β) := EO fun g S h => by simp at h
theorem ae {H H' : eN} {fns : List (FuncId × Spec β)} {ms ms' : List (FuncId × mP β)} {ls ls' : List (Nat × ax β)} {gs gs' : List (FuncId × ce β)} (h : bo I P ⟨fns, ms, ls, gs, H⟩) : bo I P ⟨fns, ms', ls', gs', H'⟩ := h
theorem aa {H : eN} {g : FuncId} {S : Spec β} {fns : List (FuncId × Spec β)} {ms : List (FuncId × mP β)} {ls : List (Nat × ax β)} {gs : List (FuncId × ce β)} (h : ao I P g S) (hs : bo I P ⟨fns, ms, ls, gs, H⟩) : bo I P ⟨(g, S) :: fns, ms, ls, gs, H⟩ := by
 intro g' args K r hr
 simp only [gK] at hr
 cases hb : Nat.beq g g' with
 | true =>
  rw [hb] at hr
  have := aj3 hb
  subst this
  exact ⟨h.1, h.2 args K r hr⟩
 | false =>
  rw [hb] at hr
  exact hs g' args K r hr
theorem aj {H : eN} {fns : List (FuncId × Spec β)} {ls : List (Nat × ax β)} {gs : List (FuncId × ce β)} : cl I P (⟨fns, [], ls, gs, H⟩ : Env β) := fun g MS h => by cases h
theorem ap (hL : aO P L) (hm : P.follows .mixedOrders = true) {E : Env β} (hE : bo I P E) (hM : cl I P E) (hG : gy I P E) {f : FuncId} {fn : Func} (hf : P.funcs[f]? = some fn) (hc : ((fn.name == "runtime.NumGoroutine") || fn.body.isNone) = false)
  (n : Nat) (hn : Nat.beq (d0 fn).length n = true) (hr : It L E (ai fn) (lp fn) n) {S : Spec β} (hS : ∀ args K r, S args K = some r -> aL L E fn args K = some r) : ao I P f S := by
 simp only [ak3] at hc
 cases hb : fn.body with
 | none => rw [hb] at hc; cases hc.2
 | some c =>
  exact Yz hL hm hE hM hG hf hc.1 (xr hL hm hE hM hG (c := c) (ex := []) (out := ai fn) (by unfold d0; rw [hb]) (aeb hn hr)) hS (by rw [hb]; rfl)
theorem av {H : eN} {fns : List (FuncId × Spec β)} {ms : List (FuncId × mP β)} {ls : List (Nat × ax β)} : gy I P (⟨fns, ms, ls, [], H⟩ : Env β) := fun g MS h => by cases h
theorem eQ {H : eN} {g : FuncId} {S : ce β} {fns : List (FuncId × Spec β)} {ms : List (FuncId × mP β)} {ls : List (Nat × ax β)} {gs : List (FuncId × ce β)} (h : GOK I P g S) (hs : gy I P ⟨fns, ms, ls, gs, H⟩) : gy I P ⟨fns, ms, ls, (g, S) :: gs, H⟩ := by
 intro g' MS hr
 simp only [gOf] at hr
 cases hb : Nat.beq g g' with
 | true =>
  rw [hb] at hr
  simp only [ajZ, aj1] at hr
  rw [<- hr, <- aj3 hb]
  exact h
 | false =>
  rw [hb] at hr
  exact hs g' MS hr
theorem Nj (hL : aO P L) (hm : P.follows .mixedOrders = true) {E : Env β} (hE : bo I P E) (hM : cl I P E) (hG : gy I P E) {f : FuncId} {fn : Func} (hf : P.funcs[f]? = some fn) (hc : ((fn.name == "runtime.NumGoroutine") || fn.body.isNone) = false)
  (n : Nat) (hn : Nat.beq (d0 fn).length n = true) (hr : It L E (ai fn) (lp fn) n) {S : ce β} (hS : ∀ args bl K r, S args bl K = some r -> oZ L E fn args bl K = some r) : GOK I P f S := by
 simp only [ak3] at hc
 cases hb : fn.body with
 | none => rw [hb] at hc; cases hc.2
 | some c =>
  exact R0 hL hm hE hM hG hf hc.1 (xr hL hm hE hM hG (c := c) (ex := []) (out := ai fn) (by unfold d0; rw [hb]) (aeb hn hr)) hS (by rw [hb]; rfl)
theorem YD {f : FuncId} {fn : Func} (hf : P.funcs[f]? = some fn) (hc : ((fn.name == "runtime.NumGoroutine") || fn.body.isNone) = false) : GOK (β := β) I P f (fun _ _ _ => none) := by
 simp only [ak3] at hc
 cases hb : fn.body with
 | none => rw [hb] at hc; cases hc.2
 | some c => exact ⟨⟨fn, c, hf, hb, hc.1⟩, fun args bl K r h => by cases h⟩
theorem Z1 {f : FuncId} {fn : Func} (hf : P.funcs[f]? = some fn) (hc : ((fn.name == "runtime.NumGoroutine") || fn.body.isNone) = false) : ao (β := β) I P f (fun _ _ => none) := by
 simp only [ak3] at hc
 cases hb : fn.body with
 | none => rw [hb] at hc; cases hc.2
 | some c => exact ⟨⟨fn, c, hf, hb, hc.1⟩, fun args K r h => by cases h⟩
theorem dG {f : FuncId} {fn : Func} (hf : P.funcs[f]? = some fn) (hc : ((fn.name == "runtime.NumGoroutine") || fn.body.isNone) = false) {S : Spec β} (h : ∀ args K r, S args K = some r -> (none : Option β) = some r) : ao I P f S :=
 ⟨(Z1 (β := β) (I := I) hf hc).1, fun args K r hr => by cases h args K r hr⟩
theorem Nk {f : FuncId} {fn : Func} (hf : P.funcs[f]? = some fn) (hc : ((fn.name == "runtime.NumGoroutine") || fn.body.isNone) = false) {S : ce β} (h : ∀ args bl K r, S args bl K = some r -> (none : Option β) = some r) : GOK I P f S :=
 ⟨(YD (β := β) (I := I) hf hc).1, fun args bl K r hr => by cases h args bl K r hr⟩
end
abbrev w64 (x : Int) : Int := IntKind.wrap .i64 x
abbrev w8 (x : Int) : Int := IntKind.wrap .u8 x
abbrev Vu (x : Int) : Int := IntKind.wrap .u64 x
section
variable {I : World -> Prop} {P : Program} {L : Lay} {β : Type}
def qc (y : TV) : TV := (zi (bJ [] y).2 (bJ [] y).1).1
def RZ : SV -> Bool
 | .int .. | .bool _ | .str _ | .fsl .. | .tr .. => true
 | _ => false
def RY : AV -> Bool
 | .one s => RZ s
 | .agg l => l.all RZ
def Yy : TV -> Bool
 | .v x => RY x
 | .tup l => l.all RY
def Nd (K : TV -> Option β) (y : TV) : Option β := match Yy (qc y) with
 | true => K (qc y)
 | false => none
theorem w9 {s : SV} (h : RZ s = true) (bl : List Blk) : aU bl s = (s, bl) /\ gJ [] s = s /\ oQ s = true := by cases s <;> first | exact ⟨rfl, rfl, rfl⟩ | cases h
theorem w7 : ∀ {l : List SV}, l.all RZ = true -> ∀ bl, dq bl l = (l, bl) /\ l.map (gJ []) = l /\ l.all oQ = true
 | [], _, bl => ⟨rfl, rfl, rfl⟩
 | s :: l, h, bl => by
  simp only [akd, aj0] at h
  obtain ⟨h1, h2, h3⟩ := w9 h.1 bl
  obtain ⟨k1, k2, k3⟩ := w7 h.2 bl
  refine ⟨by simp only [dq, h1, k1], by rw [akD, h2, k2], by rw [akd, h3, k3]; rfl⟩
theorem wZ {x : AV} (h : RY x = true) (bl : List Blk) : cu bl x = (x, bl) /\ uW [] x = x /\ sN x = true := by
 cases x with
 | one s =>
  obtain ⟨h1, h2, h3⟩ := w9 h bl
  exact ⟨by simp only [cu, h1], by simp only [uW, h2], h3⟩
 | agg l =>
  obtain ⟨h1, h2, h3⟩ := w7 h bl
  exact ⟨by simp only [cu, h1], by simp only [uW, h2], h3⟩
theorem td : ∀ {l : List AV}, l.all RY = true -> ∀ bl, ct bl l = (l, bl) /\ l.map (uW []) = l /\ l.all sN = true
 | [], _, bl => ⟨rfl, rfl, rfl⟩
 | s :: l, h, bl => by
  simp only [akd, aj0] at h
  obtain ⟨h1, h2, h3⟩ := wZ h.1 bl
  obtain ⟨k1, k2, k3⟩ := td h.2 bl
  refine ⟨by simp only [ct, h1, k1], by rw [akD, h2, k2], by rw [akd, h3, k3]; rfl⟩
theorem IJ {y : TV} (h : Yy y = true) (bl : List Blk) : bJ bl y = (y, bl) /\ nL [] y = y /\ Iy y = true := by
 cases y with
 | v x =>
  obtain ⟨h1, h2, h3⟩ := wZ h bl
  exact ⟨by simp only [bJ, h1], by simp only [nL, h2], h3⟩
 | tup l =>
  obtain ⟨h1, h2, h3⟩ := td h bl
  exact ⟨by simp only [bJ, h1], by simp only [nL, h2], h3⟩
theorem Nf {X : Cx I} {w' : World} {y : TV} {v : Value} (hf : Yy (qc y) = true) (h : dY X w' y v) : dY X w' (qc y) v := by
 obtain ⟨X', lc, h1, h2, h3, _⟩ := h
 obtain ⟨X2, k1, k2, k3⟩ := tj h2 h3
 obtain ⟨f1, f2, f3⟩ := IJ hf []
 have hs := k2.sel (sel := []) .nil
 have hr := py (sel := []) k3
 refine ⟨X2, [], h1.trans k1, by rw [f1]; exact hs, ?_, f3⟩
 rw [f1]
 have hr : aC X2 [] (nL [] (qc y)) v := hr
 rwa [f2] at hr
theorem YA {g : FuncId} {S T : Spec β} (h : ao I P g S) (ht : ∀ args K r, T args K = some r -> S args (Nd K) = some r) : ao I P g T :=
 ⟨h.1, fun args K r hr => by
  obtain ⟨y, hy, hc⟩ := h.2 args (Nd K) r (ht args K r hr)
  unfold Nd at hy
  split at hy
  ·rename_i hf
   exact ⟨qc y, hy, fun X vs hX hv => (hc X vs hX hv).mono fun e w' ⟨v, he, hr⟩ => ⟨v, he, Nf hf hr⟩⟩
  ·cases hy⟩
theorem CY (hL : aO P L) (hm : P.follows .mixedOrders = true) {E : Env β} (hE : bo I P E) (hM : cl I P E) (hG : gy I P E) {f : FuncId} {fn : Func} (hf : P.funcs[f]? = some fn) (hc : ((fn.name == "runtime.NumGoroutine") || fn.body.isNone) = false)
  (n : Nat) (hn : Nat.beq (d0 fn).length n = true) (hr : It L E (ai fn) (lp fn) n) {S : Spec β} (hS : ∀ args K r, S args K = some r -> aL L E fn args (Nd K) = some r) : ao I P f S :=
 YA (ap hL hm hE hM hG hf hc n hn hr (S := fun args K => aL L E fn args K) fun _ _ _ h => h) hS
end
section
variable {I : World -> Prop} {P : Program} {L : Lay} {β : Type}
end
end Go.Rv
