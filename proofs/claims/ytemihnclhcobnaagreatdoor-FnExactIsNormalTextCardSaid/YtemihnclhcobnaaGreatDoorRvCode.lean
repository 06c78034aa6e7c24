/- Code, loops and functions: what the evaluator says is what the machine does. -/
import Derived.Test.YtemihnclhcobnaaGreatDoorRvList
import Derived.LoopN
namespace Go.Rv
set_option linter.unusedSimpArgs false
open Go.RowKit (Below)
section
variable {I : World -> Prop} {P : Program} {L : Lay} {β : Type}

theorem bG {b : Bool} {x : Option β} {r : β} (h : chk b x = some r) : b = true /\ x = some r := by
 cases b with
 | true => exact ⟨rfl, h⟩
 | false => cases h
theorem dT {x y : Row} {K : Option β} {r : β} (h : f8 x y K = some r) : x = y /\ K = some r := by
 unfold f8 at h
 split at h
 ·obtain ⟨h1, h2⟩ := bG h
  obtain ⟨h3, h4⟩ := aA h2
  rw [bu h1, eq_of_beq h3]
  exact ⟨rfl, h4⟩
 ·obtain ⟨h3, h4⟩ := aA h; rw [eq_of_beq h3]; exact ⟨rfl, h4⟩
 ·obtain ⟨h3, h4⟩ := aA h; rw [eq_of_beq h3]; exact ⟨rfl, h4⟩
 ·obtain ⟨h3, h4⟩ := aA h; rw [eq_of_beq h3]; exact ⟨rfl, h4⟩
 ·obtain ⟨h3, h4⟩ := aA h; rw [of_decide_eq_true h3]; exact ⟨rfl, h4⟩
 ·obtain ⟨h1, h2⟩ := bG h
  obtain ⟨h3, h4⟩ := aA h2
  rw [aj3 h1, eq_of_beq h3]
  exact ⟨rfl, h4⟩
 ·cases h
theorem CO {x y : SV} {K : Option β} {r : β} (h : CN x y K = some r) : x = y /\ K = some r := by
 unfold CN at h
 split at h
 ·obtain ⟨h1, h2⟩ := bG h
  obtain ⟨h3, h4⟩ := aA h2
  rw [bu h1, eq_of_beq h3]
  exact ⟨rfl, h4⟩
 ·obtain ⟨h3, h4⟩ := aA h; rw [eq_of_beq h3]; exact ⟨rfl, h4⟩
 ·obtain ⟨h3, h4⟩ := aA h; rw [of_decide_eq_true h3]; exact ⟨rfl, h4⟩
 ·obtain ⟨h1, h2⟩ := bG h
  simp only [aj0] at h1
  rw [aj3 h1.1, aj3 h1.2]
  exact ⟨rfl, h2⟩
 ·obtain ⟨h1, h2⟩ := bG h; rw [aj3 h1]; exact ⟨rfl, h2⟩
 ·obtain ⟨h1, h2⟩ := bG h
  obtain ⟨h3, h4⟩ := dT h2
  rw [aj3 h1, h3]; exact ⟨rfl, h4⟩
 ·obtain ⟨h1, h2⟩ := bG h; rw [aj3 h1]; exact ⟨rfl, h2⟩
 ·obtain ⟨h1, h2⟩ := bG h; rw [aj3 h1]; exact ⟨rfl, h2⟩
 ·exact ⟨rfl, h⟩
 ·exact ⟨rfl, h⟩
 ·exact ⟨rfl, h⟩
 ·exact ⟨rfl, h⟩
 ·exact ⟨rfl, h⟩
 ·obtain ⟨h1, h2⟩ := bG h
  obtain ⟨h3, h4⟩ := dT h2
  rw [aj3 h1, h3]; exact ⟨rfl, h4⟩
 ·obtain ⟨h3, h4⟩ := dT h
  rw [h3]; exact ⟨rfl, h4⟩
 ·obtain ⟨h1, h2⟩ := bG h
  obtain ⟨h3, h4⟩ := aA h2
  rw [eq_of_beq h1, Tr.beq_eq h3]; exact ⟨rfl, h4⟩
 ·cases h
theorem pD : ∀ {l m : List SV} {K : Option β} {r : β}, xR l m K = some r -> l = m /\ K = some r
 | [], [], _, _, h => ⟨rfl, h⟩
 | x :: l, y :: m, K, r, h => by
  obtain ⟨h1, h2⟩ := CO (show CN x y (xR l m K) = some r from h)
  obtain ⟨h3, h4⟩ := pD h2
  rw [h1, h3]; exact ⟨rfl, h4⟩
 | [], _ :: _, _, _, h => by cases h
 | _ :: _, [], _, _, h => by cases h
theorem CM {x y : AV} {K : Option β} {r : β} (h : CL x y K = some r) : x = y /\ K = some r := by
 unfold CL at h
 split at h
 ·obtain ⟨h1, h2⟩ := CO h; rw [h1]; exact ⟨rfl, h2⟩
 ·obtain ⟨h1, h2⟩ := pD h; rw [h1]; exact ⟨rfl, h2⟩
 ·cases h
theorem xP : ∀ {l m : List AV} {K : Option β} {r : β}, Ag l m K = some r -> l = m /\ K = some r
 | [], [], _, _, h => ⟨rfl, h⟩
 | x :: l, y :: m, K, r, h => by
  obtain ⟨h1, h2⟩ := CM (show CL x y (Ag l m K) = some r from h)
  obtain ⟨h3, h4⟩ := xP h2
  rw [h1, h3]; exact ⟨rfl, h4⟩
 | [], _ :: _, _, _, h => by cases h
 | _ :: _, [], _, _, h => by cases h
theorem OP {x y : TV} {K : Option β} {r : β} (h : Ho x y K = some r) : x = y /\ K = some r := by
 unfold Ho at h
 split at h
 ·obtain ⟨h1, h2⟩ := CM h; rw [h1]; exact ⟨rfl, h2⟩
 ·obtain ⟨h1, h2⟩ := xP h; rw [h1]; exact ⟨rfl, h2⟩
 ·cases h
theorem xS : ∀ {l m : List TV} {K : Option β} {r : β}, u6 l m K = some r -> l = m /\ K = some r
 | [], [], _, _, h => ⟨rfl, h⟩
 | x :: l, y :: m, K, r, h => by
  obtain ⟨h1, h2⟩ := OP (show Ho x y (u6 l m K) = some r from h)
  obtain ⟨h3, h4⟩ := xS h2
  rw [h1, h3]; exact ⟨rfl, h4⟩
 | [], _ :: _, _, _, h => by cases h
 | _ :: _, [], _, _, h => by cases h
theorem OM {x y : Blk} {K : Option β} {r : β} (h : Hn x y K = some r) : x = y /\ K = some r := by
 unfold Hn at h
 split at h
 ·obtain ⟨h1, h2⟩ := bG h
  obtain ⟨h3, h4⟩ := pD h2
  rw [aj3 h1, h3]; exact ⟨rfl, h4⟩
 ·obtain ⟨h1, h2⟩ := bG h
  obtain ⟨h3, h4⟩ := dT h2
  rw [aj3 h1, h3]; exact ⟨rfl, h4⟩
 ·obtain ⟨h1, h2⟩ := bG h
  obtain ⟨h3, h4⟩ := dT h2
  simp only [aj0] at h1
  rw [aj3 h1.1, aj3 h1.2, h3]; exact ⟨rfl, h4⟩
 ·obtain ⟨h1, h2⟩ := bG h
  obtain ⟨h3, h4⟩ := aA h2
  rw [iL h1, eq_of_beq h3]; exact ⟨rfl, h4⟩
 ·obtain ⟨h1, h2⟩ := bG h
  obtain ⟨h3, h4⟩ := pD h2
  simp only [aj0] at h1
  rw [aj3 h1.1, aj3 h1.2, h3]; exact ⟨rfl, h4⟩
 ·obtain ⟨h1, h2⟩ := bG h
  obtain ⟨h3, h4⟩ := aA h2
  simp only [aj0] at h1
  rw [aj3 h1.1, iL h1.2, eq_of_beq h3]; exact ⟨rfl, h4⟩
 ·exact ⟨rfl, h⟩
 ·obtain ⟨h1, h2⟩ := bG h
  obtain ⟨h3, h4⟩ := dT h2
  rw [aj3 h1, h3]; exact ⟨rfl, h4⟩
 ·cases h
theorem xQ : ∀ {l m : List Blk} {K : Option β} {r : β}, u5 l m K = some r -> l = m /\ K = some r
 | [], [], _, _, h => ⟨rfl, h⟩
 | x :: l, y :: m, K, r, h => by
  obtain ⟨h1, h2⟩ := OM (show Hn x y (u5 l m K) = some r from h)
  obtain ⟨h3, h4⟩ := xQ h2
  rw [h1, h3]; exact ⟨rfl, h4⟩
 | [], _ :: _, _, _, h => by cases h
 | _ :: _, [], _, _, h => by cases h
theorem Ky {s t : St} {K : Option β} {r : β} (h : EI s t K = some r) : s = t /\ K = some r := by
 obtain ⟨h1, h2⟩ := xS (show u6 s.tmps t.tmps (u5 s.blks t.blks K) = some r from h)
 obtain ⟨h3, h4⟩ := xQ h2
 cases s; cases t
 simp only at h1 h3
 rw [h1, h3]; exact ⟨rfl, h4⟩

theorem Cp (hL : aO P L) {E : Env β} (hE : bo I P E) (hM : cl I P E) (hG : gy I P E) {ops : Array Oper} {V : Option (List Nat)} {i : Nat} {o : Oper} (ho : ops[i]? = some o) {s : St} {K : St -> Option β} {r : β}
  (h : b5 L E (some V) false ops.toList [o] s K = some r) :
  ∃ s1, K s1 = some r /\ ∀ (X : Cx I) a w lc, Rel X s a w lc -> ∀ KK : Act -> World -> Prop, (∀ X' a' w' more, X.Le X' -> Rel X' s1 a' w' (lc ++ more) -> KK a' w') -> opF P (dB X lc V) (fH V) ops i KK a w := by
 obtain ⟨s1, h1, h2⟩ := po hL hE hM hG (V := some V) (q := false) (fun h => by cases h) h
 refine ⟨s1, h1, fun X a w lc hR KK hK => ?_⟩
 have := h2 X a w lc hR KK hK
 unfold opF
 simp only [ho]
 split
 ·rename_i hw
  rw [if_pos hw] at this
  exact cR (fun v w3 h => ⟨h.1 V rfl, h.2⟩) this
 ·rename_i hw
  rw [if_neg hw] at this
  exact this

theorem wl {l acc : List Nat} {m : Nat} (h : m ∈ eJ acc l) : m ∈ acc \/ m ∈ l := jb h
theorem C9 (hL : aO P L) {E : Env β} (hE : bo I P E) (hM : cl I P E) (hG : gy I P E) {ops : Array Oper} {out : Nat} : ∀ (t : PT) (V : Option (List Nat)) (s : St) (K : St -> Option β) (r : β), fK ops t = true ->
  cG L E V ops.toList out t s K = some r ->
  ∃ s', K s' = some r /\ ∀ (X : Cx I) a w lc, Rel X s a w lc -> jx lc V -> ∀ Q : Exit -> Act -> World -> Prop, (∀ X' a' w' lc', X.Le X' -> Rel X' s' a' w' lc' -> Q .normal a' w') -> gT P (dB X lc V) (fH V) ops Q t a w := by
 intro t
 induction t with
 | done => intro V s K r _ h; simp only [cG, qy] at h; exact ⟨_, h, fun X a w lc hR _ Q hQ w' hb => by obtain ⟨lc', hR'⟩ := (hR.later hb).tidy out; exact hQ X a w' lc' (.refl X) hR'⟩
 | nil => intro V s K r _ h; cases h
 | all c ih =>
  intro V s K r hq h
  obtain ⟨s', h1, h2⟩ := ih V s K r hq h
  exact ⟨s', h1, fun X a w lc hR hlt Q hQ w' hb => h2 X a w' lc (hR.later hb) hlt Q hQ⟩
 | quiet i t ih =>
  intro V s K r hq h
  simp only [fK, aj0] at hq
  have go : ∀ (V V' : Option (List Nat)) (o : Oper), ops[i]? = some o -> fH V = fH V' -> (∀ (X : Cx I) a w lc, Rel X s a w lc -> jx lc V -> jx lc V' /\ ∀ k, dB X lc V' k -> dB X lc V k) ->
    b5 L E (some V') true ops.toList [o] s (fun s' => cG L E V' ops.toList out t s' K) = some r ->
    ∃ s', K s' = some r /\ ∀ (X : Cx I) a w lc, Rel X s a w lc -> jx lc V -> ∀ Q : Exit -> Act -> World -> Prop, (∀ X' a' w' lc', X.Le X' -> Rel X' s' a' w' lc' -> Q .normal a' w') -> gT P (dB X lc V) (fH V) ops Q (.quiet i t) a w := by
   intro V V' o ho' hfr hVV h
   have hqo : fi o.op = true := by have := hq.1; rw [ho'] at this; exact this
   obtain ⟨s1, h1, h2⟩ := po hL hE hM hG (V := some V') (q := true) (fun _ => ⟨hqo, rfl⟩) h
   have h1 : cG L E V' ops.toList out t s1 K = some r := h1
   obtain ⟨s', h3, h4⟩ := ih _ _ _ _ hq.2 h1
   refine ⟨s', h3, fun X a w lc hR hlt Q hQ => ?_⟩
   obtain ⟨hlt', hsub⟩ := hVV X a w lc hR hlt
   obtain ⟨v, more, hy, hR1⟩ := h2 X a w lc hR
   exact ⟨dB X lc V', o, v, hsub, ho', hy, by rw [hfr, <- nH hlt' more]; exact h4 X _ w (lc ++ more) hR1 (kf hlt' more) Q hQ⟩
  simp only [cG] at h
  split at h
  ·rename_i o ho
   have ho' : ops[i]? = some o := by simpa using ho
   split at h
   ·exact go none none o ho' rfl (fun _ _ _ _ _ hlt => ⟨hlt, fun _ h => h⟩) h
   ·rename_i N
    obtain ⟨hon, h⟩ := aH h
    rw [qu] at h
    refine go (some N) (some (cond (fR o.op) N (eJ N (d6 s o)))) o ho' rfl (fun X a w lc hR hlt => ?_) h
    cases ha : fR o.op with
    | true => exact ⟨hlt, fun _ h => h⟩
    | false =>
     rw [ha, ak7] at hon
     refine ⟨fun j hj => ?_, fun k hk => ⟨hk.1, hk.2.1, fun j hj => hk.2.2 j (dR (.inl hj))⟩⟩
     rcases wl hj with hj | hj
     ·exact hlt j hj
     ·obtain ⟨b, hb, _⟩ := rT hon j hj
      rw [hR.world.len]
      exact (amH.1 hb).1
  ·cases h
 | pick i t alt iht iha =>
  intro V s K r hq h
  simp only [fK, aj0] at hq
  have single : alt = .nil -> (match ops.toList[i]? with
    | some o => b5 L E (some V) false ops.toList [o] s fun s' => cG L E V ops.toList out t s' K
    | none => none) = some r -> ∃ s', K s' = some r /\ ∀ (X : Cx I) a w lc, Rel X s a w lc -> jx lc V -> ∀ Q : Exit -> Act -> World -> Prop, (∀ X' a' w' lc', X.Le X' -> Rel X' s' a' w' lc' -> Q .normal a' w') -> gT P (dB X lc V) (fH V) ops Q (.pick i t alt) a w := by
   intro ha g
   subst ha
   split at g
   ·rename_i o ho
    have ho' : ops[i]? = some o := by simpa using ho
    obtain ⟨s1, h1, h2⟩ := Cp hL hE hM hG ho' g
    obtain ⟨s', h3, h4⟩ := iht _ _ _ _ hq.1 h1
    exact ⟨s', h3, fun X a w lc hR hlt Q hQ => ⟨h2 X a w lc hR _ fun X' a' w' more hle hR' => fh _ (fun k hk => by rw [<- nH hlt more]; exact tV hle k hk) _ _ (h4 X' a' w' _ hR' (kf hlt more) Q fun X2 a2 w2 lc2 hle2 hR2 => hQ X2 a2 w2 lc2 (hle.trans hle2) hR2), trivial⟩⟩
   ·cases g
  have many : (match ops.toList[i]? with
    | some o => b5 L E (some V) false ops.toList [o] s fun s' => cG L E V ops.toList out t s' fun s1 => cG L E V ops.toList out alt s fun s2 => EI s1 s2 (K s1)
    | none => none) = some r -> ∃ s', K s' = some r /\ ∀ (X : Cx I) a w lc, Rel X s a w lc -> jx lc V -> ∀ Q : Exit -> Act -> World -> Prop, (∀ X' a' w' lc', X.Le X' -> Rel X' s' a' w' lc' -> Q .normal a' w') -> gT P (dB X lc V) (fH V) ops Q (.pick i t alt) a w := by
   intro g
   split at g
   ·rename_i o ho
    have ho' : ops[i]? = some o := by simpa using ho
    obtain ⟨s1, h1, h2⟩ := Cp hL hE hM hG ho' g
    obtain ⟨s', h3, h4⟩ := iht _ _ _ _ hq.1 h1
    obtain ⟨s2, h5, h6⟩ := iha _ _ _ _ hq.2 h3
    obtain ⟨rfl, h7⟩ := Ky h5
    exact ⟨s', h7, fun X a w lc hR hlt Q hQ => ⟨h2 X a w lc hR _ fun X' a' w' more hle hR' => fh _ (fun k hk => by rw [<- nH hlt more]; exact tV hle k hk) _ _ (h4 X' a' w' _ hR' (kf hlt more) Q fun X2 a2 w2 lc2 hle2 hR2 => hQ X2 a2 w2 lc2 (hle.trans hle2) hR2), h6 X a w lc hR hlt Q hQ⟩⟩
   ·cases g
  cases alt with
  | nil => exact single rfl h
  | done => exact many h
  | quiet _ _ => exact many h
  | all _ => exact many h
  | pick _ _ _ => exact many h

theorem Cz (hL : aO P L) (hm : P.follows .mixedOrders = true) {E : Env β} (hE : bo I P E) (hM : cl I P E) (hG : gy I P E) {id : Nat} {ops : Array Oper} {d : Bool} {out : Nat} {s : St} {K : St -> Option β} {r : β}
  (h : (cond d (match Ez E ops with
   | some pl => qa L E none ops.toList pl s K
   | none => cond (pb E ops.toList || ops.toList.any fun o => fX o.op)
    (qx s fun s => match ge false ops with
     | some t => cG L E (some []) ops.toList out t s K
     | none => none)
    (match ge true ops with
     | some t => cG L E none ops.toList out t s K
     | none => none)) (b5 L E none false ops.toList ops.toList s K)) = some r) :
  ∃ s', K s' = some r /\ ∀ (X : Cx I) a w lc, Rel X s a w lc -> ∀ Q : Exit -> Act -> World -> Prop, (∀ X' a' w' lc', X.Le X' -> Rel X' s' a' w' lc' -> Q .normal a' w') -> (Code.region id ops d).wp P Q a w := by
 cases d with
 | false =>
  obtain ⟨s', h1, h2⟩ := S3 hL hE hM hG _ _ _ _ h
  exact ⟨s', h1, fun X a w lc hR Q hQ => wp_region_list (h2 X a w lc hR Q hQ)⟩
 | true =>
  simp only [ajZ] at h
  split at h
  ·rename_i pl hp
   have hp : pu ops = some pl := by
    unfold Ez at hp
    cases hg : pb E ops.toList with
    | true => rw [hg] at hp; cases hp
    | false => rw [hg] at hp; exact hp
   have hq : ∀ p ∈ pl, p.2 = false -> ∀ o, ops[p.1]? = some o -> fi o.op = true := by
    unfold pu zY at hp
    obtain ⟨_, hp⟩ := aH hp
    simp only [aj1] at hp
    rw [<- hp]
    exact zZ _ _
   obtain ⟨s', h1, h2⟩ := N7 hL hE hM hG _ _ _ _ hq h
   exact ⟨s', h1, fun X a w lc hR Q hQ => Cy hm hp (h2 X a w lc hR Q hQ)⟩
  ·cases hg : (pb E ops.toList || ops.toList.any fun o => fX o.op) with
   | true =>
    rw [hg] at h
    simp only [ajZ, qy] at h
    split at h
    ·rename_i t hp
     obtain ⟨s', h1, h2⟩ := C9 hL hE hM hG _ _ _ _ _ (mZ hp) h
     exact ⟨s', h1, fun X a w lc hR Q hQ => rf hm hp (h2 X a w lc hR (fun j hj => by cases hj) Q hQ)⟩
    ·cases h
   | false =>
    rw [hg] at h
    simp only [ajY] at h
    split at h
    ·rename_i t hp
     obtain ⟨s', h1, h2⟩ := C9 hL hE hM hG _ _ _ _ _ (mZ hp) h
     exact ⟨s', h1, fun X a w lc hR Q hQ => rf hm hp (h2 X a w lc hR trivial Q hQ)⟩
    ·cases h


def Iv (I : World -> Prop) (P : Program) (c : Code) (s : St) (e : Exit) (s' : St) : Prop := ∀ (X : Cx I) a w lc, Rel X s a w lc -> ∀ Q : Exit -> Act -> World -> Prop,
 (∀ X' a' w' lc', X.Le X' -> Rel X' s' a' w' lc' -> Q e a' w') -> c.wp P Q a w

def nr (I : World -> Prop) (P : Program) (E : Env β) (l : b8) : Prop := ∀ s K r, aS E.loops l.id s K = some r -> ∃ e s', K e s' = some r /\ Iv I P (.loop l.body) s e s'

theorem D4 (hL : aO P L) (hm : P.follows .mixedOrders = true) {E : Env β} (hE : bo I P E) (hM : cl I P E) (hG : gy I P E) {ret : Nat} : ∀ (c : Code) (ex : List (Nat × Nat)) (out : Nat) (s : St) (K : Exit -> St -> Option β) (r : β),
  (∀ l ∈ aZ ret c ex out, nr I P E l) -> ev L E ret c ex out s K = some r -> ∃ e s', K e s' = some r /\ Iv I P c s e s' := by
 intro c
 induction c with
 | skip => intro ex out s K r _ h; exact ⟨.normal, s, h, fun X a w lc hR Q hQ => wp_skip (hQ X a w lc (.refl X) hR)⟩
 | region id ops d =>
  intro ex out s K r _ h
  simp only [ev] at h
  obtain ⟨s', h1, h2⟩ := Cz (id := id) hL hm hE hM hG h
  exact ⟨.normal, s', h1, h2⟩
 | seq x y ihx ihy =>
  intro ex out s K r hl h
  simp only [ev] at h
  simp only [aZ, akC] at hl
  obtain ⟨e, s1, h1, h2⟩ := ihx _ _ _ _ _ (fun l hx => hl l (.inl hx)) h
  cases e with
  | normal =>
   obtain ⟨e, s', h3, h4⟩ := ihy _ _ _ _ _ (fun l hx => hl l (.inr hx)) h1
   exact ⟨e, s', h3, fun X a w lc hR Q hQ => wp_seq (h2 X a w lc hR _ fun X' a' w' lc' hle hR' => h4 X' a' w' lc' hR' Q fun X2 a2 w2 lc2 hle2 hR2 => hQ X2 a2 w2 lc2 (hle.trans hle2) hR2)⟩
  | exit id => exact ⟨_, s1, h1, fun X a w lc hR Q hQ => wp_seq (h2 X a w lc hR _ fun X' a' w' lc' hle hR' => hQ X' a' w' lc' hle hR')⟩
  | goto id => exact ⟨_, s1, h1, fun X a w lc hR Q hQ => wp_seq (h2 X a w lc hR _ fun X' a' w' lc' hle hR' => hQ X' a' w' lc' hle hR')⟩
  | ret => exact ⟨_, s1, h1, fun X a w lc hR Q hQ => wp_seq (h2 X a w lc hR _ fun X' a' w' lc' hle hR' => hQ X' a' w' lc' hle hR')⟩
  | panic ch => exact ⟨_, s1, h1, fun X a w lc hR Q hQ => wp_seq (h2 X a w lc hR _ fun X' a' w' lc' hle hR' => hQ X' a' w' lc' hle hR')⟩
  | outgrown => exact ⟨_, s1, h1, fun X a w lc hR Q hQ => wp_seq (h2 X a w lc hR _ fun X' a' w' lc' hle hR' => hQ X' a' w' lc' hle hR')⟩
 | cond c x y ihx ihy =>
  intro ex out s K r hl h
  simp only [ev] at h
  simp only [aZ, akC] at hl
  split at h
  ·rename_i t ht
   have hc : ∀ (X : Cx I) a w lc, Rel X s a w lc -> a.eval c = .bool t := fun X a w lc hR => by
    have := aN (az (X := X) hR.tmps c) ht
    exact this
   cases t with
   | true =>
    obtain ⟨e, s', h1, h2⟩ := ihx _ _ _ _ _ (fun l hx => hl l (.inl hx)) h
    exact ⟨e, s', h1, fun X a w lc hR Q hQ => wp_cond_true (hc X a w lc hR) (h2 X a w lc hR Q hQ)⟩
   | false =>
    obtain ⟨e, s', h1, h2⟩ := ihy _ _ _ _ _ (fun l hx => hl l (.inr hx)) h
    exact ⟨e, s', h1, fun X a w lc hR Q hQ => wp_cond_false (hc X a w lc hR) (h2 X a w lc hR Q hQ)⟩
  ·cases h
 | block id c ih =>
  intro ex out s K r hl h
  have fin : ∀ (s0 : St) (e : Exit) (s' : St), (∀ (X : Cx I) a w lc, Rel X s a w lc -> ∃ lc', Rel X s0 a w lc') -> (match (generalizing := false) e with | .exit i => cond (Nat.beq i id) (K .normal s') (K (.exit i) s') | e => K e s') = some r -> Iv I P c s0 e s' ->
    ∃ e s', K e s' = some r /\ Iv I P (.block id c) s e s' := by
   intro s0 e s' h0 h1 h2
   cases e with
   | exit i =>
    simp only at h1
    cases hb : Nat.beq i id with
    | true =>
     rw [hb] at h1
     refine ⟨.normal, s', h1, fun X a w lc hR Q hQ => aml ?_⟩
     obtain ⟨lc0, hR0⟩ := h0 X a w lc hR
     refine h2 X a w lc0 hR0 _ fun X' a' w' lc' hle hR' => ?_
     simp only [Exit.inBlock, aj3 hb, if_true]
     exact hQ X' a' w' lc' hle hR'
    | false =>
     rw [hb] at h1
     refine ⟨.exit i, s', h1, fun X a w lc hR Q hQ => aml ?_⟩
     obtain ⟨lc0, hR0⟩ := h0 X a w lc hR
     refine h2 X a w lc0 hR0 _ fun X' a' w' lc' hle hR' => ?_
     have : ¬ i = id := fun e => by rw [e, show Nat.beq id id = true from alV id] at hb; cases hb
     simp only [Exit.inBlock, if_neg this]
     exact hQ X' a' w' lc' hle hR'
   | normal => exact ⟨_, s', h1, fun X a w lc hR Q hQ => aml (by obtain ⟨lc0, hR0⟩ := h0 X a w lc hR; exact h2 X a w lc0 hR0 _ fun X' a' w' lc' hle hR' => hQ X' a' w' lc' hle hR')⟩
   | goto i => exact ⟨_, s', h1, fun X a w lc hR Q hQ => aml (by obtain ⟨lc0, hR0⟩ := h0 X a w lc hR; exact h2 X a w lc0 hR0 _ fun X' a' w' lc' hle hR' => hQ X' a' w' lc' hle hR')⟩
   | ret => exact ⟨_, s', h1, fun X a w lc hR Q hQ => aml (by obtain ⟨lc0, hR0⟩ := h0 X a w lc hR; exact h2 X a w lc0 hR0 _ fun X' a' w' lc' hle hR' => hQ X' a' w' lc' hle hR')⟩
   | panic i => exact ⟨_, s', h1, fun X a w lc hR Q hQ => aml (by obtain ⟨lc0, hR0⟩ := h0 X a w lc hR; exact h2 X a w lc0 hR0 _ fun X' a' w' lc' hle hR' => hQ X' a' w' lc' hle hR')⟩
   | outgrown => exact ⟨_, s', h1, fun X a w lc hR Q hQ => aml (by obtain ⟨lc0, hR0⟩ := h0 X a w lc hR; exact h2 X a w lc0 hR0 _ fun X' a' w' lc' hle hR' => hQ X' a' w' lc' hle hR')⟩
  have plain : (∀ l ∈ aZ ret c ((id, out) :: ex) out, nr I P E l) -> ev L E ret c ((id, out) :: ex) out s (fun e s' => match e with | .exit i => cond (Nat.beq i id) (K .normal s') (K (.exit i) s') | e => K e s') = some r ->
    ∃ e s', K e s' = some r /\ Iv I P (.block id c) s e s' := fun hl h => by
   obtain ⟨e, s', h1, h2⟩ := ih _ _ _ _ _ hl h
   exact fin s e s' (fun X a w lc hR => ⟨lc, hR⟩) h1 h2
  cases c with
  | loop c =>
   simp only [ev] at h
   obtain ⟨e, s', h1, h2⟩ := hl ⟨id, c, (id, out) :: ex⟩ (by simp [aZ]) _ _ _ h
   exact fin _ e s' (fun X a w lc hR => hR.tidy _) h1 h2
  | _ => exact plain hl h
 | loop c ih => intro ex out s K r _ h; simp only [ev] at h; cases h
 | exit id =>
  intro ex out s K r _ h
  simp only [ev] at h
  exact ⟨_, _, h, fun X a w lc hR Q hQ => wp_exit (by obtain ⟨lc', hR'⟩ := hR.tidy (GX ex id); exact hQ X a w lc' (.refl X) hR')⟩
 | ret =>
  intro ex out s K r _ h
  simp only [ev] at h
  exact ⟨_, _, h, fun X a w lc hR Q hQ => wp_ret (by obtain ⟨lc', hR'⟩ := hR.tidy ret; exact hQ X a w lc' (.refl X) hR')⟩
 | _ => intros; rename_i h; simp only [ev] at h; cases h

theorem EF (hL : aO P L) (hm : P.follows .mixedOrders = true) {E : Env β} (hE : bo I P E) (hM : cl I P E) (hG : gy I P E) {ret : Nat} {l : b8} (hl : ∀ l' ∈ aZ ret l.body l.ex (l.lv ret), nr I P E l') :
  ∀ (F : Nat) (s : St) (K : Exit -> St -> Option β) (r : β), l.rounds L E ret F s K = some r -> ∃ e s', K e s' = some r /\ Iv I P (.loop l.body) s e s' := by
 have key : ∀ (F : Nat) (s : St) (K : Exit -> St -> Option β) (r : β), l.rounds L E ret F s K = some r -> ∃ e s', K e s' = some r /\ ∀ (X : Cx I) a w lc, Rel X s a w lc -> ∀ Q : Exit -> Act -> World -> Prop,
   (∀ X' a' w' lc', X.Le X' -> Rel X' s' a' w' lc' -> Q e a' w') -> Code.rounds P l.body Q F a w := by
  intro F
  induction F with
  | zero => intro s K r h; cases h
  | succ F ih =>
   intro s K r h
   simp only [b8.rounds, rounds] at h
   obtain ⟨e, s1, h1, h2⟩ := D4 hL hm hE hM hG _ _ _ _ _ _ hl h
   cases e with
   | normal =>
    obtain ⟨e, s', h3, h4⟩ := ih _ _ _ h1
    refine ⟨e, s', h3, fun X a w lc hR Q hQ => h2 X a w lc hR _ fun X' a' w' lc' hle hR' => ?_⟩
    obtain ⟨lc2, hR2⟩ := hR'.tidy (l.lv ret)
    exact h4 X' a' w' lc2 hR2 Q fun X2 a2 w2 lc2 hle2 hR2 => hQ X2 a2 w2 lc2 (hle.trans hle2) hR2
   | exit id => exact ⟨_, s1, h1, fun X a w lc hR Q hQ => h2 X a w lc hR _ fun X' a' w' lc' hle hR' => hQ X' a' w' lc' hle hR'⟩
   | goto id => exact ⟨_, s1, h1, fun X a w lc hR Q hQ => h2 X a w lc hR _ fun X' a' w' lc' hle hR' => hQ X' a' w' lc' hle hR'⟩
   | ret => exact ⟨_, s1, h1, fun X a w lc hR Q hQ => h2 X a w lc hR _ fun X' a' w' lc' hle hR' => hQ X' a' w' lc' hle hR'⟩
   | panic ch => exact ⟨_, s1, h1, fun X a w lc hR Q hQ => h2 X a w lc hR _ fun X' a' w' lc' hle hR' => hQ X' a' w' lc' hle hR'⟩
   | outgrown => exact ⟨_, s1, h1, fun X a w lc hR Q hQ => h2 X a w lc hR _ fun X' a' w' lc' hle hR' => hQ X' a' w' lc' hle hR'⟩
 intro F s K r h
 obtain ⟨e, s', h1, h2⟩ := key F s K r h
 exact ⟨e, s', h1, fun X a w lc hR Q hQ => wp_loop_rounds F (h2 X a w lc hR Q hQ)⟩
end
end Go.Rv
