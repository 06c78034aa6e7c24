/- The functions that the claims reach answer as their texts do. -/
import Derived.Test.YtddflpokemgnmaaDual
namespace Go.Proofs.Ytddflpokemgnmaa
open Go.Rv
set_option maxRecDepth 100000
set_option maxHeartbeats 2000000
set_option linter.unusedVariables false
def VS3 {β : Type} (N : Nat) (q_laws_FnFormulas : (a0 : List Int) → (k : Bool → Option β) → Option β) : Rv.Spec β := fun args K => match args with
  | [.v (.one (.sl 5 (.ints .u8 a0)))] => q_laws_FnFormulas a0 (fun z1 => K (.v (.one (.bool z1))))
  | _ => none
def S3 {β : Type} (N : Nat) : Rv.Spec β := VS3 N (laws_FnFormulas N)
def VE3 {β : Type} (N : Nat) (q_impl_DualFormula : (a0 : ByteArray) → (k : ByteArray → Bool → Option β) → Option β) (q_laws_big : (a0 : List Int) → (k : Bool → Option β) → Option β) (q_spec_DrawTableOfFormula : (a0 : List Int) → (k : ByteArray → Int → Option β) → Option β) (q_impl_TableOfFormula : (a0 : ByteArray) → (a1 : Int) → (k : Int → Int → Bool → Option β) → Option β) (q_spec_TableOfFormula : (a0 : ByteArray) → (a1 : Int) → (k : Int → Int → Bool → Option β) → Option β) (q_impl_IsFormula : (a0 : ByteArray) → (k : Bool → Option β) → Option β) (q_impl_PushNegations : (a0 : ByteArray) → (k : ByteArray → Bool → Option β) → Option β) (q_impl_LeavesOf : (a0 : ByteArray) → (k : Int → Option β) → Option β) (q_impl_DepthOf : (a0 : ByteArray) → (k : Int → Option β) → Option β) (q_spec_DualTable : (a0 : Int) → (a1 : Int) → (k : Int → Int → Bool → Option β) → Option β) (q_impl_IsMonotoneFormula : (a0 : ByteArray) → (k : Bool → Option β) → Option β) (q_impl_IsMonotone : (a0 : Int) → (a1 : Int) → (k : Bool → Option β) → Option β) (q_impl_IsReadOnce : (a0 : ByteArray) → (k : Bool → Option β) → Option β) (q_impl_VariablesOf : (a0 : Int) → (a1 : Int) → (k : List Int → Option β) → Option β) (q_spec_DrawPushNegations : (a0 : List Int) → (k : ByteArray → Option β) → Option β) (q_spec_PushNegations : (a0 : ByteArray) → (k : ByteArray → Bool → Option β) → Option β) (q_spec_DrawDualFormula : (a0 : List Int) → (k : ByteArray → Option β) → Option β) (q_spec_DualFormula : (a0 : ByteArray) → (k : ByteArray → Bool → Option β) → Option β) (q_spec_DrawIsReadOnce : (a0 : List Int) → (k : ByteArray → Option β) → Option β) (q_spec_IsFormula : (a0 : ByteArray) → (k : Bool → Option β) → Option β) (q_spec_LeavesOf : (a0 : ByteArray) → (k : Int → Option β) → Option β) (q_spec_DepthOf : (a0 : ByteArray) → (k : Int → Option β) → Option β) (q_spec_IsReadOnce : (a0 : ByteArray) → (k : Bool → Option β) → Option β) (q_spec_IsMonotoneFormula : (a0 : ByteArray) → (k : Bool → Option β) → Option β) : Env β := ⟨[(4, VS4 N q_laws_big), (5, VS5 N q_spec_DrawTableOfFormula), (6, VS6 N q_impl_TableOfFormula), (7, VS7 N q_spec_TableOfFormula), (8, VS8 N q_impl_IsFormula), (9, VS9 N q_impl_PushNegations), (10, VS10 N q_impl_LeavesOf), (11, VS11 N q_impl_DepthOf), (12, VS12 N q_impl_DualFormula), (13, VS13 N q_spec_DualTable), (14, VS14 N q_impl_IsMonotoneFormula), (15, VS15 N q_impl_IsMonotone), (16, VS16 N q_impl_IsReadOnce), (17, VS17 N q_impl_VariablesOf), (18, VS18 N q_spec_DrawPushNegations), (19, VS19 N q_spec_PushNegations), (20, VS20 N q_spec_DrawDualFormula), (21, VS21 N q_spec_DualFormula), (22, VS22 N q_spec_DrawIsReadOnce), (23, VS23 N q_spec_IsFormula), (24, VS24 N q_spec_LeavesOf), (25, VS25 N q_spec_DepthOf), (26, VS26 N q_spec_IsReadOnce), (27, VS27 N q_spec_IsMonotoneFormula)], [], [], [], ⟨[], [], [], []⟩⟩
def E3 {β : Type} (N : Nat) : Env β := VE3 N (impl_DualFormula N) (laws_big N) (spec_DrawTableOfFormula N) (impl_TableOfFormula N) (spec_TableOfFormula N) (impl_IsFormula N) (impl_PushNegations N) (impl_LeavesOf N) (impl_DepthOf N) (spec_DualTable N) (impl_IsMonotoneFormula N) (impl_IsMonotone N) (impl_IsReadOnce N) (impl_VariablesOf N) (spec_DrawPushNegations N) (spec_PushNegations N) (spec_DrawDualFormula N) (spec_DualFormula N) (spec_DrawIsReadOnce N) (spec_IsFormula N) (spec_LeavesOf N) (spec_DepthOf N) (spec_IsReadOnce N) (spec_IsMonotoneFormula N)
/-! The law's last part, cut off: its state is the same on all ways. -/
def starts (R : Nat) : Code → Bool
  | .seq (.region id _ _) _ => Nat.beq id R
  | _ => false
def tailC (R : Nat) : Code → Code
  | .seq _ b => cond (starts R b) b (tailC R b)
  | c => c
def evCut {β : Type} (L : Lay) (E : Env β) (ret R : Nat) (J : St → Option β) : Code → Nat → St → (Exit → St → Option β) → Option β
  | .seq a b, out, s, K => cond (starts R b) (ev L E ret a [] (live ret b [] out) s fun e s' => match e with
      | .normal => J (s'.tidy (live ret b [] out))
      | e => K e s')
    (ev L E ret a [] (live ret b [] out) s fun e s' => match e with
      | .normal => evCut L E ret R J b out s' K
      | e => K e s')
  | _, _, _, _ => none
theorem evCut_run {β : Type} {I : World → Prop} {P : Program} {L : Lay} (hL : LayOK P L) (hm : P.follows .mixedOrders = true) {E : Env β} (hE : SpecsOK I P E) (hM : MutsOK I P E) (hG : GsOK I P E) {ret R : Nat} {J : St → Option β} {K : Exit → St → Option β} : ∀ (c : Code) (out : Nat) (s : St) (r : β),
    (∀ l ∈ loopsOf ret c [] out, LoopOK I P E l) → (∀ s r, J s = some r → ∃ e s', K e s' = some r ∧ Runs I P (tailC R c) s e s') → evCut L E ret R J c out s K = some r → ∃ e s', K e s' = some r ∧ Runs I P c s e s' := by
  intro c
  induction c with
  | seq x y _ ihy =>
    intro out s r hl hJ h
    simp only [loopsOf, List.mem_append] at hl
    unfold evCut at h
    unfold tailC at hJ
    cases hs : starts R y with
    | true =>
      rw [hs, cond_true] at h hJ
      obtain ⟨e, s1, h1, h2⟩ := ev_run hL hm hE hM hG x [] _ s _ r (fun l hx => hl l (.inl hx)) h
      cases e with
      | normal =>
        obtain ⟨e, s', h3, h4⟩ := hJ _ _ h1
        exact ⟨e, s', h3, fun X a w lc hR Q hQ => wp_seq (h2 X a w lc hR _ fun X' a' w' lc' hle hR' => by
          obtain ⟨lc2, hR2⟩ := hR'.tidy (live ret y [] out)
          exact h4 X' a' w' lc2 hR2 Q fun X2 a2 w2 lc2 hle2 hR2 => hQ X2 a2 w2 lc2 (hle.trans hle2) hR2)⟩
      | exit id => exact ⟨_, s1, h1, fun X a w lc hR Q hQ => wp_seq (h2 X a w lc hR _ fun X' a' w' lc' hle hR' => hQ X' a' w' lc' hle hR')⟩
      | goto id => exact ⟨_, s1, h1, fun X a w lc hR Q hQ => wp_seq (h2 X a w lc hR _ fun X' a' w' lc' hle hR' => hQ X' a' w' lc' hle hR')⟩
      | ret => exact ⟨_, s1, h1, fun X a w lc hR Q hQ => wp_seq (h2 X a w lc hR _ fun X' a' w' lc' hle hR' => hQ X' a' w' lc' hle hR')⟩
      | panic ch => exact ⟨_, s1, h1, fun X a w lc hR Q hQ => wp_seq (h2 X a w lc hR _ fun X' a' w' lc' hle hR' => hQ X' a' w' lc' hle hR')⟩
      | outgrown => exact ⟨_, s1, h1, fun X a w lc hR Q hQ => wp_seq (h2 X a w lc hR _ fun X' a' w' lc' hle hR' => hQ X' a' w' lc' hle hR')⟩
    | false =>
      rw [hs, cond_false] at h hJ
      obtain ⟨e, s1, h1, h2⟩ := ev_run hL hm hE hM hG x [] _ s _ r (fun l hx => hl l (.inl hx)) h
      cases e with
      | normal =>
        obtain ⟨e, s', h3, h4⟩ := ihy _ _ _ (fun l hx => hl l (.inr hx)) hJ h1
        exact ⟨e, s', h3, fun X a w lc hR Q hQ => wp_seq (h2 X a w lc hR _ fun X' a' w' lc' hle hR' => h4 X' a' w' lc' hR' Q fun X2 a2 w2 lc2 hle2 hR2 => hQ X2 a2 w2 lc2 (hle.trans hle2) hR2)⟩
      | exit id => exact ⟨_, s1, h1, fun X a w lc hR Q hQ => wp_seq (h2 X a w lc hR _ fun X' a' w' lc' hle hR' => hQ X' a' w' lc' hle hR')⟩
      | goto id => exact ⟨_, s1, h1, fun X a w lc hR Q hQ => wp_seq (h2 X a w lc hR _ fun X' a' w' lc' hle hR' => hQ X' a' w' lc' hle hR')⟩
      | ret => exact ⟨_, s1, h1, fun X a w lc hR Q hQ => wp_seq (h2 X a w lc hR _ fun X' a' w' lc' hle hR' => hQ X' a' w' lc' hle hR')⟩
      | panic ch => exact ⟨_, s1, h1, fun X a w lc hR Q hQ => wp_seq (h2 X a w lc hR _ fun X' a' w' lc' hle hR' => hQ X' a' w' lc' hle hR')⟩
      | outgrown => exact ⟨_, s1, h1, fun X a w lc hR Q hQ => wp_seq (h2 X a w lc hR _ fun X' a' w' lc' hle hR' => hQ X' a' w' lc' hle hR')⟩
  | _ => intro out s r _ _ h; cases h
def finF {β : Type} (L : Lay) (fn : Func) (K : TV → Option β) : Exit → St → Option β := fun e s => match e with
  | .normal => match answer L s fn.resultTypes.toList fn.results.toList with | some y => K y | none => none
  | .ret => match answer L s fn.resultTypes.toList fn.results.toList with | some y => K y | none => none
  | _ => none
def bodyF (fn : Func) : Code := match fn.body with | some c => c | none => .skip
/-- A function whose body is walked in two parts. -/
theorem spec_cut {β : Type} {I : World → Prop} {P : Program} {L : Lay} (hL : LayOK P L) (hm : P.follows .mixedOrders = true) {E : Env β} (hE : SpecsOK I P E) (hM : MutsOK I P E) (hG : GsOK I P E) {f : FuncId} {fn : Func} (hf : P.funcs[f]? = some fn) (hc : ((fn.name == "runtime.NumGoroutine") || fn.body.isNone) = false) (R : Nat)
    (h0 : (loopsOf (retMask fn) (bodyF fn) [] (retMask fn)).isEmpty = true) (h1 : (loopsOf (retMask fn) (tailC R (bodyF fn)) [] (retMask fn)).isEmpty = true) {S : Rv.Spec β} (J : List TV → (TV → Option β) → St → Option β)
    (hS : ∀ args K r, S args K = some r → evCut L E (retMask fn) R (J args K) (bodyF fn) (retMask fn) (startSt fn args) (finF L fn K) = some r)
    (hT : ∀ args K s r, J args K s = some r → ev L E (retMask fn) (tailC R (bodyF fn)) [] (retMask fn) s (finF L fn K) = some r) : SpecOK I P f S := by
  simp only [Bool.or_eq_false_iff] at hc
  obtain ⟨hname, hb⟩ := hc
  cases hbody : fn.body with
  | none => rw [hbody] at hb; cases hb
  | some c =>
    have hbc : bodyF fn = c := by unfold bodyF; rw [hbody]
    rw [hbc] at h0 h1 hS hT
    refine ⟨⟨fn, c, hf, hbody, hname⟩, fun args K r h => ?_⟩
    have none0 : ∀ l ∈ loopsOf (retMask fn) c [] (retMask fn), LoopOK I P E l := fun l hl => by rw [List.isEmpty_iff.1 h0] at hl; cases hl
    have none1 : ∀ l ∈ loopsOf (retMask fn) (tailC R c) [] (retMask fn), LoopOK I P E l := fun l hl => by rw [List.isEmpty_iff.1 h1] at hl; cases hl
    obtain ⟨e, s', h1, h2⟩ := evCut_run hL hm hE hM hG c _ _ r none0 (fun s r hs => ev_run hL hm hE hM hG _ [] _ _ _ r none1 (hT args K s r hs)) (hS args K r h)
    have start : ∀ (X : Cx I) vs, SpecCx X → All2 (relT X []) args vs → Rel X (startSt fn args) { tmps := vs.toArray ++ Array.replicate (fn.ntmps - vs.toArray.size) undef, defers := [] } X.w0 [] := fun X vs hX hv => by
      refine ⟨?_, RelW.empty hX, rfl⟩
      simp only [startSt, Array.toList_append, Array.toList_replicate, List.size_toArray]
      rw [hv.length]
      exact hv.append (replicate_rel _)
    have fin : ∀ y, answer L s' fn.resultTypes.toList fn.results.toList = some y → (e = .normal ∨ e = .ret) → ∀ (X : Cx I) vs, SpecCx X → All2 (relT X []) args vs → Calls P f vs.toArray X.w0 (fun e w' => ∃ v, e = .returned v ∧ CallRes X w' y v) := fun y hy he X vs hX hv => by
      refine calls_of_wp hf hbody (h2 X _ X.w0 [] (start X vs hX hv) _ fun X' a' w' lc' hle hR' => ?_)
      obtain ⟨v, h3, ⟨X2, lc2, k1, k2, k3, k4⟩, _⟩ := answer_run hL hR' hy
      rcases he with rfl | rfl
      · exact ⟨hR'.defers, v, h3, v, rfl, X2, lc2, hle.trans k1, k2, k3, k4⟩
      · exact ⟨hR'.defers, v, h3, v, rfl, X2, lc2, hle.trans k1, k2, k3, k4⟩
    unfold finF at h1
    cases e with
    | normal =>
      simp only at h1
      cases hy : answer L s' fn.resultTypes.toList fn.results.toList with
      | none => rw [hy] at h1; cases h1
      | some y =>
        rw [hy] at h1
        exact ⟨y, h1, fin y hy (.inl rfl)⟩
    | ret =>
      simp only at h1
      cases hy : answer L s' fn.resultTypes.toList fn.results.toList with
      | none => rw [hy] at h1; cases h1
      | some y =>
        rw [hy] at h1
        exact ⟨y, h1, fin y hy (.inr rfl)⟩
    | exit id => cases h1
    | goto id => cases h1
    | panic id => cases h1
    | outgrown => cases h1
def BH_laws_FnFormulas {β : Type} (N : Nat) (q_impl_DualFormula : (a0 : ByteArray) → (k : ByteArray → Bool → Option β) → Option β) (q_laws_big : (a0 : List Int) → (k : Bool → Option β) → Option β) (q_spec_DrawTableOfFormula : (a0 : List Int) → (k : ByteArray → Int → Option β) → Option β) (q_impl_TableOfFormula : (a0 : ByteArray) → (a1 : Int) → (k : Int → Int → Bool → Option β) → Option β) (q_spec_TableOfFormula : (a0 : ByteArray) → (a1 : Int) → (k : Int → Int → Bool → Option β) → Option β) (q_impl_IsFormula : (a0 : ByteArray) → (k : Bool → Option β) → Option β) (q_impl_PushNegations : (a0 : ByteArray) → (k : ByteArray → Bool → Option β) → Option β) (q_impl_LeavesOf : (a0 : ByteArray) → (k : Int → Option β) → Option β) (q_impl_DepthOf : (a0 : ByteArray) → (k : Int → Option β) → Option β) (q_spec_DualTable : (a0 : Int) → (a1 : Int) → (k : Int → Int → Bool → Option β) → Option β) (q_impl_IsMonotoneFormula : (a0 : ByteArray) → (k : Bool → Option β) → Option β) (q_impl_IsMonotone : (a0 : Int) → (a1 : Int) → (k : Bool → Option β) → Option β) (q_impl_IsReadOnce : (a0 : ByteArray) → (k : Bool → Option β) → Option β) (q_impl_VariablesOf : (a0 : Int) → (a1 : Int) → (k : List Int → Option β) → Option β) (q_spec_DrawPushNegations : (a0 : List Int) → (k : ByteArray → Option β) → Option β) (q_spec_PushNegations : (a0 : ByteArray) → (k : ByteArray → Bool → Option β) → Option β) (q_spec_DrawDualFormula : (a0 : List Int) → (k : ByteArray → Option β) → Option β) (q_spec_DualFormula : (a0 : ByteArray) → (k : ByteArray → Bool → Option β) → Option β) (q_spec_DrawIsReadOnce : (a0 : List Int) → (k : ByteArray → Option β) → Option β) (q_spec_IsFormula : (a0 : ByteArray) → (k : Bool → Option β) → Option β) (q_spec_LeavesOf : (a0 : ByteArray) → (k : Int → Option β) → Option β) (q_spec_DepthOf : (a0 : ByteArray) → (k : Int → Option β) → Option β) (q_spec_IsReadOnce : (a0 : ByteArray) → (k : Bool → Option β) → Option β) (q_spec_IsMonotoneFormula : (a0 : ByteArray) → (k : Bool → Option β) → Option β) (a0 : List Int) (k : Bool → Option β) (T : List Int → Option β) : Option β :=
q_laws_big a0 fun r2 =>
(cond r2
(k true)
(q_spec_DrawTableOfFormula a0 fun r3 r4 =>
q_impl_TableOfFormula r3 r4 fun r5 r6 r7 =>
q_spec_TableOfFormula r3 r4 fun r8 r9 r10 =>
(cond ((!((r5 == r8) && (r6 == r9))))
(k false)
((cond ((!(r7 == r10)))
(k false)
((cond r7
(q_impl_IsFormula r3 fun r11 =>
(cond (!r11)
(k false)
((cond r7
(q_impl_PushNegations r3 fun r12 r13 =>
(cond r13
(q_impl_TableOfFormula r12 r4 fun r14 r15 r16 =>
(cond (!r16)
(k false)
((cond ((!((r14 == r8) && (r15 == r9))))
(k false)
(q_impl_LeavesOf r12 fun r17 =>
q_impl_LeavesOf r3 fun r18 =>
(cond ((r17 != r18))
(k false)
(q_impl_DepthOf r12 fun r19 =>
q_impl_DepthOf r3 fun r20 =>
(cond ((r19 != r20))
(k false)
(q_impl_DualFormula r3 fun r21 r22 =>
(cond r22
(q_impl_TableOfFormula r21 r4 fun r23 r24 r25 =>
q_spec_DualTable r8 r9 fun r26 r27 r28 =>
(cond (!r25)
(k false)
((cond ((!((r23 == r26) && (r24 == r27))))
(k false)
(q_impl_IsMonotoneFormula r3 fun r29 =>
(cond r29
(q_impl_IsMonotone r8 r9 fun r30 =>
(cond (!r30)
(k false)
(q_impl_IsReadOnce r3 fun r31 =>
(cond r31
(q_impl_LeavesOf r3 fun r32 =>
q_impl_VariablesOf r8 r9 fun r33 =>
(cond ((decide (r32 < (r33.length : Int))))
(k false)
(q_impl_VariablesOf r8 r9 fun r34 =>
q_impl_LeavesOf r3 fun r35 =>
(cond ((decide ((r34.length : Int) > r35)))
(k false)
(T a0)))))
(q_impl_VariablesOf r8 r9 fun r57 =>
q_impl_LeavesOf r3 fun r58 =>
(cond ((decide ((r57.length : Int) > r58)))
(k false)
(T a0)))))))
(q_impl_IsReadOnce r3 fun r80 =>
(cond r80
(q_impl_LeavesOf r3 fun r81 =>
q_impl_VariablesOf r8 r9 fun r82 =>
(cond ((decide (r81 < (r82.length : Int))))
(k false)
(q_impl_VariablesOf r8 r9 fun r83 =>
q_impl_LeavesOf r3 fun r84 =>
(cond ((decide ((r83.length : Int) > r84)))
(k false)
(T a0)))))
(q_impl_VariablesOf r8 r9 fun r106 =>
q_impl_LeavesOf r3 fun r107 =>
(cond ((decide ((r106.length : Int) > r107)))
(k false)
(T a0)))))))))))
(q_impl_IsMonotoneFormula r3 fun r129 =>
(cond r129
(q_impl_IsMonotone r8 r9 fun r130 =>
(cond (!r130)
(k false)
(q_impl_IsReadOnce r3 fun r131 =>
(cond r131
(q_impl_LeavesOf r3 fun r132 =>
q_impl_VariablesOf r8 r9 fun r133 =>
(cond ((decide (r132 < (r133.length : Int))))
(k false)
(q_impl_VariablesOf r8 r9 fun r134 =>
q_impl_LeavesOf r3 fun r135 =>
(cond ((decide ((r134.length : Int) > r135)))
(k false)
(T a0)))))
(q_impl_VariablesOf r8 r9 fun r157 =>
q_impl_LeavesOf r3 fun r158 =>
(cond ((decide ((r157.length : Int) > r158)))
(k false)
(T a0)))))))
(q_impl_IsReadOnce r3 fun r180 =>
(cond r180
(q_impl_LeavesOf r3 fun r181 =>
q_impl_VariablesOf r8 r9 fun r182 =>
(cond ((decide (r181 < (r182.length : Int))))
(k false)
(q_impl_VariablesOf r8 r9 fun r183 =>
q_impl_LeavesOf r3 fun r184 =>
(cond ((decide ((r183.length : Int) > r184)))
(k false)
(T a0)))))
(q_impl_VariablesOf r8 r9 fun r206 =>
q_impl_LeavesOf r3 fun r207 =>
(cond ((decide ((r206.length : Int) > r207)))
(k false)
(T a0)))))))))))))))))
(q_impl_DualFormula r3 fun r229 r230 =>
(cond r230
(q_impl_TableOfFormula r229 r4 fun r231 r232 r233 =>
q_spec_DualTable r8 r9 fun r234 r235 r236 =>
(cond (!r233)
(k false)
((cond ((!((r231 == r234) && (r232 == r235))))
(k false)
(q_impl_IsMonotoneFormula r3 fun r237 =>
(cond r237
(q_impl_IsMonotone r8 r9 fun r238 =>
(cond (!r238)
(k false)
(q_impl_IsReadOnce r3 fun r239 =>
(cond r239
(q_impl_LeavesOf r3 fun r240 =>
q_impl_VariablesOf r8 r9 fun r241 =>
(cond ((decide (r240 < (r241.length : Int))))
(k false)
(q_impl_VariablesOf r8 r9 fun r242 =>
q_impl_LeavesOf r3 fun r243 =>
(cond ((decide ((r242.length : Int) > r243)))
(k false)
(T a0)))))
(q_impl_VariablesOf r8 r9 fun r265 =>
q_impl_LeavesOf r3 fun r266 =>
(cond ((decide ((r265.length : Int) > r266)))
(k false)
(T a0)))))))
(q_impl_IsReadOnce r3 fun r288 =>
(cond r288
(q_impl_LeavesOf r3 fun r289 =>
q_impl_VariablesOf r8 r9 fun r290 =>
(cond ((decide (r289 < (r290.length : Int))))
(k false)
(q_impl_VariablesOf r8 r9 fun r291 =>
q_impl_LeavesOf r3 fun r292 =>
(cond ((decide ((r291.length : Int) > r292)))
(k false)
(T a0)))))
(q_impl_VariablesOf r8 r9 fun r314 =>
q_impl_LeavesOf r3 fun r315 =>
(cond ((decide ((r314.length : Int) > r315)))
(k false)
(T a0)))))))))))
(q_impl_IsMonotoneFormula r3 fun r337 =>
(cond r337
(q_impl_IsMonotone r8 r9 fun r338 =>
(cond (!r338)
(k false)
(q_impl_IsReadOnce r3 fun r339 =>
(cond r339
(q_impl_LeavesOf r3 fun r340 =>
q_impl_VariablesOf r8 r9 fun r341 =>
(cond ((decide (r340 < (r341.length : Int))))
(k false)
(q_impl_VariablesOf r8 r9 fun r342 =>
q_impl_LeavesOf r3 fun r343 =>
(cond ((decide ((r342.length : Int) > r343)))
(k false)
(T a0)))))
(q_impl_VariablesOf r8 r9 fun r365 =>
q_impl_LeavesOf r3 fun r366 =>
(cond ((decide ((r365.length : Int) > r366)))
(k false)
(T a0)))))))
(q_impl_IsReadOnce r3 fun r388 =>
(cond r388
(q_impl_LeavesOf r3 fun r389 =>
q_impl_VariablesOf r8 r9 fun r390 =>
(cond ((decide (r389 < (r390.length : Int))))
(k false)
(q_impl_VariablesOf r8 r9 fun r391 =>
q_impl_LeavesOf r3 fun r392 =>
(cond ((decide ((r391.length : Int) > r392)))
(k false)
(T a0)))))
(q_impl_VariablesOf r8 r9 fun r414 =>
q_impl_LeavesOf r3 fun r415 =>
(cond ((decide ((r414.length : Int) > r415)))
(k false)
(T a0)))))))))))
(T a0)))))
((cond r7
(q_impl_PushNegations r3 fun r458 r459 =>
(cond r459
(q_impl_TableOfFormula r458 r4 fun r460 r461 r462 =>
(cond (!r462)
(k false)
((cond ((!((r460 == r8) && (r461 == r9))))
(k false)
(q_impl_LeavesOf r458 fun r463 =>
q_impl_LeavesOf r3 fun r464 =>
(cond ((r463 != r464))
(k false)
(q_impl_DepthOf r458 fun r465 =>
q_impl_DepthOf r3 fun r466 =>
(cond ((r465 != r466))
(k false)
(q_impl_DualFormula r3 fun r467 r468 =>
(cond r468
(q_impl_TableOfFormula r467 r4 fun r469 r470 r471 =>
q_spec_DualTable r8 r9 fun r472 r473 r474 =>
(cond (!r471)
(k false)
((cond ((!((r469 == r472) && (r470 == r473))))
(k false)
(q_impl_IsMonotoneFormula r3 fun r475 =>
(cond r475
(q_impl_IsMonotone r8 r9 fun r476 =>
(cond (!r476)
(k false)
(q_impl_IsReadOnce r3 fun r477 =>
(cond r477
(q_impl_LeavesOf r3 fun r478 =>
q_impl_VariablesOf r8 r9 fun r479 =>
(cond ((decide (r478 < (r479.length : Int))))
(k false)
(q_impl_VariablesOf r8 r9 fun r480 =>
q_impl_LeavesOf r3 fun r481 =>
(cond ((decide ((r480.length : Int) > r481)))
(k false)
(T a0)))))
(q_impl_VariablesOf r8 r9 fun r503 =>
q_impl_LeavesOf r3 fun r504 =>
(cond ((decide ((r503.length : Int) > r504)))
(k false)
(T a0)))))))
(q_impl_IsReadOnce r3 fun r526 =>
(cond r526
(q_impl_LeavesOf r3 fun r527 =>
q_impl_VariablesOf r8 r9 fun r528 =>
(cond ((decide (r527 < (r528.length : Int))))
(k false)
(q_impl_VariablesOf r8 r9 fun r529 =>
q_impl_LeavesOf r3 fun r530 =>
(cond ((decide ((r529.length : Int) > r530)))
(k false)
(T a0)))))
(q_impl_VariablesOf r8 r9 fun r552 =>
q_impl_LeavesOf r3 fun r553 =>
(cond ((decide ((r552.length : Int) > r553)))
(k false)
(T a0)))))))))))
(q_impl_IsMonotoneFormula r3 fun r575 =>
(cond r575
(q_impl_IsMonotone r8 r9 fun r576 =>
(cond (!r576)
(k false)
(q_impl_IsReadOnce r3 fun r577 =>
(cond r577
(q_impl_LeavesOf r3 fun r578 =>
q_impl_VariablesOf r8 r9 fun r579 =>
(cond ((decide (r578 < (r579.length : Int))))
(k false)
(q_impl_VariablesOf r8 r9 fun r580 =>
q_impl_LeavesOf r3 fun r581 =>
(cond ((decide ((r580.length : Int) > r581)))
(k false)
(T a0)))))
(q_impl_VariablesOf r8 r9 fun r603 =>
q_impl_LeavesOf r3 fun r604 =>
(cond ((decide ((r603.length : Int) > r604)))
(k false)
(T a0)))))))
(q_impl_IsReadOnce r3 fun r626 =>
(cond r626
(q_impl_LeavesOf r3 fun r627 =>
q_impl_VariablesOf r8 r9 fun r628 =>
(cond ((decide (r627 < (r628.length : Int))))
(k false)
(q_impl_VariablesOf r8 r9 fun r629 =>
q_impl_LeavesOf r3 fun r630 =>
(cond ((decide ((r629.length : Int) > r630)))
(k false)
(T a0)))))
(q_impl_VariablesOf r8 r9 fun r652 =>
q_impl_LeavesOf r3 fun r653 =>
(cond ((decide ((r652.length : Int) > r653)))
(k false)
(T a0)))))))))))))))))
(q_impl_DualFormula r3 fun r675 r676 =>
(cond r676
(q_impl_TableOfFormula r675 r4 fun r677 r678 r679 =>
q_spec_DualTable r8 r9 fun r680 r681 r682 =>
(cond (!r679)
(k false)
((cond ((!((r677 == r680) && (r678 == r681))))
(k false)
(q_impl_IsMonotoneFormula r3 fun r683 =>
(cond r683
(q_impl_IsMonotone r8 r9 fun r684 =>
(cond (!r684)
(k false)
(q_impl_IsReadOnce r3 fun r685 =>
(cond r685
(q_impl_LeavesOf r3 fun r686 =>
q_impl_VariablesOf r8 r9 fun r687 =>
(cond ((decide (r686 < (r687.length : Int))))
(k false)
(q_impl_VariablesOf r8 r9 fun r688 =>
q_impl_LeavesOf r3 fun r689 =>
(cond ((decide ((r688.length : Int) > r689)))
(k false)
(T a0)))))
(q_impl_VariablesOf r8 r9 fun r711 =>
q_impl_LeavesOf r3 fun r712 =>
(cond ((decide ((r711.length : Int) > r712)))
(k false)
(T a0)))))))
(q_impl_IsReadOnce r3 fun r734 =>
(cond r734
(q_impl_LeavesOf r3 fun r735 =>
q_impl_VariablesOf r8 r9 fun r736 =>
(cond ((decide (r735 < (r736.length : Int))))
(k false)
(q_impl_VariablesOf r8 r9 fun r737 =>
q_impl_LeavesOf r3 fun r738 =>
(cond ((decide ((r737.length : Int) > r738)))
(k false)
(T a0)))))
(q_impl_VariablesOf r8 r9 fun r760 =>
q_impl_LeavesOf r3 fun r761 =>
(cond ((decide ((r760.length : Int) > r761)))
(k false)
(T a0)))))))))))
(q_impl_IsMonotoneFormula r3 fun r783 =>
(cond r783
(q_impl_IsMonotone r8 r9 fun r784 =>
(cond (!r784)
(k false)
(q_impl_IsReadOnce r3 fun r785 =>
(cond r785
(q_impl_LeavesOf r3 fun r786 =>
q_impl_VariablesOf r8 r9 fun r787 =>
(cond ((decide (r786 < (r787.length : Int))))
(k false)
(q_impl_VariablesOf r8 r9 fun r788 =>
q_impl_LeavesOf r3 fun r789 =>
(cond ((decide ((r788.length : Int) > r789)))
(k false)
(T a0)))))
(q_impl_VariablesOf r8 r9 fun r811 =>
q_impl_LeavesOf r3 fun r812 =>
(cond ((decide ((r811.length : Int) > r812)))
(k false)
(T a0)))))))
(q_impl_IsReadOnce r3 fun r834 =>
(cond r834
(q_impl_LeavesOf r3 fun r835 =>
q_impl_VariablesOf r8 r9 fun r836 =>
(cond ((decide (r835 < (r836.length : Int))))
(k false)
(q_impl_VariablesOf r8 r9 fun r837 =>
q_impl_LeavesOf r3 fun r838 =>
(cond ((decide ((r837.length : Int) > r838)))
(k false)
(T a0)))))
(q_impl_VariablesOf r8 r9 fun r860 =>
q_impl_LeavesOf r3 fun r861 =>
(cond ((decide ((r860.length : Int) > r861)))
(k false)
(T a0)))))))))))
(T a0))))))))))
def BT_laws_FnFormulas {β : Type} (N : Nat) (q_impl_DualFormula : (a0 : ByteArray) → (k : ByteArray → Bool → Option β) → Option β) (q_laws_big : (a0 : List Int) → (k : Bool → Option β) → Option β) (q_spec_DrawTableOfFormula : (a0 : List Int) → (k : ByteArray → Int → Option β) → Option β) (q_impl_TableOfFormula : (a0 : ByteArray) → (a1 : Int) → (k : Int → Int → Bool → Option β) → Option β) (q_spec_TableOfFormula : (a0 : ByteArray) → (a1 : Int) → (k : Int → Int → Bool → Option β) → Option β) (q_impl_IsFormula : (a0 : ByteArray) → (k : Bool → Option β) → Option β) (q_impl_PushNegations : (a0 : ByteArray) → (k : ByteArray → Bool → Option β) → Option β) (q_impl_LeavesOf : (a0 : ByteArray) → (k : Int → Option β) → Option β) (q_impl_DepthOf : (a0 : ByteArray) → (k : Int → Option β) → Option β) (q_spec_DualTable : (a0 : Int) → (a1 : Int) → (k : Int → Int → Bool → Option β) → Option β) (q_impl_IsMonotoneFormula : (a0 : ByteArray) → (k : Bool → Option β) → Option β) (q_impl_IsMonotone : (a0 : Int) → (a1 : Int) → (k : Bool → Option β) → Option β) (q_impl_IsReadOnce : (a0 : ByteArray) → (k : Bool → Option β) → Option β) (q_impl_VariablesOf : (a0 : Int) → (a1 : Int) → (k : List Int → Option β) → Option β) (q_spec_DrawPushNegations : (a0 : List Int) → (k : ByteArray → Option β) → Option β) (q_spec_PushNegations : (a0 : ByteArray) → (k : ByteArray → Bool → Option β) → Option β) (q_spec_DrawDualFormula : (a0 : List Int) → (k : ByteArray → Option β) → Option β) (q_spec_DualFormula : (a0 : ByteArray) → (k : ByteArray → Bool → Option β) → Option β) (q_spec_DrawIsReadOnce : (a0 : List Int) → (k : ByteArray → Option β) → Option β) (q_spec_IsFormula : (a0 : ByteArray) → (k : Bool → Option β) → Option β) (q_spec_LeavesOf : (a0 : ByteArray) → (k : Int → Option β) → Option β) (q_spec_DepthOf : (a0 : ByteArray) → (k : Int → Option β) → Option β) (q_spec_IsReadOnce : (a0 : ByteArray) → (k : Bool → Option β) → Option β) (q_spec_IsMonotoneFormula : (a0 : ByteArray) → (k : Bool → Option β) → Option β) (a0 : List Int) (k : Bool → Option β) : Option β :=
q_spec_DrawPushNegations a0 fun r36 =>
q_impl_PushNegations r36 fun r37 r38 =>
q_spec_PushNegations r36 fun r39 r40 =>
q_spec_DrawDualFormula a0 fun r41 =>
q_impl_DualFormula r41 fun r42 r43 =>
q_spec_DualFormula r41 fun r44 r45 =>
q_spec_DrawIsReadOnce a0 fun r46 =>
(cond ((r37.toList == r39.toList))
((cond ((r38 == r40))
((cond ((r42.toList == r44.toList))
((cond ((r43 == r45))
(q_impl_IsFormula r36 fun r47 =>
q_spec_IsFormula r36 fun r48 =>
(cond ((r47 == r48))
(q_impl_LeavesOf r36 fun r49 =>
q_spec_LeavesOf r36 fun r50 =>
(cond ((r49 == r50))
(q_impl_DepthOf r36 fun r51 =>
q_spec_DepthOf r36 fun r52 =>
(cond ((r51 == r52))
(q_impl_IsReadOnce r46 fun r53 =>
q_spec_IsReadOnce r46 fun r54 =>
(cond ((r53 == r54))
(q_impl_IsMonotoneFormula r46 fun r55 =>
q_spec_IsMonotoneFormula r46 fun r56 =>
k ((r55 == r56)))
(k false)))
(k false)))
(k false)))
(k false)))
(k false)))
(k false)))
(k false)))
(k false))
theorem th_laws_FnFormulas {β : Type} (N : Nat) (a0 : List Int) (k : Bool → Option β) : laws_FnFormulas N a0 k = BH_laws_FnFormulas N (impl_DualFormula N) (laws_big N) (spec_DrawTableOfFormula N) (impl_TableOfFormula N) (spec_TableOfFormula N) (impl_IsFormula N) (impl_PushNegations N) (impl_LeavesOf N) (impl_DepthOf N) (spec_DualTable N) (impl_IsMonotoneFormula N) (impl_IsMonotone N) (impl_IsReadOnce N) (impl_VariablesOf N) (spec_DrawPushNegations N) (spec_PushNegations N) (spec_DrawDualFormula N) (spec_DualFormula N) (spec_DrawIsReadOnce N) (spec_IsFormula N) (spec_LeavesOf N) (spec_DepthOf N) (spec_IsReadOnce N) (spec_IsMonotoneFormula N) a0 k (fun a => laws_FnFormulas_tail N a k) := by
  unfold laws_FnFormulas BH_laws_FnFormulas
  rfl
theorem tt_laws_FnFormulas {β : Type} (N : Nat) (a0 : List Int) (k : Bool → Option β) : laws_FnFormulas_tail N a0 k = BT_laws_FnFormulas N (impl_DualFormula N) (laws_big N) (spec_DrawTableOfFormula N) (impl_TableOfFormula N) (spec_TableOfFormula N) (impl_IsFormula N) (impl_PushNegations N) (impl_LeavesOf N) (impl_DepthOf N) (spec_DualTable N) (impl_IsMonotoneFormula N) (impl_IsMonotone N) (impl_IsReadOnce N) (impl_VariablesOf N) (spec_DrawPushNegations N) (spec_PushNegations N) (spec_DrawDualFormula N) (spec_DualFormula N) (spec_DrawIsReadOnce N) (spec_IsFormula N) (spec_LeavesOf N) (spec_DepthOf N) (spec_IsReadOnce N) (spec_IsMonotoneFormula N) a0 k := by
  unfold laws_FnFormulas_tail BT_laws_FnFormulas
  rfl
noncomputable def allU : List TV → Nat → Bool
  | [], n => Nat.beq n 0
  | .v (.one .und) :: l, n + 1 => allU l n
  | _, _ => false
theorem allU_eq : ∀ (l : List TV) (n : Nat), allU l n = true → l = List.replicate n tund
  | [], n, h => by
    have := Nat.eq_of_beq_eq_true (show Nat.beq n 0 = true from h)
    subst this; rfl
  | x :: l, 0, h => by unfold allU at h; split at h <;> first | cases h | rfl | skip
                       all_goals (rename_i e; cases e)
  | x :: l, n + 1, h => by
    unfold allU at h
    split at h
    · rename_i e; cases e
    · rename_i e1 e2; cases e1; cases e2
      rw [allU_eq _ n h]; rfl
    · cases h
noncomputable def sig3 (a0 : List Int) : St := ⟨.v (.one (.sl 5 (.ints .u8 a0))) :: List.replicate (Try.f3.ntmps - 1) tund, []⟩
noncomputable def J3 {β : Type} (T : List Int → Option β) : St → Option β
  | ⟨.v (.one (.sl 5 (.ints .u8 a0))) :: l, []⟩ => cond (allU l (Try.f3.ntmps - 1)) (T a0) none
  | _ => none
theorem J3_eq {β : Type} {T : List Int → Option β} {s : St} {r : β} (h : J3 T s = some r) : ∃ a0, s = sig3 a0 ∧ T a0 = some r := by
  unfold J3 at h
  split at h
  · rename_i a0 l
    cases hu : allU l (Try.f3.ntmps - 1) with
    | false => rw [hu] at h; cases h
    | true =>
      rw [hu] at h
      exact ⟨a0, by rw [allU_eq l _ hu]; rfl, h⟩
  · cases h
theorem ve3_tail {β : Type} (N : Nat) (q_impl_DualFormula : (a0 : ByteArray) → (k : ByteArray → Bool → Option β) → Option β) (q_laws_big : (a0 : List Int) → (k : Bool → Option β) → Option β) (q_spec_DrawTableOfFormula : (a0 : List Int) → (k : ByteArray → Int → Option β) → Option β) (q_impl_TableOfFormula : (a0 : ByteArray) → (a1 : Int) → (k : Int → Int → Bool → Option β) → Option β) (q_spec_TableOfFormula : (a0 : ByteArray) → (a1 : Int) → (k : Int → Int → Bool → Option β) → Option β) (q_impl_IsFormula : (a0 : ByteArray) → (k : Bool → Option β) → Option β) (q_impl_PushNegations : (a0 : ByteArray) → (k : ByteArray → Bool → Option β) → Option β) (q_impl_LeavesOf : (a0 : ByteArray) → (k : Int → Option β) → Option β) (q_impl_DepthOf : (a0 : ByteArray) → (k : Int → Option β) → Option β) (q_spec_DualTable : (a0 : Int) → (a1 : Int) → (k : Int → Int → Bool → Option β) → Option β) (q_impl_IsMonotoneFormula : (a0 : ByteArray) → (k : Bool → Option β) → Option β) (q_impl_IsMonotone : (a0 : Int) → (a1 : Int) → (k : Bool → Option β) → Option β) (q_impl_IsReadOnce : (a0 : ByteArray) → (k : Bool → Option β) → Option β) (q_impl_VariablesOf : (a0 : Int) → (a1 : Int) → (k : List Int → Option β) → Option β) (q_spec_DrawPushNegations : (a0 : List Int) → (k : ByteArray → Option β) → Option β) (q_spec_PushNegations : (a0 : ByteArray) → (k : ByteArray → Bool → Option β) → Option β) (q_spec_DrawDualFormula : (a0 : List Int) → (k : ByteArray → Option β) → Option β) (q_spec_DualFormula : (a0 : ByteArray) → (k : ByteArray → Bool → Option β) → Option β) (q_spec_DrawIsReadOnce : (a0 : List Int) → (k : ByteArray → Option β) → Option β) (q_spec_IsFormula : (a0 : ByteArray) → (k : Bool → Option β) → Option β) (q_spec_LeavesOf : (a0 : ByteArray) → (k : Int → Option β) → Option β) (q_spec_DepthOf : (a0 : ByteArray) → (k : Int → Option β) → Option β) (q_spec_IsReadOnce : (a0 : ByteArray) → (k : Bool → Option β) → Option β) (q_spec_IsMonotoneFormula : (a0 : ByteArray) → (k : Bool → Option β) → Option β)  (a0 : List Int) (K : TV → Option β) : ev lay (VE3 N q_impl_DualFormula q_laws_big q_spec_DrawTableOfFormula q_impl_TableOfFormula q_spec_TableOfFormula q_impl_IsFormula q_impl_PushNegations q_impl_LeavesOf q_impl_DepthOf q_spec_DualTable q_impl_IsMonotoneFormula q_impl_IsMonotone q_impl_IsReadOnce q_impl_VariablesOf q_spec_DrawPushNegations q_spec_PushNegations q_spec_DrawDualFormula q_spec_DualFormula q_spec_DrawIsReadOnce q_spec_IsFormula q_spec_LeavesOf q_spec_DepthOf q_spec_IsReadOnce q_spec_IsMonotoneFormula) (retMask Try.f3) (tailC 22 (bodyF Try.f3)) [] (retMask Try.f3) (sig3 a0) (finF lay Try.f3 K) = BT_laws_FnFormulas N q_impl_DualFormula q_laws_big q_spec_DrawTableOfFormula q_impl_TableOfFormula q_spec_TableOfFormula q_impl_IsFormula q_impl_PushNegations q_impl_LeavesOf q_impl_DepthOf q_spec_DualTable q_impl_IsMonotoneFormula q_impl_IsMonotone q_impl_IsReadOnce q_impl_VariablesOf q_spec_DrawPushNegations q_spec_PushNegations q_spec_DrawDualFormula q_spec_DualFormula q_spec_DrawIsReadOnce q_spec_IsFormula q_spec_LeavesOf q_spec_DepthOf q_spec_IsReadOnce q_spec_IsMonotoneFormula a0 (fun z1 => K (.v (.one (.bool z1)))) := by kernel_rfl
theorem ve3_head {β : Type} (N : Nat) (q_impl_DualFormula : (a0 : ByteArray) → (k : ByteArray → Bool → Option β) → Option β) (q_laws_big : (a0 : List Int) → (k : Bool → Option β) → Option β) (q_spec_DrawTableOfFormula : (a0 : List Int) → (k : ByteArray → Int → Option β) → Option β) (q_impl_TableOfFormula : (a0 : ByteArray) → (a1 : Int) → (k : Int → Int → Bool → Option β) → Option β) (q_spec_TableOfFormula : (a0 : ByteArray) → (a1 : Int) → (k : Int → Int → Bool → Option β) → Option β) (q_impl_IsFormula : (a0 : ByteArray) → (k : Bool → Option β) → Option β) (q_impl_PushNegations : (a0 : ByteArray) → (k : ByteArray → Bool → Option β) → Option β) (q_impl_LeavesOf : (a0 : ByteArray) → (k : Int → Option β) → Option β) (q_impl_DepthOf : (a0 : ByteArray) → (k : Int → Option β) → Option β) (q_spec_DualTable : (a0 : Int) → (a1 : Int) → (k : Int → Int → Bool → Option β) → Option β) (q_impl_IsMonotoneFormula : (a0 : ByteArray) → (k : Bool → Option β) → Option β) (q_impl_IsMonotone : (a0 : Int) → (a1 : Int) → (k : Bool → Option β) → Option β) (q_impl_IsReadOnce : (a0 : ByteArray) → (k : Bool → Option β) → Option β) (q_impl_VariablesOf : (a0 : Int) → (a1 : Int) → (k : List Int → Option β) → Option β) (q_spec_DrawPushNegations : (a0 : List Int) → (k : ByteArray → Option β) → Option β) (q_spec_PushNegations : (a0 : ByteArray) → (k : ByteArray → Bool → Option β) → Option β) (q_spec_DrawDualFormula : (a0 : List Int) → (k : ByteArray → Option β) → Option β) (q_spec_DualFormula : (a0 : ByteArray) → (k : ByteArray → Bool → Option β) → Option β) (q_spec_DrawIsReadOnce : (a0 : List Int) → (k : ByteArray → Option β) → Option β) (q_spec_IsFormula : (a0 : ByteArray) → (k : Bool → Option β) → Option β) (q_spec_LeavesOf : (a0 : ByteArray) → (k : Int → Option β) → Option β) (q_spec_DepthOf : (a0 : ByteArray) → (k : Int → Option β) → Option β) (q_spec_IsReadOnce : (a0 : ByteArray) → (k : Bool → Option β) → Option β) (q_spec_IsMonotoneFormula : (a0 : ByteArray) → (k : Bool → Option β) → Option β)  (a0 : List Int) (K : TV → Option β) (T : List Int → Option β) : evCut lay (VE3 N q_impl_DualFormula q_laws_big q_spec_DrawTableOfFormula q_impl_TableOfFormula q_spec_TableOfFormula q_impl_IsFormula q_impl_PushNegations q_impl_LeavesOf q_impl_DepthOf q_spec_DualTable q_impl_IsMonotoneFormula q_impl_IsMonotone q_impl_IsReadOnce q_impl_VariablesOf q_spec_DrawPushNegations q_spec_PushNegations q_spec_DrawDualFormula q_spec_DualFormula q_spec_DrawIsReadOnce q_spec_IsFormula q_spec_LeavesOf q_spec_DepthOf q_spec_IsReadOnce q_spec_IsMonotoneFormula) (retMask Try.f3) 22 (J3 T) (bodyF Try.f3) (retMask Try.f3) (startSt Try.f3 [.v (.one (.sl 5 (.ints .u8 a0)))]) (finF lay Try.f3 K) = BH_laws_FnFormulas N q_impl_DualFormula q_laws_big q_spec_DrawTableOfFormula q_impl_TableOfFormula q_spec_TableOfFormula q_impl_IsFormula q_impl_PushNegations q_impl_LeavesOf q_impl_DepthOf q_spec_DualTable q_impl_IsMonotoneFormula q_impl_IsMonotone q_impl_IsReadOnce q_impl_VariablesOf q_spec_DrawPushNegations q_spec_PushNegations q_spec_DrawDualFormula q_spec_DualFormula q_spec_DrawIsReadOnce q_spec_IsFormula q_spec_LeavesOf q_spec_DepthOf q_spec_IsReadOnce q_spec_IsMonotoneFormula a0 (fun z1 => K (.v (.one (.bool z1)))) T := by kernel_rfl
theorem o3 {β : Type} (N : Nat) : SpecOK (β := β) inv Try.prog 3 (S3 N) := by
  refine spec_cut lay_ok mixed (E := E3 N) (specs_loops (specs_cons (o4 N) (specs_cons (o5 N) (specs_cons (o6 N) (specs_cons (o7 N) (specs_cons (o8 N) (specs_cons (o9 N) (specs_cons (o10 N) (specs_cons (o11 N) (specs_cons (o12 N) (specs_cons (o13 N) (specs_cons (o14 N) (specs_cons (o15 N) (specs_cons (o16 N) (specs_cons (o17 N) (specs_cons (o18 N) (specs_cons (o19 N) (specs_cons (o20 N) (specs_cons (o21 N) (specs_cons (o22 N) (specs_cons (o23 N) (specs_cons (o24 N) (specs_cons (o25 N) (specs_cons (o26 N) (specs_cons (o27 N) specs_nil))))))))))))))))))))))))) muts_nil gs_nil Try.func3 (by kernel_rfl) 22 (by kernel_rfl) (by kernel_rfl) (fun _ K => J3 fun a => laws_FnFormulas_tail N a fun z1 => K (.v (.one (.bool z1)))) (fun args K r h => ?_) (fun args K s r h => ?_)
  · unfold S3 VS3 at h
    split at h
    · exact (ve3_head N (impl_DualFormula N) (laws_big N) (spec_DrawTableOfFormula N) (impl_TableOfFormula N) (spec_TableOfFormula N) (impl_IsFormula N) (impl_PushNegations N) (impl_LeavesOf N) (impl_DepthOf N) (spec_DualTable N) (impl_IsMonotoneFormula N) (impl_IsMonotone N) (impl_IsReadOnce N) (impl_VariablesOf N) (spec_DrawPushNegations N) (spec_PushNegations N) (spec_DrawDualFormula N) (spec_DualFormula N) (spec_DrawIsReadOnce N) (spec_IsFormula N) (spec_LeavesOf N) (spec_DepthOf N) (spec_IsReadOnce N) (spec_IsMonotoneFormula N) _ K _).trans ((th_laws_FnFormulas N _ _).symm.trans h)
    · cases h
  · obtain ⟨a0, rfl, h⟩ := J3_eq h
    exact (ve3_tail N (impl_DualFormula N) (laws_big N) (spec_DrawTableOfFormula N) (impl_TableOfFormula N) (spec_TableOfFormula N) (impl_IsFormula N) (impl_PushNegations N) (impl_LeavesOf N) (impl_DepthOf N) (spec_DualTable N) (impl_IsMonotoneFormula N) (impl_IsMonotone N) (impl_IsReadOnce N) (impl_VariablesOf N) (spec_DrawPushNegations N) (spec_PushNegations N) (spec_DrawDualFormula N) (spec_DualFormula N) (spec_DrawIsReadOnce N) (spec_IsFormula N) (spec_LeavesOf N) (spec_DepthOf N) (spec_IsReadOnce N) (spec_IsMonotoneFormula N) a0 K).trans ((tt_laws_FnFormulas N _ _).symm.trans h)
end Go.Proofs.Ytddflpokemgnmaa
