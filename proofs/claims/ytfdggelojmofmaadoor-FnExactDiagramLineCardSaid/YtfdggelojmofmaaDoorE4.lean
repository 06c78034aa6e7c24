/- The functions that the claims reach answer as their texts do. -/
import Derived.Test.YtfdggelojmofmaaDoorE3
namespace Go.Proofs.YtfdggelojmofmaaDoor
open Go.Rv
set_option maxRecDepth 100000
set_option maxHeartbeats 2000000
set_option linter.unusedVariables false
def VS61 {β : Type} (N : Nat) (q_impl_listText : (a0 : List Int) → (k : ByteArray → Option β) → Option β) : Rv.Spec β := fun args K => match args with
  | [.v (.one (.sl 3 (.ints .i64 a0)))] => q_impl_listText a0 (fun z1 => K (.v (.one (.str z1))))
  | _ => none
def S61 {β : Type} (N : Nat) : Rv.Spec β := VS61 N (impl_listText N)
def h61_0_0  (v0 : List Int) (v1 : Int) (v2 : Int) (v3 : List ByteArray) : St := ⟨.v (.one .und) :: .v (.one .und) :: .v (.one .und) :: .v (.one (.row 0)) :: .v (.one .und) :: .v (.one .und) :: .v (.one .und) :: .v (.one .und) :: .v (.one .und) :: .v (.one .und) :: .v (.one .und) :: .v (.one .und) :: .v (.one (.sl 3 (.ints .i64 v0))) :: .v (.one (.int .i64 v1)) :: .v (.one (.int .i64 v2)) :: .v (.one .und) :: .v (.one .und) :: .v (.one .und) :: .v (.one .und) :: .v (.one .und) :: .v (.one .und) :: .v (.one .und) :: .v (.one .und) :: .v (.one .und) :: .v (.one .und) :: .v (.one .und) :: .v (.one .und) :: [], [.row 9 (.strs v3)]⟩
def x61_0_0_k0  (y0 : List ByteArray) : St := ⟨.v (.one .und) :: .v (.one .und) :: .v (.one .und) :: .v (.one (.row 0)) :: .v (.one .und) :: .v (.one .und) :: .v (.one .und) :: .v (.one .und) :: .v (.one .und) :: .v (.one .und) :: .v (.one .und) :: .v (.one .und) :: .v (.one .und) :: .v (.one .und) :: .v (.one .und) :: .v (.one .und) :: .v (.one .und) :: .v (.one .und) :: .v (.one .und) :: .v (.one .und) :: .v (.one .und) :: .v (.one .und) :: .v (.one .und) :: .v (.one .und) :: .v (.one .und) :: .v (.one .und) :: .v (.one .und) :: [], [.row 9 (.strs y0)]⟩
theorem fl61_0_0 (s : St) : refSt (h61_0_0 [] 0 0 []) s = h61_0_0 (rInts (rowV (oneA (vT (nx tund s.tmps 12))))) (intS (oneA (vT (nx tund s.tmps 13)))) (intS (oneA (vT (nx tund s.tmps 14)))) (rStrs (rowB_ (nx .dead s.blks 0))) := by kernel_rfl
def VLS61_0 {β : Type} (N : Nat) (q_impl_listText_l0 : Nat → List Int → Int → Int → List ByteArray → (List ByteArray → Option β) → Option β) : LSpec β := fun s K => cond (shpSt (h61_0_0 [] 0 0 []) s) ((fun (v0 : List Int) (v1 : Int) (v2 : Int) (v3 : List ByteArray) => q_impl_listText_l0  N v0 v1 v2 v3 (fun y0 => K (.exit 0) (x61_0_0_k0  y0))) (rInts (rowV (oneA (vT (nx tund s.tmps 12))))) (intS (oneA (vT (nx tund s.tmps 13)))) (intS (oneA (vT (nx tund s.tmps 14)))) (rStrs (rowB_ (nx .dead s.blks 0)))) (none)
def LS61_0 {β : Type} (N : Nat) : LSpec β := VLS61_0 N (impl_listText_l0 N)
def VE61 {β : Type} (N : Nat) (q_impl_FormatInt : (a0 : Int) → (k : ByteArray → Option β) → Option β) (q_impl_listText_l0 : Nat → List Int → Int → Int → List ByteArray → (List ByteArray → Option β) → Option β) : Env β := ⟨[(64, VS64 N q_impl_FormatInt), (126, S126 N)], [], [(0, VLS61_0 N q_impl_listText_l0)], [], ⟨[], [], [145], [149, 152, 199]⟩⟩
def E61 {β : Type} (N : Nat) : Env β := VE61 N (impl_FormatInt N) (impl_listText_l0 N)
def BV_impl_listText_l0b {β : Type} (N : Nat) (q_impl_FormatInt : (a0 : Int) → (k : ByteArray → Option β) → Option β)  (v0 : List Int) (v1 : Int) (v2 : Int) (v3 : List ByteArray) (rec_ : List Int → Int → Int → List ByteArray → Option β) (k0 : List ByteArray → Option β) : Option β :=
(cond ((decide (v2 < v1)))
((gd ((decide (0 ≤ v2)))
((gd ((decide (v2 < (v0.length : Int))))
(q_impl_FormatInt ((rd 0 v0 v2)) fun r2 =>
(gd ((decide (0 ≤ v2)))
((gd ((decide (v2 < (v3.length : Int))))
(rec_ v0 v1 ((w64 (v2 + 1))) ((wr v3 v2 r2)))))))))))
(k0 v3))
theorem t_impl_listText_l0b {β : Type} (N : Nat)  (v0 : List Int) (v1 : Int) (v2 : Int) (v3 : List ByteArray) (rec_ : List Int → Int → Int → List ByteArray → Option β) (k0 : List ByteArray → Option β) : impl_listText_l0b N v0 v1 v2 v3 rec_ k0 = BV_impl_listText_l0b N (impl_FormatInt N) v0 v1 v2 v3 rec_ k0 := by
  unfold impl_listText_l0b BV_impl_listText_l0b
  rfl
theorem vst61_0_0 {β : Type} (N : Nat) (q_impl_FormatInt : (a0 : Int) → (k : ByteArray → Option β) → Option β) (q_impl_listText_l0 : Nat → List Int → Int → Int → List ByteArray → (List ByteArray → Option β) → Option β)  (v0 : List Int) (v1 : Int) (v2 : Int) (v3 : List ByteArray) (rec_ : St → Option β) (K : Exit → St → Option β) :
    ev lay (VE61 N q_impl_FormatInt q_impl_listText_l0) (retMask Tryd.f61) (lp Tryd.f61 0).body (lp Tryd.f61 0).ex ((lp Tryd.f61 0).lv (retMask Tryd.f61)) (h61_0_0  v0 v1 v2 v3) (nextR (fun s' => rec_ (s'.tidy ((lp Tryd.f61 0).lv (retMask Tryd.f61)))) K) = BV_impl_listText_l0b N q_impl_FormatInt  v0 v1 v2 v3 (fun v0 v1 v2 v3 => rec_ (h61_0_0  v0 v1 v2 v3)) (fun y0 => K (.exit 0) (x61_0_0_k0  y0)) := by kernel_rfl
theorem st61_0_0 {β : Type} (N : Nat)  (v0 : List Int) (v1 : Int) (v2 : Int) (v3 : List ByteArray) (rec_ : St → Option β) (K : Exit → St → Option β) :
    ev lay (E61 N) (retMask Tryd.f61) (lp Tryd.f61 0).body (lp Tryd.f61 0).ex ((lp Tryd.f61 0).lv (retMask Tryd.f61)) (h61_0_0  v0 v1 v2 v3) (nextR (fun s' => rec_ (s'.tidy ((lp Tryd.f61 0).lv (retMask Tryd.f61)))) K) = impl_listText_l0b N  v0 v1 v2 v3 (fun v0 v1 v2 v3 => rec_ (h61_0_0  v0 v1 v2 v3)) (fun y0 => K (.exit 0) (x61_0_0_k0  y0)) := (vst61_0_0 N (impl_FormatInt N) (impl_listText_l0 N) v0 v1 v2 v3 rec_ K).trans (t_impl_listText_l0b N  v0 v1 v2 v3 (fun v0 v1 v2 v3 => rec_ (h61_0_0  v0 v1 v2 v3)) (fun y0 => K (.exit 0) (x61_0_0_k0  y0))).symm
theorem ro61_0_0 {β : Type} (N : Nat)  (K : Exit → St → Option β) : ∀ (F : Nat) (v0 : List Int) (v1 : Int) (v2 : Int) (v3 : List ByteArray), (lp Tryd.f61 0).rounds lay (E61 N) (retMask Tryd.f61) F (h61_0_0  v0 v1 v2 v3) K = impl_listText_l0 N  F v0 v1 v2 v3 (fun y0 => K (.exit 0) (x61_0_0_k0  y0)) := by
  intro F
  induction F with
  | zero => intros; rfl
  | succ F ih =>
    intros
    rw [rounds_next]
    refine (st61_0_0 N  _ _ _ _ (fun s => (lp Tryd.f61 0).rounds lay (E61 N) (retMask Tryd.f61) F s K) K).trans ?_
    simp only [ih]
    rfl
theorem lk61_0 {β : Type} (N : Nat) : lookL (E61 (β := β) N).loops (lp Tryd.f61 0).id = LS61_0 N := by kernel_rfl
theorem rk61_0 {β : Type} (N : Nat) : RoundsOK lay (E61 (β := β) N) (retMask Tryd.f61) (lp Tryd.f61 0) := by
  intro s K r h
  rw [lk61_0] at h
  unfold LS61_0 VLS61_0 at h
  cases hb : shpSt (h61_0_0 [] 0 0 []) s with
  | true =>
    rw [hb, cond_true] at h
    exact ⟨N, by rw [← shpSt_ref hb, fl61_0_0 s]; exact (ro61_0_0 N  K N (rInts (rowV (oneA (vT (nx tund s.tmps 12))))) (intS (oneA (vT (nx tund s.tmps 13)))) (intS (oneA (vT (nx tund s.tmps 14)))) (rStrs (rowB_ (nx .dead s.blks 0)))).trans h⟩
  | false =>
  rw [hb, cond_false] at h
  clear hb
  cases h
def BV_impl_listText {β : Type} (N : Nat) (q_impl_listText_l0 : Nat → List Int → Int → Int → List ByteArray → (List ByteArray → Option β) → Option β) (a0 : List Int) (k : ByteArray → Option β) : Option β :=
(cond (((a0.length : Int) == 0))
(k ((strOf [110, 111, 110, 101])))
((gd ((decide (0 ≤ (a0.length : Int))))
((gd ((decide ((a0.length : Int) ≤ (a0.length : Int))))
((gd ((decide (16 * (a0.length : Int) ≤ 281474976710656)))
(q_impl_listText_l0  N a0 ((a0.length : Int)) 0 ((List.replicate (Int.toNat (a0.length : Int)) ByteArray.empty)) (fun e3_0 =>
strings_Join N e3_0 ((strOf [44])) fun r4 =>
k r4)))))))))
theorem t_impl_listText {β : Type} (N : Nat) (a0 : List Int) (k : ByteArray → Option β) : impl_listText N a0 k = BV_impl_listText N (impl_listText_l0 N) a0 k := by
  unfold impl_listText BV_impl_listText
  rfl
theorem ve61_0 {β : Type} (N : Nat) (q_impl_FormatInt : (a0 : Int) → (k : ByteArray → Option β) → Option β) (q_impl_listText_l0 : Nat → List Int → Int → Int → List ByteArray → (List ByteArray → Option β) → Option β)  (a0 : List Int) (K : TV → Option β) : evFn lay (VE61 N q_impl_FormatInt q_impl_listText_l0) Tryd.f61 [.v (.one (.sl 3 (.ints .i64 a0)))] K = BV_impl_listText N q_impl_listText_l0 a0 (fun z1 => K (.v (.one (.str z1)))) := by kernel_rfl
theorem e61_0 {β : Type} (N : Nat)  (a0 : List Int) (K : TV → Option β) : evFn lay (E61 N) Tryd.f61 [.v (.one (.sl 3 (.ints .i64 a0)))] K = impl_listText N a0 (fun z1 => K (.v (.one (.str z1)))) := (ve61_0 N (impl_FormatInt N) (impl_listText_l0 N) a0 K).trans (t_impl_listText N a0 (fun z1 => K (.v (.one (.str z1))))).symm
theorem o61 {β : Type} (N : Nat) : SpecOK (β := β) inv Tryd.prog 61 (S61 N) := by
  refine spec_of lay_ok mixed (E := E61 N) (specs_loops (specs_cons (o64 N) (specs_cons (o126 N) specs_nil))) muts_nil gs_nil Tryd.func61 (by kernel_rfl) 1 (by kernel_rfl) ⟨trivial, rk61_0 N⟩ fun args K r h => ?_
  unfold S61 VS61 at h
  split at h
  · exact (e61_0 N _ _).trans h
  · cases h
def VS151 {β : Type} (N : Nat) (q_impl_FormatDiagram_1 : (a0 : Int) → (k : Bool → Option β) → Option β) : Rv.Spec β := fun args K => match args with
  | [.v (.one (.int .i64 a0))] => q_impl_FormatDiagram_1 a0 (fun z1 => K (.v (.one (.bool z1))))
  | _ => none
def S151 {β : Type} (N : Nat) : Rv.Spec β := VS151 N (impl_FormatDiagram_1 N)
def VE151 {β : Type} (N : Nat) : Env β := ⟨[], [], [], [], ⟨[], [], [145], [149, 152, 199]⟩⟩
def E151 {β : Type} (N : Nat) : Env β := VE151 N
def BV_impl_FormatDiagram_1 {β : Type} (N : Nat) (a0 : Int) (k : Bool → Option β) : Option β :=
(cond ((decide (a0 ≥ (-2))))
(k ((decide (a0 < 31))))
(k false))
theorem t_impl_FormatDiagram_1 {β : Type} (N : Nat) (a0 : Int) (k : Bool → Option β) : impl_FormatDiagram_1 N a0 k = BV_impl_FormatDiagram_1 N a0 k := by
  unfold impl_FormatDiagram_1 BV_impl_FormatDiagram_1
  rfl
theorem ve151_0 {β : Type} (N : Nat)  (a0 : Int) (K : TV → Option β) : evFn lay (VE151 N) Tryd.f151 [.v (.one (.int .i64 a0))] K = BV_impl_FormatDiagram_1 N a0 (fun z1 => K (.v (.one (.bool z1)))) := by kernel_rfl
theorem e151_0 {β : Type} (N : Nat)  (a0 : Int) (K : TV → Option β) : evFn lay (E151 N) Tryd.f151 [.v (.one (.int .i64 a0))] K = impl_FormatDiagram_1 N a0 (fun z1 => K (.v (.one (.bool z1)))) := (ve151_0 N a0 K).trans (t_impl_FormatDiagram_1 N a0 (fun z1 => K (.v (.one (.bool z1))))).symm
theorem o151 {β : Type} (N : Nat) : SpecOK (β := β) inv Tryd.prog 151 (S151 N) := by
  refine spec_of lay_ok mixed (E := E151 N) (specs_loops specs_nil) muts_nil gs_nil Tryd.func151 (by kernel_rfl) 0 (by kernel_rfl) trivial fun args K r h => ?_
  unfold S151 VS151 at h
  split at h
  · exact (e151_0 N _ _).trans h
  · cases h
def VS89 {β : Type} (N : Nat) (q_impl_FormatDiagram : (a0 : List (Int × Int × Int)) → (k : ByteArray → Option β) → Option β) : Rv.Spec β := fun args K => match args with
  | [.v (.one (.sl 120 (.trips a0)))] => q_impl_FormatDiagram a0 (fun z1 => K (.v (.one (.str z1))))
  | _ => none
def S89 {β : Type} (N : Nat) : Rv.Spec β := VS89 N (impl_FormatDiagram N)
def h89_0_0  (v0 : List (Int × Int × Int)) (v1 : Int) (v2 : Int) (v3 : List ByteArray) : St := ⟨.v (.one .und) :: .v (.one .und) :: .v (.one .und) :: .v (.one (.row 0)) :: .v (.one (.fn 151 [])) :: .v (.one .und) :: .v (.one .und) :: .v (.one .und) :: .v (.one .und) :: .v (.one .und) :: .v (.one .und) :: .v (.one .und) :: .v (.one .und) :: .v (.one .und) :: .v (.one .und) :: .v (.one .und) :: .v (.one (.sl 120 (.trips v0))) :: .v (.one (.int .i64 v1)) :: .v (.one (.int .i64 v2)) :: .v (.one .und) :: .v (.one .und) :: .v (.one .und) :: .v (.one .und) :: .v (.one .und) :: .v (.one .und) :: .v (.one .und) :: .v (.one .und) :: .v (.one .und) :: .v (.one .und) :: .v (.one .und) :: .v (.one .und) :: .v (.one .und) :: .v (.one .und) :: .v (.one .und) :: .v (.one .und) :: .v (.one .und) :: .v (.one .und) :: .v (.one .und) :: .v (.one .und) :: .v (.one .und) :: .v (.one .und) :: .v (.one .und) :: .v (.one .und) :: .v (.one .und) :: .v (.one .und) :: .v (.one .und) :: .v (.one .und) :: .v (.one .und) :: .v (.one .und) :: .v (.one .und) :: .v (.one .und) :: .v (.one .und) :: .v (.one .und) :: .v (.one .und) :: .v (.one .und) :: .v (.one .und) :: .v (.one .und) :: .v (.one .und) :: .v (.one .und) :: .v (.one .und) :: .v (.one .und) :: .v (.one .und) :: .v (.one .und) :: .v (.one .und) :: .v (.one .und) :: .v (.one .und) :: [], [.row 9 (.strs v3)]⟩
def x89_0_0_k0  (y0 : ByteArray) : St := ⟨.v (.one .und) :: .v (.one .und) :: .v (.one (.str y0)) :: .v (.one .und) :: .v (.one .und) :: .v (.one .und) :: .v (.one .und) :: .v (.one .und) :: .v (.one .und) :: .v (.one .und) :: .v (.one .und) :: .v (.one .und) :: .v (.one .und) :: .v (.one .und) :: .v (.one .und) :: .v (.one .und) :: .v (.one .und) :: .v (.one .und) :: .v (.one .und) :: .v (.one .und) :: .v (.one .und) :: .v (.one .und) :: .v (.one .und) :: .v (.one .und) :: .v (.one .und) :: .v (.one .und) :: .v (.one .und) :: .v (.one .und) :: .v (.one .und) :: .v (.one .und) :: .v (.one .und) :: .v (.one .und) :: .v (.one .und) :: .v (.one .und) :: .v (.one .und) :: .v (.one .und) :: .v (.one .und) :: .v (.one .und) :: .v (.one .und) :: .v (.one .und) :: .v (.one .und) :: .v (.one .und) :: .v (.one .und) :: .v (.one .und) :: .v (.one .und) :: .v (.one .und) :: .v (.one .und) :: .v (.one .und) :: .v (.one .und) :: .v (.one .und) :: .v (.one .und) :: .v (.one .und) :: .v (.one .und) :: .v (.one .und) :: .v (.one .und) :: .v (.one .und) :: .v (.one .und) :: .v (.one .und) :: .v (.one .und) :: .v (.one .und) :: .v (.one .und) :: .v (.one .und) :: .v (.one .und) :: .v (.one .und) :: .v (.one .und) :: .v (.one .und) :: [], []⟩
def x89_0_0_k1  (y0 : List ByteArray) : St := ⟨.v (.one .und) :: .v (.one .und) :: .v (.one .und) :: .v (.one (.row 0)) :: .v (.one .und) :: .v (.one .und) :: .v (.one .und) :: .v (.one .und) :: .v (.one .und) :: .v (.one .und) :: .v (.one .und) :: .v (.one .und) :: .v (.one .und) :: .v (.one .und) :: .v (.one .und) :: .v (.one .und) :: .v (.one .und) :: .v (.one .und) :: .v (.one .und) :: .v (.one .und) :: .v (.one .und) :: .v (.one .und) :: .v (.one .und) :: .v (.one .und) :: .v (.one .und) :: .v (.one .und) :: .v (.one .und) :: .v (.one .und) :: .v (.one .und) :: .v (.one .und) :: .v (.one .und) :: .v (.one .und) :: .v (.one .und) :: .v (.one .und) :: .v (.one .und) :: .v (.one .und) :: .v (.one .und) :: .v (.one .und) :: .v (.one .und) :: .v (.one .und) :: .v (.one .und) :: .v (.one .und) :: .v (.one .und) :: .v (.one .und) :: .v (.one .und) :: .v (.one .und) :: .v (.one .und) :: .v (.one .und) :: .v (.one .und) :: .v (.one .und) :: .v (.one .und) :: .v (.one .und) :: .v (.one .und) :: .v (.one .und) :: .v (.one .und) :: .v (.one .und) :: .v (.one .und) :: .v (.one .und) :: .v (.one .und) :: .v (.one .und) :: .v (.one .und) :: .v (.one .und) :: .v (.one .und) :: .v (.one .und) :: .v (.one .und) :: .v (.one .und) :: [], [.row 9 (.strs y0)]⟩
theorem fl89_0_0 (s : St) : refSt (h89_0_0 [] 0 0 []) s = h89_0_0 (rTrips (rowV (oneA (vT (nx tund s.tmps 16))))) (intS (oneA (vT (nx tund s.tmps 17)))) (intS (oneA (vT (nx tund s.tmps 18)))) (rStrs (rowB_ (nx .dead s.blks 0))) := by kernel_rfl
def VLS89_0 {β : Type} (N : Nat) (q_impl_FormatDiagram_l0 : Nat → List (Int × Int × Int) → Int → Int → List ByteArray → (ByteArray → Option β) → (List ByteArray → Option β) → Option β) : LSpec β := fun s K => cond (shpSt (h89_0_0 [] 0 0 []) s) ((fun (v0 : List (Int × Int × Int)) (v1 : Int) (v2 : Int) (v3 : List ByteArray) => q_impl_FormatDiagram_l0  N v0 v1 v2 v3 (fun y0 => K .ret (x89_0_0_k0  y0)) (fun y0 => K (.exit 0) (x89_0_0_k1  y0))) (rTrips (rowV (oneA (vT (nx tund s.tmps 16))))) (intS (oneA (vT (nx tund s.tmps 17)))) (intS (oneA (vT (nx tund s.tmps 18)))) (rStrs (rowB_ (nx .dead s.blks 0)))) (none)
def LS89_0 {β : Type} (N : Nat) : LSpec β := VLS89_0 N (impl_FormatDiagram_l0 N)
def VE89 {β : Type} (N : Nat) (q_impl_FormatDiagram_1 : (a0 : Int) → (k : Bool → Option β) → Option β) (q_impl_FormatInt : (a0 : Int) → (k : ByteArray → Option β) → Option β) (q_impl_FormatDiagram_l0 : Nat → List (Int × Int × Int) → Int → Int → List ByteArray → (ByteArray → Option β) → (List ByteArray → Option β) → Option β) : Env β := ⟨[(151, VS151 N q_impl_FormatDiagram_1), (64, VS64 N q_impl_FormatInt), (126, S126 N)], [], [(0, VLS89_0 N q_impl_FormatDiagram_l0)], [], ⟨[], [], [145], [149, 152, 199]⟩⟩
def E89 {β : Type} (N : Nat) : Env β := VE89 N (impl_FormatDiagram_1 N) (impl_FormatInt N) (impl_FormatDiagram_l0 N)
def BV_impl_FormatDiagram_l0b {β : Type} (N : Nat) (q_impl_FormatDiagram_1 : (a0 : Int) → (k : Bool → Option β) → Option β) (q_impl_FormatInt : (a0 : Int) → (k : ByteArray → Option β) → Option β)  (v0 : List (Int × Int × Int)) (v1 : Int) (v2 : Int) (v3 : List ByteArray) (rec_ : List (Int × Int × Int) → Int → Int → List ByteArray → Option β) (k0 : ByteArray → Option β) (k1 : List ByteArray → Option β) : Option β :=
(cond ((decide (v2 < v1)))
((gd ((decide (0 ≤ v2)))
((gd ((decide (v2 < (v0.length : Int))))
((cond ((decide ((rd (0, 0, 0) v0 v2).1 < 0)))
(k0 ByteArray.empty)
((cond ((decide ((rd (0, 0, 0) v0 v2).1 ≥ 5)))
(k0 ByteArray.empty)
(q_impl_FormatDiagram_1 ((rd (0, 0, 0) v0 v2).2.1) fun r2 =>
(cond (!r2)
(k0 ByteArray.empty)
(q_impl_FormatDiagram_1 ((rd (0, 0, 0) v0 v2).2.2) fun r3 =>
(cond (!r3)
(k0 ByteArray.empty)
(q_impl_FormatInt ((rd (0, 0, 0) v0 v2).2.1) fun r4 =>
q_impl_FormatInt ((rd (0, 0, 0) v0 v2).2.2) fun r5 =>
(gd ((decide (((strOf ((([] : List Int) ++ [(w8 (97 + (w8 ((rd (0, 0, 0) v0 v2).1))))])))).size + r4.size ≤ 9223372036854775807)))
((gd ((decide ((((strOf ((([] : List Int) ++ [(w8 (97 + (w8 ((rd (0, 0, 0) v0 v2).1))))]))) ++ r4)).size + ((strOf [44])).size ≤ 9223372036854775807)))
((gd ((decide (((((strOf ((([] : List Int) ++ [(w8 (97 + (w8 ((rd (0, 0, 0) v0 v2).1))))]))) ++ r4) ++ (strOf [44]))).size + r5.size ≤ 9223372036854775807)))
((gd ((decide (0 ≤ v2)))
((gd ((decide (v2 < (v3.length : Int))))
(rec_ v0 v1 ((w64 (v2 + 1))) ((wr v3 v2 (((((strOf ((([] : List Int) ++ [(w8 (97 + (w8 ((rd (0, 0, 0) v0 v2).1))))]))) ++ r4) ++ (strOf [44])) ++ r5)))))))))))))))))))))))))))
(k1 v3))
theorem t_impl_FormatDiagram_l0b {β : Type} (N : Nat)  (v0 : List (Int × Int × Int)) (v1 : Int) (v2 : Int) (v3 : List ByteArray) (rec_ : List (Int × Int × Int) → Int → Int → List ByteArray → Option β) (k0 : ByteArray → Option β) (k1 : List ByteArray → Option β) : impl_FormatDiagram_l0b N v0 v1 v2 v3 rec_ k0 k1 = BV_impl_FormatDiagram_l0b N (impl_FormatDiagram_1 N) (impl_FormatInt N) v0 v1 v2 v3 rec_ k0 k1 := by
  unfold impl_FormatDiagram_l0b BV_impl_FormatDiagram_l0b
  rfl
theorem vst89_0_0 {β : Type} (N : Nat) (q_impl_FormatDiagram_1 : (a0 : Int) → (k : Bool → Option β) → Option β) (q_impl_FormatInt : (a0 : Int) → (k : ByteArray → Option β) → Option β) (q_impl_FormatDiagram_l0 : Nat → List (Int × Int × Int) → Int → Int → List ByteArray → (ByteArray → Option β) → (List ByteArray → Option β) → Option β)  (v0 : List (Int × Int × Int)) (v1 : Int) (v2 : Int) (v3 : List ByteArray) (rec_ : St → Option β) (K : Exit → St → Option β) :
    ev lay (VE89 N q_impl_FormatDiagram_1 q_impl_FormatInt q_impl_FormatDiagram_l0) (retMask Tryd.f89) (lp Tryd.f89 0).body (lp Tryd.f89 0).ex ((lp Tryd.f89 0).lv (retMask Tryd.f89)) (h89_0_0  v0 v1 v2 v3) (nextR (fun s' => rec_ (s'.tidy ((lp Tryd.f89 0).lv (retMask Tryd.f89)))) K) = BV_impl_FormatDiagram_l0b N q_impl_FormatDiagram_1 q_impl_FormatInt  v0 v1 v2 v3 (fun v0 v1 v2 v3 => rec_ (h89_0_0  v0 v1 v2 v3)) (fun y0 => K .ret (x89_0_0_k0  y0)) (fun y0 => K (.exit 0) (x89_0_0_k1  y0)) := by kernel_rfl
theorem st89_0_0 {β : Type} (N : Nat)  (v0 : List (Int × Int × Int)) (v1 : Int) (v2 : Int) (v3 : List ByteArray) (rec_ : St → Option β) (K : Exit → St → Option β) :
    ev lay (E89 N) (retMask Tryd.f89) (lp Tryd.f89 0).body (lp Tryd.f89 0).ex ((lp Tryd.f89 0).lv (retMask Tryd.f89)) (h89_0_0  v0 v1 v2 v3) (nextR (fun s' => rec_ (s'.tidy ((lp Tryd.f89 0).lv (retMask Tryd.f89)))) K) = impl_FormatDiagram_l0b N  v0 v1 v2 v3 (fun v0 v1 v2 v3 => rec_ (h89_0_0  v0 v1 v2 v3)) (fun y0 => K .ret (x89_0_0_k0  y0)) (fun y0 => K (.exit 0) (x89_0_0_k1  y0)) := (vst89_0_0 N (impl_FormatDiagram_1 N) (impl_FormatInt N) (impl_FormatDiagram_l0 N) v0 v1 v2 v3 rec_ K).trans (t_impl_FormatDiagram_l0b N  v0 v1 v2 v3 (fun v0 v1 v2 v3 => rec_ (h89_0_0  v0 v1 v2 v3)) (fun y0 => K .ret (x89_0_0_k0  y0)) (fun y0 => K (.exit 0) (x89_0_0_k1  y0))).symm
theorem ro89_0_0 {β : Type} (N : Nat)  (K : Exit → St → Option β) : ∀ (F : Nat) (v0 : List (Int × Int × Int)) (v1 : Int) (v2 : Int) (v3 : List ByteArray), (lp Tryd.f89 0).rounds lay (E89 N) (retMask Tryd.f89) F (h89_0_0  v0 v1 v2 v3) K = impl_FormatDiagram_l0 N  F v0 v1 v2 v3 (fun y0 => K .ret (x89_0_0_k0  y0)) (fun y0 => K (.exit 0) (x89_0_0_k1  y0)) := by
  intro F
  induction F with
  | zero => intros; rfl
  | succ F ih =>
    intros
    rw [rounds_next]
    refine (st89_0_0 N  _ _ _ _ (fun s => (lp Tryd.f89 0).rounds lay (E89 N) (retMask Tryd.f89) F s K) K).trans ?_
    simp only [ih]
    rfl
theorem lk89_0 {β : Type} (N : Nat) : lookL (E89 (β := β) N).loops (lp Tryd.f89 0).id = LS89_0 N := by kernel_rfl
theorem rk89_0 {β : Type} (N : Nat) : RoundsOK lay (E89 (β := β) N) (retMask Tryd.f89) (lp Tryd.f89 0) := by
  intro s K r h
  rw [lk89_0] at h
  unfold LS89_0 VLS89_0 at h
  cases hb : shpSt (h89_0_0 [] 0 0 []) s with
  | true =>
    rw [hb, cond_true] at h
    exact ⟨N, by rw [← shpSt_ref hb, fl89_0_0 s]; exact (ro89_0_0 N  K N (rTrips (rowV (oneA (vT (nx tund s.tmps 16))))) (intS (oneA (vT (nx tund s.tmps 17)))) (intS (oneA (vT (nx tund s.tmps 18)))) (rStrs (rowB_ (nx .dead s.blks 0)))).trans h⟩
  | false =>
  rw [hb, cond_false] at h
  clear hb
  cases h
def BV_impl_FormatDiagram {β : Type} (N : Nat) (q_impl_FormatDiagram_l0 : Nat → List (Int × Int × Int) → Int → Int → List ByteArray → (ByteArray → Option β) → (List ByteArray → Option β) → Option β) (a0 : List (Int × Int × Int)) (k : ByteArray → Option β) : Option β :=
(cond (((a0.length : Int) == 0))
(k ((strOf [110, 111, 110, 101])))
((cond ((decide ((a0.length : Int) > 31)))
(k ByteArray.empty)
((gd ((decide (0 ≤ (a0.length : Int))))
((gd ((decide ((a0.length : Int) ≤ (a0.length : Int))))
((gd ((decide (16 * (a0.length : Int) ≤ 281474976710656)))
(q_impl_FormatDiagram_l0  N a0 ((a0.length : Int)) 0 ((List.replicate (Int.toNat (a0.length : Int)) ByteArray.empty)) (fun e6_0 =>
k e6_0) (fun e7_0 =>
strings_Join N e7_0 ((strOf [32])) fun r8 =>
k r8)))))))))))
theorem t_impl_FormatDiagram {β : Type} (N : Nat) (a0 : List (Int × Int × Int)) (k : ByteArray → Option β) : impl_FormatDiagram N a0 k = BV_impl_FormatDiagram N (impl_FormatDiagram_l0 N) a0 k := by
  unfold impl_FormatDiagram BV_impl_FormatDiagram
  rfl
theorem ve89_0 {β : Type} (N : Nat) (q_impl_FormatDiagram_1 : (a0 : Int) → (k : Bool → Option β) → Option β) (q_impl_FormatInt : (a0 : Int) → (k : ByteArray → Option β) → Option β) (q_impl_FormatDiagram_l0 : Nat → List (Int × Int × Int) → Int → Int → List ByteArray → (ByteArray → Option β) → (List ByteArray → Option β) → Option β)  (a0 : List (Int × Int × Int)) (K : TV → Option β) : evFn lay (VE89 N q_impl_FormatDiagram_1 q_impl_FormatInt q_impl_FormatDiagram_l0) Tryd.f89 [.v (.one (.sl 120 (.trips a0)))] K = BV_impl_FormatDiagram N q_impl_FormatDiagram_l0 a0 (fun z1 => K (.v (.one (.str z1)))) := by kernel_rfl
theorem e89_0 {β : Type} (N : Nat)  (a0 : List (Int × Int × Int)) (K : TV → Option β) : evFn lay (E89 N) Tryd.f89 [.v (.one (.sl 120 (.trips a0)))] K = impl_FormatDiagram N a0 (fun z1 => K (.v (.one (.str z1)))) := (ve89_0 N (impl_FormatDiagram_1 N) (impl_FormatInt N) (impl_FormatDiagram_l0 N) a0 K).trans (t_impl_FormatDiagram N a0 (fun z1 => K (.v (.one (.str z1))))).symm
theorem o89 {β : Type} (N : Nat) : SpecOK (β := β) inv Tryd.prog 89 (S89 N) := by
  refine spec_of lay_ok mixed (E := E89 N) (specs_loops (specs_cons (o151 N) (specs_cons (o64 N) (specs_cons (o126 N) specs_nil)))) muts_nil gs_nil Tryd.func89 (by kernel_rfl) 1 (by kernel_rfl) ⟨trivial, rk89_0 N⟩ fun args K r h => ?_
  unfold S89 VS89 at h
  split at h
  · exact (e89_0 N _ _).trans h
  · cases h
def VS60 {β : Type} (N : Nat) (q_impl_line_put_g0 : (a0 : List ByteArray) → (a1 : List ByteArray) → (k0 : List ByteArray → List ByteArray → Option β) → Option β) : GSpec β := fun args bl K => match args, bl with
  | [.v (.one (.ptr 0 0)), .v (.one (.row 1))], [.pcells 0 65 [.row 2], .prow 1 9 (.strs a0), .prow 2 9 (.strs a1)] => q_impl_line_put_g0 a0 a1 (fun y0 y1 => K (.tup []) [.pcells 0 65 [.row 2], .prow 1 9 (.strs y0), .row 9 (.strs y1)])
  | _, _ => none
def S60 {β : Type} (N : Nat) : GSpec β := VS60 N (impl_line_put_g0 N)
def VE60 {β : Type} (N : Nat) : Env β := ⟨[], [], [], [], ⟨[], [], [145], [149, 152, 199]⟩⟩
def E60 {β : Type} (N : Nat) : Env β := VE60 N
def BV_impl_line_put_g0 {β : Type} (N : Nat) (a0 : List ByteArray) (a1 : List ByteArray) (k0 : List ByteArray → List ByteArray → Option β) : Option β :=
(gd ((decide ((a1.length + a0.length) * 16 ≤ 140737488355328)))
(k0 a0 ((a1 ++ a0))))
theorem t_impl_line_put_g0 {β : Type} (N : Nat) (a0 : List ByteArray) (a1 : List ByteArray) (k0 : List ByteArray → List ByteArray → Option β) : impl_line_put_g0 N a0 a1 k0 = BV_impl_line_put_g0 N a0 a1 k0 := by
  unfold impl_line_put_g0 BV_impl_line_put_g0
  rfl
theorem ve60_0 {β : Type} (N : Nat) (a0 : List ByteArray) (a1 : List ByteArray) (K : TV → List Blk → Option β) : evFnG lay (VE60 N) Tryd.f60 [.v (.one (.ptr 0 0)), .v (.one (.row 1))] [.pcells 0 65 [.row 2], .prow 1 9 (.strs a0), .prow 2 9 (.strs a1)] K = BV_impl_line_put_g0 N a0 a1 (fun y0 y1 => K (.tup []) [.pcells 0 65 [.row 2], .prow 1 9 (.strs y0), .row 9 (.strs y1)]) := by kernel_rfl
theorem e60_0 {β : Type} (N : Nat) (a0 : List ByteArray) (a1 : List ByteArray) (K : TV → List Blk → Option β) : evFnG lay (E60 N) Tryd.f60 [.v (.one (.ptr 0 0)), .v (.one (.row 1))] [.pcells 0 65 [.row 2], .prow 1 9 (.strs a0), .prow 2 9 (.strs a1)] K = impl_line_put_g0 N a0 a1 (fun y0 y1 => K (.tup []) [.pcells 0 65 [.row 2], .prow 1 9 (.strs y0), .row 9 (.strs y1)]) := (ve60_0 N a0 a1 K).trans (t_impl_line_put_g0 N a0 a1 (fun y0 y1 => K (.tup []) [.pcells 0 65 [.row 2], .prow 1 9 (.strs y0), .row 9 (.strs y1)])).symm
theorem o60 {β : Type} (N : Nat) : GOK (β := β) inv Tryd.prog 60 (S60 N) := by
  refine g_of lay_ok mixed (E := E60 N) (specs_loops specs_nil) muts_nil gs_nil Tryd.func60 (by kernel_rfl) 0 (by kernel_rfl) trivial fun args bl K r h => ?_
  unfold S60 VS60 at h
  split at h
  · exact (e60_0 N _ _ _).trans h
  · cases h
def VS68 {β : Type} (N : Nat) (q_impl_line_text_g0 : (a0 : List ByteArray) → (k0 : ByteArray → List ByteArray → Option β) → Option β) : GSpec β := fun args bl K => match args, bl with
  | [.v (.one (.ptr 0 0))], [.pcells 0 65 [.row 1], .prow 1 9 (.strs a0)] => q_impl_line_text_g0 a0 (fun y0 y1 => K (.v (.one (.str y0))) [.pcells 0 65 [.row 1], .prow 1 9 (.strs y1)])
  | _, _ => none
def S68 {β : Type} (N : Nat) : GSpec β := VS68 N (impl_line_text_g0 N)
def VE68 {β : Type} (N : Nat) : Env β := ⟨[(126, S126 N)], [], [], [], ⟨[], [], [145], [149, 152, 199]⟩⟩
def E68 {β : Type} (N : Nat) : Env β := VE68 N
def BV_impl_line_text_g0 {β : Type} (N : Nat) (a0 : List ByteArray) (k0 : ByteArray → List ByteArray → Option β) : Option β :=
strings_Join N a0 ((strOf [32])) fun r11 =>
k0 r11 a0
theorem t_impl_line_text_g0 {β : Type} (N : Nat) (a0 : List ByteArray) (k0 : ByteArray → List ByteArray → Option β) : impl_line_text_g0 N a0 k0 = BV_impl_line_text_g0 N a0 k0 := by
  unfold impl_line_text_g0 BV_impl_line_text_g0
  rfl
theorem ve68_0 {β : Type} (N : Nat) (a0 : List ByteArray) (K : TV → List Blk → Option β) : evFnG lay (VE68 N) Tryd.f68 [.v (.one (.ptr 0 0))] [.pcells 0 65 [.row 1], .prow 1 9 (.strs a0)] K = BV_impl_line_text_g0 N a0 (fun y0 y1 => K (.v (.one (.str y0))) [.pcells 0 65 [.row 1], .prow 1 9 (.strs y1)]) := by kernel_rfl
theorem e68_0 {β : Type} (N : Nat) (a0 : List ByteArray) (K : TV → List Blk → Option β) : evFnG lay (E68 N) Tryd.f68 [.v (.one (.ptr 0 0))] [.pcells 0 65 [.row 1], .prow 1 9 (.strs a0)] K = impl_line_text_g0 N a0 (fun y0 y1 => K (.v (.one (.str y0))) [.pcells 0 65 [.row 1], .prow 1 9 (.strs y1)]) := (ve68_0 N a0 K).trans (t_impl_line_text_g0 N a0 (fun y0 y1 => K (.v (.one (.str y0))) [.pcells 0 65 [.row 1], .prow 1 9 (.strs y1)])).symm
theorem o68 {β : Type} (N : Nat) : GOK (β := β) inv Tryd.prog 68 (S68 N) := by
  refine g_of lay_ok mixed (E := E68 N) (specs_loops (specs_cons (o126 N) specs_nil)) muts_nil gs_nil Tryd.func68 (by kernel_rfl) 0 (by kernel_rfl) trivial fun args bl K r h => ?_
  unfold S68 VS68 at h
  split at h
  · exact (e68_0 N _ _).trans h
  · cases h
def VS28 {β : Type} (N : Nat) (q_impl_DiagramLine : (a0 : Int) → (a1 : Int) → (k : ByteArray → Option β) → Option β) : Rv.Spec β := fun args K => match args with
  | [.v (.agg [.int .i64 a0, .int .i64 a1])] => q_impl_DiagramLine a0 a1 (fun z2 => K (.v (.one (.str z2))))
  | _ => none
def S28 {β : Type} (N : Nat) : Rv.Spec β := VS28 N (impl_DiagramLine N)
def VE28 {β : Type} (N : Nat) (q_impl_LeastOrder : (a0 : Int) → (a1 : Int) → (k : List Int → Int → Bool → Option β) → Option β) (q_impl_listText : (a0 : List Int) → (k : ByteArray → Option β) → Option β) (q_impl_FormatInt : (a0 : Int) → (k : ByteArray → Option β) → Option β) (q_impl_Table_diagram : (a0 : Int) → (a1 : Int) → (a2 : List Int) → (k : List (Int × Int × Int) → Option β) → Option β) (q_impl_FormatDiagram : (a0 : List (Int × Int × Int)) → (k : ByteArray → Option β) → Option β) (q_impl_line_put_g0 : (a0 : List ByteArray) → (a1 : List ByteArray) → (k0 : List ByteArray → List ByteArray → Option β) → Option β) (q_impl_line_text_g0 : (a0 : List ByteArray) → (k0 : ByteArray → List ByteArray → Option β) → Option β) : Env β := ⟨[(88, VS88 N q_impl_LeastOrder), (61, VS61 N q_impl_listText), (64, VS64 N q_impl_FormatInt), (90, VS90 N q_impl_Table_diagram), (89, VS89 N q_impl_FormatDiagram)], [], [], [(60, VS60 N q_impl_line_put_g0), (68, VS68 N q_impl_line_text_g0)], ⟨[88], [], [145], [149, 152, 199]⟩⟩
def E28 {β : Type} (N : Nat) : Env β := VE28 N (impl_LeastOrder N) (impl_listText N) (impl_FormatInt N) (impl_Table_diagram N) (impl_FormatDiagram N) (impl_line_put_g0 N) (impl_line_text_g0 N)
def BV_impl_DiagramLine {β : Type} (N : Nat) (q_impl_LeastOrder : (a0 : Int) → (a1 : Int) → (k : List Int → Int → Bool → Option β) → Option β) (q_impl_listText : (a0 : List Int) → (k : ByteArray → Option β) → Option β) (q_impl_FormatInt : (a0 : Int) → (k : ByteArray → Option β) → Option β) (q_impl_Table_diagram : (a0 : Int) → (a1 : Int) → (a2 : List Int) → (k : List (Int × Int × Int) → Option β) → Option β) (q_impl_FormatDiagram : (a0 : List (Int × Int × Int)) → (k : ByteArray → Option β) → Option β) (q_impl_line_put_g0 : (a0 : List ByteArray) → (a1 : List ByteArray) → (k0 : List ByteArray → List ByteArray → Option β) → Option β) (q_impl_line_text_g0 : (a0 : List ByteArray) → (k0 : ByteArray → List ByteArray → Option β) → Option β) (a0 : Int) (a1 : Int) (k : ByteArray → Option β) : Option β :=
q_impl_LeastOrder a0 a1 fun r3 r4 r5 =>
(cond (!r5)
(k ByteArray.empty)
(q_impl_listText r3 fun r6 =>
q_impl_FormatInt r4 fun r7 =>
q_impl_Table_diagram a0 a1 r3 fun r8 =>
q_impl_FormatDiagram r8 fun r9 =>
q_impl_line_put_g0 ((((((((([] : List ByteArray) ++ [(strOf [100, 105, 97, 103, 114, 97, 109])]) ++ [(strOf [111, 114, 100, 101, 114])]) ++ [r6]) ++ [(strOf [115, 105, 122, 101])]) ++ [r7]) ++ [(strOf [110, 111, 100, 101, 115])]) ++ [r9])) (([] : List ByteArray)) (fun r10_0 r10_1 =>
q_impl_line_text_g0 r10_1 (fun r11_0 r11_1 =>
k r11_0))))
theorem t_impl_DiagramLine {β : Type} (N : Nat) (a0 : Int) (a1 : Int) (k : ByteArray → Option β) : impl_DiagramLine N a0 a1 k = BV_impl_DiagramLine N (impl_LeastOrder N) (impl_listText N) (impl_FormatInt N) (impl_Table_diagram N) (impl_FormatDiagram N) (impl_line_put_g0 N) (impl_line_text_g0 N) a0 a1 k := by
  unfold impl_DiagramLine BV_impl_DiagramLine
  rfl
theorem ve28_0 {β : Type} (N : Nat) (q_impl_LeastOrder : (a0 : Int) → (a1 : Int) → (k : List Int → Int → Bool → Option β) → Option β) (q_impl_listText : (a0 : List Int) → (k : ByteArray → Option β) → Option β) (q_impl_FormatInt : (a0 : Int) → (k : ByteArray → Option β) → Option β) (q_impl_Table_diagram : (a0 : Int) → (a1 : Int) → (a2 : List Int) → (k : List (Int × Int × Int) → Option β) → Option β) (q_impl_FormatDiagram : (a0 : List (Int × Int × Int)) → (k : ByteArray → Option β) → Option β) (q_impl_line_put_g0 : (a0 : List ByteArray) → (a1 : List ByteArray) → (k0 : List ByteArray → List ByteArray → Option β) → Option β) (q_impl_line_text_g0 : (a0 : List ByteArray) → (k0 : ByteArray → List ByteArray → Option β) → Option β)  (a0 : Int) (a1 : Int) (K : TV → Option β) : evFn lay (VE28 N q_impl_LeastOrder q_impl_listText q_impl_FormatInt q_impl_Table_diagram q_impl_FormatDiagram q_impl_line_put_g0 q_impl_line_text_g0) Tryd.f28 [.v (.agg [.int .i64 a0, .int .i64 a1])] K = BV_impl_DiagramLine N q_impl_LeastOrder q_impl_listText q_impl_FormatInt q_impl_Table_diagram q_impl_FormatDiagram q_impl_line_put_g0 q_impl_line_text_g0 a0 a1 (fun z2 => K (.v (.one (.str z2)))) := by kernel_rfl
theorem e28_0 {β : Type} (N : Nat)  (a0 : Int) (a1 : Int) (K : TV → Option β) : evFn lay (E28 N) Tryd.f28 [.v (.agg [.int .i64 a0, .int .i64 a1])] K = impl_DiagramLine N a0 a1 (fun z2 => K (.v (.one (.str z2)))) := (ve28_0 N (impl_LeastOrder N) (impl_listText N) (impl_FormatInt N) (impl_Table_diagram N) (impl_FormatDiagram N) (impl_line_put_g0 N) (impl_line_text_g0 N) a0 a1 K).trans (t_impl_DiagramLine N a0 a1 (fun z2 => K (.v (.one (.str z2))))).symm
theorem o28 {β : Type} (N : Nat) : SpecOK (β := β) inv Tryd.prog 28 (S28 N) := by
  refine spec_of lay_ok mixed (E := E28 N) (specs_loops (specs_cons (o88 N) (specs_cons (o61 N) (specs_cons (o64 N) (specs_cons (o90 N) (specs_cons (o89 N) specs_nil)))))) muts_nil (gs_cons (o60 N) (gs_cons (o68 N) gs_nil)) Tryd.func28 (by kernel_rfl) 0 (by kernel_rfl) trivial fun args K r h => ?_
  unfold S28 VS28 at h
  split at h
  · exact (e28_0 N _ _ _).trans h
  · cases h
def VS8 {β : Type} (N : Nat) (q_laws_FnExactDiagramLine : (a0 : Int) → (a1 : Int) → (k : Bool → Option β) → Option β) : Rv.Spec β := fun args K => match args with
  | [.v (.agg [.int .i64 a0, .int .i64 a1])] => q_laws_FnExactDiagramLine a0 a1 (fun z2 => K (.v (.one (.bool z2))))
  | _ => none
def S8 {β : Type} (N : Nat) : Rv.Spec β := VS8 N (laws_FnExactDiagramLine N)
def VE8 {β : Type} (N : Nat) (q_laws_toTable : (a0 : Int) → (a1 : Int) → (k : Int → Int → Option β) → Option β) (q_spec_DiagramLine : (a0 : Int) → (a1 : Int) → (k : ByteArray → Option β) → Option β) (q_impl_DiagramLine : (a0 : Int) → (a1 : Int) → (k : ByteArray → Option β) → Option β) : Env β := ⟨[(11, VS11 N q_laws_toTable), (27, VS27 N q_spec_DiagramLine), (28, VS28 N q_impl_DiagramLine)], [], [], [], ⟨[], [], [145], [149, 152, 199]⟩⟩
def E8 {β : Type} (N : Nat) : Env β := VE8 N (laws_toTable N) (spec_DiagramLine N) (impl_DiagramLine N)
def BV_laws_FnExactDiagramLine {β : Type} (N : Nat) (q_laws_toTable : (a0 : Int) → (a1 : Int) → (k : Int → Int → Option β) → Option β) (q_spec_DiagramLine : (a0 : Int) → (a1 : Int) → (k : ByteArray → Option β) → Option β) (q_impl_DiagramLine : (a0 : Int) → (a1 : Int) → (k : ByteArray → Option β) → Option β) (a0 : Int) (a1 : Int) (k : Bool → Option β) : Option β :=
q_laws_toTable a0 a1 fun r3 r4 =>
q_spec_DiagramLine r3 r4 fun r5 =>
q_laws_toTable a0 a1 fun r6 r7 =>
q_impl_DiagramLine r6 r7 fun r8 =>
(cond ((!(r8.toList == r5.toList)))
(k false)
(k true))
theorem t_laws_FnExactDiagramLine {β : Type} (N : Nat) (a0 : Int) (a1 : Int) (k : Bool → Option β) : laws_FnExactDiagramLine N a0 a1 k = BV_laws_FnExactDiagramLine N (laws_toTable N) (spec_DiagramLine N) (impl_DiagramLine N) a0 a1 k := by
  unfold laws_FnExactDiagramLine BV_laws_FnExactDiagramLine
  rfl
theorem ve8_0 {β : Type} (N : Nat) (q_laws_toTable : (a0 : Int) → (a1 : Int) → (k : Int → Int → Option β) → Option β) (q_spec_DiagramLine : (a0 : Int) → (a1 : Int) → (k : ByteArray → Option β) → Option β) (q_impl_DiagramLine : (a0 : Int) → (a1 : Int) → (k : ByteArray → Option β) → Option β)  (a0 : Int) (a1 : Int) (K : TV → Option β) : evFn lay (VE8 N q_laws_toTable q_spec_DiagramLine q_impl_DiagramLine) Tryd.f8 [.v (.agg [.int .i64 a0, .int .i64 a1])] K = BV_laws_FnExactDiagramLine N q_laws_toTable q_spec_DiagramLine q_impl_DiagramLine a0 a1 (fun z2 => K (.v (.one (.bool z2)))) := by kernel_rfl
theorem e8_0 {β : Type} (N : Nat)  (a0 : Int) (a1 : Int) (K : TV → Option β) : evFn lay (E8 N) Tryd.f8 [.v (.agg [.int .i64 a0, .int .i64 a1])] K = laws_FnExactDiagramLine N a0 a1 (fun z2 => K (.v (.one (.bool z2)))) := (ve8_0 N (laws_toTable N) (spec_DiagramLine N) (impl_DiagramLine N) a0 a1 K).trans (t_laws_FnExactDiagramLine N a0 a1 (fun z2 => K (.v (.one (.bool z2))))).symm
theorem o8 {β : Type} (N : Nat) : SpecOK (β := β) inv Tryd.prog 8 (S8 N) := by
  refine spec_of lay_ok mixed (E := E8 N) (specs_loops (specs_cons (o11 N) (specs_cons (o27 N) (specs_cons (o28 N) specs_nil)))) muts_nil gs_nil Tryd.func8 (by kernel_rfl) 0 (by kernel_rfl) trivial fun args K r h => ?_
  unfold S8 VS8 at h
  split at h
  · exact (e8_0 N _ _ _).trans h
  · cases h
end Go.Proofs.YtfdggelojmofmaaDoor
