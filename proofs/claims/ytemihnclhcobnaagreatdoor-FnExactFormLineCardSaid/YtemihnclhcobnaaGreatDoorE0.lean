/- The functions that the claims dl bK as their texts do. -/
import Derived.Test.YtemihnclhcobnaaGreatDoorT0
import Derived.Test.YtemihnclhcobnaaGreatDoorProg
import Derived.KernelRfl
import Derived.Test.YtemihnclhcobnaaGreatDoorShelf
import Derived.Test.YtemihnclhcobnaaGreatDoorCloneP
namespace Go.Proofs.YtemihnclhcobnaaGreatDoor
set_option linter.unusedSimpArgs false
open Go.Rv
set_option maxRecDepth 100000
set_option maxHeartbeats 2000000
set_option linter.unusedVariables false
variable {β : Type}
abbrev Z' (x : Int) : TV := .v (.one (.int .i64 x))
def RC (L : Lay) (E : Env β) (ret : Nat) (l : bV) (sp : ay β) : Prop := ∀ s K r, sp s K = some r → ∃ F, l.rounds L E ret F s K = some r
theorem rks {L : Lay} {E : Env β} {ret : Nat} {l : bV} {sp : ay β} (hk : aS E.loops l.id = sp) (h : RC L E ret l sp) : az L E ret l := fun s K r e => h s K r (by rw [hk] at e; exact e)
theorem rc0 {L : Lay} {E : Env β} {ret : Nat} {l : bV} : RC L E ret l fun _ _ => none := fun s K r h => by cases h
theorem rc1 {L : Lay} {E : Env β} {ret : Nat} {l : bV} {h0 : St} {P Q : ay β} (hr : ∀ s K, aK h0 s = true → ∃ F, l.rounds L E ret F s K = P s K) (hq : RC L E ret l Q) : RC L E ret l fun s K => cond (aK h0 s) (P s K) (Q s K) := by
 intro s K r h
 dsimp only at h
 cases hb : aK h0 s with
 | true => rw [hb, YC] at h; obtain ⟨F, e⟩ := hr s K hb; exact ⟨F, e.trans h⟩
 | false => rw [hb, YB] at h; exact hq s K r h
variable (zq0 : Y0 β) (zq1 zq2 : Y1 β) (zq3 : Y2 β) (zq4 : Y0 β) (zq5 zq6 : Y1 β) (zq8 : Y4 β) (zq9 : Y3 β) (zq10 : Y5 β) (zq11 : Y6 β) (zq12 : Y7 β) (zq13 : Y8 β) (zq15 : Y9 β) (zq16 : Y1 β) (zq18 : Y11 β) (zq19 : Y10 β) (zq20 : Y12 β) (zq22 : Y13 β) (zq23 : Y7 β) (zq25 : Y15 β) (zq26 : Y14 β) (zq27 : Y16 β)
def lay : Lay := [(1, .func),
 (2, .int .i64),
 (3, .int .i64),
 (4, .bool),
 (5, .int .u8),
 (9, .string),
 (12, .int .u64),
 (21, .int .i32),
 (22, .struct [⟨0, 1, false⟩, ⟨1, 1, false⟩] [3, 3] 16 true),
 (23, .struct [⟨0, 1, false⟩, ⟨1, 1, false⟩] [3, 3] 16 true),
 (25, .struct [⟨0, 1, false⟩, ⟨1, 1, false⟩] [3, 3] 16 true),
 (40, .slice 3),
 (44, .slice 9),
 (45, .struct [⟨0, 1, false⟩] [44] 24 false),
 (46, .struct [⟨0, 1, false⟩] [44] 24 false),
 (55, .slice 93),
 (66, .int .u64),
 (68, .slice 5),
 (80, .pointer 46),
 (84, .map 3 4),
 (92, .struct [⟨0, 1, false⟩, ⟨1, 1, false⟩] [3, 3] 16 true),
 (93, .struct [⟨0, 1, false⟩, ⟨1, 1, false⟩] [3, 3] 16 true),
 (104, .pointer 193),
 (107, .pointer 166),
 (119, .pointer 173),
 (122, .struct [⟨0, 1, false⟩, ⟨1, 1, false⟩] [3, 3] 16 true),
 (123, .struct [⟨0, 1, false⟩, ⟨1, 1, false⟩] [3, 3] 16 true),
 (124, .slice 40),
 (136, .int .u64),
 (137, .pointer 139),
 (138, .struct [⟨0, 1, false⟩, ⟨1, 1, false⟩] [137, 68] 32 false),
 (139, .struct [⟨0, 1, false⟩, ⟨1, 1, false⟩] [137, 68] 32 false),
 (165, .struct [⟨0, 1, false⟩, ⟨1, 1, false⟩, ⟨2, 1, false⟩] [5, 107, 107] 24 false),
 (166, .struct [⟨0, 1, false⟩, ⟨1, 1, false⟩, ⟨2, 1, false⟩] [5, 107, 107] 24 false),
 (171, .map 123 3),
 (172, .struct [⟨0, 2, true⟩, ⟨2, 1, false⟩, ⟨3, 1, false⟩] [3, 3, 171, 171] 32 false),
 (173, .struct [⟨0, 2, true⟩, ⟨2, 1, false⟩, ⟨3, 1, false⟩] [3, 3, 171, 171] 32 false),
 (181, .pointer 5),
 (182, .slice 4),
 (192, .struct [⟨0, 1, false⟩, ⟨1, 1, false⟩, ⟨2, 1, false⟩] [5, 104, 104] 24 false),
 (193, .struct [⟨0, 1, false⟩, ⟨1, 1, false⟩, ⟨2, 1, false⟩] [5, 104, 104] 24 false),
 (194, .array 2 4),
 (202, .int .u32),
 (217, .struct [⟨0, 1, false⟩, ⟨1, 1, false⟩] [5, 5] 2 true),
 (218, .struct [⟨0, 1, false⟩, ⟨1, 1, false⟩] [5, 5] 2 true)]

theorem ax : aJ Tryz.prog lay := Jn (by decide +kernel)
theorem mixed : Tryz.prog.follows .mixedOrders = true := by kernel_rfl
def inv : World → Prop := sC Tryz.prog
def UO (N : Nat) : Rv.Spec β := qY N
theorem XC (N : Nat) : ap (β := β) inv Tryz.prog 104 (UO N) := Nd Tryz.func104 (by kernel_rfl) Tryz.strconv_Itoa N
def RB (N : Nat) : Rv.Spec β := q5 N
theorem Wb (N : Nat) : ap (β := β) inv Tryz.prog 106 (RB N) := Ng Tryz.func106 (by kernel_rfl) Tryz.strings_Join_none Tryz.strings_Join N
def U5 (N : Nat) : Rv.Spec β := mm 93 N
theorem XR (N : Nat) : ap (β := β) inv Tryz.prog 153 (U5 N) := E3 Tryz.func153 (by kernel_rfl) A7 yC N
def Dn (N : Nat) : Rv.Spec β := fun args K => match args with
 | [.v (.one (.int .i64 a0)), .v (.one (.cref [.int .i64 c0] 0))] => zq0 a0 c0 (fun z1 => K (.v (.one (.bool z1))))
 | _ => none
def Vu (N : Nat) : Rv.Spec β := Dn (zj0 N) N
def QX (N : Nat) : Env β := ⟨[], [], [], [], ⟨[], [], [], []⟩⟩
def Xo (N : Nat) : Env β := QX N
theorem P2 (N : Nat) (a0 c0 : Int) (K : TV → O β) : aQ lay (QX N) Tryz.f238 [(Z' a0), .v (.one (.cref [.int .i64 c0] 0))] K = zb0 N a0 c0 (fun z1 => K (.v (.one (.bool z1)))) := by kernel_rfl
theorem Wq (N : Nat) : ap (β := β) inv Tryz.prog 238 (Vu N) := by
 refine aq ax mixed (E := Xo N) (af ai) ak aA Tryz.func238 (by kernel_rfl) 0 (by kernel_rfl) trivial fun args K r h => ?_
 unfold Vu Dn at h
 split at h
 ·exact (P2 N _ _ _).trans h
 ·cases h
def Dl (N : Nat) : Rv.Spec β := fun args K => match args with
 | [.v (.agg [.int .i64 a0, .int .i64 a1]), .v (.one (.int .i64 a2))] => zq1 a0 a1 a2 (fun z3 => K (.v (.one (.bool z3))))
 | _ => none
def Vh (N : Nat) : Rv.Spec β := Dl (zj1 N) N
def QP (N : Nat) : Env β := ⟨[], [], [], [], ⟨[], [], [], []⟩⟩
def Xg (N : Nat) : Env β := QP N
theorem PI (N : Nat) (a0 a1 a2 : Int) (K : TV → O β) : aQ lay (QP N) Tryz.f195 [.v (.agg [.int .i64 a0, .int .i64 a1]), (Z' a2)] K = zb1 N a0 a1 a2 (fun z3 => K (.v (.one (.bool z3)))) := by kernel_rfl
theorem Wm (N : Nat) : ap (β := β) inv Tryz.prog 195 (Vh N) := by
 refine aq ax mixed (E := Xg N) (af ai) ak aA Tryz.func195 (by kernel_rfl) 0 (by kernel_rfl) trivial fun args K r h => ?_
 unfold Vh Dl at h
 split at h
 ·exact (PI N _ _ _ _).trans h
 ·cases h
def yp (N : Nat) : Rv.Spec β := fun args K => match args with
 | [.v (.agg [.int .i64 a0, .int .i64 a1]), .v (.one (.cref [.int .i64 c0] 0))] => zq2 a0 a1 c0 (fun z2 => K (.v (.one (.bool z2))))
 | _ => none
def Vg (N : Nat) : Rv.Spec β := yp (zj2 N) N
def QO (N : Nat) : Env β := ⟨[(195, Dl zq1 N)], [], [], [], ⟨[], [], [], []⟩⟩
def Xf (N : Nat) : Env β := QO (zj1 N) N
theorem PH (N : Nat) (a0 a1 c0 : Int) (K : TV → O β) : aQ lay (QO zq1 N) Tryz.f194 [.v (.agg [.int .i64 a0, .int .i64 a1]), .v (.one (.cref [.int .i64 c0] 0))] K = zb2 zq1 N a0 a1 c0 (fun z2 => K (.v (.one (.bool z2)))) := by kernel_rfl
theorem ST (N : Nat) : ap (β := β) inv Tryz.prog 194 (Vg N) := by
 refine aq ax mixed (E := Xf N) (af (aa (Wm N) ai)) ak aA Tryz.func194 (by kernel_rfl) 0 (by kernel_rfl) trivial fun args K r h => ?_
 unfold Vg yp at h
 split at h
 ·exact (PH (zj1 N) N _ _ _ _).trans h
 ·cases h
def Ir (N : Nat) : Rv.Spec β := fun args K => match args with
 | [.v (.one (.int .i64 a0))] => zq3 a0 (fun z1 => K (.v (.one (.bool z1))))
 | _ => none
def S99 (N : Nat) : Rv.Spec β := Ir (zj3 N) N
def VP (N : Nat) : Env β := ⟨[], [], [], [], ⟨[], [], [], []⟩⟩
def E99 (N : Nat) : Env β := VP N
theorem TZ (N : Nat) (a0 : Int) (K : TV → O β) : aQ lay (VP N) Tryz.f99 [(Z' a0)] K = zb3 N a0 (fun z1 => K (.v (.one (.bool z1)))) := by kernel_rfl
theorem o99 (N : Nat) : ap (β := β) inv Tryz.prog 99 (S99 N) := by
 refine aq ax mixed (E := E99 N) (af ai) ak aA Tryz.func99 (by kernel_rfl) 0 (by kernel_rfl) trivial fun args K r h => ?_
 unfold S99 Ir at h
 split at h
 ·exact (TZ N _ _).trans h
 ·cases h
def Ij (N : Nat) : Rv.Spec β := fun args K => match args with
 | [.v (.one (.int .i64 a0)), .v (.one (.int .i64 a1))] => zq4 a0 a1 (fun z2 => K (.v (.one (.bool z2))))
 | _ => none
def Vs (N : Nat) : Rv.Spec β := Ij (zj4 N) N
def QV (N : Nat) : Env β := ⟨[], [], [], [], ⟨[], [], [], []⟩⟩
def Xm (N : Nat) : Env β := QV N
theorem PZ (N : Nat) (a0 a1 : Int) (K : TV → O β) : aQ lay (QV N) Tryz.f233 [(Z' a0), (Z' a1)] K = zb4 N a0 a1 (fun z2 => K (.v (.one (.bool z2)))) := by kernel_rfl
theorem X8 (N : Nat) : ap (β := β) inv Tryz.prog 233 (Vs N) := by
 refine aq ax mixed (E := Xm N) (af ai) ak aA Tryz.func233 (by kernel_rfl) 0 (by kernel_rfl) trivial fun args K r h => ?_
 unfold Vs Ij at h
 split at h
 ·exact (PZ N _ _ _).trans h
 ·cases h
def Dj (N : Nat) : Rv.Spec β := fun args K => match args with
 | [.v (.one (.int .i64 a0)), .v (.agg [.int .i64 a1, .int .i64 a2])] => zq5 a0 a1 a2 (fun z3 => K (.v (.one (.bool z3))))
 | _ => none
def Ve (N : Nat) : Rv.Spec β := Dj (zj5 N) N
def QM (N : Nat) : Env β := ⟨[(99, Ir zq3 N), (233, Ij zq4 N)], [], [], [], ⟨[], [], [], []⟩⟩
def Xd (N : Nat) : Env β := QM (zj3 N) (zj4 N) N
theorem PF (N : Nat) (a0 a1 a2 : Int) (K : TV → O β) : aQ lay (QM zq3 zq4 N) Tryz.f192 [(Z' a0), .v (.agg [.int .i64 a1, .int .i64 a2])] K = zb5 zq3 zq4 N a0 a1 a2 (fun z3 => K (.v (.one (.bool z3)))) := by kernel_rfl
theorem Wk (N : Nat) : ap (β := β) inv Tryz.prog 192 (Ve N) := by
 refine aq ax mixed (E := Xd N) (af (aa (o99 N) (aa (X8 N) ai))) ak aA Tryz.func192 (by kernel_rfl) 0 (by kernel_rfl) trivial fun args K r h => ?_
 unfold Ve Dj at h
 split at h
 ·exact (PF (zj3 N) (zj4 N) N _ _ _ _).trans h
 ·cases h
def yo (N : Nat) : Rv.Spec β := fun args K => match args with
 | [.v (.agg [.int .i64 a0, .int .i64 a1]), .v (.one (.cref [.int .i64 c0] 0))] => zq6 a0 a1 c0 (fun z2 => K (.v (.one (.bool z2))))
 | _ => none
def Vd (N : Nat) : Rv.Spec β := yo (zj6 N) N
def QL (N : Nat) : Env β := ⟨[(192, Dj zq5 N)], [], [], [], ⟨[], [], [], []⟩⟩
def Xc (N : Nat) : Env β := QL (zj5 N) N
theorem PE (N : Nat) (a0 a1 c0 : Int) (K : TV → O β) : aQ lay (QL zq5 N) Tryz.f191 [.v (.agg [.int .i64 a0, .int .i64 a1]), .v (.one (.cref [.int .i64 c0] 0))] K = zb6 zq5 N a0 a1 c0 (fun z2 => K (.v (.one (.bool z2)))) := by kernel_rfl
theorem SN (N : Nat) : ap (β := β) inv Tryz.prog 191 (Vd N) := by
 refine aq ax mixed (E := Xc N) (af (aa (Wk N) ai)) ak aA Tryz.func191 (by kernel_rfl) 0 (by kernel_rfl) trivial fun args K r h => ?_
 unfold Vd yo at h
 split at h
 ·exact (PE (zj5 N) N _ _ _ _).trans h
 ·cases h
def Ii (N : Nat) : Rv.Spec β := fun args K => match args with
 | [.v (.one (.sl 93 (.pairs a0))), .v (.one (.dfn 194 [([.int .i64 q0], 0)]))] => zq9 a0 (fun x0 x1 k => zq2 x0 x1 q0 k) (fun z2 => K (.v (.one (.int .i64 z2))))
 | [.v (.one (.sl 93 (.pairs a0))), .v (.one (.dfn 191 [([.int .i64 q0], 0)]))] => zq9 a0 (fun x0 x1 k => zq6 x0 x1 q0 k) (fun z2 => K (.v (.one (.int .i64 z2))))
 | _ => none
def Vr (N : Nat) : Rv.Spec β := Ii (zj2 N) (zj6 N) (zj9 N) N
def gZ (q0 : Int) (v0 : List (Int × Int)) (v1 v2 : Int) : St := ⟨.v (.one (.sl 93 (.pairs v0))) :: .v (.one (.dfn 194 [([.int .i64 q0], 0)])) :: tn 5 ((Z' v1) :: (Z' v2) :: tn 10 []), []⟩
def kM (q0 y0 : Int) : St := ⟨tn 4 ((Z' y0) :: tn 14 []), []⟩
def kN (q0 : Int) : St := ⟨tn 19 [], []⟩
def g5 (q0 : Int) (v0 : List (Int × Int)) (v1 v2 : Int) : St := ⟨.v (.one (.sl 93 (.pairs v0))) :: .v (.one (.dfn 191 [([.int .i64 q0], 0)])) :: tn 5 ((Z' v1) :: (Z' v2) :: tn 10 []), []⟩
def kO (q0 y0 : Int) : St := ⟨tn 4 ((Z' y0) :: tn 14 []), []⟩
def kP (q0 : Int) : St := ⟨tn 19 [], []⟩
def rV {γ : Type} (f : Int → (List (Int × Int)) → Int → Int → γ) (s : St) : γ := f (wy (nx .no (nx ([], 0) (yH (ag (vT (nx ac s.tmps 1)))) 0).1 0)) (aL (bg (ag (vT (nx ac s.tmps 0))))) (ae (ag (vT (nx ac s.tmps 7)))) (ae (ag (vT (nx ac s.tmps 8))))
theorem FO (s : St) : aT (gZ 0 [] 0 0) s = rV gZ s := by kernel_rfl
def rW {γ : Type} (f : Int → (List (Int × Int)) → Int → Int → γ) (s : St) : γ := f (wy (nx .no (nx ([], 0) (yH (ag (vT (nx ac s.tmps 1)))) 0).1 0)) (aL (bg (ag (vT (nx ac s.tmps 0))))) (ae (ag (vT (nx ac s.tmps 7)))) (ae (ag (vT (nx ac s.tmps 8))))
theorem FP (s : St) : aT (g5 0 [] 0 0) s = rW g5 s := by kernel_rfl
def yi (N : Nat) : ay β := fun s K => cond (aK (gZ 0 [] 0 0) s) (rV (fun q0 v0 v1 v2 => zq8 (fun x0 x1 k => zq2 x0 x1 q0 k) N v0 v1 v2 (fun y0 => K .ret (kM q0 y0)) (K (.exit 0) (kN q0 ))) s) (cond (aK (g5 0 [] 0 0) s) (rW (fun q0 v0 v1 v2 => zq8 (fun x0 x1 k => zq6 x0 x1 q0 k) N v0 v1 v2 (fun y0 => K .ret (kO q0 y0)) (K (.exit 0) (kP q0 ))) s) (none))
def MH (N : Nat) : ay β := yi (zj2 N) (zj6 N) (zj8 N) N
def xH (N : Nat) : Env β := ⟨[(194, yp zq2 N), (191, yo zq6 N)], [], [(0, yi zq2 zq6 zq8 N)], [], ⟨[], [], [], []⟩⟩
def Hx (N : Nat) : Env β := xH (zj2 N) (zj6 N) (zj8 N) N
theorem CD (N : Nat) (q0 : Int) (v0 : List (Int × Int)) (v1 v2 : Int) (rec_ : St → O β) (K : Exit → St → O β) :
  stB lay (xH zq2 zq6 zq8 N) Tryz.f232 0 (gZ q0 v0 v1 v2) rec_ K = zb7 N (fun x0 x1 k => zq2 x0 x1 q0 k) v0 v1 v2 (fun v0 v1 v2 => rec_ (gZ q0 v0 v1 v2)) (fun y0 => K .ret (kM q0 y0)) (K (.exit 0) (kN q0 )) := by kernel_rfl
theorem GQ (N : Nat) (q0 : Int) (K : Exit → St → O β) : ∀ (F : Nat) (v0 : List (Int × Int)) (v1 v2 : Int), (lp Tryz.f232 0).rounds lay (Hx N) (ah Tryz.f232) F (gZ q0 v0 v1 v2) K = zj8 N (fun x0 x1 k => zj2 N x0 x1 q0 k) F v0 v1 v2 (fun y0 => K .ret (kM q0 y0)) (K (.exit 0) (kN q0 )) := by
 intro F; induction F with
 | zero => intros; rfl
 | succ F ih => intros; rw [am]; refine (CD (zj2 N) (zj6 N) (zj8 N) N q0 _ _ _ (fun s => (lp Tryz.f232 0).rounds lay (Hx N) (ah Tryz.f232) F s K) K).trans ?_; simp only [ih]; rfl
theorem CE (N : Nat) (q0 : Int) (v0 : List (Int × Int)) (v1 v2 : Int) (rec_ : St → O β) (K : Exit → St → O β) :
  stB lay (xH zq2 zq6 zq8 N) Tryz.f232 0 (g5 q0 v0 v1 v2) rec_ K = zb7 N (fun x0 x1 k => zq6 x0 x1 q0 k) v0 v1 v2 (fun v0 v1 v2 => rec_ (g5 q0 v0 v1 v2)) (fun y0 => K .ret (kO q0 y0)) (K (.exit 0) (kP q0 )) := by kernel_rfl
theorem GR (N : Nat) (q0 : Int) (K : Exit → St → O β) : ∀ (F : Nat) (v0 : List (Int × Int)) (v1 v2 : Int), (lp Tryz.f232 0).rounds lay (Hx N) (ah Tryz.f232) F (g5 q0 v0 v1 v2) K = zj8 N (fun x0 x1 k => zj6 N x0 x1 q0 k) F v0 v1 v2 (fun y0 => K .ret (kO q0 y0)) (K (.exit 0) (kP q0 )) := by
 intro F; induction F with
 | zero => intros; rfl
 | succ F ih => intros; rw [am]; refine (CE (zj2 N) (zj6 N) (zj8 N) N q0 _ _ _ (fun s => (lp Tryz.f232 0).rounds lay (Hx N) (ah Tryz.f232) F s K) K).trans ?_; simp only [ih]; rfl
theorem NS (N : Nat) : aS (Hx (β := β) N).loops (lp Tryz.f232 0).id = MH N := by kernel_rfl
theorem OP (N : Nat) : az lay (Hx (β := β) N) (ah Tryz.f232) (lp Tryz.f232 0) := rks (NS ..) (rc1 (fun s K hb => ⟨N, by rw [← ar hb, FO s]; unfold rV; exact GQ N _ K N _ _ _⟩) (rc1 (fun s K hb => ⟨N, by rw [← ar hb, FP s]; unfold rW; exact GR N _ K N _ _ _⟩) rc0))
theorem PX (N : Nat) (q0 : Int) (a0 : List (Int × Int)) (K : TV → O β) : aQ lay (xH zq2 zq6 zq8 N) Tryz.f232 [.v (.one (.sl 93 (.pairs a0))), .v (.one (.dfn 194 [([.int .i64 q0], 0)]))] K = zb9 zq8 N a0 (fun x0 x1 k => zq2 x0 x1 q0 k) (fun z2 => K ((Z' z2))) := by kernel_rfl
theorem PY (N : Nat) (q0 : Int) (a0 : List (Int × Int)) (K : TV → O β) : aQ lay (xH zq2 zq6 zq8 N) Tryz.f232 [.v (.one (.sl 93 (.pairs a0))), .v (.one (.dfn 191 [([.int .i64 q0], 0)]))] K = zb9 zq8 N a0 (fun x0 x1 k => zq6 x0 x1 q0 k) (fun z2 => K ((Z' z2))) := by kernel_rfl
theorem X7 (N : Nat) : ap (β := β) inv Tryz.prog 232 (Vr N) := by
 refine aq ax mixed (E := Hx N) (af (aa (ST N) (aa (SN N) ai))) ak aA Tryz.func232 (by kernel_rfl) 1 (by kernel_rfl) ⟨trivial, OP N⟩ fun args K r h => ?_
 unfold Vr Ii at h
 split at h
 ·exact (PX (zj2 N) (zj6 N) (zj8 N) N _ _ _).trans h
 ·exact (PY (zj2 N) (zj6 N) (zj8 N) N _ _ _).trans h
 ·cases h
def Di (N : Nat) : Rv.Spec β := fun args K => match args with
 | [.v (.one (.sl 93 (.pairs a0))), .v (.one (.dfn 194 [([.int .i64 q0], 0)]))] => zq10 a0 (fun x0 x1 k => zq2 x0 x1 q0 k) (fun z2 => K (.v (.one (.bool z2))))
 | [.v (.one (.sl 93 (.pairs a0))), .v (.one (.dfn 191 [([.int .i64 q0], 0)]))] => zq10 a0 (fun x0 x1 k => zq6 x0 x1 q0 k) (fun z2 => K (.v (.one (.bool z2))))
 | _ => none
def Vc (N : Nat) : Rv.Spec β := Di (zj2 N) (zj6 N) (tD N) N
def HO (N : Nat) : Env β := ⟨[(232, Ii zq2 zq6 zq9 N), (194, yp zq2 N), (191, yo zq6 N)], [], [], [], ⟨[], [], [], []⟩⟩
def Xb (N : Nat) : Env β := HO (zj2 N) (zj6 N) (zj9 N) N
theorem PC (N : Nat) (q0 : Int) (a0 : List (Int × Int)) (K : TV → O β) : aQ lay (HO zq2 zq6 zq9 N) Tryz.f190 [.v (.one (.sl 93 (.pairs a0))), .v (.one (.dfn 194 [([.int .i64 q0], 0)]))] K = KL zq9 N a0 (fun x0 x1 k => zq2 x0 x1 q0 k) (fun z2 => K (.v (.one (.bool z2)))) := by kernel_rfl
theorem PD (N : Nat) (q0 : Int) (a0 : List (Int × Int)) (K : TV → O β) : aQ lay (HO zq2 zq6 zq9 N) Tryz.f190 [.v (.one (.sl 93 (.pairs a0))), .v (.one (.dfn 191 [([.int .i64 q0], 0)]))] K = KL zq9 N a0 (fun x0 x1 k => zq6 x0 x1 q0 k) (fun z2 => K (.v (.one (.bool z2)))) := by kernel_rfl
theorem Wj (N : Nat) : ap (β := β) inv Tryz.prog 190 (Vc N) := by
 refine aq ax mixed (E := Xb N) (af (aa (X7 N) (aa (ST N) (aa (SN N) ai)))) ak aA Tryz.func190 (by kernel_rfl) 0 (by kernel_rfl) trivial fun args K r h => ?_
 unfold Vc Di at h
 split at h
 ·exact (PC (zj2 N) (zj6 N) (zj9 N) N _ _ _).trans h
 ·exact (PD (zj2 N) (zj6 N) (zj9 N) N _ _ _).trans h
 ·cases h
def Dk (N : Nat) : Rv.Spec β := fun args K => match args with
 | [.v (.one (.int .i64 a0)), .v (.one (.cref [.sl 93 (.pairs c0)] 0))] => zq11 a0 c0 (fun z1 => K (.v (.one (.bool z1))))
 | _ => none
def Vf (N : Nat) : Rv.Spec β := Dk (il N) N
def QN (N : Nat) : Env β := ⟨[(190, Di zq2 zq6 zq10 N), (194, yp zq2 N)], [], [], [], ⟨[], [], [], []⟩⟩
def Xe (N : Nat) : Env β := QN (zj2 N) (zj6 N) (tD N) N
theorem PG (N : Nat) (a0 : Int) (c0 : List (Int × Int)) (K : TV → O β) : aQ lay (QN zq2 zq6 zq10 N) Tryz.f193 [(Z' a0), .v (.one (.cref [.sl 93 (.pairs c0)] 0))] K = P7 zq2 zq10 N a0 c0 (fun z1 => K (.v (.one (.bool z1)))) := by kernel_rfl
theorem Wl (N : Nat) : ap (β := β) inv Tryz.prog 193 (Vf N) := by
 refine aq ax mixed (E := Xe N) (af (aa (Wj N) (aa (ST N) ai))) ak aA Tryz.func193 (by kernel_rfl) 0 (by kernel_rfl) trivial fun args K r h => ?_
 unfold Vf Dk at h
 split at h
 ·exact (PG (zj2 N) (zj6 N) (tD N) N _ _ _).trans h
 ·cases h
def oZ (N : Nat) : Rv.Spec β := fun args K => match args with
 | [.v (.agg [.int .i64 a0, .int .i64 a1])] => zq12 a0 a1 (fun z2 => K (.v (.one (.int .i64 z2))))
 | _ => none
def UM (N : Nat) : Rv.Spec β := oZ (db N) N
def QA (N : Nat) : Env β := ⟨[], [], [], [], ⟨[], [], [], []⟩⟩
def W0 (N : Nat) : Env β := QA N
theorem O8 (N : Nat) (a0 a1 : Int) (K : TV → O β) : aQ lay (QA N) Tryz.f100 [.v (.agg [.int .i64 a0, .int .i64 a1])] K = CJ N a0 a1 (fun z2 => K ((Z' z2))) := by kernel_rfl
theorem F9 (N : Nat) : ap (β := β) inv Tryz.prog 100 (UM N) := by
 refine aq ax mixed (E := W0 N) (af ai) ak aA Tryz.func100 (by kernel_rfl) 0 (by kernel_rfl) trivial fun args K r h => ?_
 unfold UM oZ at h
 split at h
 ·exact (O8 N _ _ _).trans h
 ·cases h
def tV (N : Nat) : Rv.Spec β := fun args K => match args with
 | [.v (.agg [.int .i64 a0, .int .i64 a1]), .v (.one (.int .i64 a2))] => zq13 a0 a1 a2 (fun z3 => K (.v (.one (.int .i64 z3))))
 | _ => none
def UN (N : Nat) : Rv.Spec β := tV (eD N) N
def QB (N : Nat) : Env β := ⟨[], [], [], [], ⟨[], [], [], []⟩⟩
def W1 (N : Nat) : Env β := QB N
theorem O9 (N : Nat) (a0 a1 a2 : Int) (K : TV → O β) : aQ lay (QB N) Tryz.f103 [.v (.agg [.int .i64 a0, .int .i64 a1]), (Z' a2)] K = KW N a0 a1 a2 (fun z3 => K ((Z' z3))) := by kernel_rfl
theorem NY (N : Nat) : ap (β := β) inv Tryz.prog 103 (UN N) := by
 refine aq ax mixed (E := W1 N) (af ai) ak aA Tryz.func103 (by kernel_rfl) 0 (by kernel_rfl) trivial fun args K r h => ?_
 unfold UN tV at h
 split at h
 ·exact (O9 N _ _ _ _).trans h
 ·cases h
def Dh (N : Nat) : Rv.Spec β := fun args K => match args with
 | [.v (.one (.int .i64 a0)), .v (.one (.cref [.int .i64 c0, .int .i64 c1] 0))] => zq16 a0 c0 c1 (fun z1 => K (.v (.one (.bool z1))))
 | _ => none
def Vb (N : Nat) : Rv.Spec β := Dh (iZ N) N
def gP (v0 v1 v2 v3 v4 v5 : Int) : St := ⟨(Z' v0) :: .v (.one (.cref [.int .i64 v1, .int .i64 v2] 0)) :: ac :: ac :: (Z' v3) :: ac :: ac :: (Z' v4) :: (Z' v5) :: tn 14 [], []⟩
def ky (y0 : Int) : St := ⟨tn 4 ((Z' y0) :: tn 18 []), []⟩
def rM {γ : Type} (f : Int → Int → Int → Int → Int → Int → γ) (s : St) : γ := f (ae (ag (vT (nx ac s.tmps 0)))) (wy (nx .no (Dv (ag (vT (nx ac s.tmps 1)))) 0)) (wy (nx .no (Dv (ag (vT (nx ac s.tmps 1)))) 1)) (ae (ag (vT (nx ac s.tmps 4)))) (ae (ag (vT (nx ac s.tmps 7)))) (ae (ag (vT (nx ac s.tmps 8))))
theorem FF (s : St) : aT (gP 0 0 0 0 0 0) s = rM gP s := by kernel_rfl
def xY (N : Nat) : ay β := fun s K => cond (aK (gP 0 0 0 0 0 0) s) (rM (fun v0 v1 v2 v3 v4 v5 => zq15 N v0 v1 v2 v3 v4 v5 (fun y0 => K (.exit 0) (ky y0))) s) (none)
def My (N : Nat) : ay β := xY (tE N) N
def HN (N : Nat) : Env β := ⟨[(100, oZ zq12 N), (103, tV zq13 N)], [], [(0, xY zq15 N)], [], ⟨[], [], [], []⟩⟩
def L5 (N : Nat) : Env β := HN (db N) (eD N) (tE N) N
theorem Ct (N : Nat) (v0 v1 v2 v3 v4 v5 : Int) (rec_ : St → O β) (K : Exit → St → O β) :
  stB lay (HN zq12 zq13 zq15 N) Tryz.f189 0 (gP v0 v1 v2 v3 v4 v5) rec_ K = P8 zq13 N v0 v1 v2 v3 v4 v5 (fun v0 v1 v2 v3 v4 v5 => rec_ (gP v0 v1 v2 v3 v4 v5)) (fun y0 => K (.exit 0) (ky y0)) := by kernel_rfl
theorem GH (N : Nat) (K : Exit → St → O β) : ∀ (F : Nat) (v0 v1 v2 v3 v4 v5 : Int), (lp Tryz.f189 0).rounds lay (L5 N) (ah Tryz.f189) F (gP v0 v1 v2 v3 v4 v5) K = tE N F v0 v1 v2 v3 v4 v5 (fun y0 => K (.exit 0) (ky y0)) := by
 intro F; induction F with
 | zero => intros; rfl
 | succ F ih => intros; rw [am]; refine (Ct (db N) (eD N) (tE N) N _ _ _ _ _ _ (fun s => (lp Tryz.f189 0).rounds lay (L5 N) (ah Tryz.f189) F s K) K).trans ?_; simp only [ih]; rfl
theorem NJ (N : Nat) : aS (L5 (β := β) N).loops (lp Tryz.f189 0).id = My N := by kernel_rfl
theorem OG (N : Nat) : az lay (L5 (β := β) N) (ah Tryz.f189) (lp Tryz.f189 0) := rks (NJ ..) (rc1 (fun s K hb => ⟨N, by rw [← ar hb, FF s]; unfold rM; exact GH N K N _ _ _ _ _ _⟩) rc0)
theorem PB (N : Nat) (a0 c0 c1 : Int) (K : TV → O β) : aQ lay (HN zq12 zq13 zq15 N) Tryz.f189 [(Z' a0), .v (.one (.cref [.int .i64 c0, .int .i64 c1] 0))] K = T2 zq12 zq15 N a0 c0 c1 (fun z1 => K (.v (.one (.bool z1)))) := by kernel_rfl
theorem Wi (N : Nat) : ap (β := β) inv Tryz.prog 189 (Vb N) := by
 refine aq ax mixed (E := L5 N) (af (aa (F9 N) (aa (NY N) ai))) ak aA Tryz.func189 (by kernel_rfl) 1 (by kernel_rfl) ⟨trivial, OG N⟩ fun args K r h => ?_
 unfold Vb Dh at h
 split at h
 ·exact (PB (db N) (eD N) (tE N) N _ _ _ _).trans h
 ·cases h
def ym (N : Nat) : Rv.Spec β := fun args K => match args with
 | [.v (.one (.int .i64 a0)), .v (.one (.dfn 238 [([.int .i64 q0], 0)]))] => zq19 a0 (fun x0 k => zq0 x0 q0 k) (fun z2 z3 => K (.v (.agg [.int .i64 z2, .int .i64 z3])))
 | [.v (.one (.int .i64 a0)), .v (.one (.dfn 193 [([.sl 93 (.pairs q0)], 0)]))] => zq19 a0 (fun x0 k => zq11 x0 q0 k) (fun z2 z3 => K (.v (.agg [.int .i64 z2, .int .i64 z3])))
 | [.v (.one (.int .i64 a0)), .v (.one (.dfn 189 [([.int .i64 q0, .int .i64 q1], 0)]))] => zq19 a0 (fun x0 k => zq16 x0 q0 q1 k) (fun z2 z3 => K (.v (.agg [.int .i64 z2, .int .i64 z3])))
 | _ => none
def UT (N : Nat) : Rv.Spec β := ym (zj0 N) (il N) (iZ N) (pH N) N
def gx (q0 v0 v1 v2 v3 v4 v5 : Int) : St := ⟨ac :: .v (.one (.dfn 238 [([.int .i64 q0], 0)])) :: ac :: ac :: .v (.one (.ptr 0 0)) :: .v (.one (.ptr 1 0)) :: tn 4 ((Z' v0) :: (Z' v1) :: tn 13 []), [.cells 25 [.int .i64 v2, .int .i64 v3], .cells 25 [.int .i64 v4, .int .i64 v5]]⟩
def jU (q0 y0 y1 y2 y3 : Int) : St := ⟨tn 4 (.v (.one (.ptr 0 0)) :: .v (.one (.ptr 1 0)) :: tn 19 []), [.cells 25 [.int .i64 y0, .int .i64 y1], .cells 25 [.int .i64 y2, .int .i64 y3]]⟩
def gy (q0 : List (Int × Int)) (v0 v1 v2 v3 v4 v5 : Int) : St := ⟨ac :: .v (.one (.dfn 193 [([.sl 93 (.pairs q0)], 0)])) :: ac :: ac :: .v (.one (.ptr 0 0)) :: .v (.one (.ptr 1 0)) :: tn 4 ((Z' v0) :: (Z' v1) :: tn 13 []), [.cells 25 [.int .i64 v2, .int .i64 v3], .cells 25 [.int .i64 v4, .int .i64 v5]]⟩
def jV (q0 : List (Int × Int)) (y0 y1 y2 y3 : Int) : St := ⟨tn 4 (.v (.one (.ptr 0 0)) :: .v (.one (.ptr 1 0)) :: tn 19 []), [.cells 25 [.int .i64 y0, .int .i64 y1], .cells 25 [.int .i64 y2, .int .i64 y3]]⟩
def gz (q0 q1 v0 v1 v2 v3 v4 v5 : Int) : St := ⟨ac :: .v (.one (.dfn 189 [([.int .i64 q0, .int .i64 q1], 0)])) :: ac :: ac :: .v (.one (.ptr 0 0)) :: .v (.one (.ptr 1 0)) :: tn 4 ((Z' v0) :: (Z' v1) :: tn 13 []), [.cells 25 [.int .i64 v2, .int .i64 v3], .cells 25 [.int .i64 v4, .int .i64 v5]]⟩
def jW (q0 q1 y0 y1 y2 y3 : Int) : St := ⟨tn 4 (.v (.one (.ptr 0 0)) :: .v (.one (.ptr 1 0)) :: tn 19 []), [.cells 25 [.int .i64 y0, .int .i64 y1], .cells 25 [.int .i64 y2, .int .i64 y3]]⟩
def rx {γ : Type} (f : Int → Int → Int → Int → Int → Int → Int → γ) (s : St) : γ := f (wy (nx .no (nx ([], 0) (yH (ag (vT (nx ac s.tmps 1)))) 0).1 0)) (ae (ag (vT (nx ac s.tmps 10)))) (ae (ag (vT (nx ac s.tmps 11)))) (ae (nx .und (ao (nx .dead s.blks 0)) 0)) (ae (nx .und (ao (nx .dead s.blks 0)) 1)) (ae (nx .und (ao (nx .dead s.blks 1)) 0)) (ae (nx .und (ao (nx .dead s.blks 1)) 1))
theorem Fh (s : St) : aT (gx 0 0 0 0 0 0 0) s = rx gx s := by kernel_rfl
def ry {γ : Type} (f : (List (Int × Int)) → Int → Int → Int → Int → Int → Int → γ) (s : St) : γ := f (aL (Tj (nx .no (nx ([], 0) (yH (ag (vT (nx ac s.tmps 1)))) 0).1 0))) (ae (ag (vT (nx ac s.tmps 10)))) (ae (ag (vT (nx ac s.tmps 11)))) (ae (nx .und (ao (nx .dead s.blks 0)) 0)) (ae (nx .und (ao (nx .dead s.blks 0)) 1)) (ae (nx .und (ao (nx .dead s.blks 1)) 0)) (ae (nx .und (ao (nx .dead s.blks 1)) 1))
theorem Fi (s : St) : aT (gy [] 0 0 0 0 0 0) s = ry gy s := by kernel_rfl
def rz {γ : Type} (f : Int → Int → Int → Int → Int → Int → Int → Int → γ) (s : St) : γ := f (wy (nx .no (nx ([], 0) (yH (ag (vT (nx ac s.tmps 1)))) 0).1 0)) (wy (nx .no (nx ([], 0) (yH (ag (vT (nx ac s.tmps 1)))) 0).1 1)) (ae (ag (vT (nx ac s.tmps 10)))) (ae (ag (vT (nx ac s.tmps 11)))) (ae (nx .und (ao (nx .dead s.blks 0)) 0)) (ae (nx .und (ao (nx .dead s.blks 0)) 1)) (ae (nx .und (ao (nx .dead s.blks 1)) 0)) (ae (nx .und (ao (nx .dead s.blks 1)) 1))
theorem Fj (s : St) : aT (gz 0 0 0 0 0 0 0 0) s = rz gz s := by kernel_rfl
def xL (N : Nat) : ay β := fun s K => cond (aK (gx 0 0 0 0 0 0 0) s) (rx (fun q0 v0 v1 v2 v3 v4 v5 => zq18 (fun x0 k => zq0 x0 q0 k) N v0 v1 v2 v3 v4 v5 (fun y0 y1 y2 y3 => K (.exit 0) (jU q0 y0 y1 y2 y3))) s) (cond (aK (gy [] 0 0 0 0 0 0) s) (ry (fun q0 v0 v1 v2 v3 v4 v5 => zq18 (fun x0 k => zq11 x0 q0 k) N v0 v1 v2 v3 v4 v5 (fun y0 y1 y2 y3 => K (.exit 0) (jV q0 y0 y1 y2 y3))) s) (cond (aK (gz 0 0 0 0 0 0 0 0) s) (rz (fun q0 q1 v0 v1 v2 v3 v4 v5 => zq18 (fun x0 k => zq16 x0 q0 q1 k) N v0 v1 v2 v3 v4 v5 (fun y0 y1 y2 y3 => K (.exit 0) (jW q0 q1 y0 y1 y2 y3))) s) (none)))
def Mk (N : Nat) : ay β := xL (zj0 N) (il N) (iZ N) (mV N) N
def pZ (N : Nat) : Env β := ⟨[(238, Dn zq0 N), (193, Dk zq11 N), (189, Dh zq16 N)], [], [(0, xL zq0 zq11 zq16 zq18 N)], [], ⟨[], [], [], []⟩⟩
def EV (N : Nat) : Env β := pZ (zj0 N) (il N) (iZ N) (mV N) N
theorem B3 (N : Nat) (q0 v0 v1 v2 v3 v4 v5 : Int) (rec_ : St → O β) (K : Exit → St → O β) :
  stB lay (pZ zq0 zq11 zq16 zq18 N) Tryz.f129 0 (gx q0 v0 v1 v2 v3 v4 v5) rec_ K = K9 N (fun x0 k => zq0 x0 q0 k) v0 v1 v2 v3 v4 v5 (fun v0 v1 v2 v3 v4 v5 => rec_ (gx q0 v0 v1 v2 v3 v4 v5)) (fun y0 y1 y2 y3 => K (.exit 0) (jU q0 y0 y1 y2 y3)) := by kernel_rfl
theorem Gi (N : Nat) (q0 : Int) (K : Exit → St → O β) : ∀ (F : Nat) (v0 v1 v2 v3 v4 v5 : Int), (lp Tryz.f129 0).rounds lay (EV N) (ah Tryz.f129) F (gx q0 v0 v1 v2 v3 v4 v5) K = mV N (fun x0 k => zj0 N x0 q0 k) F v0 v1 v2 v3 v4 v5 (fun y0 y1 y2 y3 => K (.exit 0) (jU q0 y0 y1 y2 y3)) := by
 intro F; induction F with
 | zero => intros; rfl
 | succ F ih => intros; rw [am]; refine (B3 (zj0 N) (il N) (iZ N) (mV N) N q0 _ _ _ _ _ _ (fun s => (lp Tryz.f129 0).rounds lay (EV N) (ah Tryz.f129) F s K) K).trans ?_; simp only [ih]; rfl
theorem B4 (N : Nat) (q0 : List (Int × Int)) (v0 v1 v2 v3 v4 v5 : Int) (rec_ : St → O β) (K : Exit → St → O β) :
  stB lay (pZ zq0 zq11 zq16 zq18 N) Tryz.f129 0 (gy q0 v0 v1 v2 v3 v4 v5) rec_ K = K9 N (fun x0 k => zq11 x0 q0 k) v0 v1 v2 v3 v4 v5 (fun v0 v1 v2 v3 v4 v5 => rec_ (gy q0 v0 v1 v2 v3 v4 v5)) (fun y0 y1 y2 y3 => K (.exit 0) (jV q0 y0 y1 y2 y3)) := by kernel_rfl
theorem Gj (N : Nat) (q0 : List (Int × Int)) (K : Exit → St → O β) : ∀ (F : Nat) (v0 v1 v2 v3 v4 v5 : Int), (lp Tryz.f129 0).rounds lay (EV N) (ah Tryz.f129) F (gy q0 v0 v1 v2 v3 v4 v5) K = mV N (fun x0 k => il N x0 q0 k) F v0 v1 v2 v3 v4 v5 (fun y0 y1 y2 y3 => K (.exit 0) (jV q0 y0 y1 y2 y3)) := by
 intro F; induction F with
 | zero => intros; rfl
 | succ F ih => intros; rw [am]; refine (B4 (zj0 N) (il N) (iZ N) (mV N) N q0 _ _ _ _ _ _ (fun s => (lp Tryz.f129 0).rounds lay (EV N) (ah Tryz.f129) F s K) K).trans ?_; simp only [ih]; rfl
theorem B5 (N : Nat) (q0 q1 v0 v1 v2 v3 v4 v5 : Int) (rec_ : St → O β) (K : Exit → St → O β) :
  stB lay (pZ zq0 zq11 zq16 zq18 N) Tryz.f129 0 (gz q0 q1 v0 v1 v2 v3 v4 v5) rec_ K = K9 N (fun x0 k => zq16 x0 q0 q1 k) v0 v1 v2 v3 v4 v5 (fun v0 v1 v2 v3 v4 v5 => rec_ (gz q0 q1 v0 v1 v2 v3 v4 v5)) (fun y0 y1 y2 y3 => K (.exit 0) (jW q0 q1 y0 y1 y2 y3)) := by kernel_rfl
theorem Gk (N : Nat) (q0 q1 : Int) (K : Exit → St → O β) : ∀ (F : Nat) (v0 v1 v2 v3 v4 v5 : Int), (lp Tryz.f129 0).rounds lay (EV N) (ah Tryz.f129) F (gz q0 q1 v0 v1 v2 v3 v4 v5) K = mV N (fun x0 k => iZ N x0 q0 q1 k) F v0 v1 v2 v3 v4 v5 (fun y0 y1 y2 y3 => K (.exit 0) (jW q0 q1 y0 y1 y2 y3)) := by
 intro F; induction F with
 | zero => intros; rfl
 | succ F ih => intros; rw [am]; refine (B5 (zj0 N) (il N) (iZ N) (mV N) N q0 q1 _ _ _ _ _ _ (fun s => (lp Tryz.f129 0).rounds lay (EV N) (ah Tryz.f129) F s K) K).trans ?_; simp only [ih]; rfl
theorem Nm (N : Nat) : aS (EV (β := β) N).loops (lp Tryz.f129 0).id = Mk N := by kernel_rfl
theorem Og (N : Nat) : az lay (EV (β := β) N) (ah Tryz.f129) (lp Tryz.f129 0) := rks (Nm ..) (rc1 (fun s K hb => ⟨N, by rw [← ar hb, Fh s]; unfold rx; exact Gi N _ K N _ _ _ _ _ _⟩) (rc1 (fun s K hb => ⟨N, by rw [← ar hb, Fi s]; unfold ry; exact Gj N _ K N _ _ _ _ _ _⟩) (rc1 (fun s K hb => ⟨N, by rw [← ar hb, Fj s]; unfold rz; exact Gk N _ _ K N _ _ _ _ _ _⟩) rc0)))
theorem Pe (N : Nat) (q0 a0 : Int) (K : TV → O β) : aQ lay (pZ zq0 zq11 zq16 zq18 N) Tryz.f129 [(Z' a0), .v (.one (.dfn 238 [([.int .i64 q0], 0)]))] K = Lj zq18 N a0 (fun x0 k => zq0 x0 q0 k) (fun z2 z3 => K (.v (.agg [.int .i64 z2, .int .i64 z3]))) := by kernel_rfl
theorem Pf (N : Nat) (q0 : List (Int × Int)) (a0 : Int) (K : TV → O β) : aQ lay (pZ zq0 zq11 zq16 zq18 N) Tryz.f129 [(Z' a0), .v (.one (.dfn 193 [([.sl 93 (.pairs q0)], 0)]))] K = Lj zq18 N a0 (fun x0 k => zq11 x0 q0 k) (fun z2 z3 => K (.v (.agg [.int .i64 z2, .int .i64 z3]))) := by kernel_rfl
theorem Pg (N : Nat) (q0 q1 a0 : Int) (K : TV → O β) : aQ lay (pZ zq0 zq11 zq16 zq18 N) Tryz.f129 [(Z' a0), .v (.one (.dfn 189 [([.int .i64 q0, .int .i64 q1], 0)]))] K = Lj zq18 N a0 (fun x0 k => zq16 x0 q0 q1 k) (fun z2 z3 => K (.v (.agg [.int .i64 z2, .int .i64 z3]))) := by kernel_rfl
theorem SK (N : Nat) : ap (β := β) inv Tryz.prog 129 (UT N) := by
 refine aq ax mixed (E := EV N) (af (aa (Wq N) (aa (Wl N) (aa (Wi N) ai)))) ak aA Tryz.func129 (by kernel_rfl) 1 (by kernel_rfl) ⟨trivial, Og N⟩ fun args K r h => ?_
 unfold UT ym at h
 split at h
 ·exact (Pe (zj0 N) (il N) (iZ N) (mV N) N _ _ _).trans h
 ·exact (Pf (zj0 N) (il N) (iZ N) (mV N) N _ _ _).trans h
 ·exact (Pg (zj0 N) (il N) (iZ N) (mV N) N _ _ _ _).trans h
 ·cases h
def Ie (N : Nat) : Rv.Spec β := fun args K => match args with
 | [.v (.one (.int .i64 a0)), .v (.one (.int .i64 a1))] => zq20 a0 a1 (fun z2 z3 => K (.v (.agg [.int .i64 z2, .int .i64 z3])))
 | _ => none
def RE (N : Nat) : Rv.Spec β := Ie (tF N) N
def QS (N : Nat) : Env β := ⟨[(129, ym zq0 zq11 zq16 zq19 N), (238, Dn zq0 N)], [], [], [], ⟨[], [], [], []⟩⟩
def Xj (N : Nat) : Env β := QS (zj0 N) (il N) (iZ N) (pH N) N
theorem PR (N : Nat) (a0 a1 : Int) (K : TV → O β) : aQ lay (QS zq0 zq11 zq16 zq19 N) Tryz.f212 [(Z' a0), (Z' a1)] K = T3 zq0 zq19 N a0 a1 (fun z2 z3 => K (.v (.agg [.int .i64 z2, .int .i64 z3]))) := by kernel_rfl
theorem Wp (N : Nat) : ap (β := β) inv Tryz.prog 212 (RE N) := by
 refine aq ax mixed (E := Xj N) (af (aa (SK N) (aa (Wq N) ai))) ak aA Tryz.func212 (by kernel_rfl) 0 (by kernel_rfl) trivial fun args K r h => ?_
 unfold RE Ie at h
 split at h
 ·exact (PR (zj0 N) (il N) (iZ N) (pH N) N _ _ _).trans h
 ·cases h
def Ib (N : Nat) : Rv.Spec β := fun args K => match args with
 | [.v (.one (.int .i64 a0)), .v (.one (.int .i64 a1))] => zq23 a0 a1 (fun z2 => K (.v (.one (.int .i64 z2))))
 | _ => none
def RD (N : Nat) : Rv.Spec β := Ib (xw N) N
def gU (v0 v1 v2 v3 : Int) : St := ⟨(Z' v0) :: (Z' v1) :: tn 3 ((Z' v2) :: (Z' v3) :: tn 16 []), []⟩
def kE (y0 : Int) : St := ⟨tn 5 ((Z' y0) :: tn 17 []), []⟩
def rQ {γ : Type} (f : Int → Int → Int → Int → γ) (s : St) : γ := f (ae (ag (vT (nx ac s.tmps 0)))) (ae (ag (vT (nx ac s.tmps 1)))) (ae (ag (vT (nx ac s.tmps 5)))) (ae (ag (vT (nx ac s.tmps 6))))
theorem FJ (s : St) : aT (gU 0 0 0 0) s = rQ gU s := by kernel_rfl
def yd (N : Nat) : ay β := fun s K => cond (aK (gU 0 0 0 0) s) (rQ (fun v0 v1 v2 v3 => zq22 N v0 v1 v2 v3 (fun y0 => K (.exit 0) (kE y0))) s) (none)
def MC (N : Nat) : ay β := yd (tG N) N
def HS (N : Nat) : Env β := ⟨[], [], [(0, yd zq22 N)], [], ⟨[], [], [], []⟩⟩
def L9 (N : Nat) : Env β := HS (tG N) N
theorem Cy (N : Nat) (v0 v1 v2 v3 : Int) (rec_ : St → O β) (K : Exit → St → O β) :
  stB lay (HS zq22 N) Tryz.f207 0 (gU v0 v1 v2 v3) rec_ K = P9 N v0 v1 v2 v3 (fun v0 v1 v2 v3 => rec_ (gU v0 v1 v2 v3)) (fun y0 => K (.exit 0) (kE y0)) := by kernel_rfl
theorem GL (N : Nat) (K : Exit → St → O β) : ∀ (F : Nat) (v0 v1 v2 v3 : Int), (lp Tryz.f207 0).rounds lay (L9 N) (ah Tryz.f207) F (gU v0 v1 v2 v3) K = tG N F v0 v1 v2 v3 (fun y0 => K (.exit 0) (kE y0)) := by
 intro F; induction F with
 | zero => intros; rfl
 | succ F ih => intros; rw [am]; refine (Cy (tG N) N _ _ _ _ (fun s => (lp Tryz.f207 0).rounds lay (L9 N) (ah Tryz.f207) F s K) K).trans ?_; simp only [ih]; rfl
theorem NN (N : Nat) : aS (L9 (β := β) N).loops (lp Tryz.f207 0).id = MC N := by kernel_rfl
theorem OK (N : Nat) : az lay (L9 (β := β) N) (ah Tryz.f207) (lp Tryz.f207 0) := rks (NN ..) (rc1 (fun s K hb => ⟨N, by rw [← ar hb, FJ s]; unfold rQ; exact GL N K N _ _ _ _⟩) rc0)
theorem PM (N : Nat) (a0 a1 : Int) (K : TV → O β) : aQ lay (HS zq22 N) Tryz.f207 [(Z' a0), (Z' a1)] K = WS zq22 N a0 a1 (fun z2 => K ((Z' z2))) := by kernel_rfl
theorem Wo (N : Nat) : ap (β := β) inv Tryz.prog 207 (RD N) := by
 refine aq ax mixed (E := L9 N) (af ai) ak aA Tryz.func207 (by kernel_rfl) 1 (by kernel_rfl) ⟨trivial, OK N⟩ fun args K r h => ?_
 unfold RD Ib at h
 split at h
 ·exact (PM (tG N) N _ _ _).trans h
 ·cases h
def Il (N : Nat) : Rv.Spec β := fun args K => match args with
 | [.v (.one (.sl 3 (.ints .i64 a0))), .v (.one (.int .i64 a1))] => zq26 a0 a1 (fun z2 => K (.v (.one (.int .i64 z2))))
 | _ => none
def Vv (N : Nat) : Rv.Spec β := Il (LO N) N
def g7 (v0 : List Int) (v1 v2 v3 : Int) : St := ⟨.v (.one (.sl 3 (.ints .i64 v0))) :: (Z' v1) :: tn 5 ((Z' v2) :: (Z' v3) :: tn 10 []), []⟩
def kR (y0 : Int) : St := ⟨tn 4 ((Z' y0) :: tn 14 []), []⟩
def kS : St := ⟨tn 19 [], []⟩
def rY {γ : Type} (f : List Int → Int → Int → Int → γ) (s : St) : γ := f (aY (bg (ag (vT (nx ac s.tmps 0))))) (ae (ag (vT (nx ac s.tmps 1)))) (ae (ag (vT (nx ac s.tmps 7)))) (ae (ag (vT (nx ac s.tmps 8))))
theorem FR (s : St) : aT (g7 [] 0 0 0) s = rY g7 s := by kernel_rfl
def yk (N : Nat) : ay β := fun s K => cond (aK (g7 [] 0 0 0) s) (rY (fun v0 v1 v2 v3 => zq25 N v0 v1 v2 v3 (fun y0 => K .ret (kR y0)) (K (.exit 0) (kS ))) s) (none)
def MJ (N : Nat) : ay β := yk (sU N) N
def HY (N : Nat) : Env β := ⟨[], [], [(0, yk zq25 N)], [], ⟨[], [], [], []⟩⟩
def Mf (N : Nat) : Env β := HY (sU N) N
theorem CG (N : Nat) (v0 : List Int) (v1 v2 v3 : Int) (rec_ : St → O β) (K : Exit → St → O β) :
  stB lay (HY zq25 N) Tryz.f239 0 (g7 v0 v1 v2 v3) rec_ K = Qa N v0 v1 v2 v3 (fun v0 v1 v2 v3 => rec_ (g7 v0 v1 v2 v3)) (fun y0 => K .ret (kR y0)) (K (.exit 0) (kS )) := by kernel_rfl
theorem GU (N : Nat) (K : Exit → St → O β) : ∀ (F : Nat) (v0 : List Int) (v1 v2 v3 : Int), (lp Tryz.f239 0).rounds lay (Mf N) (ah Tryz.f239) F (g7 v0 v1 v2 v3) K = sU N F v0 v1 v2 v3 (fun y0 => K .ret (kR y0)) (K (.exit 0) (kS )) := by
 intro F; induction F with
 | zero => intros; rfl
 | succ F ih => intros; rw [am]; refine (CG (sU N) N _ _ _ _ (fun s => (lp Tryz.f239 0).rounds lay (Mf N) (ah Tryz.f239) F s K) K).trans ?_; simp only [ih]; rfl
theorem NU (N : Nat) : aS (Mf (β := β) N).loops (lp Tryz.f239 0).id = MJ N := by kernel_rfl
theorem OR (N : Nat) : az lay (Mf (β := β) N) (ah Tryz.f239) (lp Tryz.f239 0) := rks (NU ..) (rc1 (fun s K hb => ⟨N, by rw [← ar hb, FR s]; unfold rY; exact GU N K N _ _ _ _⟩) rc0)
theorem P3 (N : Nat) (a0 : List Int) (a1 : Int) (K : TV → O β) : aQ lay (HY zq25 N) Tryz.f239 [.v (.one (.sl 3 (.ints .i64 a0))), (Z' a1)] K = T4 zq25 N a0 a1 (fun z2 => K ((Z' z2))) := by kernel_rfl
theorem Yc (N : Nat) : ap (β := β) inv Tryz.prog 239 (Vv N) := by
 refine aq ax mixed (E := Mf N) (af ai) ak aA Tryz.func239 (by kernel_rfl) 1 (by kernel_rfl) ⟨trivial, OR N⟩ fun args K r h => ?_
 unfold Vv Il at h
 split at h
 ·exact (P3 (sU N) N _ _ _).trans h
 ·cases h
def QY (N : Nat) : Rv.Spec β := fun args K => match args with
 | [.v (.one (.sl 3 (.ints .i64 a0))), .v (.one (.int .i64 a1))] => zq27 a0 a1 (fun z2 => K (.v (.one (.bool z2))))
 | _ => none
def RF (N : Nat) : Rv.Spec β := QY (Qv N) N
def QT (N : Nat) : Env β := ⟨[(239, Il zq26 N)], [], [], [], ⟨[], [], [], []⟩⟩
def Xk (N : Nat) : Env β := QT (LO N) N
theorem PS (N : Nat) (a0 : List Int) (a1 : Int) (K : TV → O β) : aQ lay (QT zq26 N) Tryz.f214 [.v (.one (.sl 3 (.ints .i64 a0))), (Z' a1)] K = T5 zq26 N a0 a1 (fun z2 => K (.v (.one (.bool z2)))) := by kernel_rfl
theorem X3 (N : Nat) : ap (β := β) inv Tryz.prog 214 (RF N) := by
 refine aq ax mixed (E := Xk N) (af (aa (Yc N) ai)) ak aA Tryz.func214 (by kernel_rfl) 0 (by kernel_rfl) trivial fun args K r h => ?_
 unfold RF QY at h
 split at h
 ·exact (PS (LO N) N _ _ _).trans h
 ·cases h
end Go.Proofs.YtemihnclhcobnaaGreatDoor
