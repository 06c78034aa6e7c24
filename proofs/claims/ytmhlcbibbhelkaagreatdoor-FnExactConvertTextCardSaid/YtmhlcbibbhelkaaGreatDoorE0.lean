/- The functions that the claims cZ bz as their texts do. -/
import Derived.Test.YtmhlcbibbhelkaaGreatDoorT0
import Derived.Test.YtmhlcbibbhelkaaGreatDoorProg
import Derived.KernelRfl
import Derived.Test.YtmhlcbibbhelkaaGreatDoorShelf
import Derived.Test.YtmhlcbibbhelkaaGreatDoorCut
namespace Go.Proofs.YtmhlcbibbhelkaaGreatDoor
set_option linter.unusedSimpArgs false
open Go.Rv
set_option maxRecDepth 100000
set_option maxHeartbeats 2000000
set_option linter.unusedVariables false
variable {β : Type}
abbrev Z' (x : Int) : TV := .v (.one (.int .i64 x))
def RC (L : Lay) (E : Env β) (ret : Nat) (l : b8) (sp : ax β) : Prop := ∀ s K r, sp s K = some r → ∃ F, l.rounds L E ret F s K = some r
theorem rks {L : Lay} {E : Env β} {ret : Nat} {l : b8} {sp : ax β} (hk : aS E.loops l.id = sp) (h : RC L E ret l sp) : ay L E ret l := fun s K r e => h s K r (by rw [hk] at e; exact e)
theorem rc0 {L : Lay} {E : Env β} {ret : Nat} {l : b8} : RC L E ret l fun _ _ => none := fun s K r h => by cases h
theorem rc1 {L : Lay} {E : Env β} {ret : Nat} {l : b8} {h0 : St} {P Q : ax β} (hr : ∀ s K, aJ h0 s = true → ∃ F, l.rounds L E ret F s K = P s K) (hq : RC L E ret l Q) : RC L E ret l fun s K => cond (aJ h0 s) (P s K) (Q s K) := by
 intro s K r h
 dsimp only at h
 cases hb : aJ h0 s with
 | true => rw [hb, agY] at h; obtain ⟨F, e⟩ := hr s K hb; exact ⟨F, e.trans h⟩
 | false => rw [hb, agX] at h; exact hq s K r h
variable (zq0 : Y0 β) (zq1 : Y1 β) (zq2 : Y2 β) (zq3 : Y3 β) (zq5 : Y5 β) (zq6 : Y4 β) (zq7 : Y6 β) (zq8 : Y0 β) (zq9 ad8 ago ad9 : Y4 β) (aeK : Y8 β) (ae0 : Y7 β) (aeF : Y9 β) (adZ : Y10 β) (aeB : Y11 β) (aew : Y12 β) (afX : Y14 β) (agx : Y13 β) (ad0 ad1 : Y15 β) (ad7 : Y17 β) (ad4 : Y16 β) (aeo : Y18 β) (af6 : Y19 β) (aeH : Y2 β) (af7 : Y21 β) (agC : Y20 β) (agS : Y22 β)
def lay : Lay := [(1, .func),
 (2, .int .i64),
 (3, .int .i64),
 (4, .bool),
 (5, .int .u8),
 (9, .string),
 (12, .int .u64),
 (21, .int .i32),
 (25, .struct [⟨0, 1, false⟩, ⟨1, 1, false⟩] [3, 3] 16 true),
 (26, .struct [⟨0, 1, false⟩, ⟨1, 1, false⟩] [3, 3] 16 true),
 (33, .slice 46),
 (45, .struct [⟨0, 1, false⟩, ⟨1, 1, false⟩] [3, 3] 16 true),
 (46, .struct [⟨0, 1, false⟩, ⟨1, 1, false⟩] [3, 3] 16 true),
 (57, .int .u64),
 (63, .slice 3),
 (67, .slice 9),
 (71, .pointer 127),
 (74, .pointer 107),
 (78, .slice 5),
 (84, .pointer 112),
 (87, .struct [⟨0, 1, false⟩, ⟨1, 1, false⟩] [3, 3] 16 true),
 (88, .struct [⟨0, 1, false⟩, ⟨1, 1, false⟩] [3, 3] 16 true),
 (95, .slice 63),
 (106, .struct [⟨0, 1, false⟩, ⟨1, 1, false⟩, ⟨2, 1, false⟩] [5, 74, 74] 24 false),
 (107, .struct [⟨0, 1, false⟩, ⟨1, 1, false⟩, ⟨2, 1, false⟩] [5, 74, 74] 24 false),
 (110, .map 88 3),
 (111, .struct [⟨0, 2, true⟩, ⟨2, 1, false⟩, ⟨3, 1, false⟩] [3, 3, 110, 110] 32 false),
 (112, .struct [⟨0, 2, true⟩, ⟨2, 1, false⟩, ⟨3, 1, false⟩] [3, 3, 110, 110] 32 false),
 (126, .struct [⟨0, 1, false⟩, ⟨1, 1, false⟩, ⟨2, 1, false⟩] [5, 71, 71] 24 false),
 (127, .struct [⟨0, 1, false⟩, ⟨1, 1, false⟩, ⟨2, 1, false⟩] [5, 71, 71] 24 false),
 (128, .pointer 130),
 (129, .struct [⟨0, 1, false⟩, ⟨1, 1, false⟩] [128, 78] 32 false),
 (130, .struct [⟨0, 1, false⟩, ⟨1, 1, false⟩] [128, 78] 32 false),
 (137, .array 2 4),
 (145, .pointer 5),
 (147, .int .u32),
 (150, .int .u64),
 (158, .struct [⟨0, 1, false⟩, ⟨1, 1, false⟩] [5, 5] 2 true),
 (159, .struct [⟨0, 1, false⟩, ⟨1, 1, false⟩] [5, 5] 2 true)]

theorem au : aO Tryz.prog lay := Mg (by decide +kernel)
theorem mixed : Tryz.prog.follows .mixedOrders = true := by kernel_rfl
def inv : World → Prop := ur Tryz.prog
def S55 (N : Nat) : Rv.Spec β := qR 9 N
theorem o55 (N : Nat) : ao (β := β) inv Tryz.prog 55 (S55 N) := NY Tryz.func55 (by kernel_rfl) Tryz.split_told N
def aan (N : Nat) : Rv.Spec β := tk N
theorem adi (N : Nat) : ao (β := β) inv Tryz.prog 101 (aan N) := QR Tryz.func101 (by kernel_rfl) Tryz.strings_Join_none Tryz.strings_Join N
def aaz (N : Nat) : Rv.Spec β := tg N
theorem adt (N : Nat) : ao (β := β) inv Tryz.prog 125 (aaz N) := QQ Tryz.func125 (by kernel_rfl) Tryz.strconv_Itoa N
def Fh (N : Nat) : Rv.Spec β := fun args K => match args with
 | [.v (.one (.int .i64 a0)), .v (.one (.cref [.int .i64 c0] 0))] => zq0 a0 c0 (fun z1 => K (.v (.one (.bool z1))))
 | _ => none
def aaA (N : Nat) : Rv.Spec β := Fh (zj0 N) N
def SY (N : Nat) : Env β := ⟨[], [], [], [], ⟨[], [], [], []⟩⟩
def acP (N : Nat) : Env β := SY N
theorem R2 (N : Nat) (a0 c0 : Int) (K : TV → O β) : aL lay (SY N) Tryz.f126 [(Z' a0), .v (.one (.cref [.int .i64 c0] 0))] K = zb0 N a0 c0 (fun z1 => K (.v (.one (.bool z1)))) := by kernel_rfl
theorem abV (N : Nat) : ao (β := β) inv Tryz.prog 126 (aaA N) := by
 refine ap au mixed (E := acP N) (ae ag) ak av Tryz.func126 (by kernel_rfl) 0 (by kernel_rfl) trivial fun args K r h => ?_
 unfold aaA Fh at h
 split at h
 ·exact (R2 N _ _ _).trans h
 ·cases h
def Qc (N : Nat) : Rv.Spec β := fun args K => match args with
 | [.v (.one (.int .i64 a0)), .v (.one (.cref [.str c0] 0))] => zq1 a0 c0 (fun z1 => K (.v (.one (.bool z1))))
 | _ => none
def S53 (N : Nat) : Rv.Spec β := Qc (zj1 N) N
def aaR (N : Nat) : Env β := ⟨[], [], [], [], ⟨[], [], [], []⟩⟩
def E53 (N : Nat) : Env β := aaR N
theorem YR (N : Nat) (a0 : Int) (c0 : ByteArray) (K : TV → O β) : aL lay (aaR N) Tryz.f53 [(Z' a0), .v (.one (.cref [.str c0] 0))] K = zb1 N a0 c0 (fun z1 => K (.v (.one (.bool z1)))) := by kernel_rfl
theorem o53 (N : Nat) : ao (β := β) inv Tryz.prog 53 (S53 N) := by
 refine ap au mixed (E := E53 N) (ae ag) ak av Tryz.func53 (by kernel_rfl) 0 (by kernel_rfl) trivial fun args K r h => ?_
 unfold S53 Qc at h
 split at h
 ·exact (YR N _ _ _).trans h
 ·cases h
def xS (N : Nat) : Rv.Spec β := fun args K => match args with
 | [.v (.agg [.int .i64 a0, .int .i64 a1])] => zq2 a0 a1 (fun z2 => K (.v (.one (.int .i64 z2))))
 | _ => none
def S65 (N : Nat) : Rv.Spec β := xS (zj2 N) N
def aa1 (N : Nat) : Env β := ⟨[], [], [], [], ⟨[], [], [], []⟩⟩
def E65 (N : Nat) : Env β := aa1 N
theorem Zc (N : Nat) (a0 a1 : Int) (K : TV → O β) : aL lay (aa1 N) Tryz.f65 [.v (.agg [.int .i64 a0, .int .i64 a1])] K = zb2 N a0 a1 (fun z2 => K ((Z' z2))) := by kernel_rfl
theorem o65 (N : Nat) : ao (β := β) inv Tryz.prog 65 (S65 N) := by
 refine ap au mixed (E := E65 N) (ae ag) ak av Tryz.func65 (by kernel_rfl) 0 (by kernel_rfl) trivial fun args K r h => ?_
 unfold S65 xS at h
 split at h
 ·exact (Zc N _ _ _).trans h
 ·cases h
def C8 (N : Nat) : Rv.Spec β := fun args K => match args with
 | [.v (.agg [.int .i64 a0, .int .i64 a1]), .v (.one (.int .i64 a2))] => zq3 a0 a1 a2 (fun z3 => K (.v (.one (.int .i64 z3))))
 | _ => none
def S66 (N : Nat) : Rv.Spec β := C8 (zj3 N) N
def aa2 (N : Nat) : Env β := ⟨[], [], [], [], ⟨[], [], [], []⟩⟩
def E66 (N : Nat) : Env β := aa2 N
theorem Zd (N : Nat) (a0 a1 a2 : Int) (K : TV → O β) : aL lay (aa2 N) Tryz.f66 [.v (.agg [.int .i64 a0, .int .i64 a1]), (Z' a2)] K = zb3 N a0 a1 a2 (fun z3 => K ((Z' z3))) := by kernel_rfl
theorem o66 (N : Nat) : ao (β := β) inv Tryz.prog 66 (S66 N) := by
 refine ap au mixed (E := E66 N) (ae ag) ak av Tryz.func66 (by kernel_rfl) 0 (by kernel_rfl) trivial fun args K r h => ?_
 unfold S66 C8 at h
 split at h
 ·exact (Zd N _ _ _ _).trans h
 ·cases h
def Qk (N : Nat) : Rv.Spec β := fun args K => match args with
 | [.v (.one (.int .i64 a0)), .v (.one (.cref [.int .i64 c0, .int .i64 c1] 0))] => zq6 a0 c0 c1 (fun z1 => K (.v (.one (.bool z1))))
 | _ => none
def S85 (N : Nat) : Rv.Spec β := Qk (zj6 N) N
def lF (v0 v1 v2 v3 v4 v5 : Int) : St := ⟨(Z' v0) :: .v (.one (.cref [.int .i64 v1, .int .i64 v2] 0)) :: ac :: ac :: (Z' v3) :: ac :: ac :: (Z' v4) :: (Z' v5) :: tn 14 [], []⟩
def oI (y0 : Int) : St := ⟨tn 4 ((Z' y0) :: tn 18 []), []⟩
def zJ {γ : Type} (f : Int → Int → Int → Int → Int → Int → γ) (s : St) : γ := f (af (ah (vT (nx ac s.tmps 0)))) (yz (nx .no (Fr (ah (vT (nx ac s.tmps 1)))) 0)) (yz (nx .no (Fr (ah (vT (nx ac s.tmps 1)))) 1)) (af (ah (vT (nx ac s.tmps 4)))) (af (ah (vT (nx ac s.tmps 7)))) (af (ah (vT (nx ac s.tmps 8))))
theorem LO (s : St) : aP (lF 0 0 0 0 0 0) s = zJ lF s := by kernel_rfl
def Fc (N : Nat) : ax β := fun s K => cond (aJ (lF 0 0 0 0 0 0) s) (zJ (fun v0 v1 v2 v3 v4 v5 => zq5 N v0 v1 v2 v3 v4 v5 (fun y0 => K (.exit 0) (oI y0))) s) (none)
def Uo (N : Nat) : ax β := Fc (zj5 N) N
def UT (N : Nat) : Env β := ⟨[(65, xS zq2 N), (66, C8 zq3 N)], [], [(0, Fc zq5 N)], [], ⟨[], [], [], []⟩⟩
def E85 (N : Nat) : Env β := UT (zj2 N) (zj3 N) (zj5 N) N
theorem Jo (N : Nat) (v0 v1 v2 v3 v4 v5 : Int) (rec_ : St → O β) (K : Exit → St → O β) :
  stB lay (UT zq2 zq3 zq5 N) Tryz.f85 0 (lF v0 v1 v2 v3 v4 v5) rec_ K = zb4 zq3 N v0 v1 v2 v3 v4 v5 (fun v0 v1 v2 v3 v4 v5 => rec_ (lF v0 v1 v2 v3 v4 v5)) (fun y0 => K (.exit 0) (oI y0)) := by kernel_rfl
theorem NL (N : Nat) (K : Exit → St → O β) : ∀ (F : Nat) (v0 v1 v2 v3 v4 v5 : Int), (lp Tryz.f85 0).rounds lay (E85 N) (ai Tryz.f85) F (lF v0 v1 v2 v3 v4 v5) K = zj5 N F v0 v1 v2 v3 v4 v5 (fun y0 => K (.exit 0) (oI y0)) := by
 intro F; induction F with
 | zero => intros; rfl
 | succ F ih => intros; rw [am]; refine (Jo (zj2 N) (zj3 N) (zj5 N) N _ _ _ _ _ _ (fun s => (lp Tryz.f85 0).rounds lay (E85 N) (ai Tryz.f85) F s K) K).trans ?_; simp only [ih]; rfl
theorem WI (N : Nat) : aS (E85 (β := β) N).loops (lp Tryz.f85 0).id = Uo N := by kernel_rfl
theorem XQ (N : Nat) : ay lay (E85 (β := β) N) (ai Tryz.f85) (lp Tryz.f85 0) := rks (WI ..) (rc1 (fun s K hb => ⟨N, by rw [← ar hb, LO s]; unfold zJ; exact NL N K N _ _ _ _ _ _⟩) rc0)
theorem Zu (N : Nat) (a0 c0 c1 : Int) (K : TV → O β) : aL lay (UT zq2 zq3 zq5 N) Tryz.f85 [(Z' a0), .v (.one (.cref [.int .i64 c0, .int .i64 c1] 0))] K = zb6 zq2 zq5 N a0 c0 c1 (fun z1 => K (.v (.one (.bool z1)))) := by kernel_rfl
theorem o85 (N : Nat) : ao (β := β) inv Tryz.prog 85 (S85 N) := by
 refine ap au mixed (E := E85 N) (ae (aa (o65 N) (aa (o66 N) ag))) ak av Tryz.func85 (by kernel_rfl) 1 (by kernel_rfl) ⟨trivial, XQ N⟩ fun args K r h => ?_
 unfold S85 Qk at h
 split at h
 ·exact (Zu (zj2 N) (zj3 N) (zj5 N) N _ _ _ _).trans h
 ·cases h
def u7 (N : Nat) : Rv.Spec β := fun args K => match args with
 | [.v (.one (.int .i64 a0))] => zq7 a0 (fun z1 => K (.v (.one (.bool z1))))
 | _ => none
def S54 (N : Nat) : Rv.Spec β := u7 (zj7 N) N
def aaS (N : Nat) : Env β := ⟨[], [], [], [], ⟨[], [], [], []⟩⟩
def E54 (N : Nat) : Env β := aaS N
theorem YS (N : Nat) (a0 : Int) (K : TV → O β) : aL lay (aaS N) Tryz.f54 [(Z' a0)] K = zb7 N a0 (fun z1 => K (.v (.one (.bool z1)))) := by kernel_rfl
theorem o54 (N : Nat) : ao (β := β) inv Tryz.prog 54 (S54 N) := by
 refine ap au mixed (E := E54 N) (ae ag) ak av Tryz.func54 (by kernel_rfl) 0 (by kernel_rfl) trivial fun args K r h => ?_
 unfold S54 u7 at h
 split at h
 ·exact (YS N _ _).trans h
 ·cases h
def Kl (N : Nat) : Rv.Spec β := fun args K => match args with
 | [.v (.one (.int .i64 a0)), .v (.one (.int .i64 a1))] => zq8 a0 a1 (fun z2 => K (.v (.one (.bool z2))))
 | _ => none
def aaw (N : Nat) : Rv.Spec β := Kl (zj8 N) N
def SU (N : Nat) : Env β := ⟨[], [], [], [], ⟨[], [], [], []⟩⟩
def acL (N : Nat) : Env β := SU N
theorem RW (N : Nat) (a0 a1 : Int) (K : TV → O β) : aL lay (SU N) Tryz.f117 [(Z' a0), (Z' a1)] K = zb8 N a0 a1 (fun z2 => K (.v (.one (.bool z2)))) := by kernel_rfl
theorem adp (N : Nat) : ao (β := β) inv Tryz.prog 117 (aaw N) := by
 refine ap au mixed (E := acL N) (ae ag) ak av Tryz.func117 (by kernel_rfl) 0 (by kernel_rfl) trivial fun args K r h => ?_
 unfold aaw Kl at h
 split at h
 ·exact (RW N _ _ _).trans h
 ·cases h
def Qm (N : Nat) : Rv.Spec β := fun args K => match args with
 | [.v (.one (.int .i64 a0)), .v (.agg [.int .i64 a1, .int .i64 a2])] => zq9 a0 a1 a2 (fun z3 => K (.v (.one (.bool z3))))
 | _ => none
def S88 (N : Nat) : Rv.Spec β := Qm (zj9 N) N
def abb (N : Nat) : Env β := ⟨[(54, u7 zq7 N), (117, Kl zq8 N)], [], [], [], ⟨[], [], [], []⟩⟩
def E88 (N : Nat) : Env β := abb (zj7 N) (zj8 N) N
theorem Zy (N : Nat) (a0 a1 a2 : Int) (K : TV → O β) : aL lay (abb zq7 zq8 N) Tryz.f88 [(Z' a0), .v (.agg [.int .i64 a1, .int .i64 a2])] K = zb9 zq7 zq8 N a0 a1 a2 (fun z3 => K (.v (.one (.bool z3)))) := by kernel_rfl
theorem o88 (N : Nat) : ao (β := β) inv Tryz.prog 88 (S88 N) := by
 refine ap au mixed (E := E88 N) (ae (aa (o54 N) (aa (adp N) ag))) ak av Tryz.func88 (by kernel_rfl) 0 (by kernel_rfl) trivial fun args K r h => ?_
 unfold S88 Qm at h
 split at h
 ·exact (Zy (zj7 N) (zj8 N) N _ _ _ _).trans h
 ·cases h
def Kt (N : Nat) : Rv.Spec β := fun args K => match args with
 | [.v (.agg [.int .i64 a0, .int .i64 a1]), .v (.one (.cref [.int .i64 c0] 0))] => ad8 a0 a1 c0 (fun z2 => K (.v (.one (.bool z2))))
 | _ => none
def S87 (N : Nat) : Rv.Spec β := Kt (gL N) N
def aba (N : Nat) : Env β := ⟨[(88, Qm zq9 N)], [], [], [], ⟨[], [], [], []⟩⟩
def E87 (N : Nat) : Env β := aba (zj9 N) N
theorem Zx (N : Nat) (a0 a1 c0 : Int) (K : TV → O β) : aL lay (aba zq9 N) Tryz.f87 [.v (.agg [.int .i64 a0, .int .i64 a1]), .v (.one (.cref [.int .i64 c0] 0))] K = R7 zq9 N a0 a1 c0 (fun z2 => K (.v (.one (.bool z2)))) := by kernel_rfl
theorem o87 (N : Nat) : ao (β := β) inv Tryz.prog 87 (S87 N) := by
 refine ap au mixed (E := E87 N) (ae (aa (o88 N) ag)) ak av Tryz.func87 (by kernel_rfl) 0 (by kernel_rfl) trivial fun args K r h => ?_
 unfold S87 Kt at h
 split at h
 ·exact (Zx (zj9 N) N _ _ _ _).trans h
 ·cases h
def Vt (N : Nat) : Rv.Spec β := fun args K => match args with
 | [.v (.agg [.int .i64 a0, .int .i64 a1]), .v (.one (.int .i64 a2))] => ago a0 a1 a2 (fun z3 => K (.v (.one (.bool z3))))
 | _ => none
def S91 (N : Nat) : Rv.Spec β := Vt (Jv N) N
def abe (N : Nat) : Env β := ⟨[], [], [], [], ⟨[], [], [], []⟩⟩
def E91 (N : Nat) : Env β := abe N
theorem ZB (N : Nat) (a0 a1 a2 : Int) (K : TV → O β) : aL lay (abe N) Tryz.f91 [.v (.agg [.int .i64 a0, .int .i64 a1]), (Z' a2)] K = R8 N a0 a1 a2 (fun z3 => K (.v (.one (.bool z3)))) := by kernel_rfl
theorem o91 (N : Nat) : ao (β := β) inv Tryz.prog 91 (S91 N) := by
 refine ap au mixed (E := E91 N) (ae ag) ak av Tryz.func91 (by kernel_rfl) 0 (by kernel_rfl) trivial fun args K r h => ?_
 unfold S91 Vt at h
 split at h
 ·exact (ZB N _ _ _ _).trans h
 ·cases h
def Ku (N : Nat) : Rv.Spec β := fun args K => match args with
 | [.v (.agg [.int .i64 a0, .int .i64 a1]), .v (.one (.cref [.int .i64 c0] 0))] => ad9 a0 a1 c0 (fun z2 => K (.v (.one (.bool z2))))
 | _ => none
def S90 (N : Nat) : Rv.Spec β := Ku (ij N) N
def abd (N : Nat) : Env β := ⟨[(91, Vt ago N)], [], [], [], ⟨[], [], [], []⟩⟩
def E90 (N : Nat) : Env β := abd (Jv N) N
theorem ZA (N : Nat) (a0 a1 c0 : Int) (K : TV → O β) : aL lay (abd ago N) Tryz.f90 [.v (.agg [.int .i64 a0, .int .i64 a1]), .v (.one (.cref [.int .i64 c0] 0))] K = R9 ago N a0 a1 c0 (fun z2 => K (.v (.one (.bool z2)))) := by kernel_rfl
theorem o90 (N : Nat) : ao (β := β) inv Tryz.prog 90 (S90 N) := by
 refine ap au mixed (E := E90 N) (ae (aa (o91 N) ag)) ak av Tryz.func90 (by kernel_rfl) 0 (by kernel_rfl) trivial fun args K r h => ?_
 unfold S90 Ku at h
 split at h
 ·exact (ZA (Jv N) N _ _ _ _).trans h
 ·cases h
def Kk (N : Nat) : Rv.Spec β := fun args K => match args with
 | [.v (.one (.sl 46 (.pairs a0))), .v (.one (.dfn 87 [([.int .i64 q0], 0)]))] => ae0 a0 (fun x0 x1 k => ad8 x0 x1 q0 k) (fun z2 => K (.v (.one (.int .i64 z2))))
 | [.v (.one (.sl 46 (.pairs a0))), .v (.one (.dfn 90 [([.int .i64 q0], 0)]))] => ae0 a0 (fun x0 x1 k => ad9 x0 x1 q0 k) (fun z2 => K (.v (.one (.int .i64 z2))))
 | _ => none
def aav (N : Nat) : Rv.Spec β := Kk (gL N) (ij N) (En N) N
def gT (q0 : Int) (v0 : List (Int × Int)) (v1 v2 : Int) : St := ⟨.v (.one (.sl 46 (.pairs v0))) :: .v (.one (.dfn 87 [([.int .i64 q0], 0)])) :: tn 5 ((Z' v1) :: (Z' v2) :: tn 10 []), []⟩
def kb (q0 y0 : Int) : St := ⟨tn 4 ((Z' y0) :: tn 14 []), []⟩
def kc (q0 : Int) : St := ⟨tn 19 [], []⟩
def gU (q0 : Int) (v0 : List (Int × Int)) (v1 v2 : Int) : St := ⟨.v (.one (.sl 46 (.pairs v0))) :: .v (.one (.dfn 90 [([.int .i64 q0], 0)])) :: tn 5 ((Z' v1) :: (Z' v2) :: tn 10 []), []⟩
def ke (q0 y0 : Int) : St := ⟨tn 4 ((Z' y0) :: tn 14 []), []⟩
def kf (q0 : Int) : St := ⟨tn 19 [], []⟩
def tR {γ : Type} (f : Int → (List (Int × Int)) → Int → Int → γ) (s : St) : γ := f (yz (nx .no (nx ([], 0) (sG (ah (vT (nx ac s.tmps 1)))) 0).1 0)) (bc (bF (ah (vT (nx ac s.tmps 0))))) (af (ah (vT (nx ac s.tmps 7)))) (af (ah (vT (nx ac s.tmps 8))))
theorem HC (s : St) : aP (gT 0 [] 0 0) s = tR gT s := by kernel_rfl
def tS {γ : Type} (f : Int → (List (Int × Int)) → Int → Int → γ) (s : St) : γ := f (yz (nx .no (nx ([], 0) (sG (ah (vT (nx ac s.tmps 1)))) 0).1 0)) (bc (bF (ah (vT (nx ac s.tmps 0))))) (af (ah (vT (nx ac s.tmps 7)))) (af (ah (vT (nx ac s.tmps 8))))
theorem HD (s : St) : aP (gU 0 [] 0 0) s = tS gU s := by kernel_rfl
def Ax (N : Nat) : ax β := fun s K => cond (aJ (gT 0 [] 0 0) s) (tR (fun q0 v0 v1 v2 => aeK (fun x0 x1 k => ad8 x0 x1 q0 k) N v0 v1 v2 (fun y0 => K .ret (kb q0 y0)) (K (.exit 0) (kc q0 ))) s) (cond (aJ (gU 0 [] 0 0) s) (tS (fun q0 v0 v1 v2 => aeK (fun x0 x1 k => ad9 x0 x1 q0 k) N v0 v1 v2 (fun y0 => K .ret (ke q0 y0)) (K (.exit 0) (kf q0 ))) s) (none))
def PW (N : Nat) : ax β := Ax (gL N) (ij N) (lW N) N
def At (N : Nat) : Env β := ⟨[(87, Kt ad8 N), (90, Ku ad9 N)], [], [(0, Ax ad8 ad9 aeK N)], [], ⟨[], [], [], []⟩⟩
def JD (N : Nat) : Env β := At (gL N) (ij N) (lW N) N
theorem Eg (N : Nat) (q0 : Int) (v0 : List (Int × Int)) (v1 v2 : Int) (rec_ : St → O β) (K : Exit → St → O β) :
  stB lay (At ad8 ad9 aeK N) Tryz.f116 0 (gT q0 v0 v1 v2) rec_ K = Em N (fun x0 x1 k => ad8 x0 x1 q0 k) v0 v1 v2 (fun v0 v1 v2 => rec_ (gT q0 v0 v1 v2)) (fun y0 => K .ret (kb q0 y0)) (K (.exit 0) (kc q0 )) := by kernel_rfl
theorem H8 (N : Nat) (q0 : Int) (K : Exit → St → O β) : ∀ (F : Nat) (v0 : List (Int × Int)) (v1 v2 : Int), (lp Tryz.f116 0).rounds lay (JD N) (ai Tryz.f116) F (gT q0 v0 v1 v2) K = lW N (fun x0 x1 k => gL N x0 x1 q0 k) F v0 v1 v2 (fun y0 => K .ret (kb q0 y0)) (K (.exit 0) (kc q0 )) := by
 intro F; induction F with
 | zero => intros; rfl
 | succ F ih => intros; rw [am]; refine (Eg (gL N) (ij N) (lW N) N q0 _ _ _ (fun s => (lp Tryz.f116 0).rounds lay (JD N) (ai Tryz.f116) F s K) K).trans ?_; simp only [ih]; rfl
theorem Eh (N : Nat) (q0 : Int) (v0 : List (Int × Int)) (v1 v2 : Int) (rec_ : St → O β) (K : Exit → St → O β) :
  stB lay (At ad8 ad9 aeK N) Tryz.f116 0 (gU q0 v0 v1 v2) rec_ K = Em N (fun x0 x1 k => ad9 x0 x1 q0 k) v0 v1 v2 (fun v0 v1 v2 => rec_ (gU q0 v0 v1 v2)) (fun y0 => K .ret (ke q0 y0)) (K (.exit 0) (kf q0 )) := by kernel_rfl
theorem H9 (N : Nat) (q0 : Int) (K : Exit → St → O β) : ∀ (F : Nat) (v0 : List (Int × Int)) (v1 v2 : Int), (lp Tryz.f116 0).rounds lay (JD N) (ai Tryz.f116) F (gU q0 v0 v1 v2) K = lW N (fun x0 x1 k => ij N x0 x1 q0 k) F v0 v1 v2 (fun y0 => K .ret (ke q0 y0)) (K (.exit 0) (kf q0 )) := by
 intro F; induction F with
 | zero => intros; rfl
 | succ F ih => intros; rw [am]; refine (Eh (gL N) (ij N) (lW N) N q0 _ _ _ (fun s => (lp Tryz.f116 0).rounds lay (JD N) (ai Tryz.f116) F s K) K).trans ?_; simp only [ih]; rfl
theorem QW (N : Nat) : aS (JD (β := β) N).loops (lp Tryz.f116 0).id = PW N := by kernel_rfl
theorem Rr (N : Nat) : ay lay (JD (β := β) N) (ai Tryz.f116) (lp Tryz.f116 0) := rks (QW ..) (rc1 (fun s K hb => ⟨N, by rw [← ar hb, HC s]; unfold tR; exact H8 N _ K N _ _ _⟩) (rc1 (fun s K hb => ⟨N, by rw [← ar hb, HD s]; unfold tS; exact H9 N _ K N _ _ _⟩) rc0))
theorem RU (N : Nat) (q0 : Int) (a0 : List (Int × Int)) (K : TV → O β) : aL lay (At ad8 ad9 aeK N) Tryz.f116 [.v (.one (.sl 46 (.pairs a0))), .v (.one (.dfn 87 [([.int .i64 q0], 0)]))] K = OA aeK N a0 (fun x0 x1 k => ad8 x0 x1 q0 k) (fun z2 => K ((Z' z2))) := by kernel_rfl
theorem RV (N : Nat) (q0 : Int) (a0 : List (Int × Int)) (K : TV → O β) : aL lay (At ad8 ad9 aeK N) Tryz.f116 [.v (.one (.sl 46 (.pairs a0))), .v (.one (.dfn 90 [([.int .i64 q0], 0)]))] K = OA aeK N a0 (fun x0 x1 k => ad9 x0 x1 q0 k) (fun z2 => K ((Z' z2))) := by kernel_rfl
theorem ado (N : Nat) : ao (β := β) inv Tryz.prog 116 (aav N) := by
 refine ap au mixed (E := JD N) (ae (aa (o87 N) (aa (o90 N) ag))) ak av Tryz.func116 (by kernel_rfl) 1 (by kernel_rfl) ⟨trivial, Rr N⟩ fun args K r h => ?_
 unfold aav Kk at h
 split at h
 ·exact (RU (gL N) (ij N) (lW N) N _ _ _).trans h
 ·exact (RV (gL N) (ij N) (lW N) N _ _ _).trans h
 ·cases h
def Ql (N : Nat) : Rv.Spec β := fun args K => match args with
 | [.v (.one (.sl 46 (.pairs a0))), .v (.one (.dfn 87 [([.int .i64 q0], 0)]))] => aeF a0 (fun x0 x1 k => ad8 x0 x1 q0 k) (fun z2 => K (.v (.one (.bool z2))))
 | [.v (.one (.sl 46 (.pairs a0))), .v (.one (.dfn 90 [([.int .i64 q0], 0)]))] => aeF a0 (fun x0 x1 k => ad9 x0 x1 q0 k) (fun z2 => K (.v (.one (.bool z2))))
 | _ => none
def S86 (N : Nat) : Rv.Spec β := Ql (gL N) (ij N) (vq N) N
def UU (N : Nat) : Env β := ⟨[(116, Kk ad8 ad9 ae0 N), (87, Kt ad8 N), (90, Ku ad9 N)], [], [], [], ⟨[], [], [], []⟩⟩
def E86 (N : Nat) : Env β := UU (gL N) (ij N) (En N) N
theorem Zv (N : Nat) (q0 : Int) (a0 : List (Int × Int)) (K : TV → O β) : aL lay (UU ad8 ad9 ae0 N) Tryz.f86 [.v (.one (.sl 46 (.pairs a0))), .v (.one (.dfn 87 [([.int .i64 q0], 0)]))] K = OG ae0 N a0 (fun x0 x1 k => ad8 x0 x1 q0 k) (fun z2 => K (.v (.one (.bool z2)))) := by kernel_rfl
theorem Zw (N : Nat) (q0 : Int) (a0 : List (Int × Int)) (K : TV → O β) : aL lay (UU ad8 ad9 ae0 N) Tryz.f86 [.v (.one (.sl 46 (.pairs a0))), .v (.one (.dfn 90 [([.int .i64 q0], 0)]))] K = OG ae0 N a0 (fun x0 x1 k => ad9 x0 x1 q0 k) (fun z2 => K (.v (.one (.bool z2)))) := by kernel_rfl
theorem o86 (N : Nat) : ao (β := β) inv Tryz.prog 86 (S86 N) := by
 refine ap au mixed (E := E86 N) (ae (aa (ado N) (aa (o87 N) (aa (o90 N) ag)))) ak av Tryz.func86 (by kernel_rfl) 0 (by kernel_rfl) trivial fun args K r h => ?_
 unfold S86 Ql at h
 split at h
 ·exact (Zv (gL N) (ij N) (En N) N _ _ _).trans h
 ·exact (Zw (gL N) (ij N) (En N) N _ _ _).trans h
 ·cases h
def Qn (N : Nat) : Rv.Spec β := fun args K => match args with
 | [.v (.one (.int .i64 a0)), .v (.one (.cref [.sl 46 (.pairs c0)] 0))] => adZ a0 c0 (fun z1 => K (.v (.one (.bool z1))))
 | _ => none
def S89 (N : Nat) : Rv.Spec β := Qn (da N) N
def abc (N : Nat) : Env β := ⟨[(86, Ql ad8 ad9 aeF N), (90, Ku ad9 N)], [], [], [], ⟨[], [], [], []⟩⟩
def E89 (N : Nat) : Env β := abc (gL N) (ij N) (vq N) N
theorem Zz (N : Nat) (a0 : Int) (c0 : List (Int × Int)) (K : TV → O β) : aL lay (abc ad8 ad9 aeF N) Tryz.f89 [(Z' a0), .v (.one (.cref [.sl 46 (.pairs c0)] 0))] K = Sa ad9 aeF N a0 c0 (fun z1 => K (.v (.one (.bool z1)))) := by kernel_rfl
theorem o89 (N : Nat) : ao (β := β) inv Tryz.prog 89 (S89 N) := by
 refine ap au mixed (E := E89 N) (ae (aa (o86 N) (aa (o90 N) ag))) ak av Tryz.func89 (by kernel_rfl) 0 (by kernel_rfl) trivial fun args K r h => ?_
 unfold S89 Qn at h
 split at h
 ·exact (Zz (gL N) (ij N) (vq N) N _ _ _).trans h
 ·cases h
def AD (N : Nat) : cc β := fun args bl K => match args, bl with
 | [.v (.one (.ptr 0 0))], [.pcells 0 127 [.int .u8 a0, .nilp, .nilp]] => aeB a0 (fun y0 y1 => K (.v (.one (.int .i64 y0))) [.pcells 0 127 [.int .u8 y1, .nilp, .nilp]])
 | [.v (.one (.tr false a0))], [] => aew a0 (fun y0 => K (.v (.one (.int .i64 y0))) [])
 | _, _ => none
def aax (N : Nat) : cc β := AD (uI N) (rK N) N
def Kc (N : Nat) : Env β := ⟨[], [], [], [], ⟨[], [], [], []⟩⟩
def acN (N : Nat) : Env β := Kc N
theorem RY (N : Nat) (a0 : Int) (K : TV → List Blk → O β) : pb lay (Kc N) Tryz.f119 [.v (.one (.ptr 0 0))] [.pcells 0 127 [.int .u8 a0, .nilp, .nilp]] K = ZN N a0 (fun y0 y1 => K ((Z' y0)) [.pcells 0 127 [.int .u8 y1, .nilp, .nilp]]) := by kernel_rfl
theorem RZ (N : Nat) (a0 : Tr) (K : TV → List Blk → O β) : pb lay (Kc N) Tryz.f119 [.v (.one (.tr false a0))] [] K = Sb N a0 (fun y0 => K ((Z' y0)) []) := by kernel_rfl
theorem WS (N : Nat) : GOK (β := β) inv Tryz.prog 119 (aax N) := by
 refine LW au mixed (E := acN N) (ae ag) ak av Tryz.func119 (by kernel_rfl) 0 (by kernel_rfl) trivial fun args bl K r h => ?_
 unfold aax AD at h
 split at h
 ·exact (RY N _ _).trans h
 ·exact (RZ N _ _).trans h
 ·cases h
def Vv (N : Nat) : Rv.Spec β := fun args K => match args with
 | [.v (.one (.tr false a0)), .v (.one (.int .i64 a1))] => agx a0 a1 (fun z2 z3 => K (.tup [.one (.int .i64 z2), .one (.int .i64 z3)]))
 | _ => none
def S95 (N : Nat) : Rv.Spec β := Vv (PD N) N
def lG (v0 : Tr) (v1 v2 : Int) : St := ⟨.v (.one (.tr false v0)) :: (Z' v1) :: tn 4 ((Z' v2) :: tn 28 []), []⟩
def oJ (y0 : Tr) (y1 : Int) : St := ⟨.v (.one (.tr false y0)) :: tn 5 ((Z' y1) :: tn 28 []), []⟩
def zK {γ : Type} (f : Tr → Int → Int → γ) (s : St) : γ := f (trS (ah (vT (nx ac s.tmps 0)))) (af (ah (vT (nx ac s.tmps 1)))) (af (ah (vT (nx ac s.tmps 6))))
theorem LP (s : St) : aP (lG Tr.nil 0 0) s = zK lG s := by kernel_rfl
def Fe (N : Nat) : ax β := fun s K => cond (aJ (lG Tr.nil 0 0) s) (zK (fun v0 v1 v2 => afX N v0 v1 v2 (fun y0 y1 => K (.exit 0) (oJ y0 y1))) s) (none)
def Up (N : Nat) : ax β := Fe (Ak N) N
def UV (N : Nat) : Env β := ⟨[], [], [(0, Fe afX N)], [(119, AD aeB aew N)], ⟨[], [], [], []⟩⟩
def E95 (N : Nat) : Env β := UV (uI N) (rK N) (Ak N) N
theorem Jp (N : Nat) (v0 : Tr) (v1 v2 : Int) (rec_ : St → O β) (K : Exit → St → O β) :
  stB lay (UV aeB aew afX N) Tryz.f95 0 (lG v0 v1 v2) rec_ K = ZO aew N v0 v1 v2 (fun v0 v1 v2 => rec_ (lG v0 v1 v2)) (fun y0 y1 => K (.exit 0) (oJ y0 y1)) := by kernel_rfl
theorem NM (N : Nat) (K : Exit → St → O β) : ∀ (F : Nat) (v0 : Tr) (v1 v2 : Int), (lp Tryz.f95 0).rounds lay (E95 N) (ai Tryz.f95) F (lG v0 v1 v2) K = Ak N F v0 v1 v2 (fun y0 y1 => K (.exit 0) (oJ y0 y1)) := by
 intro F; induction F with
 | zero => intros; rfl
 | succ F ih => intros; rw [am]; refine (Jp (uI N) (rK N) (Ak N) N _ _ _ (fun s => (lp Tryz.f95 0).rounds lay (E95 N) (ai Tryz.f95) F s K) K).trans ?_; simp only [ih]; rfl
theorem WJ (N : Nat) : aS (E95 (β := β) N).loops (lp Tryz.f95 0).id = Up N := by kernel_rfl
theorem XR (N : Nat) : ay lay (E95 (β := β) N) (ai Tryz.f95) (lp Tryz.f95 0) := rks (WJ ..) (rc1 (fun s K hb => ⟨N, by rw [← ar hb, LP s]; unfold zK; exact NM N K N _ _ _⟩) rc0)
theorem ZF (N : Nat) (a0 : Tr) (a1 : Int) (K : TV → O β) : aL lay (UV aeB aew afX N) Tryz.f95 [.v (.one (.tr false a0)), (Z' a1)] K = ZP afX N a0 a1 (fun z2 z3 => K (.tup [.one (.int .i64 z2), .one (.int .i64 z3)])) := by kernel_rfl
theorem o95 (N : Nat) : ao (β := β) inv Tryz.prog 95 (S95 N) := by
 refine ap au mixed (E := E95 N) (ae ag) ak (eR (WS N) av) Tryz.func95 (by kernel_rfl) 1 (by kernel_rfl) ⟨trivial, XR N⟩ fun args K r h => ?_
 unfold S95 Vv at h
 split at h
 ·exact (ZF (uI N) (rK N) (Ak N) N _ _ _).trans h
 ·cases h
def Qo (N : Nat) : Rv.Spec β := fun args K => match args with
 | [.v (.one (.int .i64 a0)), .v (.one (.cref [.tr false c0] 0))] => ad0 a0 c0 (fun z1 => K (.v (.one (.bool z1))))
 | _ => none
def S94 (N : Nat) : Rv.Spec β := Qo (de N) N
def abh (N : Nat) : Env β := ⟨[(95, Vv agx N)], [], [], [], ⟨[], [], [], []⟩⟩
def E94 (N : Nat) : Env β := abh (PD N) N
theorem ZE (N : Nat) (a0 : Int) (c0 : Tr) (K : TV → O β) : aL lay (abh agx N) Tryz.f94 [(Z' a0), .v (.one (.cref [.tr false c0] 0))] K = ZQ agx N a0 c0 (fun z1 => K (.v (.one (.bool z1)))) := by kernel_rfl
theorem o94 (N : Nat) : ao (β := β) inv Tryz.prog 94 (S94 N) := by
 refine ap au mixed (E := E94 N) (ae (aa (o95 N) ag)) ak av Tryz.func94 (by kernel_rfl) 0 (by kernel_rfl) trivial fun args K r h => ?_
 unfold S94 Qo at h
 split at h
 ·exact (ZE (PD N) N _ _ _).trans h
 ·cases h
def Qp (N : Nat) : Rv.Spec β := fun args K => match args with
 | [.v (.one (.int .i64 a0)), .v (.one (.cref [.tr false c0] 0))] => ad1 a0 c0 (fun z1 => K (.v (.one (.bool z1))))
 | _ => none
def S99 (N : Nat) : Rv.Spec β := Qp (df N) N
def abl (N : Nat) : Env β := ⟨[], [], [], [], ⟨[], [], [], []⟩⟩
def E99 (N : Nat) : Env β := abl N
theorem ZJ (N : Nat) (a0 : Int) (c0 : Tr) (K : TV → O β) : aL lay (abl N) Tryz.f99 [(Z' a0), .v (.one (.cref [.tr false c0] 0))] K = ZR N a0 c0 (fun z1 => K (.v (.one (.bool z1)))) := by kernel_rfl
theorem o99 (N : Nat) : ao (β := β) inv Tryz.prog 99 (S99 N) := by
 refine ap au mixed (E := E99 N) (ae ag) ak av Tryz.func99 (by kernel_rfl) 0 (by kernel_rfl) trivial fun args K r h => ?_
 unfold S99 Qp at h
 split at h
 ·exact (ZJ N _ _ _).trans h
 ·cases h
def AF (N : Nat) : Rv.Spec β := fun args K => match args with
 | [.v (.one (.int .i64 a0)), .v (.one (.dfn 126 [([.int .i64 q0], 0)]))] => ad4 a0 (fun x0 k => zq0 x0 q0 k) (fun z2 z3 => K (.v (.agg [.int .i64 z2, .int .i64 z3])))
 | [.v (.one (.int .i64 a0)), .v (.one (.dfn 53 [([.str q0], 0)]))] => ad4 a0 (fun x0 k => zq1 x0 q0 k) (fun z2 z3 => K (.v (.agg [.int .i64 z2, .int .i64 z3])))
 | [.v (.one (.int .i64 a0)), .v (.one (.dfn 85 [([.int .i64 q0, .int .i64 q1], 0)]))] => ad4 a0 (fun x0 k => zq6 x0 q0 q1 k) (fun z2 z3 => K (.v (.agg [.int .i64 z2, .int .i64 z3])))
 | [.v (.one (.int .i64 a0)), .v (.one (.dfn 89 [([.sl 46 (.pairs q0)], 0)]))] => ad4 a0 (fun x0 k => adZ x0 q0 k) (fun z2 z3 => K (.v (.agg [.int .i64 z2, .int .i64 z3])))
 | [.v (.one (.int .i64 a0)), .v (.one (.dfn 94 [([.tr false q0], 0)]))] => ad4 a0 (fun x0 k => ad0 x0 q0 k) (fun z2 z3 => K (.v (.agg [.int .i64 z2, .int .i64 z3])))
 | [.v (.one (.int .i64 a0)), .v (.one (.dfn 99 [([.tr false q0], 0)]))] => ad4 a0 (fun x0 k => ad1 x0 q0 k) (fun z2 z3 => K (.v (.agg [.int .i64 z2, .int .i64 z3])))
 | _ => none
def S52 (N : Nat) : Rv.Spec β := AF (zj0 N) (zj1 N) (zj6 N) (da N) (de N) (df N) (fK N) N
def lg (q0 v0 v1 v2 v3 v4 v5 : Int) : St := ⟨ac :: .v (.one (.dfn 126 [([.int .i64 q0], 0)])) :: ac :: ac :: .v (.one (.ptr 0 0)) :: .v (.one (.ptr 1 0)) :: tn 4 ((Z' v0) :: (Z' v1) :: tn 13 []), [.cells 26 [.int .i64 v2, .int .i64 v3], .cells 26 [.int .i64 v4, .int .i64 v5]]⟩
def n6 (q0 y0 y1 y2 y3 : Int) : St := ⟨tn 4 (.v (.one (.ptr 0 0)) :: .v (.one (.ptr 1 0)) :: tn 19 []), [.cells 26 [.int .i64 y0, .int .i64 y1], .cells 26 [.int .i64 y2, .int .i64 y3]]⟩
def lh (q0 : ByteArray) (v0 v1 v2 v3 v4 v5 : Int) : St := ⟨ac :: .v (.one (.dfn 53 [([.str q0], 0)])) :: ac :: ac :: .v (.one (.ptr 0 0)) :: .v (.one (.ptr 1 0)) :: tn 4 ((Z' v0) :: (Z' v1) :: tn 13 []), [.cells 26 [.int .i64 v2, .int .i64 v3], .cells 26 [.int .i64 v4, .int .i64 v5]]⟩
def n7 (q0 : ByteArray) (y0 y1 y2 y3 : Int) : St := ⟨tn 4 (.v (.one (.ptr 0 0)) :: .v (.one (.ptr 1 0)) :: tn 19 []), [.cells 26 [.int .i64 y0, .int .i64 y1], .cells 26 [.int .i64 y2, .int .i64 y3]]⟩
def ll (q0 q1 v0 v1 v2 v3 v4 v5 : Int) : St := ⟨ac :: .v (.one (.dfn 85 [([.int .i64 q0, .int .i64 q1], 0)])) :: ac :: ac :: .v (.one (.ptr 0 0)) :: .v (.one (.ptr 1 0)) :: tn 4 ((Z' v0) :: (Z' v1) :: tn 13 []), [.cells 26 [.int .i64 v2, .int .i64 v3], .cells 26 [.int .i64 v4, .int .i64 v5]]⟩
def n8 (q0 q1 y0 y1 y2 y3 : Int) : St := ⟨tn 4 (.v (.one (.ptr 0 0)) :: .v (.one (.ptr 1 0)) :: tn 19 []), [.cells 26 [.int .i64 y0, .int .i64 y1], .cells 26 [.int .i64 y2, .int .i64 y3]]⟩
def lm (q0 : List (Int × Int)) (v0 v1 v2 v3 v4 v5 : Int) : St := ⟨ac :: .v (.one (.dfn 89 [([.sl 46 (.pairs q0)], 0)])) :: ac :: ac :: .v (.one (.ptr 0 0)) :: .v (.one (.ptr 1 0)) :: tn 4 ((Z' v0) :: (Z' v1) :: tn 13 []), [.cells 26 [.int .i64 v2, .int .i64 v3], .cells 26 [.int .i64 v4, .int .i64 v5]]⟩
def n9 (q0 : List (Int × Int)) (y0 y1 y2 y3 : Int) : St := ⟨tn 4 (.v (.one (.ptr 0 0)) :: .v (.one (.ptr 1 0)) :: tn 19 []), [.cells 26 [.int .i64 y0, .int .i64 y1], .cells 26 [.int .i64 y2, .int .i64 y3]]⟩
def ln (q0 : Tr) (v0 v1 v2 v3 v4 v5 : Int) : St := ⟨ac :: .v (.one (.dfn 94 [([.tr false q0], 0)])) :: ac :: ac :: .v (.one (.ptr 0 0)) :: .v (.one (.ptr 1 0)) :: tn 4 ((Z' v0) :: (Z' v1) :: tn 13 []), [.cells 26 [.int .i64 v2, .int .i64 v3], .cells 26 [.int .i64 v4, .int .i64 v5]]⟩
def oa (q0 : Tr) (y0 y1 y2 y3 : Int) : St := ⟨tn 4 (.v (.one (.ptr 0 0)) :: .v (.one (.ptr 1 0)) :: tn 19 []), [.cells 26 [.int .i64 y0, .int .i64 y1], .cells 26 [.int .i64 y2, .int .i64 y3]]⟩
def lq (q0 : Tr) (v0 v1 v2 v3 v4 v5 : Int) : St := ⟨ac :: .v (.one (.dfn 99 [([.tr false q0], 0)])) :: ac :: ac :: .v (.one (.ptr 0 0)) :: .v (.one (.ptr 1 0)) :: tn 4 ((Z' v0) :: (Z' v1) :: tn 13 []), [.cells 26 [.int .i64 v2, .int .i64 v3], .cells 26 [.int .i64 v4, .int .i64 v5]]⟩
def ob (q0 : Tr) (y0 y1 y2 y3 : Int) : St := ⟨tn 4 (.v (.one (.ptr 0 0)) :: .v (.one (.ptr 1 0)) :: tn 19 []), [.cells 26 [.int .i64 y0, .int .i64 y1], .cells 26 [.int .i64 y2, .int .i64 y3]]⟩
def zr {γ : Type} (f : Int → Int → Int → Int → Int → Int → Int → γ) (s : St) : γ := f (yz (nx .no (nx ([], 0) (sG (ah (vT (nx ac s.tmps 1)))) 0).1 0)) (af (ah (vT (nx ac s.tmps 10)))) (af (ah (vT (nx ac s.tmps 11)))) (af (nx .und (aj (nx .dead s.blks 0)) 0)) (af (nx .und (aj (nx .dead s.blks 0)) 1)) (af (nx .und (aj (nx .dead s.blks 1)) 0)) (af (nx .und (aj (nx .dead s.blks 1)) 1))
theorem Lu (s : St) : aP (lg 0 0 0 0 0 0 0) s = zr lg s := by kernel_rfl
def zu {γ : Type} (f : ByteArray → Int → Int → Int → Int → Int → Int → γ) (s : St) : γ := f (XW (nx .no (nx ([], 0) (sG (ah (vT (nx ac s.tmps 1)))) 0).1 0)) (af (ah (vT (nx ac s.tmps 10)))) (af (ah (vT (nx ac s.tmps 11)))) (af (nx .und (aj (nx .dead s.blks 0)) 0)) (af (nx .und (aj (nx .dead s.blks 0)) 1)) (af (nx .und (aj (nx .dead s.blks 1)) 0)) (af (nx .und (aj (nx .dead s.blks 1)) 1))
theorem Lv (s : St) : aP (lh ByteArray.empty 0 0 0 0 0 0) s = zu lh s := by kernel_rfl
def zv {γ : Type} (f : Int → Int → Int → Int → Int → Int → Int → Int → γ) (s : St) : γ := f (yz (nx .no (nx ([], 0) (sG (ah (vT (nx ac s.tmps 1)))) 0).1 0)) (yz (nx .no (nx ([], 0) (sG (ah (vT (nx ac s.tmps 1)))) 0).1 1)) (af (ah (vT (nx ac s.tmps 10)))) (af (ah (vT (nx ac s.tmps 11)))) (af (nx .und (aj (nx .dead s.blks 0)) 0)) (af (nx .und (aj (nx .dead s.blks 0)) 1)) (af (nx .und (aj (nx .dead s.blks 1)) 0)) (af (nx .und (aj (nx .dead s.blks 1)) 1))
theorem Lw (s : St) : aP (ll 0 0 0 0 0 0 0 0) s = zv ll s := by kernel_rfl
def zw {γ : Type} (f : (List (Int × Int)) → Int → Int → Int → Int → Int → Int → γ) (s : St) : γ := f (bc (XS (nx .no (nx ([], 0) (sG (ah (vT (nx ac s.tmps 1)))) 0).1 0))) (af (ah (vT (nx ac s.tmps 10)))) (af (ah (vT (nx ac s.tmps 11)))) (af (nx .und (aj (nx .dead s.blks 0)) 0)) (af (nx .und (aj (nx .dead s.blks 0)) 1)) (af (nx .und (aj (nx .dead s.blks 1)) 0)) (af (nx .und (aj (nx .dead s.blks 1)) 1))
theorem Lx (s : St) : aP (lm [] 0 0 0 0 0 0) s = zw lm s := by kernel_rfl
def zx {γ : Type} (f : Tr → Int → Int → Int → Int → Int → Int → γ) (s : St) : γ := f (trF (nx .no (nx ([], 0) (sG (ah (vT (nx ac s.tmps 1)))) 0).1 0)) (af (ah (vT (nx ac s.tmps 10)))) (af (ah (vT (nx ac s.tmps 11)))) (af (nx .und (aj (nx .dead s.blks 0)) 0)) (af (nx .und (aj (nx .dead s.blks 0)) 1)) (af (nx .und (aj (nx .dead s.blks 1)) 0)) (af (nx .und (aj (nx .dead s.blks 1)) 1))
theorem Ly (s : St) : aP (ln Tr.nil 0 0 0 0 0 0) s = zx ln s := by kernel_rfl
def zy {γ : Type} (f : Tr → Int → Int → Int → Int → Int → Int → γ) (s : St) : γ := f (trF (nx .no (nx ([], 0) (sG (ah (vT (nx ac s.tmps 1)))) 0).1 0)) (af (ah (vT (nx ac s.tmps 10)))) (af (ah (vT (nx ac s.tmps 11)))) (af (nx .und (aj (nx .dead s.blks 0)) 0)) (af (nx .und (aj (nx .dead s.blks 0)) 1)) (af (nx .und (aj (nx .dead s.blks 1)) 0)) (af (nx .und (aj (nx .dead s.blks 1)) 1))
theorem Lz (s : St) : aP (lq Tr.nil 0 0 0 0 0 0) s = zy lq s := by kernel_rfl
def EU (N : Nat) : ax β := fun s K => cond (aJ (lg 0 0 0 0 0 0 0) s) (zr (fun q0 v0 v1 v2 v3 v4 v5 => ad7 (fun x0 k => zq0 x0 q0 k) N v0 v1 v2 v3 v4 v5 (fun y0 y1 y2 y3 => K (.exit 0) (n6 q0 y0 y1 y2 y3))) s) (cond (aJ (lh ByteArray.empty 0 0 0 0 0 0) s) (zu (fun q0 v0 v1 v2 v3 v4 v5 => ad7 (fun x0 k => zq1 x0 q0 k) N v0 v1 v2 v3 v4 v5 (fun y0 y1 y2 y3 => K (.exit 0) (n7 q0 y0 y1 y2 y3))) s) (cond (aJ (ll 0 0 0 0 0 0 0 0) s) (zv (fun q0 q1 v0 v1 v2 v3 v4 v5 => ad7 (fun x0 k => zq6 x0 q0 q1 k) N v0 v1 v2 v3 v4 v5 (fun y0 y1 y2 y3 => K (.exit 0) (n8 q0 q1 y0 y1 y2 y3))) s) (cond (aJ (lm [] 0 0 0 0 0 0) s) (zw (fun q0 v0 v1 v2 v3 v4 v5 => ad7 (fun x0 k => adZ x0 q0 k) N v0 v1 v2 v3 v4 v5 (fun y0 y1 y2 y3 => K (.exit 0) (n9 q0 y0 y1 y2 y3))) s) (cond (aJ (ln Tr.nil 0 0 0 0 0 0) s) (zx (fun q0 v0 v1 v2 v3 v4 v5 => ad7 (fun x0 k => ad0 x0 q0 k) N v0 v1 v2 v3 v4 v5 (fun y0 y1 y2 y3 => K (.exit 0) (oa q0 y0 y1 y2 y3))) s) (cond (aJ (lq Tr.nil 0 0 0 0 0 0) s) (zy (fun q0 v0 v1 v2 v3 v4 v5 => ad7 (fun x0 k => ad1 x0 q0 k) N v0 v1 v2 v3 v4 v5 (fun y0 y1 y2 y3 => K (.exit 0) (ob q0 y0 y1 y2 y3))) s) (none))))))
def Ud (N : Nat) : ax β := EU (zj0 N) (zj1 N) (zj6 N) (da N) (de N) (df N) (eT N) N
def qa (N : Nat) : Env β := ⟨[(126, Fh zq0 N), (53, Qc zq1 N), (85, Qk zq6 N), (89, Qn adZ N), (94, Qo ad0 N), (99, Qp ad1 N)], [], [(0, EU zq0 zq1 zq6 adZ ad0 ad1 ad7 N)], [], ⟨[], [], [], []⟩⟩
def E52 (N : Nat) : Env β := qa (zj0 N) (zj1 N) (zj6 N) (da N) (de N) (df N) (eT N) N
theorem I4 (N : Nat) (q0 v0 v1 v2 v3 v4 v5 : Int) (rec_ : St → O β) (K : Exit → St → O β) :
  stB lay (qa zq0 zq1 zq6 adZ ad0 ad1 ad7 N) Tryz.f52 0 (lg q0 v0 v1 v2 v3 v4 v5) rec_ K = CL N (fun x0 k => zq0 x0 q0 k) v0 v1 v2 v3 v4 v5 (fun v0 v1 v2 v3 v4 v5 => rec_ (lg q0 v0 v1 v2 v3 v4 v5)) (fun y0 y1 y2 y3 => K (.exit 0) (n6 q0 y0 y1 y2 y3)) := by kernel_rfl
theorem Nr (N : Nat) (q0 : Int) (K : Exit → St → O β) : ∀ (F : Nat) (v0 v1 v2 v3 v4 v5 : Int), (lp Tryz.f52 0).rounds lay (E52 N) (ai Tryz.f52) F (lg q0 v0 v1 v2 v3 v4 v5) K = eT N (fun x0 k => zj0 N x0 q0 k) F v0 v1 v2 v3 v4 v5 (fun y0 y1 y2 y3 => K (.exit 0) (n6 q0 y0 y1 y2 y3)) := by
 intro F; induction F with
 | zero => intros; rfl
 | succ F ih => intros; rw [am]; refine (I4 (zj0 N) (zj1 N) (zj6 N) (da N) (de N) (df N) (eT N) N q0 _ _ _ _ _ _ (fun s => (lp Tryz.f52 0).rounds lay (E52 N) (ai Tryz.f52) F s K) K).trans ?_; simp only [ih]; rfl
theorem I5 (N : Nat) (q0 : ByteArray) (v0 v1 v2 v3 v4 v5 : Int) (rec_ : St → O β) (K : Exit → St → O β) :
  stB lay (qa zq0 zq1 zq6 adZ ad0 ad1 ad7 N) Tryz.f52 0 (lh q0 v0 v1 v2 v3 v4 v5) rec_ K = CL N (fun x0 k => zq1 x0 q0 k) v0 v1 v2 v3 v4 v5 (fun v0 v1 v2 v3 v4 v5 => rec_ (lh q0 v0 v1 v2 v3 v4 v5)) (fun y0 y1 y2 y3 => K (.exit 0) (n7 q0 y0 y1 y2 y3)) := by kernel_rfl
theorem Ns (N : Nat) (q0 : ByteArray) (K : Exit → St → O β) : ∀ (F : Nat) (v0 v1 v2 v3 v4 v5 : Int), (lp Tryz.f52 0).rounds lay (E52 N) (ai Tryz.f52) F (lh q0 v0 v1 v2 v3 v4 v5) K = eT N (fun x0 k => zj1 N x0 q0 k) F v0 v1 v2 v3 v4 v5 (fun y0 y1 y2 y3 => K (.exit 0) (n7 q0 y0 y1 y2 y3)) := by
 intro F; induction F with
 | zero => intros; rfl
 | succ F ih => intros; rw [am]; refine (I5 (zj0 N) (zj1 N) (zj6 N) (da N) (de N) (df N) (eT N) N q0 _ _ _ _ _ _ (fun s => (lp Tryz.f52 0).rounds lay (E52 N) (ai Tryz.f52) F s K) K).trans ?_; simp only [ih]; rfl
theorem I6 (N : Nat) (q0 q1 v0 v1 v2 v3 v4 v5 : Int) (rec_ : St → O β) (K : Exit → St → O β) :
  stB lay (qa zq0 zq1 zq6 adZ ad0 ad1 ad7 N) Tryz.f52 0 (ll q0 q1 v0 v1 v2 v3 v4 v5) rec_ K = CL N (fun x0 k => zq6 x0 q0 q1 k) v0 v1 v2 v3 v4 v5 (fun v0 v1 v2 v3 v4 v5 => rec_ (ll q0 q1 v0 v1 v2 v3 v4 v5)) (fun y0 y1 y2 y3 => K (.exit 0) (n8 q0 q1 y0 y1 y2 y3)) := by kernel_rfl
theorem Nt (N : Nat) (q0 q1 : Int) (K : Exit → St → O β) : ∀ (F : Nat) (v0 v1 v2 v3 v4 v5 : Int), (lp Tryz.f52 0).rounds lay (E52 N) (ai Tryz.f52) F (ll q0 q1 v0 v1 v2 v3 v4 v5) K = eT N (fun x0 k => zj6 N x0 q0 q1 k) F v0 v1 v2 v3 v4 v5 (fun y0 y1 y2 y3 => K (.exit 0) (n8 q0 q1 y0 y1 y2 y3)) := by
 intro F; induction F with
 | zero => intros; rfl
 | succ F ih => intros; rw [am]; refine (I6 (zj0 N) (zj1 N) (zj6 N) (da N) (de N) (df N) (eT N) N q0 q1 _ _ _ _ _ _ (fun s => (lp Tryz.f52 0).rounds lay (E52 N) (ai Tryz.f52) F s K) K).trans ?_; simp only [ih]; rfl
theorem I7 (N : Nat) (q0 : List (Int × Int)) (v0 v1 v2 v3 v4 v5 : Int) (rec_ : St → O β) (K : Exit → St → O β) :
  stB lay (qa zq0 zq1 zq6 adZ ad0 ad1 ad7 N) Tryz.f52 0 (lm q0 v0 v1 v2 v3 v4 v5) rec_ K = CL N (fun x0 k => adZ x0 q0 k) v0 v1 v2 v3 v4 v5 (fun v0 v1 v2 v3 v4 v5 => rec_ (lm q0 v0 v1 v2 v3 v4 v5)) (fun y0 y1 y2 y3 => K (.exit 0) (n9 q0 y0 y1 y2 y3)) := by kernel_rfl
theorem Nu (N : Nat) (q0 : List (Int × Int)) (K : Exit → St → O β) : ∀ (F : Nat) (v0 v1 v2 v3 v4 v5 : Int), (lp Tryz.f52 0).rounds lay (E52 N) (ai Tryz.f52) F (lm q0 v0 v1 v2 v3 v4 v5) K = eT N (fun x0 k => da N x0 q0 k) F v0 v1 v2 v3 v4 v5 (fun y0 y1 y2 y3 => K (.exit 0) (n9 q0 y0 y1 y2 y3)) := by
 intro F; induction F with
 | zero => intros; rfl
 | succ F ih => intros; rw [am]; refine (I7 (zj0 N) (zj1 N) (zj6 N) (da N) (de N) (df N) (eT N) N q0 _ _ _ _ _ _ (fun s => (lp Tryz.f52 0).rounds lay (E52 N) (ai Tryz.f52) F s K) K).trans ?_; simp only [ih]; rfl
theorem I8 (N : Nat) (q0 : Tr) (v0 v1 v2 v3 v4 v5 : Int) (rec_ : St → O β) (K : Exit → St → O β) :
  stB lay (qa zq0 zq1 zq6 adZ ad0 ad1 ad7 N) Tryz.f52 0 (ln q0 v0 v1 v2 v3 v4 v5) rec_ K = CL N (fun x0 k => ad0 x0 q0 k) v0 v1 v2 v3 v4 v5 (fun v0 v1 v2 v3 v4 v5 => rec_ (ln q0 v0 v1 v2 v3 v4 v5)) (fun y0 y1 y2 y3 => K (.exit 0) (oa q0 y0 y1 y2 y3)) := by kernel_rfl
theorem Nv (N : Nat) (q0 : Tr) (K : Exit → St → O β) : ∀ (F : Nat) (v0 v1 v2 v3 v4 v5 : Int), (lp Tryz.f52 0).rounds lay (E52 N) (ai Tryz.f52) F (ln q0 v0 v1 v2 v3 v4 v5) K = eT N (fun x0 k => de N x0 q0 k) F v0 v1 v2 v3 v4 v5 (fun y0 y1 y2 y3 => K (.exit 0) (oa q0 y0 y1 y2 y3)) := by
 intro F; induction F with
 | zero => intros; rfl
 | succ F ih => intros; rw [am]; refine (I8 (zj0 N) (zj1 N) (zj6 N) (da N) (de N) (df N) (eT N) N q0 _ _ _ _ _ _ (fun s => (lp Tryz.f52 0).rounds lay (E52 N) (ai Tryz.f52) F s K) K).trans ?_; simp only [ih]; rfl
theorem I9 (N : Nat) (q0 : Tr) (v0 v1 v2 v3 v4 v5 : Int) (rec_ : St → O β) (K : Exit → St → O β) :
  stB lay (qa zq0 zq1 zq6 adZ ad0 ad1 ad7 N) Tryz.f52 0 (lq q0 v0 v1 v2 v3 v4 v5) rec_ K = CL N (fun x0 k => ad1 x0 q0 k) v0 v1 v2 v3 v4 v5 (fun v0 v1 v2 v3 v4 v5 => rec_ (lq q0 v0 v1 v2 v3 v4 v5)) (fun y0 y1 y2 y3 => K (.exit 0) (ob q0 y0 y1 y2 y3)) := by kernel_rfl
theorem Nw (N : Nat) (q0 : Tr) (K : Exit → St → O β) : ∀ (F : Nat) (v0 v1 v2 v3 v4 v5 : Int), (lp Tryz.f52 0).rounds lay (E52 N) (ai Tryz.f52) F (lq q0 v0 v1 v2 v3 v4 v5) K = eT N (fun x0 k => df N x0 q0 k) F v0 v1 v2 v3 v4 v5 (fun y0 y1 y2 y3 => K (.exit 0) (ob q0 y0 y1 y2 y3)) := by
 intro F; induction F with
 | zero => intros; rfl
 | succ F ih => intros; rw [am]; refine (I9 (zj0 N) (zj1 N) (zj6 N) (da N) (de N) (df N) (eT N) N q0 _ _ _ _ _ _ (fun s => (lp Tryz.f52 0).rounds lay (E52 N) (ai Tryz.f52) F s K) K).trans ?_; simp only [ih]; rfl
theorem Wt (N : Nat) : aS (E52 (β := β) N).loops (lp Tryz.f52 0).id = Ud N := by kernel_rfl
theorem XB (N : Nat) : ay lay (E52 (β := β) N) (ai Tryz.f52) (lp Tryz.f52 0) := rks (Wt ..) (rc1 (fun s K hb => ⟨N, by rw [← ar hb, Lu s]; unfold zr; exact Nr N _ K N _ _ _ _ _ _⟩) (rc1 (fun s K hb => ⟨N, by rw [← ar hb, Lv s]; unfold zu; exact Ns N _ K N _ _ _ _ _ _⟩) (rc1 (fun s K hb => ⟨N, by rw [← ar hb, Lw s]; unfold zv; exact Nt N _ _ K N _ _ _ _ _ _⟩) (rc1 (fun s K hb => ⟨N, by rw [← ar hb, Lx s]; unfold zw; exact Nu N _ K N _ _ _ _ _ _⟩) (rc1 (fun s K hb => ⟨N, by rw [← ar hb, Ly s]; unfold zx; exact Nv N _ K N _ _ _ _ _ _⟩) (rc1 (fun s K hb => ⟨N, by rw [← ar hb, Lz s]; unfold zy; exact Nw N _ K N _ _ _ _ _ _⟩) rc0))))))
theorem YL (N : Nat) (q0 a0 : Int) (K : TV → O β) : aL lay (qa zq0 zq1 zq6 adZ ad0 ad1 ad7 N) Tryz.f52 [(Z' a0), .v (.one (.dfn 126 [([.int .i64 q0], 0)]))] K = CM ad7 N a0 (fun x0 k => zq0 x0 q0 k) (fun z2 z3 => K (.v (.agg [.int .i64 z2, .int .i64 z3]))) := by kernel_rfl
theorem YM (N : Nat) (q0 : ByteArray) (a0 : Int) (K : TV → O β) : aL lay (qa zq0 zq1 zq6 adZ ad0 ad1 ad7 N) Tryz.f52 [(Z' a0), .v (.one (.dfn 53 [([.str q0], 0)]))] K = CM ad7 N a0 (fun x0 k => zq1 x0 q0 k) (fun z2 z3 => K (.v (.agg [.int .i64 z2, .int .i64 z3]))) := by kernel_rfl
theorem YN (N : Nat) (q0 q1 a0 : Int) (K : TV → O β) : aL lay (qa zq0 zq1 zq6 adZ ad0 ad1 ad7 N) Tryz.f52 [(Z' a0), .v (.one (.dfn 85 [([.int .i64 q0, .int .i64 q1], 0)]))] K = CM ad7 N a0 (fun x0 k => zq6 x0 q0 q1 k) (fun z2 z3 => K (.v (.agg [.int .i64 z2, .int .i64 z3]))) := by kernel_rfl
theorem YO (N : Nat) (q0 : List (Int × Int)) (a0 : Int) (K : TV → O β) : aL lay (qa zq0 zq1 zq6 adZ ad0 ad1 ad7 N) Tryz.f52 [(Z' a0), .v (.one (.dfn 89 [([.sl 46 (.pairs q0)], 0)]))] K = CM ad7 N a0 (fun x0 k => adZ x0 q0 k) (fun z2 z3 => K (.v (.agg [.int .i64 z2, .int .i64 z3]))) := by kernel_rfl
theorem YP (N : Nat) (q0 : Tr) (a0 : Int) (K : TV → O β) : aL lay (qa zq0 zq1 zq6 adZ ad0 ad1 ad7 N) Tryz.f52 [(Z' a0), .v (.one (.dfn 94 [([.tr false q0], 0)]))] K = CM ad7 N a0 (fun x0 k => ad0 x0 q0 k) (fun z2 z3 => K (.v (.agg [.int .i64 z2, .int .i64 z3]))) := by kernel_rfl
theorem YQ (N : Nat) (q0 : Tr) (a0 : Int) (K : TV → O β) : aL lay (qa zq0 zq1 zq6 adZ ad0 ad1 ad7 N) Tryz.f52 [(Z' a0), .v (.one (.dfn 99 [([.tr false q0], 0)]))] K = CM ad7 N a0 (fun x0 k => ad1 x0 q0 k) (fun z2 z3 => K (.v (.agg [.int .i64 z2, .int .i64 z3]))) := by kernel_rfl
theorem o52 (N : Nat) : ao (β := β) inv Tryz.prog 52 (S52 N) := by
 refine ap au mixed (E := E52 N) (ae (aa (abV N) (aa (o53 N) (aa (o85 N) (aa (o89 N) (aa (o94 N) (aa (o99 N) ag))))))) ak av Tryz.func52 (by kernel_rfl) 1 (by kernel_rfl) ⟨trivial, XB N⟩ fun args K r h => ?_
 unfold S52 AF at h
 split at h
 ·exact (YL (zj0 N) (zj1 N) (zj6 N) (da N) (de N) (df N) (eT N) N _ _ _).trans h
 ·exact (YM (zj0 N) (zj1 N) (zj6 N) (da N) (de N) (df N) (eT N) N _ _ _).trans h
 ·exact (YN (zj0 N) (zj1 N) (zj6 N) (da N) (de N) (df N) (eT N) N _ _ _ _).trans h
 ·exact (YO (zj0 N) (zj1 N) (zj6 N) (da N) (de N) (df N) (eT N) N _ _ _).trans h
 ·exact (YP (zj0 N) (zj1 N) (zj6 N) (da N) (de N) (df N) (eT N) N _ _ _).trans h
 ·exact (YQ (zj0 N) (zj1 N) (zj6 N) (da N) (de N) (df N) (eT N) N _ _ _).trans h
 ·cases h
def Fg (N : Nat) : Rv.Spec β := fun args K => match args with
 | [.v (.one (.int .i64 a0)), .v (.one (.int .i64 a1))] => aeo a0 a1 (fun z2 z3 => K (.v (.agg [.int .i64 z2, .int .i64 z3])))
 | _ => none
def Uq (N : Nat) : Rv.Spec β := Fg (p7 N) N
def SL (N : Nat) : Env β := ⟨[(52, AF zq0 zq1 zq6 adZ ad0 ad1 ad4 N), (126, Fh zq0 N)], [], [], [], ⟨[], [], [], []⟩⟩
def acI (N : Nat) : Env β := SL (zj0 N) (zj1 N) (zj6 N) (da N) (de N) (df N) (fK N) N
theorem RR (N : Nat) (a0 a1 : Int) (K : TV → O β) : aL lay (SL zq0 zq1 zq6 adZ ad0 ad1 ad4 N) Tryz.f108 [(Z' a0), (Z' a1)] K = Sc zq0 ad4 N a0 a1 (fun z2 z3 => K (.v (.agg [.int .i64 z2, .int .i64 z3]))) := by kernel_rfl
theorem WR (N : Nat) : ao (β := β) inv Tryz.prog 108 (Uq N) := by
 refine ap au mixed (E := acI N) (ae (aa (o52 N) (aa (abV N) ag))) ak av Tryz.func108 (by kernel_rfl) 0 (by kernel_rfl) trivial fun args K r h => ?_
 unfold Uq Fg at h
 split at h
 ·exact (RR (zj0 N) (zj1 N) (zj6 N) (da N) (de N) (df N) (fK N) N _ _ _).trans h
 ·cases h
def Vs (N : Nat) : Rv.Spec β := fun args K => match args with
 | [.v (.one (.int .i64 a0)), .v (.one (.int .i64 a1))] => aeH a0 a1 (fun z2 => K (.v (.one (.int .i64 z2))))
 | _ => none
def S81 (N : Nat) : Rv.Spec β := Vs (Al N) N
def lD (v0 v1 v2 v3 : Int) : St := ⟨(Z' v0) :: (Z' v1) :: tn 3 ((Z' v2) :: (Z' v3) :: tn 16 []), []⟩
def oG (y0 : Int) : St := ⟨tn 5 ((Z' y0) :: tn 17 []), []⟩
def zH {γ : Type} (f : Int → Int → Int → Int → γ) (s : St) : γ := f (af (ah (vT (nx ac s.tmps 0)))) (af (ah (vT (nx ac s.tmps 1)))) (af (ah (vT (nx ac s.tmps 5)))) (af (ah (vT (nx ac s.tmps 6))))
theorem LM (s : St) : aP (lD 0 0 0 0) s = zH lD s := by kernel_rfl
def Fa (N : Nat) : ax β := fun s K => cond (aJ (lD 0 0 0 0) s) (zH (fun v0 v1 v2 v3 => af6 N v0 v1 v2 v3 (fun y0 => K (.exit 0) (oG y0))) s) (none)
def Um (N : Nat) : ax β := Fa (vt N) N
def UR (N : Nat) : Env β := ⟨[], [], [(0, Fa af6 N)], [], ⟨[], [], [], []⟩⟩
def E81 (N : Nat) : Env β := UR (vt N) N
theorem Jm (N : Nat) (v0 v1 v2 v3 : Int) (rec_ : St → O β) (K : Exit → St → O β) :
  stB lay (UR af6 N) Tryz.f81 0 (lD v0 v1 v2 v3) rec_ K = Sd N v0 v1 v2 v3 (fun v0 v1 v2 v3 => rec_ (lD v0 v1 v2 v3)) (fun y0 => K (.exit 0) (oG y0)) := by kernel_rfl
theorem NJ (N : Nat) (K : Exit → St → O β) : ∀ (F : Nat) (v0 v1 v2 v3 : Int), (lp Tryz.f81 0).rounds lay (E81 N) (ai Tryz.f81) F (lD v0 v1 v2 v3) K = vt N F v0 v1 v2 v3 (fun y0 => K (.exit 0) (oG y0)) := by
 intro F; induction F with
 | zero => intros; rfl
 | succ F ih => intros; rw [am]; refine (Jm (vt N) N _ _ _ _ (fun s => (lp Tryz.f81 0).rounds lay (E81 N) (ai Tryz.f81) F s K) K).trans ?_; simp only [ih]; rfl
theorem WG (N : Nat) : aS (E81 (β := β) N).loops (lp Tryz.f81 0).id = Um N := by kernel_rfl
theorem XO (N : Nat) : ay lay (E81 (β := β) N) (ai Tryz.f81) (lp Tryz.f81 0) := rks (WG ..) (rc1 (fun s K hb => ⟨N, by rw [← ar hb, LM s]; unfold zH; exact NJ N K N _ _ _ _⟩) rc0)
theorem Zr (N : Nat) (a0 a1 : Int) (K : TV → O β) : aL lay (UR af6 N) Tryz.f81 [(Z' a0), (Z' a1)] K = acq af6 N a0 a1 (fun z2 => K ((Z' z2))) := by kernel_rfl
theorem o81 (N : Nat) : ao (β := β) inv Tryz.prog 81 (S81 N) := by
 refine ap au mixed (E := E81 N) (ae ag) ak av Tryz.func81 (by kernel_rfl) 1 (by kernel_rfl) ⟨trivial, XO N⟩ fun args K r h => ?_
 unfold S81 Vs at h
 split at h
 ·exact (Zr (vt N) N _ _ _).trans h
 ·cases h
def Kn (N : Nat) : Rv.Spec β := fun args K => match args with
 | [.v (.one (.sl 3 (.ints .i64 a0))), .v (.one (.int .i64 a1))] => agC a0 a1 (fun z2 => K (.v (.one (.int .i64 z2))))
 | _ => none
def aaB (N : Nat) : Rv.Spec β := Kn (PK N) N
def gW (v0 : List Int) (v1 v2 v3 : Int) : St := ⟨.v (.one (.sl 3 (.ints .i64 v0))) :: (Z' v1) :: tn 5 ((Z' v2) :: (Z' v3) :: tn 10 []), []⟩
def kh (y0 : Int) : St := ⟨tn 4 ((Z' y0) :: tn 14 []), []⟩
def ki : St := ⟨tn 19 [], []⟩
def tU {γ : Type} (f : List Int → Int → Int → Int → γ) (s : St) : γ := f (aY (bF (ah (vT (nx ac s.tmps 0))))) (af (ah (vT (nx ac s.tmps 1)))) (af (ah (vT (nx ac s.tmps 7)))) (af (ah (vT (nx ac s.tmps 8))))
theorem HF (s : St) : aP (gW [] 0 0 0) s = tU gW s := by kernel_rfl
def Az (N : Nat) : ax β := fun s K => cond (aJ (gW [] 0 0 0) s) (tU (fun v0 v1 v2 v3 => af7 N v0 v1 v2 v3 (fun y0 => K .ret (kh y0)) (K (.exit 0) (ki ))) s) (none)
def PY (N : Nat) : ax β := Az (uO N) N
def Ke (N : Nat) : Env β := ⟨[], [], [(0, Az af7 N)], [], ⟨[], [], [], []⟩⟩
def PQ (N : Nat) : Env β := Ke (uO N) N
theorem Ej (N : Nat) (v0 : List Int) (v1 v2 v3 : Int) (rec_ : St → O β) (K : Exit → St → O β) :
  stB lay (Ke af7 N) Tryz.f128 0 (gW v0 v1 v2 v3) rec_ K = Se N v0 v1 v2 v3 (fun v0 v1 v2 v3 => rec_ (gW v0 v1 v2 v3)) (fun y0 => K .ret (kh y0)) (K (.exit 0) (ki )) := by kernel_rfl
theorem Ib (N : Nat) (K : Exit → St → O β) : ∀ (F : Nat) (v0 : List Int) (v1 v2 v3 : Int), (lp Tryz.f128 0).rounds lay (PQ N) (ai Tryz.f128) F (gW v0 v1 v2 v3) K = uO N F v0 v1 v2 v3 (fun y0 => K .ret (kh y0)) (K (.exit 0) (ki )) := by
 intro F; induction F with
 | zero => intros; rfl
 | succ F ih => intros; rw [am]; refine (Ej (uO N) N _ _ _ _ (fun s => (lp Tryz.f128 0).rounds lay (PQ N) (ai Tryz.f128) F s K) K).trans ?_; simp only [ih]; rfl
theorem QY (N : Nat) : aS (PQ (β := β) N).loops (lp Tryz.f128 0).id = PY N := by kernel_rfl
theorem Rt (N : Nat) : ay lay (PQ (β := β) N) (ai Tryz.f128) (lp Tryz.f128 0) := rks (QY ..) (rc1 (fun s K hb => ⟨N, by rw [← ar hb, HF s]; unfold tU; exact Ib N K N _ _ _ _⟩) rc0)
theorem R3 (N : Nat) (a0 : List Int) (a1 : Int) (K : TV → O β) : aL lay (Ke af7 N) Tryz.f128 [.v (.one (.sl 3 (.ints .i64 a0))), (Z' a1)] K = ZS af7 N a0 a1 (fun z2 => K ((Z' z2))) := by kernel_rfl
theorem adu (N : Nat) : ao (β := β) inv Tryz.prog 128 (aaB N) := by
 refine ap au mixed (E := PQ N) (ae ag) ak av Tryz.func128 (by kernel_rfl) 1 (by kernel_rfl) ⟨trivial, Rt N⟩ fun args K r h => ?_
 unfold aaB Kn at h
 split at h
 ·exact (R3 (uO N) N _ _ _).trans h
 ·cases h
def S0 (N : Nat) : Rv.Spec β := fun args K => match args with
 | [.v (.one (.sl 3 (.ints .i64 a0))), .v (.one (.int .i64 a1))] => agS a0 a1 (fun z2 => K (.v (.one (.bool z2))))
 | _ => none
def Ur (N : Nat) : Rv.Spec β := S0 (Sy N) N
def SN (N : Nat) : Env β := ⟨[(128, Kn agC N)], [], [], [], ⟨[], [], [], []⟩⟩
def acJ (N : Nat) : Env β := SN (PK N) N
theorem RS (N : Nat) (a0 : List Int) (a1 : Int) (K : TV → O β) : aL lay (SN agC N) Tryz.f111 [.v (.one (.sl 3 (.ints .i64 a0))), (Z' a1)] K = ZT agC N a0 a1 (fun z2 => K (.v (.one (.bool z2)))) := by kernel_rfl
theorem adm (N : Nat) : ao (β := β) inv Tryz.prog 111 (Ur N) := by
 refine ap au mixed (E := acJ N) (ae (aa (adu N) ag)) ak av Tryz.func111 (by kernel_rfl) 0 (by kernel_rfl) trivial fun args K r h => ?_
 unfold Ur S0 at h
 split at h
 ·exact (RS (PK N) N _ _ _).trans h
 ·cases h
end Go.Proofs.YtmhlcbibbhelkaaGreatDoor
