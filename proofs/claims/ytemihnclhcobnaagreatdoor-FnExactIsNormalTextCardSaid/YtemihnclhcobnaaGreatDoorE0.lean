/- The functions that the claims cY bz as their texts do. -/
import Derived.Test.YtemihnclhcobnaaGreatDoorT0
import Derived.Test.YtemihnclhcobnaaGreatDoorProg
import Derived.KernelRfl
import Derived.Test.YtemihnclhcobnaaGreatDoorShelf
import Derived.Test.YtemihnclhcobnaaGreatDoorCut
namespace Go.Proofs.YtemihnclhcobnaaGreatDoor
set_option linter.unusedSimpArgs false
open Go.Rv
set_option maxRecDepth 100000
set_option maxHeartbeats 2000000
set_option linter.unusedVariables false
variable {β : Type}
abbrev Z' (x : Int) : TV := .v (.one (.int .i64 x))
def RC (L : Lay) (E : Env β) (ret : Nat) (l : b8) (sp : ax β) : Prop := ∀ s K r, sp s K = some r -> ∃ F, l.rounds L E ret F s K = some r
theorem rks {L : Lay} {E : Env β} {ret : Nat} {l : b8} {sp : ax β} (hk : aS E.loops l.id = sp) (h : RC L E ret l sp) : ay L E ret l := fun s K r e => h s K r (by rw [hk] at e; exact e)
theorem rc0 {L : Lay} {E : Env β} {ret : Nat} {l : b8} : RC L E ret l fun _ _ => none := fun s K r h => by cases h
theorem rc1 {L : Lay} {E : Env β} {ret : Nat} {l : b8} {h0 : St} {P Q : ax β} (hr : ∀ s K, aJ h0 s = true -> ∃ F, l.rounds L E ret F s K = P s K) (hq : RC L E ret l Q) : RC L E ret l fun s K => cond (aJ h0 s) (P s K) (Q s K) := by
 intro s K r h
 dsimp only at h
 cases hb : aJ h0 s with
 | true => rw [hb, ajZ] at h; obtain ⟨F, e⟩ := hr s K hb; exact ⟨F, e.trans h⟩
 | false => rw [hb, ajY] at h; exact hq s K r h
variable (zq0 : Y0 β) (zq1 : Y1 β) (zq2 : Y2 β) (zq3 : Y3 β) (zq5 : Y5 β) (zq6 : Y4 β) (zq7 : Y6 β) (zq8 : Y0 β) (zq9 ag8 ajn ag9 : Y4 β) (ahK : Y8 β) (ah0 : Y7 β) (ahF : Y9 β) (agZ : Y10 β) (ahB : Y11 β) (ahw : Y12 β) (aiX : Y14 β) (ajx : Y13 β) (ag0 ag1 : Y15 β) (ag7 : Y17 β) (ag4 : Y16 β) (aho : Y18 β) (ai6 : Y19 β) (ahH : Y2 β) (ai7 : Y21 β) (ajD : Y20 β) (ajT : Y22 β)
variable (N : Nat)
def lay : Lay := [(1, .func),
 (2, .int .i64),
 (3, .int .i64),
 (4, .bool),
 (5, .int .u8),
 (9, .string),
 (12, .int .u64),
 (21, .int .i32),
 (22, .struct [⟨0, 1, false⟩, ⟨1, 1, false⟩] [3, 3] 16 true),
 (23, .struct [⟨0, 1, false⟩, ⟨1, 1, false⟩] [3, 3] 16 true),
 (25, .struct [⟨0, 1, false⟩, ⟨1, 1, false⟩] [3, 3] 16 true),
 (40, .slice 3),
 (44, .slice 9),
 (45, .struct [⟨0, 1, false⟩] [44] 24 false),
 (46, .struct [⟨0, 1, false⟩] [44] 24 false),
 (55, .slice 93),
 (66, .int .u64),
 (68, .slice 5),
 (80, .pointer 46),
 (84, .map 3 4),
 (92, .struct [⟨0, 1, false⟩, ⟨1, 1, false⟩] [3, 3] 16 true),
 (93, .struct [⟨0, 1, false⟩, ⟨1, 1, false⟩] [3, 3] 16 true),
 (104, .pointer 193),
 (107, .pointer 166),
 (119, .pointer 173),
 (122, .struct [⟨0, 1, false⟩, ⟨1, 1, false⟩] [3, 3] 16 true),
 (123, .struct [⟨0, 1, false⟩, ⟨1, 1, false⟩] [3, 3] 16 true),
 (124, .slice 40),
 (136, .int .u64),
 (137, .pointer 139),
 (138, .struct [⟨0, 1, false⟩, ⟨1, 1, false⟩] [137, 68] 32 false),
 (139, .struct [⟨0, 1, false⟩, ⟨1, 1, false⟩] [137, 68] 32 false),
 (165, .struct [⟨0, 1, false⟩, ⟨1, 1, false⟩, ⟨2, 1, false⟩] [5, 107, 107] 24 false),
 (166, .struct [⟨0, 1, false⟩, ⟨1, 1, false⟩, ⟨2, 1, false⟩] [5, 107, 107] 24 false),
 (171, .map 123 3),
 (172, .struct [⟨0, 2, true⟩, ⟨2, 1, false⟩, ⟨3, 1, false⟩] [3, 3, 171, 171] 32 false),
 (173, .struct [⟨0, 2, true⟩, ⟨2, 1, false⟩, ⟨3, 1, false⟩] [3, 3, 171, 171] 32 false),
 (181, .pointer 5),
 (182, .slice 4),
 (192, .struct [⟨0, 1, false⟩, ⟨1, 1, false⟩, ⟨2, 1, false⟩] [5, 104, 104] 24 false),
 (193, .struct [⟨0, 1, false⟩, ⟨1, 1, false⟩, ⟨2, 1, false⟩] [5, 104, 104] 24 false),
 (194, .array 2 4),
 (202, .int .u32),
 (217, .struct [⟨0, 1, false⟩, ⟨1, 1, false⟩] [5, 5] 2 true),
 (218, .struct [⟨0, 1, false⟩, ⟨1, 1, false⟩] [5, 5] 2 true)]

theorem au : aO Tryz.prog lay := NE (by decide +kernel)
theorem mixed : Tryz.prog.follows .mixedOrders = true := by kernel_rfl
def inv : World -> Prop := vj Tryz.prog
def abr : Rv.Spec β := tJ N
theorem afO : ao (β := β) inv Tryz.prog 104 (abr N) := R8 Tryz.func104 (by kernel_rfl) Tryz.strconv_Itoa N
def abt : Rv.Spec β := tM N
theorem afP : ao (β := β) inv Tryz.prog 106 (abt N) := R9 Tryz.func106 (by kernel_rfl) Tryz.strings_Join_none Tryz.strings_Join N
def XC : Rv.Spec β := qM 9 N
theorem ady : ao (β := β) inv Tryz.prog 131 (XC N) := OU Tryz.func131 (by kernel_rfl) Tryz.split_told N
def Gx (N : Nat) : Rv.Spec β := fun args K => match args with
 | [.v (.one (.int .i64 a0)), .v (.one (.cref [.int .i64 c0] 0))] => zq0 a0 c0 (fun z1 => K (.v (.one (.bool z1))))
 | _ => none
def acl : Rv.Spec β := Gx (zj0 N) N
def WI (N : Nat) : Env β := ⟨[], [], [], [], ⟨[], [], [], []⟩⟩
def afm : Env β := WI N
theorem Vq (a0 c0 : Int) (K : TV -> O β) : aL lay (WI N) Tryz.f238 [(Z' a0), .v (.one (.cref [.int .i64 c0] 0))] K = zb0 N a0 c0 (fun z1 => K (.v (.one (.bool z1)))) := by kernel_rfl
theorem adO : ao (β := β) inv Tryz.prog 238 (acl N) := by
 refine ap au mixed (E := afm N) (ae ag) aj av Tryz.func238 (by kernel_rfl) 0 (by kernel_rfl) trivial fun args K r h => ?_
 unfold acl Gx at h
 split at h
 ·exact (Vq N _ _ _).trans h
 ·cases h
def Gh (N : Nat) : Rv.Spec β := fun args K => match args with
 | [.v (.one (.int .i64 a0)), .v (.one (.cref [.str c0] 0))] => zq1 a0 c0 (fun z1 => K (.v (.one (.bool z1))))
 | _ => none
def abD : Rv.Spec β := Gh (zj1 N) N
def V7 (N : Nat) : Env β := ⟨[], [], [], [], ⟨[], [], [], []⟩⟩
def aeK : Env β := V7 N
theorem Uq (a0 : Int) (c0 : ByteArray) (K : TV -> O β) : aL lay (V7 N) Tryz.f130 [(Z' a0), .v (.one (.cref [.str c0] 0))] K = zb1 N a0 c0 (fun z1 => K (.v (.one (.bool z1)))) := by kernel_rfl
theorem adx : ao (β := β) inv Tryz.prog 130 (abD N) := by
 refine ap au mixed (E := aeK N) (ae ag) aj av Tryz.func130 (by kernel_rfl) 0 (by kernel_rfl) trivial fun args K r h => ?_
 unfold abD Gh at h
 split at h
 ·exact (Uq N _ _ _).trans h
 ·cases h
def oM (N : Nat) : Rv.Spec β := fun args K => match args with
 | [.v (.agg [.int .i64 a0, .int .i64 a1])] => zq2 a0 a1 (fun z2 => K (.v (.one (.int .i64 z2))))
 | _ => none
def abp : Rv.Spec β := oM (zj2 N) N
def V1 (N : Nat) : Env β := ⟨[], [], [], [], ⟨[], [], [], []⟩⟩
def aeE : Env β := V1 N
theorem T9 (a0 a1 : Int) (K : TV -> O β) : aL lay (V1 N) Tryz.f100 [.v (.agg [.int .i64 a0, .int .i64 a1])] K = zb2 N a0 a1 (fun z2 => K ((Z' z2))) := by kernel_rfl
theorem Er : ao (β := β) inv Tryz.prog 100 (abp N) := by
 refine ap au mixed (E := aeE N) (ae ag) aj av Tryz.func100 (by kernel_rfl) 0 (by kernel_rfl) trivial fun args K r h => ?_
 unfold abp oM at h
 split at h
 ·exact (T9 N _ _ _).trans h
 ·cases h
def so (N : Nat) : Rv.Spec β := fun args K => match args with
 | [.v (.agg [.int .i64 a0, .int .i64 a1]), .v (.one (.int .i64 a2))] => zq3 a0 a1 a2 (fun z3 => K (.v (.one (.int .i64 z3))))
 | _ => none
def abq : Rv.Spec β := so (zj3 N) N
def V2 (N : Nat) : Env β := ⟨[], [], [], [], ⟨[], [], [], []⟩⟩
def aeF : Env β := V2 N
theorem Ua (a0 a1 a2 : Int) (K : TV -> O β) : aL lay (V2 N) Tryz.f103 [.v (.agg [.int .i64 a0, .int .i64 a1]), (Z' a2)] K = zb3 N a0 a1 a2 (fun z3 => K ((Z' z3))) := by kernel_rfl
theorem NT : ao (β := β) inv Tryz.prog 103 (abq N) := by
 refine ap au mixed (E := aeF N) (ae ag) aj av Tryz.func103 (by kernel_rfl) 0 (by kernel_rfl) trivial fun args K r h => ?_
 unfold abq so at h
 split at h
 ·exact (Ua N _ _ _ _).trans h
 ·cases h
def Gp (N : Nat) : Rv.Spec β := fun args K => match args with
 | [.v (.one (.int .i64 a0)), .v (.one (.cref [.int .i64 c0, .int .i64 c1] 0))] => zq6 a0 c0 c1 (fun z1 => K (.v (.one (.bool z1))))
 | _ => none
def abW : Rv.Spec β := Gp (zj6 N) N
def im (v0 v1 v2 v3 v4 v5 : Int) : St := ⟨(Z' v0) :: .v (.one (.cref [.int .i64 v1, .int .i64 v2] 0)) :: ac :: ac :: (Z' v3) :: ac :: ac :: (Z' v4) :: (Z' v5) :: tn 14 [], []⟩
def ly (y0 : Int) : St := ⟨tn 4 ((Z' y0) :: tn 18 []), []⟩
def uz {γ : Type} (f : Int -> Int -> Int -> Int -> Int -> Int -> γ) (s : St) : γ := f (af (ah (vT (nx ac s.tmps 0)))) (zu (nx .no (GH (ah (vT (nx ac s.tmps 1)))) 0)) (zu (nx .no (GH (ah (vT (nx ac s.tmps 1)))) 1)) (af (ah (vT (nx ac s.tmps 4)))) (af (ah (vT (nx ac s.tmps 7)))) (af (ah (vT (nx ac s.tmps 8))))
theorem Jf (s : St) : aP (im 0 0 0 0 0 0) s = uz im s := by kernel_rfl
def Bg : ax β := fun s K => cond (aJ (im 0 0 0 0 0 0) s) (uz (fun v0 v1 v2 v3 v4 v5 => zq5 N v0 v1 v2 v3 v4 v5 (fun y0 => K (.exit 0) (ly y0))) s) (none)
def Rm : ax β := Bg (zj5 N) N
def LN : Env β := ⟨[(100, oM zq2 N), (103, so zq3 N)], [], [(0, Bg zq5 N)], [], ⟨[], [], [], []⟩⟩
def QU : Env β := LN (zj2 N) (zj3 N) (zj5 N) N
theorem Fr (v0 v1 v2 v3 v4 v5 : Int) (rec_ : St -> O β) (K : Exit -> St -> O β) :
  stB lay (LN zq2 zq3 zq5 N) Tryz.f189 0 (im v0 v1 v2 v3 v4 v5) rec_ K = zb4 zq3 N v0 v1 v2 v3 v4 v5 (fun v0 v1 v2 v3 v4 v5 => rec_ (im v0 v1 v2 v3 v4 v5)) (fun y0 => K (.exit 0) (ly y0)) := by kernel_rfl
theorem Kl (K : Exit -> St -> O β) : ∀ (F : Nat) (v0 v1 v2 v3 v4 v5 : Int), (lp Tryz.f189 0).rounds lay (QU N) (ai Tryz.f189) F (im v0 v1 v2 v3 v4 v5) K = zj5 N F v0 v1 v2 v3 v4 v5 (fun y0 => K (.exit 0) (ly y0)) := by
 intro F; induction F with
 | zero => intros; rfl
 | succ F ih => intros; rw [am]; refine (Fr (zj2 N) (zj3 N) (zj5 N) N _ _ _ _ _ _ (fun s => (lp Tryz.f189 0).rounds lay (QU N) (ai Tryz.f189) F s K) K).trans ?_; simp only [ih]; rfl
theorem SD : aS (QU (β := β) N).loops (lp Tryz.f189 0).id = Rm N := by kernel_rfl
theorem TJ : ay lay (QU (β := β) N) (ai Tryz.f189) (lp Tryz.f189 0) := rks (SD ..) (rc1 (fun s K hb => ⟨N, by rw [<- ar hb, Jf s]; unfold uz; exact Kl N K N _ _ _ _ _ _⟩) rc0)
theorem UR (a0 c0 c1 : Int) (K : TV -> O β) : aL lay (LN zq2 zq3 zq5 N) Tryz.f189 [(Z' a0), .v (.one (.cref [.int .i64 c0, .int .i64 c1] 0))] K = zb6 zq2 zq5 N a0 c0 c1 (fun z1 => K (.v (.one (.bool z1)))) := by kernel_rfl
theorem adG : ao (β := β) inv Tryz.prog 189 (abW N) := by
 refine ap au mixed (E := QU N) (ae (aa (Er N) (aa (NT N) ag))) aj av Tryz.func189 (by kernel_rfl) 1 (by kernel_rfl) ⟨trivial, TJ N⟩ fun args K r h => ?_
 unfold abW Gp at h
 split at h
 ·exact (UR (zj2 N) (zj3 N) (zj5 N) N _ _ _ _).trans h
 ·cases h
def wc (N : Nat) : Rv.Spec β := fun args K => match args with
 | [.v (.one (.int .i64 a0))] => zq7 a0 (fun z1 => K (.v (.one (.bool z1))))
 | _ => none
def S99 : Rv.Spec β := wc (zj7 N) N
def acI (N : Nat) : Env β := ⟨[], [], [], [], ⟨[], [], [], []⟩⟩
def E99 : Env β := acI N
theorem aaM (a0 : Int) (K : TV -> O β) : aL lay (acI N) Tryz.f99 [(Z' a0)] K = zb7 N a0 (fun z1 => K (.v (.one (.bool z1)))) := by kernel_rfl
theorem o99 : ao (β := β) inv Tryz.prog 99 (S99 N) := by
 refine ap au mixed (E := E99 N) (ae ag) aj av Tryz.func99 (by kernel_rfl) 0 (by kernel_rfl) trivial fun args K r h => ?_
 unfold S99 wc at h
 split at h
 ·exact (aaM N _ _).trans h
 ·cases h
def Ml (N : Nat) : Rv.Spec β := fun args K => match args with
 | [.v (.one (.int .i64 a0)), .v (.one (.int .i64 a1))] => zq8 a0 a1 (fun z2 => K (.v (.one (.bool z2))))
 | _ => none
def aci : Rv.Spec β := Ml (zj8 N) N
def WF (N : Nat) : Env β := ⟨[], [], [], [], ⟨[], [], [], []⟩⟩
def afi : Env β := WF N
theorem Vk (a0 a1 : Int) (K : TV -> O β) : aL lay (WF N) Tryz.f233 [(Z' a0), (Z' a1)] K = zb8 N a0 a1 (fun z2 => K (.v (.one (.bool z2)))) := by kernel_rfl
theorem agr : ao (β := β) inv Tryz.prog 233 (aci N) := by
 refine ap au mixed (E := afi N) (ae ag) aj av Tryz.func233 (by kernel_rfl) 0 (by kernel_rfl) trivial fun args K r h => ?_
 unfold aci Ml at h
 split at h
 ·exact (Vk N _ _ _).trans h
 ·cases h
def Gr (N : Nat) : Rv.Spec β := fun args K => match args with
 | [.v (.one (.int .i64 a0)), .v (.agg [.int .i64 a1, .int .i64 a2])] => zq9 a0 a1 a2 (fun z3 => K (.v (.one (.bool z3))))
 | _ => none
def abZ : Rv.Spec β := Gr (zj9 N) N
def Wp : Env β := ⟨[(99, wc zq7 N), (233, Ml zq8 N)], [], [], [], ⟨[], [], [], []⟩⟩
def ae2 : Env β := Wp (zj7 N) (zj8 N) N
theorem UV (a0 a1 a2 : Int) (K : TV -> O β) : aL lay (Wp zq7 zq8 N) Tryz.f192 [(Z' a0), .v (.agg [.int .i64 a1, .int .i64 a2])] K = zb9 zq7 zq8 N a0 a1 a2 (fun z3 => K (.v (.one (.bool z3)))) := by kernel_rfl
theorem adI : ao (β := β) inv Tryz.prog 192 (abZ N) := by
 refine ap au mixed (E := ae2 N) (ae (aa (o99 N) (aa (agr N) ag))) aj av Tryz.func192 (by kernel_rfl) 0 (by kernel_rfl) trivial fun args K r h => ?_
 unfold abZ Gr at h
 split at h
 ·exact (UV (zj7 N) (zj8 N) N _ _ _ _).trans h
 ·cases h
def Bv (N : Nat) : Rv.Spec β := fun args K => match args with
 | [.v (.agg [.int .i64 a0, .int .i64 a1]), .v (.one (.cref [.int .i64 c0] 0))] => ag8 a0 a1 c0 (fun z2 => K (.v (.one (.bool z2))))
 | _ => none
def abY : Rv.Spec β := Bv (gP N) N
def Wo : Env β := ⟨[(192, Gr zq9 N)], [], [], [], ⟨[], [], [], []⟩⟩
def ae1 : Env β := Wo (zj9 N) N
theorem UU (a0 a1 c0 : Int) (K : TV -> O β) : aL lay (Wo zq9 N) Tryz.f191 [.v (.agg [.int .i64 a0, .int .i64 a1]), .v (.one (.cref [.int .i64 c0] 0))] K = Vv zq9 N a0 a1 c0 (fun z2 => K (.v (.one (.bool z2)))) := by kernel_rfl
theorem Zp : ao (β := β) inv Tryz.prog 191 (abY N) := by
 refine ap au mixed (E := ae1 N) (ae (aa (adI N) ag)) aj av Tryz.func191 (by kernel_rfl) 0 (by kernel_rfl) trivial fun args K r h => ?_
 unfold abY Bv at h
 split at h
 ·exact (UU (zj9 N) N _ _ _ _).trans h
 ·cases h
def Ma (N : Nat) : Rv.Spec β := fun args K => match args with
 | [.v (.agg [.int .i64 a0, .int .i64 a1]), .v (.one (.int .i64 a2))] => ajn a0 a1 a2 (fun z3 => K (.v (.one (.bool z3))))
 | _ => none
def ab2 : Rv.Spec β := Ma (Lj N) N
def Ws (N : Nat) : Env β := ⟨[], [], [], [], ⟨[], [], [], []⟩⟩
def ae5 : Env β := Ws N
theorem UY (a0 a1 a2 : Int) (K : TV -> O β) : aL lay (Ws N) Tryz.f195 [.v (.agg [.int .i64 a0, .int .i64 a1]), (Z' a2)] K = Vw N a0 a1 a2 (fun z3 => K (.v (.one (.bool z3)))) := by kernel_rfl
theorem agc : ao (β := β) inv Tryz.prog 195 (ab2 N) := by
 refine ap au mixed (E := ae5 N) (ae ag) aj av Tryz.func195 (by kernel_rfl) 0 (by kernel_rfl) trivial fun args K r h => ?_
 unfold ab2 Ma at h
 split at h
 ·exact (UY N _ _ _ _).trans h
 ·cases h
def Bw (N : Nat) : Rv.Spec β := fun args K => match args with
 | [.v (.agg [.int .i64 a0, .int .i64 a1]), .v (.one (.cref [.int .i64 c0] 0))] => ag9 a0 a1 c0 (fun z2 => K (.v (.one (.bool z2))))
 | _ => none
def ab1 : Rv.Spec β := Bw (iS N) N
def Wr : Env β := ⟨[(195, Ma ajn N)], [], [], [], ⟨[], [], [], []⟩⟩
def ae4 : Env β := Wr (Lj N) N
theorem UX (a0 a1 c0 : Int) (K : TV -> O β) : aL lay (Wr ajn N) Tryz.f194 [.v (.agg [.int .i64 a0, .int .i64 a1]), .v (.one (.cref [.int .i64 c0] 0))] K = Vx ajn N a0 a1 c0 (fun z2 => K (.v (.one (.bool z2)))) := by kernel_rfl
theorem Zq : ao (β := β) inv Tryz.prog 194 (ab1 N) := by
 refine ap au mixed (E := ae4 N) (ae (aa (agc N) ag)) aj av Tryz.func194 (by kernel_rfl) 0 (by kernel_rfl) trivial fun args K r h => ?_
 unfold ab1 Bw at h
 split at h
 ·exact (UX (Lj N) N _ _ _ _).trans h
 ·cases h
def Mk (N : Nat) : Rv.Spec β := fun args K => match args with
 | [.v (.one (.sl 93 (.pairs a0))), .v (.one (.dfn 191 [([.int .i64 q0], 0)]))] => ah0 a0 (fun x0 x1 k => ag8 x0 x1 q0 k) (fun z2 => K (.v (.one (.int .i64 z2))))
 | [.v (.one (.sl 93 (.pairs a0))), .v (.one (.dfn 194 [([.int .i64 q0], 0)]))] => ah0 a0 (fun x0 x1 k => ag9 x0 x1 q0 k) (fun z2 => K (.v (.one (.int .i64 z2))))
 | _ => none
def ach : Rv.Spec β := Mk (gP N) (iS N) (FG N) N
def ix (q0 : Int) (v0 : List (Int × Int)) (v1 v2 : Int) : St := ⟨.v (.one (.sl 93 (.pairs v0))) :: .v (.one (.dfn 191 [([.int .i64 q0], 0)])) :: tn 5 ((Z' v1) :: (Z' v2) :: tn 10 []), []⟩
def lK (q0 y0 : Int) : St := ⟨tn 4 ((Z' y0) :: tn 14 []), []⟩
def lL (q0 : Int) : St := ⟨tn 19 [], []⟩
def iy (q0 : Int) (v0 : List (Int × Int)) (v1 v2 : Int) : St := ⟨.v (.one (.sl 93 (.pairs v0))) :: .v (.one (.dfn 194 [([.int .i64 q0], 0)])) :: tn 5 ((Z' v1) :: (Z' v2) :: tn 10 []), []⟩
def lM (q0 y0 : Int) : St := ⟨tn 4 ((Z' y0) :: tn 14 []), []⟩
def lN (q0 : Int) : St := ⟨tn 19 [], []⟩
def uH {γ : Type} (f : Int -> (List (Int × Int)) -> Int -> Int -> γ) (s : St) : γ := f (zu (nx .no (nx ([], 0) (sY (ah (vT (nx ac s.tmps 1)))) 0).1 0)) (bc (bF (ah (vT (nx ac s.tmps 0))))) (af (ah (vT (nx ac s.tmps 7)))) (af (ah (vT (nx ac s.tmps 8))))
theorem Jn (s : St) : aP (ix 0 [] 0 0) s = uH ix s := by kernel_rfl
def uI {γ : Type} (f : Int -> (List (Int × Int)) -> Int -> Int -> γ) (s : St) : γ := f (zu (nx .no (nx ([], 0) (sY (ah (vT (nx ac s.tmps 1)))) 0).1 0)) (bc (bF (ah (vT (nx ac s.tmps 0))))) (af (ah (vT (nx ac s.tmps 7)))) (af (ah (vT (nx ac s.tmps 8))))
theorem Jo (s : St) : aP (iy 0 [] 0 0) s = uI iy s := by kernel_rfl
def Bo : ax β := fun s K => cond (aJ (ix 0 [] 0 0) s) (uH (fun q0 v0 v1 v2 => ahK (fun x0 x1 k => ag8 x0 x1 q0 k) N v0 v1 v2 (fun y0 => K .ret (lK q0 y0)) (K (.exit 0) (lL q0 ))) s) (cond (aJ (iy 0 [] 0 0) s) (uI (fun q0 v0 v1 v2 => ahK (fun x0 x1 k => ag9 x0 x1 q0 k) N v0 v1 v2 (fun y0 => K .ret (lM q0 y0)) (K (.exit 0) (lN q0 ))) s) (none))
def Ru : ax β := Bo (gP N) (iS N) (mO N) N
def AW : Env β := ⟨[(191, Bv ag8 N), (194, Bw ag9 N)], [], [(0, Bo ag8 ag9 ahK N)], [], ⟨[], [], [], []⟩⟩
def Lr : Env β := AW (gP N) (iS N) (mO N) N
theorem Fz (q0 : Int) (v0 : List (Int × Int)) (v1 v2 : Int) (rec_ : St -> O β) (K : Exit -> St -> O β) :
  stB lay (AW ag8 ag9 ahK N) Tryz.f232 0 (ix q0 v0 v1 v2) rec_ K = FF N (fun x0 x1 k => ag8 x0 x1 q0 k) v0 v1 v2 (fun v0 v1 v2 => rec_ (ix q0 v0 v1 v2)) (fun y0 => K .ret (lK q0 y0)) (K (.exit 0) (lL q0 )) := by kernel_rfl
theorem Kt (q0 : Int) (K : Exit -> St -> O β) : ∀ (F : Nat) (v0 : List (Int × Int)) (v1 v2 : Int), (lp Tryz.f232 0).rounds lay (Lr N) (ai Tryz.f232) F (ix q0 v0 v1 v2) K = mO N (fun x0 x1 k => gP N x0 x1 q0 k) F v0 v1 v2 (fun y0 => K .ret (lK q0 y0)) (K (.exit 0) (lL q0 )) := by
 intro F; induction F with
 | zero => intros; rfl
 | succ F ih => intros; rw [am]; refine (Fz (gP N) (iS N) (mO N) N q0 _ _ _ (fun s => (lp Tryz.f232 0).rounds lay (Lr N) (ai Tryz.f232) F s K) K).trans ?_; simp only [ih]; rfl
theorem FA (q0 : Int) (v0 : List (Int × Int)) (v1 v2 : Int) (rec_ : St -> O β) (K : Exit -> St -> O β) :
  stB lay (AW ag8 ag9 ahK N) Tryz.f232 0 (iy q0 v0 v1 v2) rec_ K = FF N (fun x0 x1 k => ag9 x0 x1 q0 k) v0 v1 v2 (fun v0 v1 v2 => rec_ (iy q0 v0 v1 v2)) (fun y0 => K .ret (lM q0 y0)) (K (.exit 0) (lN q0 )) := by kernel_rfl
theorem Ku (q0 : Int) (K : Exit -> St -> O β) : ∀ (F : Nat) (v0 : List (Int × Int)) (v1 v2 : Int), (lp Tryz.f232 0).rounds lay (Lr N) (ai Tryz.f232) F (iy q0 v0 v1 v2) K = mO N (fun x0 x1 k => iS N x0 x1 q0 k) F v0 v1 v2 (fun y0 => K .ret (lM q0 y0)) (K (.exit 0) (lN q0 )) := by
 intro F; induction F with
 | zero => intros; rfl
 | succ F ih => intros; rw [am]; refine (FA (gP N) (iS N) (mO N) N q0 _ _ _ (fun s => (lp Tryz.f232 0).rounds lay (Lr N) (ai Tryz.f232) F s K) K).trans ?_; simp only [ih]; rfl
theorem SN : aS (Lr (β := β) N).loops (lp Tryz.f232 0).id = Ru N := by kernel_rfl
theorem TR : ay lay (Lr (β := β) N) (ai Tryz.f232) (lp Tryz.f232 0) := rks (SN ..) (rc1 (fun s K hb => ⟨N, by rw [<- ar hb, Jn s]; unfold uH; exact Kt N _ K N _ _ _⟩) (rc1 (fun s K hb => ⟨N, by rw [<- ar hb, Jo s]; unfold uI; exact Ku N _ K N _ _ _⟩) rc0))
theorem Vi (q0 : Int) (a0 : List (Int × Int)) (K : TV -> O β) : aL lay (AW ag8 ag9 ahK N) Tryz.f232 [.v (.one (.sl 93 (.pairs a0))), .v (.one (.dfn 191 [([.int .i64 q0], 0)]))] K = Pt ahK N a0 (fun x0 x1 k => ag8 x0 x1 q0 k) (fun z2 => K ((Z' z2))) := by kernel_rfl
theorem Vj (q0 : Int) (a0 : List (Int × Int)) (K : TV -> O β) : aL lay (AW ag8 ag9 ahK N) Tryz.f232 [.v (.one (.sl 93 (.pairs a0))), .v (.one (.dfn 194 [([.int .i64 q0], 0)]))] K = Pt ahK N a0 (fun x0 x1 k => ag9 x0 x1 q0 k) (fun z2 => K ((Z' z2))) := by kernel_rfl
theorem agq : ao (β := β) inv Tryz.prog 232 (ach N) := by
 refine ap au mixed (E := Lr N) (ae (aa (Zp N) (aa (Zq N) ag))) aj av Tryz.func232 (by kernel_rfl) 1 (by kernel_rfl) ⟨trivial, TR N⟩ fun args K r h => ?_
 unfold ach Mk at h
 split at h
 ·exact (Vi (gP N) (iS N) (mO N) N _ _ _).trans h
 ·exact (Vj (gP N) (iS N) (mO N) N _ _ _).trans h
 ·cases h
def Gq (N : Nat) : Rv.Spec β := fun args K => match args with
 | [.v (.one (.sl 93 (.pairs a0))), .v (.one (.dfn 191 [([.int .i64 q0], 0)]))] => ahF a0 (fun x0 x1 k => ag8 x0 x1 q0 k) (fun z2 => K (.v (.one (.bool z2))))
 | [.v (.one (.sl 93 (.pairs a0))), .v (.one (.dfn 194 [([.int .i64 q0], 0)]))] => ahF a0 (fun x0 x1 k => ag9 x0 x1 q0 k) (fun z2 => K (.v (.one (.bool z2))))
 | _ => none
def abX : Rv.Spec β := Gq (gP N) (iS N) (wv N) N
def LO : Env β := ⟨[(232, Mk ag8 ag9 ah0 N), (191, Bv ag8 N), (194, Bw ag9 N)], [], [], [], ⟨[], [], [], []⟩⟩
def ae0 : Env β := LO (gP N) (iS N) (FG N) N
theorem US (q0 : Int) (a0 : List (Int × Int)) (K : TV -> O β) : aL lay (LO ag8 ag9 ah0 N) Tryz.f190 [.v (.one (.sl 93 (.pairs a0))), .v (.one (.dfn 191 [([.int .i64 q0], 0)]))] K = PA ah0 N a0 (fun x0 x1 k => ag8 x0 x1 q0 k) (fun z2 => K (.v (.one (.bool z2)))) := by kernel_rfl
theorem UT (q0 : Int) (a0 : List (Int × Int)) (K : TV -> O β) : aL lay (LO ag8 ag9 ah0 N) Tryz.f190 [.v (.one (.sl 93 (.pairs a0))), .v (.one (.dfn 194 [([.int .i64 q0], 0)]))] K = PA ah0 N a0 (fun x0 x1 k => ag9 x0 x1 q0 k) (fun z2 => K (.v (.one (.bool z2)))) := by kernel_rfl
theorem adH : ao (β := β) inv Tryz.prog 190 (abX N) := by
 refine ap au mixed (E := ae0 N) (ae (aa (agq N) (aa (Zp N) (aa (Zq N) ag)))) aj av Tryz.func190 (by kernel_rfl) 0 (by kernel_rfl) trivial fun args K r h => ?_
 unfold abX Gq at h
 split at h
 ·exact (US (gP N) (iS N) (FG N) N _ _ _).trans h
 ·exact (UT (gP N) (iS N) (FG N) N _ _ _).trans h
 ·cases h
def Gs (N : Nat) : Rv.Spec β := fun args K => match args with
 | [.v (.one (.int .i64 a0)), .v (.one (.cref [.sl 93 (.pairs c0)] 0))] => agZ a0 c0 (fun z1 => K (.v (.one (.bool z1))))
 | _ => none
def ab0 : Rv.Spec β := Gs (c8 N) N
def Wq : Env β := ⟨[(190, Gq ag8 ag9 ahF N), (194, Bw ag9 N)], [], [], [], ⟨[], [], [], []⟩⟩
def ae3 : Env β := Wq (gP N) (iS N) (wv N) N
theorem UW (a0 : Int) (c0 : List (Int × Int)) (K : TV -> O β) : aL lay (Wq ag8 ag9 ahF N) Tryz.f193 [(Z' a0), .v (.one (.cref [.sl 93 (.pairs c0)] 0))] K = Vy ag9 ahF N a0 c0 (fun z1 => K (.v (.one (.bool z1)))) := by kernel_rfl
theorem adJ : ao (β := β) inv Tryz.prog 193 (ab0 N) := by
 refine ap au mixed (E := ae3 N) (ae (aa (adH N) (aa (Zq N) ag))) aj av Tryz.func193 (by kernel_rfl) 0 (by kernel_rfl) trivial fun args K r h => ?_
 unfold ab0 Gs at h
 split at h
 ·exact (UW (gP N) (iS N) (wv N) N _ _ _).trans h
 ·cases h
def BA (N : Nat) : ce β := fun args bl K => match args, bl with
 | [.v (.one (.ptr 0 0))], [.pcells 0 193 [.int .u8 a0, .nilp, .nilp]] => ahB a0 (fun y0 y1 => K (.v (.one (.int .i64 y0))) [.pcells 0 193 [.int .u8 y1, .nilp, .nilp]])
 | [.v (.one (.tr false a0))], [] => ahw a0 (fun y0 => K (.v (.one (.int .i64 y0))) [])
 | _, _ => none
def acj : ce β := BA (vH N) (rF N) N
def LW (N : Nat) : Env β := ⟨[], [], [], [], ⟨[], [], [], []⟩⟩
def afk : Env β := LW N
theorem Vm (a0 : Int) (K : TV -> List Blk -> O β) : oZ lay (LW N) Tryz.f235 [.v (.one (.ptr 0 0))] [.pcells 0 193 [.int .u8 a0, .nilp, .nilp]] K = aaQ N a0 (fun y0 y1 => K ((Z' y0)) [.pcells 0 193 [.int .u8 y1, .nilp, .nilp]]) := by kernel_rfl
theorem Vn (a0 : Tr) (K : TV -> List Blk -> O β) : oZ lay (LW N) Tryz.f235 [.v (.one (.tr false a0))] [] K = Vz N a0 (fun y0 => K ((Z' y0)) []) := by kernel_rfl
theorem Zu : GOK (β := β) inv Tryz.prog 235 (acj N) := by
 refine Nj au mixed (E := afk N) (ae ag) aj av Tryz.func235 (by kernel_rfl) 0 (by kernel_rfl) trivial fun args bl K r h => ?_
 unfold acj BA at h
 split at h
 ·exact (Vm N _ _).trans h
 ·exact (Vn N _ _).trans h
 ·cases h
def Mc (N : Nat) : Rv.Spec β := fun args K => match args with
 | [.v (.one (.tr false a0)), .v (.one (.int .i64 a1))] => ajx a0 a1 (fun z2 z3 => K (.tup [.one (.int .i64 z2), .one (.int .i64 z3)]))
 | _ => none
def ab5 : Rv.Spec β := Mc (Qz N) N
def io (v0 : Tr) (v1 v2 : Int) : St := ⟨.v (.one (.tr false v0)) :: (Z' v1) :: tn 4 ((Z' v2) :: tn 28 []), []⟩
def lz (y0 : Tr) (y1 : Int) : St := ⟨.v (.one (.tr false y0)) :: tn 5 ((Z' y1) :: tn 28 []), []⟩
def uA {γ : Type} (f : Tr -> Int -> Int -> γ) (s : St) : γ := f (trS (ah (vT (nx ac s.tmps 0)))) (af (ah (vT (nx ac s.tmps 1)))) (af (ah (vT (nx ac s.tmps 6))))
theorem Jg (s : St) : aP (io Tr.nil 0 0) s = uA io s := by kernel_rfl
def Bh : ax β := fun s K => cond (aJ (io Tr.nil 0 0) s) (uA (fun v0 v1 v2 => aiX N v0 v1 v2 (fun y0 y1 => K (.exit 0) (lz y0 y1))) s) (none)
def Rn : ax β := Bh (Ax N) N
def LP : Env β := ⟨[], [], [(0, Bh aiX N)], [(235, BA ahB ahw N)], ⟨[], [], [], []⟩⟩
def QV : Env β := LP (vH N) (rF N) (Ax N) N
theorem Fs (v0 : Tr) (v1 v2 : Int) (rec_ : St -> O β) (K : Exit -> St -> O β) :
  stB lay (LP ahB ahw aiX N) Tryz.f199 0 (io v0 v1 v2) rec_ K = aaR ahw N v0 v1 v2 (fun v0 v1 v2 => rec_ (io v0 v1 v2)) (fun y0 y1 => K (.exit 0) (lz y0 y1)) := by kernel_rfl
theorem Km (K : Exit -> St -> O β) : ∀ (F : Nat) (v0 : Tr) (v1 v2 : Int), (lp Tryz.f199 0).rounds lay (QV N) (ai Tryz.f199) F (io v0 v1 v2) K = Ax N F v0 v1 v2 (fun y0 y1 => K (.exit 0) (lz y0 y1)) := by
 intro F; induction F with
 | zero => intros; rfl
 | succ F ih => intros; rw [am]; refine (Fs (vH N) (rF N) (Ax N) N _ _ _ (fun s => (lp Tryz.f199 0).rounds lay (QV N) (ai Tryz.f199) F s K) K).trans ?_; simp only [ih]; rfl
theorem SE : aS (QV (β := β) N).loops (lp Tryz.f199 0).id = Rn N := by kernel_rfl
theorem TK : ay lay (QV (β := β) N) (ai Tryz.f199) (lp Tryz.f199 0) := rks (SE ..) (rc1 (fun s K hb => ⟨N, by rw [<- ar hb, Jg s]; unfold uA; exact Km N K N _ _ _⟩) rc0)
theorem U2 (a0 : Tr) (a1 : Int) (K : TV -> O β) : aL lay (LP ahB ahw aiX N) Tryz.f199 [.v (.one (.tr false a0)), (Z' a1)] K = aaS aiX N a0 a1 (fun z2 z3 => K (.tup [.one (.int .i64 z2), .one (.int .i64 z3)])) := by kernel_rfl
theorem agf : ao (β := β) inv Tryz.prog 199 (ab5 N) := by
 refine ap au mixed (E := QV N) (ae ag) aj (eQ (Zu N) av) Tryz.func199 (by kernel_rfl) 1 (by kernel_rfl) ⟨trivial, TK N⟩ fun args K r h => ?_
 unfold ab5 Mc at h
 split at h
 ·exact (U2 (vH N) (rF N) (Ax N) N _ _ _).trans h
 ·cases h
def Gt (N : Nat) : Rv.Spec β := fun args K => match args with
 | [.v (.one (.int .i64 a0)), .v (.one (.cref [.tr false c0] 0))] => ag0 a0 c0 (fun z1 => K (.v (.one (.bool z1))))
 | _ => none
def ab4 : Rv.Spec β := Gt (dc N) N
def Wv : Env β := ⟨[(199, Mc ajx N)], [], [], [], ⟨[], [], [], []⟩⟩
def ae8 : Env β := Wv (Qz N) N
theorem U1 (a0 : Int) (c0 : Tr) (K : TV -> O β) : aL lay (Wv ajx N) Tryz.f198 [(Z' a0), .v (.one (.cref [.tr false c0] 0))] K = aaT ajx N a0 c0 (fun z1 => K (.v (.one (.bool z1)))) := by kernel_rfl
theorem adK : ao (β := β) inv Tryz.prog 198 (ab4 N) := by
 refine ap au mixed (E := ae8 N) (ae (aa (agf N) ag)) aj av Tryz.func198 (by kernel_rfl) 0 (by kernel_rfl) trivial fun args K r h => ?_
 unfold ab4 Gt at h
 split at h
 ·exact (U1 (Qz N) N _ _ _).trans h
 ·cases h
def Gu (N : Nat) : Rv.Spec β := fun args K => match args with
 | [.v (.one (.int .i64 a0)), .v (.one (.cref [.tr false c0] 0))] => ag1 a0 c0 (fun z1 => K (.v (.one (.bool z1))))
 | _ => none
def ab8 : Rv.Spec β := Gu (de N) N
def Wz (N : Nat) : Env β := ⟨[], [], [], [], ⟨[], [], [], []⟩⟩
def afc : Env β := Wz N
theorem U6 (a0 : Int) (c0 : Tr) (K : TV -> O β) : aL lay (Wz N) Tryz.f203 [(Z' a0), .v (.one (.cref [.tr false c0] 0))] K = aaU N a0 c0 (fun z1 => K (.v (.one (.bool z1)))) := by kernel_rfl
theorem adL : ao (β := β) inv Tryz.prog 203 (ab8 N) := by
 refine ap au mixed (E := afc N) (ae ag) aj av Tryz.func203 (by kernel_rfl) 0 (by kernel_rfl) trivial fun args K r h => ?_
 unfold ab8 Gu at h
 split at h
 ·exact (U6 N _ _ _).trans h
 ·cases h
def qT (N : Nat) : Rv.Spec β := fun args K => match args with
 | [.v (.one (.int .i64 a0)), .v (.one (.dfn 238 [([.int .i64 q0], 0)]))] => ag4 a0 (fun x0 k => zq0 x0 q0 k) (fun z2 z3 => K (.v (.agg [.int .i64 z2, .int .i64 z3])))
 | [.v (.one (.int .i64 a0)), .v (.one (.dfn 130 [([.str q0], 0)]))] => ag4 a0 (fun x0 k => zq1 x0 q0 k) (fun z2 z3 => K (.v (.agg [.int .i64 z2, .int .i64 z3])))
 | [.v (.one (.int .i64 a0)), .v (.one (.dfn 189 [([.int .i64 q0, .int .i64 q1], 0)]))] => ag4 a0 (fun x0 k => zq6 x0 q0 q1 k) (fun z2 z3 => K (.v (.agg [.int .i64 z2, .int .i64 z3])))
 | [.v (.one (.int .i64 a0)), .v (.one (.dfn 193 [([.sl 93 (.pairs q0)], 0)]))] => ag4 a0 (fun x0 k => agZ x0 q0 k) (fun z2 z3 => K (.v (.agg [.int .i64 z2, .int .i64 z3])))
 | [.v (.one (.int .i64 a0)), .v (.one (.dfn 198 [([.tr false q0], 0)]))] => ag4 a0 (fun x0 k => ag0 x0 q0 k) (fun z2 z3 => K (.v (.agg [.int .i64 z2, .int .i64 z3])))
 | [.v (.one (.int .i64 a0)), .v (.one (.dfn 203 [([.tr false q0], 0)]))] => ag4 a0 (fun x0 k => ag1 x0 q0 k) (fun z2 z3 => K (.v (.agg [.int .i64 z2, .int .i64 z3])))
 | _ => none
def abC : Rv.Spec β := qT (zj0 N) (zj1 N) (zj6 N) (c8 N) (dc N) (de N) (fS N) N
def g5 (q0 v0 v1 v2 v3 v4 v5 : Int) : St := ⟨ac :: .v (.one (.dfn 238 [([.int .i64 q0], 0)])) :: ac :: ac :: .v (.one (.ptr 0 0)) :: .v (.one (.ptr 1 0)) :: tn 4 ((Z' v0) :: (Z' v1) :: tn 13 []), [.cells 25 [.int .i64 v2, .int .i64 v3], .cells 25 [.int .i64 v4, .int .i64 v5]]⟩
def kE (q0 y0 y1 y2 y3 : Int) : St := ⟨tn 4 (.v (.one (.ptr 0 0)) :: .v (.one (.ptr 1 0)) :: tn 19 []), [.cells 25 [.int .i64 y0, .int .i64 y1], .cells 25 [.int .i64 y2, .int .i64 y3]]⟩
def g6 (q0 : ByteArray) (v0 v1 v2 v3 v4 v5 : Int) : St := ⟨ac :: .v (.one (.dfn 130 [([.str q0], 0)])) :: ac :: ac :: .v (.one (.ptr 0 0)) :: .v (.one (.ptr 1 0)) :: tn 4 ((Z' v0) :: (Z' v1) :: tn 13 []), [.cells 25 [.int .i64 v2, .int .i64 v3], .cells 25 [.int .i64 v4, .int .i64 v5]]⟩
def kF (q0 : ByteArray) (y0 y1 y2 y3 : Int) : St := ⟨tn 4 (.v (.one (.ptr 0 0)) :: .v (.one (.ptr 1 0)) :: tn 19 []), [.cells 25 [.int .i64 y0, .int .i64 y1], .cells 25 [.int .i64 y2, .int .i64 y3]]⟩
def g7 (q0 q1 v0 v1 v2 v3 v4 v5 : Int) : St := ⟨ac :: .v (.one (.dfn 189 [([.int .i64 q0, .int .i64 q1], 0)])) :: ac :: ac :: .v (.one (.ptr 0 0)) :: .v (.one (.ptr 1 0)) :: tn 4 ((Z' v0) :: (Z' v1) :: tn 13 []), [.cells 25 [.int .i64 v2, .int .i64 v3], .cells 25 [.int .i64 v4, .int .i64 v5]]⟩
def kG (q0 q1 y0 y1 y2 y3 : Int) : St := ⟨tn 4 (.v (.one (.ptr 0 0)) :: .v (.one (.ptr 1 0)) :: tn 19 []), [.cells 25 [.int .i64 y0, .int .i64 y1], .cells 25 [.int .i64 y2, .int .i64 y3]]⟩
def g8 (q0 : List (Int × Int)) (v0 v1 v2 v3 v4 v5 : Int) : St := ⟨ac :: .v (.one (.dfn 193 [([.sl 93 (.pairs q0)], 0)])) :: ac :: ac :: .v (.one (.ptr 0 0)) :: .v (.one (.ptr 1 0)) :: tn 4 ((Z' v0) :: (Z' v1) :: tn 13 []), [.cells 25 [.int .i64 v2, .int .i64 v3], .cells 25 [.int .i64 v4, .int .i64 v5]]⟩
def kH (q0 : List (Int × Int)) (y0 y1 y2 y3 : Int) : St := ⟨tn 4 (.v (.one (.ptr 0 0)) :: .v (.one (.ptr 1 0)) :: tn 19 []), [.cells 25 [.int .i64 y0, .int .i64 y1], .cells 25 [.int .i64 y2, .int .i64 y3]]⟩
def hJ (q0 : Tr) (v0 v1 v2 v3 v4 v5 : Int) : St := ⟨ac :: .v (.one (.dfn 198 [([.tr false q0], 0)])) :: ac :: ac :: .v (.one (.ptr 0 0)) :: .v (.one (.ptr 1 0)) :: tn 4 ((Z' v0) :: (Z' v1) :: tn 13 []), [.cells 25 [.int .i64 v2, .int .i64 v3], .cells 25 [.int .i64 v4, .int .i64 v5]]⟩
def kI (q0 : Tr) (y0 y1 y2 y3 : Int) : St := ⟨tn 4 (.v (.one (.ptr 0 0)) :: .v (.one (.ptr 1 0)) :: tn 19 []), [.cells 25 [.int .i64 y0, .int .i64 y1], .cells 25 [.int .i64 y2, .int .i64 y3]]⟩
def hO (q0 : Tr) (v0 v1 v2 v3 v4 v5 : Int) : St := ⟨ac :: .v (.one (.dfn 203 [([.tr false q0], 0)])) :: ac :: ac :: .v (.one (.ptr 0 0)) :: .v (.one (.ptr 1 0)) :: tn 4 ((Z' v0) :: (Z' v1) :: tn 13 []), [.cells 25 [.int .i64 v2, .int .i64 v3], .cells 25 [.int .i64 v4, .int .i64 v5]]⟩
def kJ (q0 : Tr) (y0 y1 y2 y3 : Int) : St := ⟨tn 4 (.v (.one (.ptr 0 0)) :: .v (.one (.ptr 1 0)) :: tn 19 []), [.cells 25 [.int .i64 y0, .int .i64 y1], .cells 25 [.int .i64 y2, .int .i64 y3]]⟩
def uh {γ : Type} (f : Int -> Int -> Int -> Int -> Int -> Int -> Int -> γ) (s : St) : γ := f (zu (nx .no (nx ([], 0) (sY (ah (vT (nx ac s.tmps 1)))) 0).1 0)) (af (ah (vT (nx ac s.tmps 10)))) (af (ah (vT (nx ac s.tmps 11)))) (af (nx .und (ak (nx .dead s.blks 0)) 0)) (af (nx .und (ak (nx .dead s.blks 0)) 1)) (af (nx .und (ak (nx .dead s.blks 1)) 0)) (af (nx .und (ak (nx .dead s.blks 1)) 1))
theorem IR (s : St) : aP (g5 0 0 0 0 0 0 0) s = uh g5 s := by kernel_rfl
def ui {γ : Type} (f : ByteArray -> Int -> Int -> Int -> Int -> Int -> Int -> γ) (s : St) : γ := f (Z4 (nx .no (nx ([], 0) (sY (ah (vT (nx ac s.tmps 1)))) 0).1 0)) (af (ah (vT (nx ac s.tmps 10)))) (af (ah (vT (nx ac s.tmps 11)))) (af (nx .und (ak (nx .dead s.blks 0)) 0)) (af (nx .und (ak (nx .dead s.blks 0)) 1)) (af (nx .und (ak (nx .dead s.blks 1)) 0)) (af (nx .und (ak (nx .dead s.blks 1)) 1))
theorem IS (s : St) : aP (g6 ByteArray.empty 0 0 0 0 0 0) s = ui g6 s := by kernel_rfl
def uj {γ : Type} (f : Int -> Int -> Int -> Int -> Int -> Int -> Int -> Int -> γ) (s : St) : γ := f (zu (nx .no (nx ([], 0) (sY (ah (vT (nx ac s.tmps 1)))) 0).1 0)) (zu (nx .no (nx ([], 0) (sY (ah (vT (nx ac s.tmps 1)))) 0).1 1)) (af (ah (vT (nx ac s.tmps 10)))) (af (ah (vT (nx ac s.tmps 11)))) (af (nx .und (ak (nx .dead s.blks 0)) 0)) (af (nx .und (ak (nx .dead s.blks 0)) 1)) (af (nx .und (ak (nx .dead s.blks 1)) 0)) (af (nx .und (ak (nx .dead s.blks 1)) 1))
theorem IT (s : St) : aP (g7 0 0 0 0 0 0 0 0) s = uj g7 s := by kernel_rfl
def uk {γ : Type} (f : (List (Int × Int)) -> Int -> Int -> Int -> Int -> Int -> Int -> γ) (s : St) : γ := f (bc (Z0 (nx .no (nx ([], 0) (sY (ah (vT (nx ac s.tmps 1)))) 0).1 0))) (af (ah (vT (nx ac s.tmps 10)))) (af (ah (vT (nx ac s.tmps 11)))) (af (nx .und (ak (nx .dead s.blks 0)) 0)) (af (nx .und (ak (nx .dead s.blks 0)) 1)) (af (nx .und (ak (nx .dead s.blks 1)) 0)) (af (nx .und (ak (nx .dead s.blks 1)) 1))
theorem IU (s : St) : aP (g8 [] 0 0 0 0 0 0) s = uk g8 s := by kernel_rfl
def ul {γ : Type} (f : Tr -> Int -> Int -> Int -> Int -> Int -> Int -> γ) (s : St) : γ := f (trF (nx .no (nx ([], 0) (sY (ah (vT (nx ac s.tmps 1)))) 0).1 0)) (af (ah (vT (nx ac s.tmps 10)))) (af (ah (vT (nx ac s.tmps 11)))) (af (nx .und (ak (nx .dead s.blks 0)) 0)) (af (nx .und (ak (nx .dead s.blks 0)) 1)) (af (nx .und (ak (nx .dead s.blks 1)) 0)) (af (nx .und (ak (nx .dead s.blks 1)) 1))
theorem IV (s : St) : aP (hJ Tr.nil 0 0 0 0 0 0) s = ul hJ s := by kernel_rfl
def um {γ : Type} (f : Tr -> Int -> Int -> Int -> Int -> Int -> Int -> γ) (s : St) : γ := f (trF (nx .no (nx ([], 0) (sY (ah (vT (nx ac s.tmps 1)))) 0).1 0)) (af (ah (vT (nx ac s.tmps 10)))) (af (ah (vT (nx ac s.tmps 11)))) (af (nx .und (ak (nx .dead s.blks 0)) 0)) (af (nx .und (ak (nx .dead s.blks 0)) 1)) (af (nx .und (ak (nx .dead s.blks 1)) 0)) (af (nx .und (ak (nx .dead s.blks 1)) 1))
theorem IW (s : St) : aP (hO Tr.nil 0 0 0 0 0 0) s = um hO s := by kernel_rfl
def A4 : ax β := fun s K => cond (aJ (g5 0 0 0 0 0 0 0) s) (uh (fun q0 v0 v1 v2 v3 v4 v5 => ag7 (fun x0 k => zq0 x0 q0 k) N v0 v1 v2 v3 v4 v5 (fun y0 y1 y2 y3 => K (.exit 0) (kE q0 y0 y1 y2 y3))) s) (cond (aJ (g6 ByteArray.empty 0 0 0 0 0 0) s) (ui (fun q0 v0 v1 v2 v3 v4 v5 => ag7 (fun x0 k => zq1 x0 q0 k) N v0 v1 v2 v3 v4 v5 (fun y0 y1 y2 y3 => K (.exit 0) (kF q0 y0 y1 y2 y3))) s) (cond (aJ (g7 0 0 0 0 0 0 0 0) s) (uj (fun q0 q1 v0 v1 v2 v3 v4 v5 => ag7 (fun x0 k => zq6 x0 q0 q1 k) N v0 v1 v2 v3 v4 v5 (fun y0 y1 y2 y3 => K (.exit 0) (kG q0 q1 y0 y1 y2 y3))) s) (cond (aJ (g8 [] 0 0 0 0 0 0) s) (uk (fun q0 v0 v1 v2 v3 v4 v5 => ag7 (fun x0 k => agZ x0 q0 k) N v0 v1 v2 v3 v4 v5 (fun y0 y1 y2 y3 => K (.exit 0) (kH q0 y0 y1 y2 y3))) s) (cond (aJ (hJ Tr.nil 0 0 0 0 0 0) s) (ul (fun q0 v0 v1 v2 v3 v4 v5 => ag7 (fun x0 k => ag0 x0 q0 k) N v0 v1 v2 v3 v4 v5 (fun y0 y1 y2 y3 => K (.exit 0) (kI q0 y0 y1 y2 y3))) s) (cond (aJ (hO Tr.nil 0 0 0 0 0 0) s) (um (fun q0 v0 v1 v2 v3 v4 v5 => ag7 (fun x0 k => ag1 x0 q0 k) N v0 v1 v2 v3 v4 v5 (fun y0 y1 y2 y3 => K (.exit 0) (kJ q0 y0 y1 y2 y3))) s) (none))))))
def Ra : ax β := A4 (zj0 N) (zj1 N) (zj6 N) (c8 N) (dc N) (de N) (eR N) N
def gS : Env β := ⟨[(238, Gx zq0 N), (130, Gh zq1 N), (189, Gp zq6 N), (193, Gs agZ N), (198, Gt ag0 N), (203, Gu ag1 N)], [], [(0, A4 zq0 zq1 zq6 agZ ag0 ag1 ag7 N)], [], ⟨[], [], [], []⟩⟩
def yA : Env β := gS (zj0 N) (zj1 N) (zj6 N) (c8 N) (dc N) (de N) (eR N) N
theorem E1 (q0 v0 v1 v2 v3 v4 v5 : Int) (rec_ : St -> O β) (K : Exit -> St -> O β) :
  stB lay (gS zq0 zq1 zq6 agZ ag0 ag1 ag7 N) Tryz.f129 0 (g5 q0 v0 v1 v2 v3 v4 v5) rec_ K = Do N (fun x0 k => zq0 x0 q0 k) v0 v1 v2 v3 v4 v5 (fun v0 v1 v2 v3 v4 v5 => rec_ (g5 q0 v0 v1 v2 v3 v4 v5)) (fun y0 y1 y2 y3 => K (.exit 0) (kE q0 y0 y1 y2 y3)) := by kernel_rfl
theorem JX (q0 : Int) (K : Exit -> St -> O β) : ∀ (F : Nat) (v0 v1 v2 v3 v4 v5 : Int), (lp Tryz.f129 0).rounds lay (yA N) (ai Tryz.f129) F (g5 q0 v0 v1 v2 v3 v4 v5) K = eR N (fun x0 k => zj0 N x0 q0 k) F v0 v1 v2 v3 v4 v5 (fun y0 y1 y2 y3 => K (.exit 0) (kE q0 y0 y1 y2 y3)) := by
 intro F; induction F with
 | zero => intros; rfl
 | succ F ih => intros; rw [am]; refine (E1 (zj0 N) (zj1 N) (zj6 N) (c8 N) (dc N) (de N) (eR N) N q0 _ _ _ _ _ _ (fun s => (lp Tryz.f129 0).rounds lay (yA N) (ai Tryz.f129) F s K) K).trans ?_; simp only [ih]; rfl
theorem E2 (q0 : ByteArray) (v0 v1 v2 v3 v4 v5 : Int) (rec_ : St -> O β) (K : Exit -> St -> O β) :
  stB lay (gS zq0 zq1 zq6 agZ ag0 ag1 ag7 N) Tryz.f129 0 (g6 q0 v0 v1 v2 v3 v4 v5) rec_ K = Do N (fun x0 k => zq1 x0 q0 k) v0 v1 v2 v3 v4 v5 (fun v0 v1 v2 v3 v4 v5 => rec_ (g6 q0 v0 v1 v2 v3 v4 v5)) (fun y0 y1 y2 y3 => K (.exit 0) (kF q0 y0 y1 y2 y3)) := by kernel_rfl
theorem JY (q0 : ByteArray) (K : Exit -> St -> O β) : ∀ (F : Nat) (v0 v1 v2 v3 v4 v5 : Int), (lp Tryz.f129 0).rounds lay (yA N) (ai Tryz.f129) F (g6 q0 v0 v1 v2 v3 v4 v5) K = eR N (fun x0 k => zj1 N x0 q0 k) F v0 v1 v2 v3 v4 v5 (fun y0 y1 y2 y3 => K (.exit 0) (kF q0 y0 y1 y2 y3)) := by
 intro F; induction F with
 | zero => intros; rfl
 | succ F ih => intros; rw [am]; refine (E2 (zj0 N) (zj1 N) (zj6 N) (c8 N) (dc N) (de N) (eR N) N q0 _ _ _ _ _ _ (fun s => (lp Tryz.f129 0).rounds lay (yA N) (ai Tryz.f129) F s K) K).trans ?_; simp only [ih]; rfl
theorem E3 (q0 q1 v0 v1 v2 v3 v4 v5 : Int) (rec_ : St -> O β) (K : Exit -> St -> O β) :
  stB lay (gS zq0 zq1 zq6 agZ ag0 ag1 ag7 N) Tryz.f129 0 (g7 q0 q1 v0 v1 v2 v3 v4 v5) rec_ K = Do N (fun x0 k => zq6 x0 q0 q1 k) v0 v1 v2 v3 v4 v5 (fun v0 v1 v2 v3 v4 v5 => rec_ (g7 q0 q1 v0 v1 v2 v3 v4 v5)) (fun y0 y1 y2 y3 => K (.exit 0) (kG q0 q1 y0 y1 y2 y3)) := by kernel_rfl
theorem JZ (q0 q1 : Int) (K : Exit -> St -> O β) : ∀ (F : Nat) (v0 v1 v2 v3 v4 v5 : Int), (lp Tryz.f129 0).rounds lay (yA N) (ai Tryz.f129) F (g7 q0 q1 v0 v1 v2 v3 v4 v5) K = eR N (fun x0 k => zj6 N x0 q0 q1 k) F v0 v1 v2 v3 v4 v5 (fun y0 y1 y2 y3 => K (.exit 0) (kG q0 q1 y0 y1 y2 y3)) := by
 intro F; induction F with
 | zero => intros; rfl
 | succ F ih => intros; rw [am]; refine (E3 (zj0 N) (zj1 N) (zj6 N) (c8 N) (dc N) (de N) (eR N) N q0 q1 _ _ _ _ _ _ (fun s => (lp Tryz.f129 0).rounds lay (yA N) (ai Tryz.f129) F s K) K).trans ?_; simp only [ih]; rfl
theorem E4 (q0 : List (Int × Int)) (v0 v1 v2 v3 v4 v5 : Int) (rec_ : St -> O β) (K : Exit -> St -> O β) :
  stB lay (gS zq0 zq1 zq6 agZ ag0 ag1 ag7 N) Tryz.f129 0 (g8 q0 v0 v1 v2 v3 v4 v5) rec_ K = Do N (fun x0 k => agZ x0 q0 k) v0 v1 v2 v3 v4 v5 (fun v0 v1 v2 v3 v4 v5 => rec_ (g8 q0 v0 v1 v2 v3 v4 v5)) (fun y0 y1 y2 y3 => K (.exit 0) (kH q0 y0 y1 y2 y3)) := by kernel_rfl
theorem J0 (q0 : List (Int × Int)) (K : Exit -> St -> O β) : ∀ (F : Nat) (v0 v1 v2 v3 v4 v5 : Int), (lp Tryz.f129 0).rounds lay (yA N) (ai Tryz.f129) F (g8 q0 v0 v1 v2 v3 v4 v5) K = eR N (fun x0 k => c8 N x0 q0 k) F v0 v1 v2 v3 v4 v5 (fun y0 y1 y2 y3 => K (.exit 0) (kH q0 y0 y1 y2 y3)) := by
 intro F; induction F with
 | zero => intros; rfl
 | succ F ih => intros; rw [am]; refine (E4 (zj0 N) (zj1 N) (zj6 N) (c8 N) (dc N) (de N) (eR N) N q0 _ _ _ _ _ _ (fun s => (lp Tryz.f129 0).rounds lay (yA N) (ai Tryz.f129) F s K) K).trans ?_; simp only [ih]; rfl
theorem E5 (q0 : Tr) (v0 v1 v2 v3 v4 v5 : Int) (rec_ : St -> O β) (K : Exit -> St -> O β) :
  stB lay (gS zq0 zq1 zq6 agZ ag0 ag1 ag7 N) Tryz.f129 0 (hJ q0 v0 v1 v2 v3 v4 v5) rec_ K = Do N (fun x0 k => ag0 x0 q0 k) v0 v1 v2 v3 v4 v5 (fun v0 v1 v2 v3 v4 v5 => rec_ (hJ q0 v0 v1 v2 v3 v4 v5)) (fun y0 y1 y2 y3 => K (.exit 0) (kI q0 y0 y1 y2 y3)) := by kernel_rfl
theorem J1 (q0 : Tr) (K : Exit -> St -> O β) : ∀ (F : Nat) (v0 v1 v2 v3 v4 v5 : Int), (lp Tryz.f129 0).rounds lay (yA N) (ai Tryz.f129) F (hJ q0 v0 v1 v2 v3 v4 v5) K = eR N (fun x0 k => dc N x0 q0 k) F v0 v1 v2 v3 v4 v5 (fun y0 y1 y2 y3 => K (.exit 0) (kI q0 y0 y1 y2 y3)) := by
 intro F; induction F with
 | zero => intros; rfl
 | succ F ih => intros; rw [am]; refine (E5 (zj0 N) (zj1 N) (zj6 N) (c8 N) (dc N) (de N) (eR N) N q0 _ _ _ _ _ _ (fun s => (lp Tryz.f129 0).rounds lay (yA N) (ai Tryz.f129) F s K) K).trans ?_; simp only [ih]; rfl
theorem E7 (q0 : Tr) (v0 v1 v2 v3 v4 v5 : Int) (rec_ : St -> O β) (K : Exit -> St -> O β) :
  stB lay (gS zq0 zq1 zq6 agZ ag0 ag1 ag7 N) Tryz.f129 0 (hO q0 v0 v1 v2 v3 v4 v5) rec_ K = Do N (fun x0 k => ag1 x0 q0 k) v0 v1 v2 v3 v4 v5 (fun v0 v1 v2 v3 v4 v5 => rec_ (hO q0 v0 v1 v2 v3 v4 v5)) (fun y0 y1 y2 y3 => K (.exit 0) (kJ q0 y0 y1 y2 y3)) := by kernel_rfl
theorem J2 (q0 : Tr) (K : Exit -> St -> O β) : ∀ (F : Nat) (v0 v1 v2 v3 v4 v5 : Int), (lp Tryz.f129 0).rounds lay (yA N) (ai Tryz.f129) F (hO q0 v0 v1 v2 v3 v4 v5) K = eR N (fun x0 k => de N x0 q0 k) F v0 v1 v2 v3 v4 v5 (fun y0 y1 y2 y3 => K (.exit 0) (kJ q0 y0 y1 y2 y3)) := by
 intro F; induction F with
 | zero => intros; rfl
 | succ F ih => intros; rw [am]; refine (E7 (zj0 N) (zj1 N) (zj6 N) (c8 N) (dc N) (de N) (eR N) N q0 _ _ _ _ _ _ (fun s => (lp Tryz.f129 0).rounds lay (yA N) (ai Tryz.f129) F s K) K).trans ?_; simp only [ih]; rfl
theorem Sh : aS (yA (β := β) N).loops (lp Tryz.f129 0).id = Ra N := by kernel_rfl
theorem Tn : ay lay (yA (β := β) N) (ai Tryz.f129) (lp Tryz.f129 0) := rks (Sh ..) (rc1 (fun s K hb => ⟨N, by rw [<- ar hb, IR s]; unfold uh; exact JX N _ K N _ _ _ _ _ _⟩) (rc1 (fun s K hb => ⟨N, by rw [<- ar hb, IS s]; unfold ui; exact JY N _ K N _ _ _ _ _ _⟩) (rc1 (fun s K hb => ⟨N, by rw [<- ar hb, IT s]; unfold uj; exact JZ N _ _ K N _ _ _ _ _ _⟩) (rc1 (fun s K hb => ⟨N, by rw [<- ar hb, IU s]; unfold uk; exact J0 N _ K N _ _ _ _ _ _⟩) (rc1 (fun s K hb => ⟨N, by rw [<- ar hb, IV s]; unfold ul; exact J1 N _ K N _ _ _ _ _ _⟩) (rc1 (fun s K hb => ⟨N, by rw [<- ar hb, IW s]; unfold um; exact J2 N _ K N _ _ _ _ _ _⟩) rc0))))))
theorem Uk (q0 a0 : Int) (K : TV -> O β) : aL lay (gS zq0 zq1 zq6 agZ ag0 ag1 ag7 N) Tryz.f129 [(Z' a0), .v (.one (.dfn 238 [([.int .i64 q0], 0)]))] K = Dp ag7 N a0 (fun x0 k => zq0 x0 q0 k) (fun z2 z3 => K (.v (.agg [.int .i64 z2, .int .i64 z3]))) := by kernel_rfl
theorem Ul (q0 : ByteArray) (a0 : Int) (K : TV -> O β) : aL lay (gS zq0 zq1 zq6 agZ ag0 ag1 ag7 N) Tryz.f129 [(Z' a0), .v (.one (.dfn 130 [([.str q0], 0)]))] K = Dp ag7 N a0 (fun x0 k => zq1 x0 q0 k) (fun z2 z3 => K (.v (.agg [.int .i64 z2, .int .i64 z3]))) := by kernel_rfl
theorem Um (q0 q1 a0 : Int) (K : TV -> O β) : aL lay (gS zq0 zq1 zq6 agZ ag0 ag1 ag7 N) Tryz.f129 [(Z' a0), .v (.one (.dfn 189 [([.int .i64 q0, .int .i64 q1], 0)]))] K = Dp ag7 N a0 (fun x0 k => zq6 x0 q0 q1 k) (fun z2 z3 => K (.v (.agg [.int .i64 z2, .int .i64 z3]))) := by kernel_rfl
theorem Un (q0 : List (Int × Int)) (a0 : Int) (K : TV -> O β) : aL lay (gS zq0 zq1 zq6 agZ ag0 ag1 ag7 N) Tryz.f129 [(Z' a0), .v (.one (.dfn 193 [([.sl 93 (.pairs q0)], 0)]))] K = Dp ag7 N a0 (fun x0 k => agZ x0 q0 k) (fun z2 z3 => K (.v (.agg [.int .i64 z2, .int .i64 z3]))) := by kernel_rfl
theorem Uo (q0 : Tr) (a0 : Int) (K : TV -> O β) : aL lay (gS zq0 zq1 zq6 agZ ag0 ag1 ag7 N) Tryz.f129 [(Z' a0), .v (.one (.dfn 198 [([.tr false q0], 0)]))] K = Dp ag7 N a0 (fun x0 k => ag0 x0 q0 k) (fun z2 z3 => K (.v (.agg [.int .i64 z2, .int .i64 z3]))) := by kernel_rfl
theorem Up (q0 : Tr) (a0 : Int) (K : TV -> O β) : aL lay (gS zq0 zq1 zq6 agZ ag0 ag1 ag7 N) Tryz.f129 [(Z' a0), .v (.one (.dfn 203 [([.tr false q0], 0)]))] K = Dp ag7 N a0 (fun x0 k => ag1 x0 q0 k) (fun z2 z3 => K (.v (.agg [.int .i64 z2, .int .i64 z3]))) := by kernel_rfl
theorem JL : ao (β := β) inv Tryz.prog 129 (abC N) := by
 refine ap au mixed (E := yA N) (ae (aa (adO N) (aa (adx N) (aa (adG N) (aa (adJ N) (aa (adK N) (aa (adL N) ag))))))) aj av Tryz.func129 (by kernel_rfl) 1 (by kernel_rfl) ⟨trivial, Tn N⟩ fun args K r h => ?_
 unfold abC qT at h
 split at h
 ·exact (Uk (zj0 N) (zj1 N) (zj6 N) (c8 N) (dc N) (de N) (eR N) N _ _ _).trans h
 ·exact (Ul (zj0 N) (zj1 N) (zj6 N) (c8 N) (dc N) (de N) (eR N) N _ _ _).trans h
 ·exact (Um (zj0 N) (zj1 N) (zj6 N) (c8 N) (dc N) (de N) (eR N) N _ _ _ _).trans h
 ·exact (Un (zj0 N) (zj1 N) (zj6 N) (c8 N) (dc N) (de N) (eR N) N _ _ _).trans h
 ·exact (Uo (zj0 N) (zj1 N) (zj6 N) (c8 N) (dc N) (de N) (eR N) N _ _ _).trans h
 ·exact (Up (zj0 N) (zj1 N) (zj6 N) (c8 N) (dc N) (de N) (eR N) N _ _ _).trans h
 ·cases h
def Gw (N : Nat) : Rv.Spec β := fun args K => match args with
 | [.v (.one (.int .i64 a0)), .v (.one (.int .i64 a1))] => aho a0 a1 (fun z2 z3 => K (.v (.agg [.int .i64 z2, .int .i64 z3])))
 | _ => none
def XE : Rv.Spec β := Gw (pT N) N
def WC : Env β := ⟨[(129, qT zq0 zq1 zq6 agZ ag0 ag1 ag4 N), (238, Gx zq0 N)], [], [], [], ⟨[], [], [], []⟩⟩
def aff : Env β := WC (zj0 N) (zj1 N) (zj6 N) (c8 N) (dc N) (de N) (fS N) N
theorem Vf (a0 a1 : Int) (K : TV -> O β) : aL lay (WC zq0 zq1 zq6 agZ ag0 ag1 ag4 N) Tryz.f212 [(Z' a0), (Z' a1)] K = VA zq0 ag4 N a0 a1 (fun z2 z3 => K (.v (.agg [.int .i64 z2, .int .i64 z3]))) := by kernel_rfl
theorem Zt : ao (β := β) inv Tryz.prog 212 (XE N) := by
 refine ap au mixed (E := aff N) (ae (aa (JL N) (aa (adO N) ag))) aj av Tryz.func212 (by kernel_rfl) 0 (by kernel_rfl) trivial fun args K r h => ?_
 unfold XE Gw at h
 split at h
 ·exact (Vf (zj0 N) (zj1 N) (zj6 N) (c8 N) (dc N) (de N) (fS N) N _ _ _).trans h
 ·cases h
def Mg (N : Nat) : Rv.Spec β := fun args K => match args with
 | [.v (.one (.int .i64 a0)), .v (.one (.int .i64 a1))] => ahH a0 a1 (fun z2 => K (.v (.one (.int .i64 z2))))
 | _ => none
def XD : Rv.Spec β := Mg (Ay N) N
def iu (v0 v1 v2 v3 : Int) : St := ⟨(Z' v0) :: (Z' v1) :: tn 3 ((Z' v2) :: (Z' v3) :: tn 16 []), []⟩
def lG (y0 : Int) : St := ⟨tn 5 ((Z' y0) :: tn 17 []), []⟩
def uE {γ : Type} (f : Int -> Int -> Int -> Int -> γ) (s : St) : γ := f (af (ah (vT (nx ac s.tmps 0)))) (af (ah (vT (nx ac s.tmps 1)))) (af (ah (vT (nx ac s.tmps 5)))) (af (ah (vT (nx ac s.tmps 6))))
theorem Jk (s : St) : aP (iu 0 0 0 0) s = uE iu s := by kernel_rfl
def Bl : ax β := fun s K => cond (aJ (iu 0 0 0 0) s) (uE (fun v0 v1 v2 v3 => ai6 N v0 v1 v2 v3 (fun y0 => K (.exit 0) (lG y0))) s) (none)
def Rr : ax β := Bl (ww N) N
def LT : Env β := ⟨[], [], [(0, Bl ai6 N)], [], ⟨[], [], [], []⟩⟩
def QZ : Env β := LT (ww N) N
theorem Fw (v0 v1 v2 v3 : Int) (rec_ : St -> O β) (K : Exit -> St -> O β) :
  stB lay (LT ai6 N) Tryz.f207 0 (iu v0 v1 v2 v3) rec_ K = VB N v0 v1 v2 v3 (fun v0 v1 v2 v3 => rec_ (iu v0 v1 v2 v3)) (fun y0 => K (.exit 0) (lG y0)) := by kernel_rfl
theorem Kq (K : Exit -> St -> O β) : ∀ (F : Nat) (v0 v1 v2 v3 : Int), (lp Tryz.f207 0).rounds lay (QZ N) (ai Tryz.f207) F (iu v0 v1 v2 v3) K = ww N F v0 v1 v2 v3 (fun y0 => K (.exit 0) (lG y0)) := by
 intro F; induction F with
 | zero => intros; rfl
 | succ F ih => intros; rw [am]; refine (Fw (ww N) N _ _ _ _ (fun s => (lp Tryz.f207 0).rounds lay (QZ N) (ai Tryz.f207) F s K) K).trans ?_; simp only [ih]; rfl
theorem SJ : aS (QZ (β := β) N).loops (lp Tryz.f207 0).id = Rr N := by kernel_rfl
theorem TO : ay lay (QZ (β := β) N) (ai Tryz.f207) (lp Tryz.f207 0) := rks (SJ ..) (rc1 (fun s K hb => ⟨N, by rw [<- ar hb, Jk s]; unfold uE; exact Kq N K N _ _ _ _⟩) rc0)
theorem Va (a0 a1 : Int) (K : TV -> O β) : aL lay (LT ai6 N) Tryz.f207 [(Z' a0), (Z' a1)] K = aeq ai6 N a0 a1 (fun z2 => K ((Z' z2))) := by kernel_rfl
theorem adN : ao (β := β) inv Tryz.prog 207 (XD N) := by
 refine ap au mixed (E := QZ N) (ae ag) aj av Tryz.func207 (by kernel_rfl) 1 (by kernel_rfl) ⟨trivial, TO N⟩ fun args K r h => ?_
 unfold XD Mg at h
 split at h
 ·exact (Va (ww N) N _ _ _).trans h
 ·cases h
def Mn (N : Nat) : Rv.Spec β := fun args K => match args with
 | [.v (.one (.sl 3 (.ints .i64 a0))), .v (.one (.int .i64 a1))] => ajD a0 a1 (fun z2 => K (.v (.one (.int .i64 z2))))
 | _ => none
def acm : Rv.Spec β := Mn (QG N) N
def iA (v0 : List Int) (v1 v2 v3 : Int) : St := ⟨.v (.one (.sl 3 (.ints .i64 v0))) :: (Z' v1) :: tn 5 ((Z' v2) :: (Z' v3) :: tn 10 []), []⟩
def lP (y0 : Int) : St := ⟨tn 4 ((Z' y0) :: tn 14 []), []⟩
def lQ : St := ⟨tn 19 [], []⟩
def uK {γ : Type} (f : List Int -> Int -> Int -> Int -> γ) (s : St) : γ := f (aY (bF (ah (vT (nx ac s.tmps 0))))) (af (ah (vT (nx ac s.tmps 1)))) (af (ah (vT (nx ac s.tmps 7)))) (af (ah (vT (nx ac s.tmps 8))))
theorem Jq (s : St) : aP (iA [] 0 0 0) s = uK iA s := by kernel_rfl
def Bq : ax β := fun s K => cond (aJ (iA [] 0 0 0) s) (uK (fun v0 v1 v2 v3 => ai7 N v0 v1 v2 v3 (fun y0 => K .ret (lP y0)) (K (.exit 0) (lQ ))) s) (none)
def Rx : ax β := Bq (vN N) N
def LY : Env β := ⟨[], [], [(0, Bq ai7 N)], [], ⟨[], [], [], []⟩⟩
def Q3 : Env β := LY (vN N) N
theorem FC (v0 : List Int) (v1 v2 v3 : Int) (rec_ : St -> O β) (K : Exit -> St -> O β) :
  stB lay (LY ai7 N) Tryz.f239 0 (iA v0 v1 v2 v3) rec_ K = VC N v0 v1 v2 v3 (fun v0 v1 v2 v3 => rec_ (iA v0 v1 v2 v3)) (fun y0 => K .ret (lP y0)) (K (.exit 0) (lQ )) := by kernel_rfl
theorem Kw (K : Exit -> St -> O β) : ∀ (F : Nat) (v0 : List Int) (v1 v2 v3 : Int), (lp Tryz.f239 0).rounds lay (Q3 N) (ai Tryz.f239) F (iA v0 v1 v2 v3) K = vN N F v0 v1 v2 v3 (fun y0 => K .ret (lP y0)) (K (.exit 0) (lQ )) := by
 intro F; induction F with
 | zero => intros; rfl
 | succ F ih => intros; rw [am]; refine (FC (vN N) N _ _ _ _ (fun s => (lp Tryz.f239 0).rounds lay (Q3 N) (ai Tryz.f239) F s K) K).trans ?_; simp only [ih]; rfl
theorem SU : aS (Q3 (β := β) N).loops (lp Tryz.f239 0).id = Rx N := by kernel_rfl
theorem TT : ay lay (Q3 (β := β) N) (ai Tryz.f239) (lp Tryz.f239 0) := rks (SU ..) (rc1 (fun s K hb => ⟨N, by rw [<- ar hb, Jq s]; unfold uK; exact Kw N K N _ _ _ _⟩) rc0)
theorem Vr (a0 : List Int) (a1 : Int) (K : TV -> O β) : aL lay (LY ai7 N) Tryz.f239 [.v (.one (.sl 3 (.ints .i64 a0))), (Z' a1)] K = aaV ai7 N a0 a1 (fun z2 => K ((Z' z2))) := by kernel_rfl
theorem agv : ao (β := β) inv Tryz.prog 239 (acm N) := by
 refine ap au mixed (E := Q3 N) (ae ag) aj av Tryz.func239 (by kernel_rfl) 1 (by kernel_rfl) ⟨trivial, TT N⟩ fun args K r h => ?_
 unfold acm Mn at h
 split at h
 ·exact (Vr (vN N) N _ _ _).trans h
 ·cases h
def WK (N : Nat) : Rv.Spec β := fun args K => match args with
 | [.v (.one (.sl 3 (.ints .i64 a0))), .v (.one (.int .i64 a1))] => ajT a0 a1 (fun z2 => K (.v (.one (.bool z2))))
 | _ => none
def XF : Rv.Spec β := WK (VV N) N
def WD : Env β := ⟨[(239, Mn ajD N)], [], [], [], ⟨[], [], [], []⟩⟩
def afg : Env β := WD (QG N) N
theorem Vg (a0 : List Int) (a1 : Int) (K : TV -> O β) : aL lay (WD ajD N) Tryz.f214 [.v (.one (.sl 3 (.ints .i64 a0))), (Z' a1)] K = aaW ajD N a0 a1 (fun z2 => K (.v (.one (.bool z2)))) := by kernel_rfl
theorem ago : ao (β := β) inv Tryz.prog 214 (XF N) := by
 refine ap au mixed (E := afg N) (ae (aa (agv N) ag)) aj av Tryz.func214 (by kernel_rfl) 0 (by kernel_rfl) trivial fun args K r h => ?_
 unfold XF WK at h
 split at h
 ·exact (Vg (QG N) N _ _ _).trans h
 ·cases h
end Go.Proofs.YtemihnclhcobnaaGreatDoor
