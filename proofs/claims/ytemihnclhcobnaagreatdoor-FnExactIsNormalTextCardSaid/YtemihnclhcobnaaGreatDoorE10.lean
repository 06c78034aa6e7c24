/- The functions that the claims cY bz as their texts do. -/
import Derived.Test.YtemihnclhcobnaaGreatDoorE9
namespace Go.Proofs.YtemihnclhcobnaaGreatDoor
set_option linter.unusedSimpArgs false
open Go.Rv
set_option maxRecDepth 100000
set_option maxHeartbeats 2000000
set_option linter.unusedVariables false
variable {β : Type}
variable (zq0 : Y0 β) (zq1 : Y1 β) (zq2 : Y2 β) (zq3 : Y3 β) (zq6 : Y4 β) (zq7 : Y6 β) (agZ : Y10 β) (ahB : Y11 β) (ahw : Y12 β) (ag0 ag1 : Y15 β) (ag4 : Y16 β) (aho : Y18 β) (ahi : Y0 β) (aiK : Y23 β) (ahf : Y6 β) (aiQ : Y28 β) (aiT : Y35 β) (aiU : Y38 β) (aia : Y92 β) (ajq : Y93 β) (aib : Y95 β) (ajr : Y96 β) (ajs : Y47 β) (aic : Y98 β) (ajt : Y93 β) (aju : acY β) (ajv : acZ β) (ahg : Y18 β) (aid : afD β) (ajw : Y47 β) (aiV : Y52 β) (ahl : Y4 β) (aiW : ac0 β) (ahk : Y66 β) (ahU : Y54 β)
variable (N : Nat)
def sH (N G : Nat) : Rv.Spec β := fun args K => match args with
 | [.v (.one (.str a0)), .v (.one (.int .i64 a1))] => aia G a0 a1 (fun z2 z3 => K (.tup [.one (.tr false z2), .one (.str z3)]))
 | _ => none
def AR (G : Nat) : Rv.Spec β := sH (nj N) N G
def acW : Rv.Spec β := sH aia N N
def afB : Rv.Spec β := AR N N
def WG (G : Nat) : Env β := ⟨[(187, wI ahf N), (234, sH aia N G)], [], [], [(235, BA ahB ahw N)], ⟨[], [], [], []⟩⟩
def afj (G : Nat) : Env β := WG (vH N) (rF N) (eE N) (nj N) N G
theorem Vl (G : Nat) (a0 : ByteArray) (a1 : Int) (K : TV -> O β) : aL lay (WG ahB ahw ahf aia N G) Tryz.f234 [.v (.one (.str a0)), (Z' a1)] K = H2 ahB ahf N (aia G) a0 a1 (fun z2 z3 => K (.tup [.one (.tr false z2), .one (.str z3)])) := by kernel_rfl
theorem agQ : ∀ args K r, AR (β := β) N 0 args K = some r -> (none : O β) = some r := by
 intro args K r h
 unfold AR sH at h
 split at h <;> exact h
theorem ad3 : ∀ G, ao (β := β) inv Tryz.prog 234 (AR N G) := by
 intro G
 induction G with
 | zero => exact dG Tryz.func234 (by kernel_rfl) (agQ N)
 | succ G ih =>
  refine ap au mixed (E := afj N G) (ae (aa (S0 N) (aa ih ag))) aj (eQ (Zu N) av) Tryz.func234 (by kernel_rfl) 0 (by kernel_rfl) trivial fun args K r h => ?_
  unfold AR sH at h
  split at h
  ·exact (Vl (vH N) (rF N) (eE N) (nj N) N G _ _ _).trans h
  ·cases h
theorem ags : ao (β := β) inv Tryz.prog 234 (afB N) := ad3 N N
def Mb (N : Nat) : Rv.Spec β := fun args K => match args with
 | [.v (.one (.str a0))] => ajq a0 (fun z1 z2 => K (.tup [.one (.tr false z1), .one (.bool z2)]))
 | _ => none
def ab3 : Rv.Spec β := Mb (vJ N) N
def Wt : Env β := ⟨[(234, acW aia N)], [], [], [], ⟨[], [], [], []⟩⟩
def ae6 : Env β := Wt (nj N) N
theorem UZ (a0 : ByteArray) (K : TV -> O β) : aL lay (Wt aia N) Tryz.f196 [.v (.one (.str a0))] K = H3 (aia N) N a0 (fun z1 z2 => K (.tup [.one (.tr false z1), .one (.bool z2)])) := by kernel_rfl
theorem agd : ao (β := β) inv Tryz.prog 196 (ab3 N) := by
 refine ap au mixed (E := ae6 N) (ae (aa (ags N) ag)) aj av Tryz.func196 (by kernel_rfl) 0 (by kernel_rfl) trivial fun args K r h => ?_
 unfold ab3 Mb at h
 split at h
 ·exact (UZ (nj N) N _ _).trans h
 ·cases h
def sE (N G : Nat) : Rv.Spec β := fun args K => match args with
 | [.v (.one (.tr false a0)), .v (.one (.int .i64 a1))] => aib G a0 a1 (fun z2 => K (.v (.one (.bool z2))))
 | _ => none
def AO (G : Nat) : Rv.Spec β := sE (pO N) N G
def acT : Rv.Spec β := sE aib N N
def afy : Rv.Spec β := AO N N
def Wu (G : Nat) : Env β := ⟨[(197, sE aib N G)], [], [], [(235, BA ahB ahw N)], ⟨[], [], [], []⟩⟩
def ae7 (G : Nat) : Env β := Wu (vH N) (rF N) (pO N) N G
theorem U0 (G : Nat) (a0 : Tr) (a1 : Int) (K : TV -> O β) : aL lay (Wu ahB ahw aib N G) Tryz.f197 [.v (.one (.tr false a0)), (Z' a1)] K = PI ahw N (aib G) a0 a1 (fun z2 => K (.v (.one (.bool z2)))) := by kernel_rfl
theorem agN : ∀ args K r, AO (β := β) N 0 args K = some r -> (none : O β) = some r := by
 intro args K r h
 unfold AO sE at h
 split at h <;> exact h
theorem ad0 : ∀ G, ao (β := β) inv Tryz.prog 197 (AO N G) := by
 intro G
 induction G with
 | zero => exact dG Tryz.func197 (by kernel_rfl) (agN N)
 | succ G ih =>
  refine ap au mixed (E := ae7 N G) (ae (aa ih ag)) aj (eQ (Zu N) av) Tryz.func197 (by kernel_rfl) 0 (by kernel_rfl) trivial fun args K r h => ?_
  unfold AO sE at h
  split at h
  ·exact (U0 (vH N) (rF N) (pO N) N G _ _ _).trans h
  ·cases h
theorem age : ao (β := β) inv Tryz.prog 197 (afy N) := ad0 N N
def L4 (N : Nat) : Rv.Spec β := fun args K => match args with
 | [.v (.one (.str a0)), .v (.one (.int .i64 a1))] => ajr a0 a1 (fun z2 z3 z4 z5 => K (.tup [.one (.tr false z2), .agg [.int .i64 z3, .int .i64 z4], .one (.bool z5)]))
 | _ => none
def abJ : Rv.Spec β := L4 (vK N) N
def Wd : Env β := ⟨[(196, Mb ajq N), (99, wc zq7 N), (197, acT aib N), (129, qT zq0 zq1 zq6 agZ ag0 ag1 ag4 N), (198, Gt ag0 N)], [], [], [], ⟨[], [], [], []⟩⟩
def aeP : Env β := Wd (zj0 N) (zj1 N) (zj6 N) (zj7 N) (c8 N) (dc N) (de N) (fS N) (vJ N) (pO N) N
theorem Uw (a0 : ByteArray) (a1 : Int) (K : TV -> O β) : aL lay (Wd zq0 zq1 zq6 zq7 agZ ag0 ag1 ag4 ajq aib N) Tryz.f137 [.v (.one (.str a0)), (Z' a1)] K = Di zq7 ag0 ag4 ajq (aib N) N a0 a1 (fun z2 z3 z4 z5 => K (.tup [.one (.tr false z2), .agg [.int .i64 z3, .int .i64 z4], .one (.bool z5)])) := by kernel_rfl
theorem afV : ao (β := β) inv Tryz.prog 137 (abJ N) := by
 refine ap au mixed (E := aeP N) (ae (aa (agd N) (aa (o99 N) (aa (age N) (aa (JL N) (aa (adK N) ag)))))) aj av Tryz.func137 (by kernel_rfl) 0 (by kernel_rfl) trivial fun args K r h => ?_
 unfold abJ L4 at h
 split at h
 ·exact (Uw (zj0 N) (zj1 N) (zj6 N) (zj7 N) (c8 N) (dc N) (de N) (fS N) (vJ N) (pO N) N _ _ _).trans h
 ·cases h
def Yd (N : Nat) : Rv.Spec β := fun args K => match args with
 | [.v (.one (.str a0)), .v (.one (.int .i64 a1))] => ajs a0 a1 (fun z2 z3 z4 => K (.tup [.agg [.int .i64 z2, .int .i64 z3], .one (.bool z4)]))
 | _ => none
def S68 : Rv.Spec β := Yd (pP N) N
def acz : Env β := ⟨[(137, L4 ajr N)], [], [], [], ⟨[], [], [], []⟩⟩
def E68 : Env β := acz (vK N) N
theorem aax (a0 : ByteArray) (a1 : Int) (K : TV -> O β) : aL lay (acz ajr N) Tryz.f68 [.v (.one (.str a0)), (Z' a1)] K = Dj ajr N a0 a1 (fun z2 z3 z4 => K (.tup [.agg [.int .i64 z2, .int .i64 z3], .one (.bool z4)])) := by kernel_rfl
theorem o68 : ao (β := β) inv Tryz.prog 68 (S68 N) := by
 refine ap au mixed (E := E68 N) (ae (aa (afV N) ag)) aj av Tryz.func68 (by kernel_rfl) 0 (by kernel_rfl) trivial fun args K r h => ?_
 unfold S68 Yd at h
 split at h
 ·exact (aax (vK N) N _ _ _).trans h
 ·cases h
def sF (N G : Nat) : Rv.Spec β := fun args K => match args with
 | [.v (.one (.str a0))] => aic G a0 (fun z1 z2 => K (.tup [.one (.tr false z1), .one (.str z2)]))
 | _ => none
def AP (G : Nat) : Rv.Spec β := sF (jQ N) N G
def acU : Rv.Spec β := sF aic N N
def afz : Rv.Spec β := AP N N
def Ww (G : Nat) : Env β := ⟨[(187, wI ahf N), (200, sF aic N G)], [], [], [], ⟨[], [], [], []⟩⟩
def ae9 (G : Nat) : Env β := Ww (eE N) (jQ N) N G
theorem U3 (G : Nat) (a0 : ByteArray) (K : TV -> O β) : aL lay (Ww ahf aic N G) Tryz.f200 [.v (.one (.str a0))] K = H4 ahf N (aic G) a0 (fun z1 z2 => K (.tup [.one (.tr false z1), .one (.str z2)])) := by kernel_rfl
theorem agO : ∀ args K r, AP (β := β) N 0 args K = some r -> (none : O β) = some r := by
 intro args K r h
 unfold AP sF at h
 split at h <;> exact h
theorem ad1 : ∀ G, ao (β := β) inv Tryz.prog 200 (AP N G) := by
 intro G
 induction G with
 | zero => exact dG Tryz.func200 (by kernel_rfl) (agO N)
 | succ G ih =>
  refine ap au mixed (E := ae9 N G) (ae (aa (S0 N) (aa ih ag))) aj av Tryz.func200 (by kernel_rfl) 0 (by kernel_rfl) trivial fun args K r h => ?_
  unfold AP sF at h
  split at h
  ·exact (U3 (eE N) (jQ N) N G _ _).trans h
  ·cases h
theorem agh : ao (β := β) inv Tryz.prog 200 (afz N) := ad1 N N
def L5 (N : Nat) : Rv.Spec β := fun args K => match args with
 | [.v (.one (.str a0))] => ajt a0 (fun z1 z2 => K (.tup [.one (.tr false z1), .one (.bool z2)]))
 | _ => none
def abK : Rv.Spec β := L5 (vL N) N
def We : Env β := ⟨[(200, acU aic N)], [], [], [], ⟨[], [], [], []⟩⟩
def aeQ : Env β := We (jQ N) N
theorem Ux (a0 : ByteArray) (K : TV -> O β) : aL lay (We aic N) Tryz.f138 [.v (.one (.str a0))] K = H5 (aic N) N a0 (fun z1 z2 => K (.tup [.one (.tr false z1), .one (.bool z2)])) := by kernel_rfl
theorem afW : ao (β := β) inv Tryz.prog 138 (abK N) := by
 refine ap au mixed (E := aeQ N) (ae (aa (agh N) ag)) aj av Tryz.func138 (by kernel_rfl) 0 (by kernel_rfl) trivial fun args K r h => ?_
 unfold abK L5 at h
 split at h
 ·exact (Ux (jQ N) N _ _).trans h
 ·cases h
def Md (N : Nat) : Rv.Spec β := fun args K => match args with
 | [.v (.one (.tr false a0))] => aju a0 (fun z1 => K (.v (.one (.bool z1))))
 | _ => none
def ab6 : Rv.Spec β := Md (DB N) N
def Wx (N : Nat) : Env β := ⟨[], [], [], [], ⟨[], [], [], []⟩⟩
def afa : Env β := Wx N
theorem U4 (a0 : Tr) (K : TV -> O β) : aL lay (Wx N) Tryz.f201 [.v (.one (.tr false a0))] K = W2 N a0 (fun z1 => K (.v (.one (.bool z1)))) := by kernel_rfl
theorem agi : ao (β := β) inv Tryz.prog 201 (ab6 N) := by
 refine ap au mixed (E := afa N) (ae ag) aj av Tryz.func201 (by kernel_rfl) 0 (by kernel_rfl) trivial fun args K r h => ?_
 unfold ab6 Md at h
 split at h
 ·exact (U4 N _ _).trans h
 ·cases h
def Me (N : Nat) : Rv.Spec β := fun args K => match args with
 | [.v (.one (.int .i64 a0)), .v (.one (.int .i64 a1))] => ajv a0 a1 (fun z2 z3 z4 => K (.tup [.agg [.int .i64 z2, .int .i64 z3], .one (.bool z4)]))
 | _ => none
def ab7 : Rv.Spec β := Me (DC N) N
def Wy : Env β := ⟨[(99, wc zq7 N), (212, Gw aho N)], [], [], [], ⟨[], [], [], []⟩⟩
def afb : Env β := Wy (zj7 N) (pT N) N
theorem U5 (a0 a1 : Int) (K : TV -> O β) : aL lay (Wy zq7 aho N) Tryz.f202 [(Z' a0), (Z' a1)] K = PJ zq7 aho N a0 a1 (fun z2 z3 z4 => K (.tup [.agg [.int .i64 z2, .int .i64 z3], .one (.bool z4)])) := by kernel_rfl
theorem agj : ao (β := β) inv Tryz.prog 202 (ab7 N) := by
 refine ap au mixed (E := afb N) (ae (aa (o99 N) (aa (Zt N) ag))) aj av Tryz.func202 (by kernel_rfl) 0 (by kernel_rfl) trivial fun args K r h => ?_
 unfold ab7 Me at h
 split at h
 ·exact (U5 (zj7 N) (pT N) N _ _ _).trans h
 ·cases h
def Bu (N : Nat) : Rv.Spec β := fun args K => match args with
 | [.v (.agg [.int .i64 a0, .int .i64 a1])] => ahg a0 a1 (fun z2 z3 => K (.v (.agg [.int .i64 z2, .int .i64 z3])))
 | _ => none
def abT : Rv.Spec β := Bu (eF N) N
def Wj : Env β := ⟨[(100, oM zq2 N)], [], [], [], ⟨[], [], [], []⟩⟩
def aeV : Env β := Wj (zj2 N) N
theorem UL (a0 a1 : Int) (K : TV -> O β) : aL lay (Wj zq2 N) Tryz.f174 [.v (.agg [.int .i64 a0, .int .i64 a1])] K = H6 zq2 N a0 a1 (fun z2 z3 => K (.v (.agg [.int .i64 z2, .int .i64 z3]))) := by kernel_rfl
theorem Zo : ao (β := β) inv Tryz.prog 174 (abT N) := by
 refine ap au mixed (E := aeV N) (ae (aa (Er N) ag)) aj av Tryz.func174 (by kernel_rfl) 0 (by kernel_rfl) trivial fun args K r h => ?_
 unfold abT Bu at h
 split at h
 ·exact (UL (zj2 N) N _ _ _).trans h
 ·cases h
def sr (N G : Nat) : Rv.Spec β := fun args K => match args with
 | [.v (.one (.tr false a0)), .v (.one (.int .i64 a1))] => aid G a0 a1 (fun z2 z3 z4 => K (.tup [.agg [.int .i64 z2, .int .i64 z3], .one (.bool z4)]))
 | _ => none
def AE (G : Nat) : Rv.Spec β := sr (pQ N) N G
def acK : Rv.Spec β := sr aid N N
def afo : Rv.Spec β := AE N N
def Wf (G : Nat) : Env β := ⟨[(201, Md aju N), (187, wI ahf N), (202, Me ajv N), (129, qT zq0 zq1 zq6 agZ ag0 ag1 ag4 N), (203, Gu ag1 N), (174, Bu ahg N), (139, sr aid N G)], [], [], [], ⟨[], [], [], []⟩⟩
def aeR (G : Nat) : Env β := Wf (zj0 N) (zj1 N) (zj6 N) (c8 N) (dc N) (de N) (fS N) (eE N) (DB N) (DC N) (eF N) (pQ N) N G
theorem Uy (G : Nat) (a0 : Tr) (a1 : Int) (K : TV -> O β) : aL lay (Wf zq0 zq1 zq6 agZ ag0 ag1 ag4 ahf aju ajv ahg aid N G) Tryz.f139 [.v (.one (.tr false a0)), (Z' a1)] K = PK ag1 ag4 ahf aju ajv ahg N (aid G) a0 a1 (fun z2 z3 z4 => K (.tup [.agg [.int .i64 z2, .int .i64 z3], .one (.bool z4)])) := by kernel_rfl
theorem z139 : ∀ args K r, AE (β := β) N 0 args K = some r -> (none : O β) = some r := by
 intro args K r h
 unfold AE sr at h
 split at h <;> exact h
theorem adQ : ∀ G, ao (β := β) inv Tryz.prog 139 (AE N G) := by
 intro G
 induction G with
 | zero => exact dG Tryz.func139 (by kernel_rfl) (z139 N)
 | succ G ih =>
  refine ap au mixed (E := aeR N G) (ae (aa (agi N) (aa (S0 N) (aa (agj N) (aa (JL N) (aa (adL N) (aa (Zo N) (aa ih ag)))))))) aj av Tryz.func139 (by kernel_rfl) 0 (by kernel_rfl) trivial fun args K r h => ?_
  unfold AE sr at h
  split at h
  ·exact (Uy (zj0 N) (zj1 N) (zj6 N) (c8 N) (dc N) (de N) (fS N) (eE N) (DB N) (DC N) (eF N) (pQ N) N G _ _ _).trans h
  ·cases h
theorem afX : ao (β := β) inv Tryz.prog 139 (afo N) := adQ N N
def Ye (N : Nat) : Rv.Spec β := fun args K => match args with
 | [.v (.one (.str a0)), .v (.one (.int .i64 a1))] => ajw a0 a1 (fun z2 z3 z4 => K (.tup [.agg [.int .i64 z2, .int .i64 z3], .one (.bool z4)]))
 | _ => none
def S69 : Rv.Spec β := Ye (lZ N) N
def acA : Env β := ⟨[(138, L5 ajt N), (99, wc zq7 N), (139, acK aid N)], [], [], [], ⟨[], [], [], []⟩⟩
def E69 : Env β := acA (zj7 N) (vL N) (pQ N) N
theorem aay (a0 : ByteArray) (a1 : Int) (K : TV -> O β) : aL lay (acA zq7 ajt aid N) Tryz.f69 [.v (.one (.str a0)), (Z' a1)] K = yk zq7 ajt (aid N) N a0 a1 (fun z2 z3 z4 => K (.tup [.agg [.int .i64 z2, .int .i64 z3], .one (.bool z4)])) := by kernel_rfl
theorem o69 : ao (β := β) inv Tryz.prog 69 (S69 N) := by
 refine ap au mixed (E := E69 N) (ae (aa (afW N) (aa (o99 N) (aa (afX N) ag)))) aj av Tryz.func69 (by kernel_rfl) 0 (by kernel_rfl) trivial fun args K r h => ?_
 unfold S69 Ye at h
 split at h
 ·exact (aay (zj7 N) (vL N) (pQ N) N _ _ _).trans h
 ·cases h
def XT (N : Nat) : Rv.Spec β := fun args K => match args with
 | [.v (.one (.str a0)), .v (.one (.int .i64 a1)), .v (.one (.str a2))] => aiV a0 a1 a2 (fun z3 z4 z5 => K (.tup [.agg [.int .i64 z3, .int .i64 z4], .one (.bool z5)]))
 | _ => none
def S12 : Rv.Spec β := XT (vM N) N
def aco : Env β := ⟨[(64, X8 aiK N), (65, X9 aiQ N), (66, Ya aiT N), (67, Yc aiU N), (68, Yd ajs N), (69, Ye ajw N)], [], [], [], ⟨[], [], [], []⟩⟩
def E12 : Env β := aco (rz N) (nh N) (lY N) (vI N) (pP N) (lZ N) N
theorem aab (a0 : ByteArray) (a1 : Int) (a2 : ByteArray) (K : TV -> O β) : aL lay (aco aiK aiQ aiT aiU ajs ajw N) Tryz.f12 [.v (.one (.str a0)), (Z' a1), .v (.one (.str a2))] K = H7 aiK aiQ aiT aiU ajs ajw N a0 a1 a2 (fun z3 z4 z5 => K (.tup [.agg [.int .i64 z3, .int .i64 z4], .one (.bool z5)])) := by kernel_rfl
theorem o12 : ao (β := β) inv Tryz.prog 12 (S12 N) := by
 refine ap au mixed (E := E12 N) (ae (aa (o64 N) (aa (o65 N) (aa (o66 N) (aa (o67 N) (aa (o68 N) (aa (o69 N) ag))))))) aj av Tryz.func12 (by kernel_rfl) 0 (by kernel_rfl) trivial fun args K r h => ?_
 unfold S12 XT at h
 split at h
 ·exact (aab (rz N) (nh N) (lY N) (vI N) (pP N) (lZ N) N _ _ _ _).trans h
 ·cases h
def Mq (N : Nat) : Rv.Spec β := fun args K => match args with
 | [.v (.agg [.int .i64 a0, .int .i64 a1]), .v (.one (.int .i64 a2))] => ahl a0 a1 a2 (fun z3 => K (.v (.one (.bool z3))))
 | _ => none
def S45 : Rv.Spec β := Mq (gu N) N
def acw : Env β := ⟨[(37, Mo ahi N)], [], [], [], ⟨[], [], [], []⟩⟩
def E45 : Env β := acw (gm N) N
theorem aal (a0 a1 a2 : Int) (K : TV -> O β) : aL lay (acw ahi N) Tryz.f45 [.v (.agg [.int .i64 a0, .int .i64 a1]), (Z' a2)] K = Dk ahi N a0 a1 a2 (fun z3 => K (.v (.one (.bool z3)))) := by kernel_rfl
theorem o45 : ao (β := β) inv Tryz.prog 45 (S45 N) := by
 refine ap au mixed (E := E45 N) (ae (aa (o37 N) ag)) aj av Tryz.func45 (by kernel_rfl) 0 (by kernel_rfl) trivial fun args K r h => ?_
 unfold S45 Mq at h
 split at h
 ·exact (aal (gm N) N _ _ _ _).trans h
 ·cases h
def By (N : Nat) : Rv.Spec β := fun args K => match args with
 | [.v (.agg [.int .i64 a0, .int .i64 a1]), .v (.one (.int .i64 a2)), .v (.one (.int .i64 a3))] => ahk a0 a1 a2 a3 (fun z4 => K (.v (.one (.int .i64 z4))))
 | _ => none
def acd : Rv.Spec β := By (gv N) N
def iw (v0 v1 v2 v3 v4 v5 : Int) (v6 v7 : Bool) : St := ⟨ac :: (Z' v0) :: (Z' v1) :: .v (.one (.ptr 0 0)) :: tn 3 (.v (.one (.ptr 1 0)) :: tn 3 ((Z' v2) :: (Z' v3) :: tn 22 [])), [.cells 25 [.int .i64 v4, .int .i64 v5], .cells 194 [.bool v6, .bool v7]]⟩
def lJ (y0 y1 : Bool) : St := ⟨tn 7 (.v (.one (.ptr 0 0)) :: tn 27 []), [.cells 194 [.bool y0, .bool y1]]⟩
def uG {γ : Type} (f : Int -> Int -> Int -> Int -> Int -> Int -> Bool -> Bool -> γ) (s : St) : γ := f (af (ah (vT (nx ac s.tmps 1)))) (af (ah (vT (nx ac s.tmps 2)))) (af (ah (vT (nx ac s.tmps 11)))) (af (ah (vT (nx ac s.tmps 12)))) (af (nx .und (ak (nx .dead s.blks 0)) 0)) (af (nx .und (ak (nx .dead s.blks 0)) 1)) (GE (nx .und (ak (nx .dead s.blks 1)) 0)) (GE (nx .und (ak (nx .dead s.blks 1)) 1))
theorem Jm (s : St) : aP (iw 0 0 0 0 0 0 false false) s = uG iw s := by kernel_rfl
def Bn : ax β := fun s K => cond (aJ (iw 0 0 0 0 0 0 false false) s) (uG (fun v0 v1 v2 v3 v4 v5 v6 v7 => aiW N v0 v1 v2 v3 v4 v5 v6 v7 (fun y0 y1 => K (.exit 0) (lJ y0 y1))) s) (none)
def Rt : ax β := Bn (jR N) N
def LV : Env β := ⟨[(100, oM zq2 N), (103, so zq3 N)], [], [(0, Bn aiW N)], [], ⟨[], [], [], []⟩⟩
def Q1 : Env β := LV (zj2 N) (zj3 N) (jR N) N
theorem Fy (v0 v1 v2 v3 v4 v5 : Int) (v6 v7 : Bool) (rec_ : St -> O β) (K : Exit -> St -> O β) :
  stB lay (LV zq2 zq3 aiW N) Tryz.f209 0 (iw v0 v1 v2 v3 v4 v5 v6 v7) rec_ K = Dl zq3 N v0 v1 v2 v3 v4 v5 v6 v7 (fun v0 v1 v2 v3 v4 v5 v6 v7 => rec_ (iw v0 v1 v2 v3 v4 v5 v6 v7)) (fun y0 y1 => K (.exit 0) (lJ y0 y1)) := by kernel_rfl
theorem Ks (K : Exit -> St -> O β) : ∀ (F : Nat) (v0 v1 v2 v3 v4 v5 : Int) (v6 v7 : Bool), (lp Tryz.f209 0).rounds lay (Q1 N) (ai Tryz.f209) F (iw v0 v1 v2 v3 v4 v5 v6 v7) K = jR N F v0 v1 v2 v3 v4 v5 v6 v7 (fun y0 y1 => K (.exit 0) (lJ y0 y1)) := by
 intro F; induction F with
 | zero => intros; rfl
 | succ F ih => intros; rw [am]; refine (Fy (zj2 N) (zj3 N) (jR N) N _ _ _ _ _ _ _ _ (fun s => (lp Tryz.f209 0).rounds lay (Q1 N) (ai Tryz.f209) F s K) K).trans ?_; simp only [ih]; rfl
theorem SL : aS (Q1 (β := β) N).loops (lp Tryz.f209 0).id = Rt N := by kernel_rfl
theorem TQ : ay lay (Q1 (β := β) N) (ai Tryz.f209) (lp Tryz.f209 0) := rks (SL ..) (rc1 (fun s K hb => ⟨N, by rw [<- ar hb, Jm s]; unfold uG; exact Ks N K N _ _ _ _ _ _ _ _⟩) rc0)
theorem Vc (a0 a1 a2 a3 : Int) (K : TV -> O β) : aL lay (LV zq2 zq3 aiW N) Tryz.f209 [.v (.agg [.int .i64 a0, .int .i64 a1]), (Z' a2), (Z' a3)] K = H8 zq2 aiW N a0 a1 a2 a3 (fun z4 => K ((Z' z4))) := by kernel_rfl
theorem Zr : ao (β := β) inv Tryz.prog 209 (acd N) := by
 refine ap au mixed (E := Q1 N) (ae (aa (Er N) (aa (NT N) ag))) aj av Tryz.func209 (by kernel_rfl) 1 (by kernel_rfl) ⟨trivial, TQ N⟩ fun args K r h => ?_
 unfold acd By at h
 split at h
 ·exact (Vc (zj2 N) (zj3 N) (jR N) N _ _ _ _ _).trans h
 ·cases h
def Mj (N : Nat) : Rv.Spec β := fun args K => match args with
 | [.v (.agg [.int .i64 a0, .int .i64 a1]), .v (.agg [.int .i64 a2, .int .i64 a3])] => ahU a0 a1 a2 a3 (fun z4 => K (.v (.one (.bool z4))))
 | _ => none
def acg : Rv.Spec β := Mj (rA N) N
def WE : Env β := ⟨[(209, By ahk N)], [], [], [], ⟨[], [], [], []⟩⟩
def afh : Env β := WE (gv N) N
theorem Vh (a0 a1 a2 a3 : Int) (K : TV -> O β) : aL lay (WE ahk N) Tryz.f216 [.v (.agg [.int .i64 a0, .int .i64 a1]), .v (.agg [.int .i64 a2, .int .i64 a3])] K = PL ahk N a0 a1 a2 a3 (fun z4 => K (.v (.one (.bool z4)))) := by kernel_rfl
theorem agp : ao (β := β) inv Tryz.prog 216 (acg N) := by
 refine ap au mixed (E := afh N) (ae (aa (Zr N) ag)) aj av Tryz.func216 (by kernel_rfl) 0 (by kernel_rfl) trivial fun args K r h => ?_
 unfold acg Mj at h
 split at h
 ·exact (Vh (gv N) N _ _ _ _ _).trans h
 ·cases h
end Go.Proofs.YtemihnclhcobnaaGreatDoor
