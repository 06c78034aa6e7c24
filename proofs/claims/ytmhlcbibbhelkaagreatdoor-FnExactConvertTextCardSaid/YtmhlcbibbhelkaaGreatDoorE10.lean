/- The functions that the claims cZ bz as their texts do. -/
import Derived.Test.YtmhlcbibbhelkaaGreatDoorE9
namespace Go.Proofs.YtmhlcbibbhelkaaGreatDoor
set_option linter.unusedSimpArgs false
open Go.Rv
set_option maxRecDepth 100000
set_option maxHeartbeats 2000000
set_option linter.unusedVariables false
variable {β : Type}
variable (zq0 : Y0 β) (zq1 : Y1 β) (zq2 : Y2 β) (zq3 : Y3 β) (zq6 : Y4 β) (zq7 : Y6 β) (adZ : Y10 β) (aeB : Y11 β) (aew : Y12 β) (ad0 ad1 : Y15 β) (ad4 : Y16 β) (aeo : Y18 β) (aei : Y0 β) (afK : Y23 β) (aef : Y6 β) (afQ : Y28 β) (afT : Y35 β) (afU : Y38 β) (afa : Y91 β) (agq : Y92 β) (afb : Y94 β) (agr : Y95 β) (ags : Y47 β) (afc : Y97 β) (agt : Y92 β) (agu : Y99 β) (agv : abp β) (aeg : Y18 β) (afd : ac5 β) (agw : Y47 β) (afV : Y52 β) (ael : Y4 β) (afW : abq β) (aek : Y66 β) (aeU : Y54 β)
def sk (N G : Nat) : Rv.Spec β := fun args K => match args with
 | [.v (.one (.str a0)), .v (.one (.int .i64 a1))] => afa G a0 a1 (fun z2 z3 => K (.tup [.one (.tr false z2), .one (.str z3)]))
 | _ => none
def Aq (N G : Nat) : Rv.Spec β := sk (mu N) N G
def abm (N : Nat) : Rv.Spec β := sk afa N N
def acQ (N : Nat) : Rv.Spec β := Aq N N
def SW (N G : Nat) : Env β := ⟨[(83, Hm aef N), (118, sk afa N G)], [], [], [(119, AD aeB aew N)], ⟨[], [], [], []⟩⟩
def acM (N G : Nat) : Env β := SW (uI N) (rK N) (eE N) (mu N) N G
theorem RX (N G : Nat) (a0 : ByteArray) (a1 : Int) (K : TV → O β) : aL lay (SW aeB aew aef afa N G) Tryz.f118 [.v (.one (.str a0)), (Z' a1)] K = GM aeB aef N (afa G) a0 a1 (fun z2 z3 => K (.tup [.one (.tr false z2), .one (.str z3)])) := by kernel_rfl
theorem adQ (N : Nat) : ∀ args K r, Aq (β := β) N 0 args K = some r → (none : O β) = some r := by
 intro args K r h
 unfold Aq sk at h
 split at h <;> exact h
theorem abW (N : Nat) : ∀ G, ao (β := β) inv Tryz.prog 118 (Aq N G) := by
 intro G
 induction G with
 | zero => exact dG Tryz.func118 (by kernel_rfl) (adQ N)
 | succ G ih =>
  refine ap au mixed (E := acM N G) (ae (aa (o83 N) (aa ih ag))) ak (eR (WS N) av) Tryz.func118 (by kernel_rfl) 0 (by kernel_rfl) trivial fun args K r h => ?_
  unfold Aq sk at h
  split at h
  ·exact (RX (uI N) (rK N) (eE N) (mu N) N G _ _ _).trans h
  ·cases h
theorem adq (N : Nat) : ao (β := β) inv Tryz.prog 118 (acQ N) := abW N N
def Vu (N : Nat) : Rv.Spec β := fun args K => match args with
 | [.v (.one (.str a0))] => agq a0 (fun z1 z2 => K (.tup [.one (.tr false z1), .one (.bool z2)]))
 | _ => none
def S92 (N : Nat) : Rv.Spec β := Vu (uK N) N
def abf (N : Nat) : Env β := ⟨[(118, abm afa N)], [], [], [], ⟨[], [], [], []⟩⟩
def E92 (N : Nat) : Env β := abf (mu N) N
theorem ZC (N : Nat) (a0 : ByteArray) (K : TV → O β) : aL lay (abf afa N) Tryz.f92 [.v (.one (.str a0))] K = GN (afa N) N a0 (fun z1 z2 => K (.tup [.one (.tr false z1), .one (.bool z2)])) := by kernel_rfl
theorem o92 (N : Nat) : ao (β := β) inv Tryz.prog 92 (S92 N) := by
 refine ap au mixed (E := E92 N) (ae (aa (adq N) ag)) ak av Tryz.func92 (by kernel_rfl) 0 (by kernel_rfl) trivial fun args K r h => ?_
 unfold S92 Vu at h
 split at h
 ·exact (ZC (mu N) N _ _).trans h
 ·cases h
def AS (N G : Nat) : Rv.Spec β := fun args K => match args with
 | [.v (.one (.tr false a0)), .v (.one (.int .i64 a1))] => afb G a0 a1 (fun z2 => K (.v (.one (.bool z2))))
 | _ => none
def J5 (N G : Nat) : Rv.Spec β := AS (pW N) N G
def ac3 (N : Nat) : Rv.Spec β := AS afb N N
def S93 (N : Nat) : Rv.Spec β := J5 N N
def abg (N G : Nat) : Env β := ⟨[(93, AS afb N G)], [], [], [(119, AD aeB aew N)], ⟨[], [], [], []⟩⟩
def E93 (N G : Nat) : Env β := abg (uI N) (rK N) (pW N) N G
theorem ZD (N G : Nat) (a0 : Tr) (a1 : Int) (K : TV → O β) : aL lay (abg aeB aew afb N G) Tryz.f93 [.v (.one (.tr false a0)), (Z' a1)] K = OO aew N (afb G) a0 a1 (fun z2 => K (.v (.one (.bool z2)))) := by kernel_rfl
theorem z93 (N : Nat) : ∀ args K r, J5 (β := β) N 0 args K = some r → (none : O β) = some r := by
 intro args K r h
 unfold J5 AS at h
 split at h <;> exact h
theorem adH (N : Nat) : ∀ G, ao (β := β) inv Tryz.prog 93 (J5 N G) := by
 intro G
 induction G with
 | zero => exact dG Tryz.func93 (by kernel_rfl) (z93 N)
 | succ G ih =>
  refine ap au mixed (E := E93 N G) (ae (aa ih ag)) ak (eR (WS N) av) Tryz.func93 (by kernel_rfl) 0 (by kernel_rfl) trivial fun args K r h => ?_
  unfold J5 AS at h
  split at h
  ·exact (ZD (uI N) (rK N) (pW N) N G _ _ _).trans h
  ·cases h
theorem o93 (N : Nat) : ao (β := β) inv Tryz.prog 93 (S93 N) := adH N N
def Vm (N : Nat) : Rv.Spec β := fun args K => match args with
 | [.v (.one (.str a0)), .v (.one (.int .i64 a1))] => agr a0 a1 (fun z2 z3 z4 z5 => K (.tup [.one (.tr false z2), .agg [.int .i64 z3, .int .i64 z4], .one (.bool z5)]))
 | _ => none
def S61 (N : Nat) : Rv.Spec β := Vm (uL N) N
def aaX (N : Nat) : Env β := ⟨[(92, Vu agq N), (54, u7 zq7 N), (93, ac3 afb N), (52, AF zq0 zq1 zq6 adZ ad0 ad1 ad4 N), (94, Qo ad0 N)], [], [], [], ⟨[], [], [], []⟩⟩
def E61 (N : Nat) : Env β := aaX (zj0 N) (zj1 N) (zj6 N) (zj7 N) (da N) (de N) (df N) (fK N) (uK N) (pW N) N
theorem YY (N : Nat) (a0 : ByteArray) (a1 : Int) (K : TV → O β) : aL lay (aaX zq0 zq1 zq6 zq7 adZ ad0 ad1 ad4 agq afb N) Tryz.f61 [.v (.one (.str a0)), (Z' a1)] K = CF zq7 ad0 ad4 agq (afb N) N a0 a1 (fun z2 z3 z4 z5 => K (.tup [.one (.tr false z2), .agg [.int .i64 z3, .int .i64 z4], .one (.bool z5)])) := by kernel_rfl
theorem o61 (N : Nat) : ao (β := β) inv Tryz.prog 61 (S61 N) := by
 refine ap au mixed (E := E61 N) (ae (aa (o92 N) (aa (o54 N) (aa (o93 N) (aa (o52 N) (aa (o94 N) ag)))))) ak av Tryz.func61 (by kernel_rfl) 0 (by kernel_rfl) trivial fun args K r h => ?_
 unfold S61 Vm at h
 split at h
 ·exact (YY (zj0 N) (zj1 N) (zj6 N) (zj7 N) (da N) (de N) (df N) (fK N) (uK N) (pW N) N _ _ _).trans h
 ·cases h
def Vb (N : Nat) : Rv.Spec β := fun args K => match args with
 | [.v (.one (.str a0)), .v (.one (.int .i64 a1))] => ags a0 a1 (fun z2 z3 z4 => K (.tup [.agg [.int .i64 z2, .int .i64 z3], .one (.bool z4)]))
 | _ => none
def S28 (N : Nat) : Rv.Spec β := Vb (pX N) N
def aaH (N : Nat) : Env β := ⟨[(61, Vm agr N)], [], [], [], ⟨[], [], [], []⟩⟩
def E28 (N : Nat) : Env β := aaH (uL N) N
theorem Yo (N : Nat) (a0 : ByteArray) (a1 : Int) (K : TV → O β) : aL lay (aaH agr N) Tryz.f28 [.v (.one (.str a0)), (Z' a1)] K = CG agr N a0 a1 (fun z2 z3 z4 => K (.tup [.agg [.int .i64 z2, .int .i64 z3], .one (.bool z4)])) := by kernel_rfl
theorem o28 (N : Nat) : ao (β := β) inv Tryz.prog 28 (S28 N) := by
 refine ap au mixed (E := E28 N) (ae (aa (o61 N) ag)) ak av Tryz.func28 (by kernel_rfl) 0 (by kernel_rfl) trivial fun args K r h => ?_
 unfold S28 Vb at h
 split at h
 ·exact (Yo (uL N) N _ _ _).trans h
 ·cases h
def AU (N G : Nat) : Rv.Spec β := fun args K => match args with
 | [.v (.one (.str a0))] => afc G a0 (fun z1 z2 => K (.tup [.one (.tr false z1), .one (.str z2)]))
 | _ => none
def J6 (N G : Nat) : Rv.Spec β := AU (jr N) N G
def ac4 (N : Nat) : Rv.Spec β := AU afc N N
def S96 (N : Nat) : Rv.Spec β := J6 N N
def abi (N G : Nat) : Env β := ⟨[(83, Hm aef N), (96, AU afc N G)], [], [], [], ⟨[], [], [], []⟩⟩
def E96 (N G : Nat) : Env β := abi (eE N) (jr N) N G
theorem ZG (N G : Nat) (a0 : ByteArray) (K : TV → O β) : aL lay (abi aef afc N G) Tryz.f96 [.v (.one (.str a0))] K = GO aef N (afc G) a0 (fun z1 z2 => K (.tup [.one (.tr false z1), .one (.str z2)])) := by kernel_rfl
theorem z96 (N : Nat) : ∀ args K r, J6 (β := β) N 0 args K = some r → (none : O β) = some r := by
 intro args K r h
 unfold J6 AU at h
 split at h <;> exact h
theorem adI (N : Nat) : ∀ G, ao (β := β) inv Tryz.prog 96 (J6 N G) := by
 intro G
 induction G with
 | zero => exact dG Tryz.func96 (by kernel_rfl) (z96 N)
 | succ G ih =>
  refine ap au mixed (E := E96 N G) (ae (aa (o83 N) (aa ih ag))) ak av Tryz.func96 (by kernel_rfl) 0 (by kernel_rfl) trivial fun args K r h => ?_
  unfold J6 AU at h
  split at h
  ·exact (ZG (eE N) (jr N) N G _ _).trans h
  ·cases h
theorem o96 (N : Nat) : ao (β := β) inv Tryz.prog 96 (S96 N) := adI N N
def Vn (N : Nat) : Rv.Spec β := fun args K => match args with
 | [.v (.one (.str a0))] => agt a0 (fun z1 z2 => K (.tup [.one (.tr false z1), .one (.bool z2)]))
 | _ => none
def S62 (N : Nat) : Rv.Spec β := Vn (uM N) N
def aaY (N : Nat) : Env β := ⟨[(96, ac4 afc N)], [], [], [], ⟨[], [], [], []⟩⟩
def E62 (N : Nat) : Env β := aaY (jr N) N
theorem YZ (N : Nat) (a0 : ByteArray) (K : TV → O β) : aL lay (aaY afc N) Tryz.f62 [.v (.one (.str a0))] K = GP (afc N) N a0 (fun z1 z2 => K (.tup [.one (.tr false z1), .one (.bool z2)])) := by kernel_rfl
theorem o62 (N : Nat) : ao (β := β) inv Tryz.prog 62 (S62 N) := by
 refine ap au mixed (E := E62 N) (ae (aa (o96 N) ag)) ak av Tryz.func62 (by kernel_rfl) 0 (by kernel_rfl) trivial fun args K r h => ?_
 unfold S62 Vn at h
 split at h
 ·exact (YZ (jr N) N _ _).trans h
 ·cases h
def Vw (N : Nat) : Rv.Spec β := fun args K => match args with
 | [.v (.one (.tr false a0))] => agu a0 (fun z1 => K (.v (.one (.bool z1))))
 | _ => none
def S97 (N : Nat) : Rv.Spec β := Vw (CX N) N
def abj (N : Nat) : Env β := ⟨[], [], [], [], ⟨[], [], [], []⟩⟩
def E97 (N : Nat) : Env β := abj N
theorem ZH (N : Nat) (a0 : Tr) (K : TV → O β) : aL lay (abj N) Tryz.f97 [.v (.one (.tr false a0))] K = Tq N a0 (fun z1 => K (.v (.one (.bool z1)))) := by kernel_rfl
theorem o97 (N : Nat) : ao (β := β) inv Tryz.prog 97 (S97 N) := by
 refine ap au mixed (E := E97 N) (ae ag) ak av Tryz.func97 (by kernel_rfl) 0 (by kernel_rfl) trivial fun args K r h => ?_
 unfold S97 Vw at h
 split at h
 ·exact (ZH N _ _).trans h
 ·cases h
def Vx (N : Nat) : Rv.Spec β := fun args K => match args with
 | [.v (.one (.int .i64 a0)), .v (.one (.int .i64 a1))] => agv a0 a1 (fun z2 z3 z4 => K (.tup [.agg [.int .i64 z2, .int .i64 z3], .one (.bool z4)]))
 | _ => none
def S98 (N : Nat) : Rv.Spec β := Vx (CY N) N
def abk (N : Nat) : Env β := ⟨[(54, u7 zq7 N), (108, Fg aeo N)], [], [], [], ⟨[], [], [], []⟩⟩
def E98 (N : Nat) : Env β := abk (zj7 N) (p7 N) N
theorem ZI (N : Nat) (a0 a1 : Int) (K : TV → O β) : aL lay (abk zq7 aeo N) Tryz.f98 [(Z' a0), (Z' a1)] K = OP zq7 aeo N a0 a1 (fun z2 z3 z4 => K (.tup [.agg [.int .i64 z2, .int .i64 z3], .one (.bool z4)])) := by kernel_rfl
theorem o98 (N : Nat) : ao (β := β) inv Tryz.prog 98 (S98 N) := by
 refine ap au mixed (E := E98 N) (ae (aa (o54 N) (aa (WR N) ag))) ak av Tryz.func98 (by kernel_rfl) 0 (by kernel_rfl) trivial fun args K r h => ?_
 unfold S98 Vx at h
 split at h
 ·exact (ZI (zj7 N) (p7 N) N _ _ _).trans h
 ·cases h
def AA (N : Nat) : Rv.Spec β := fun args K => match args with
 | [.v (.agg [.int .i64 a0, .int .i64 a1])] => aeg a0 a1 (fun z2 z3 => K (.v (.agg [.int .i64 z2, .int .i64 z3])))
 | _ => none
def aam (N : Nat) : Rv.Spec β := AA (eF N) N
def SH (N : Nat) : Env β := ⟨[(65, xS zq2 N)], [], [], [], ⟨[], [], [], []⟩⟩
def acE (N : Nat) : Env β := SH (zj2 N) N
theorem RK (N : Nat) (a0 a1 : Int) (K : TV → O β) : aL lay (SH zq2 N) Tryz.f100 [.v (.agg [.int .i64 a0, .int .i64 a1])] K = GQ zq2 N a0 a1 (fun z2 z3 => K (.v (.agg [.int .i64 z2, .int .i64 z3]))) := by kernel_rfl
theorem WO (N : Nat) : ao (β := β) inv Tryz.prog 100 (aam N) := by
 refine ap au mixed (E := acE N) (ae (aa (o65 N) ag)) ak av Tryz.func100 (by kernel_rfl) 0 (by kernel_rfl) trivial fun args K r h => ?_
 unfold aam AA at h
 split at h
 ·exact (RK (zj2 N) N _ _ _).trans h
 ·cases h
def AK (N G : Nat) : Rv.Spec β := fun args K => match args with
 | [.v (.one (.tr false a0)), .v (.one (.int .i64 a1))] => afd G a0 a1 (fun z2 z3 z4 => K (.tup [.agg [.int .i64 z2, .int .i64 z3], .one (.bool z4)]))
 | _ => none
def JX (N G : Nat) : Rv.Spec β := AK (pY N) N G
def acW (N : Nat) : Rv.Spec β := AK afd N N
def S63 (N : Nat) : Rv.Spec β := JX N N
def aaZ (N G : Nat) : Env β := ⟨[(97, Vw agu N), (83, Hm aef N), (98, Vx agv N), (52, AF zq0 zq1 zq6 adZ ad0 ad1 ad4 N), (99, Qp ad1 N), (100, AA aeg N), (63, AK afd N G)], [], [], [], ⟨[], [], [], []⟩⟩
def E63 (N G : Nat) : Env β := aaZ (zj0 N) (zj1 N) (zj6 N) (da N) (de N) (df N) (fK N) (eE N) (CX N) (CY N) (eF N) (pY N) N G
theorem Za (N G : Nat) (a0 : Tr) (a1 : Int) (K : TV → O β) : aL lay (aaZ zq0 zq1 zq6 adZ ad0 ad1 ad4 aef agu agv aeg afd N G) Tryz.f63 [.v (.one (.tr false a0)), (Z' a1)] K = OQ ad1 ad4 aef agu agv aeg N (afd G) a0 a1 (fun z2 z3 z4 => K (.tup [.agg [.int .i64 z2, .int .i64 z3], .one (.bool z4)])) := by kernel_rfl
theorem z63 (N : Nat) : ∀ args K r, JX (β := β) N 0 args K = some r → (none : O β) = some r := by
 intro args K r h
 unfold JX AK at h
 split at h <;> exact h
theorem adz (N : Nat) : ∀ G, ao (β := β) inv Tryz.prog 63 (JX N G) := by
 intro G
 induction G with
 | zero => exact dG Tryz.func63 (by kernel_rfl) (z63 N)
 | succ G ih =>
  refine ap au mixed (E := E63 N G) (ae (aa (o97 N) (aa (o83 N) (aa (o98 N) (aa (o52 N) (aa (o99 N) (aa (WO N) (aa ih ag)))))))) ak av Tryz.func63 (by kernel_rfl) 0 (by kernel_rfl) trivial fun args K r h => ?_
  unfold JX AK at h
  split at h
  ·exact (Za (zj0 N) (zj1 N) (zj6 N) (da N) (de N) (df N) (fK N) (eE N) (CX N) (CY N) (eF N) (pY N) N G _ _ _).trans h
  ·cases h
theorem o63 (N : Nat) : ao (β := β) inv Tryz.prog 63 (S63 N) := adz N N
def Vc (N : Nat) : Rv.Spec β := fun args K => match args with
 | [.v (.one (.str a0)), .v (.one (.int .i64 a1))] => agw a0 a1 (fun z2 z3 z4 => K (.tup [.agg [.int .i64 z2, .int .i64 z3], .one (.bool z4)]))
 | _ => none
def S29 (N : Nat) : Rv.Spec β := Vc (ks N) N
def aaI (N : Nat) : Env β := ⟨[(62, Vn agt N), (54, u7 zq7 N), (63, acW afd N)], [], [], [], ⟨[], [], [], []⟩⟩
def E29 (N : Nat) : Env β := aaI (zj7 N) (uM N) (pY N) N
theorem Yp (N : Nat) (a0 : ByteArray) (a1 : Int) (K : TV → O β) : aL lay (aaI zq7 agt afd N) Tryz.f29 [.v (.one (.str a0)), (Z' a1)] K = xm zq7 agt (afd N) N a0 a1 (fun z2 z3 z4 => K (.tup [.agg [.int .i64 z2, .int .i64 z3], .one (.bool z4)])) := by kernel_rfl
theorem o29 (N : Nat) : ao (β := β) inv Tryz.prog 29 (S29 N) := by
 refine ap au mixed (E := E29 N) (ae (aa (o62 N) (aa (o54 N) (aa (o63 N) ag)))) ak av Tryz.func29 (by kernel_rfl) 0 (by kernel_rfl) trivial fun args K r h => ?_
 unfold S29 Vc at h
 split at h
 ·exact (Yp (zj7 N) (uM N) (pY N) N _ _ _).trans h
 ·cases h
def VS8 (N : Nat) : Rv.Spec β := fun args K => match args with
 | [.v (.one (.str a0)), .v (.one (.int .i64 a1)), .v (.one (.str a2))] => afV a0 a1 a2 (fun z3 z4 z5 => K (.tup [.agg [.int .i64 z3, .int .i64 z4], .one (.bool z5)]))
 | _ => none
def S8 (N : Nat) : Rv.Spec β := VS8 (uN N) N
def VE8 (N : Nat) : Env β := ⟨[(24, U7 afK N), (25, U8 afQ N), (26, U9 afT N), (27, Va afU N), (28, Vb ags N), (29, Vc agw N)], [], [], [], ⟨[], [], [], []⟩⟩
def E8 (N : Nat) : Env β := VE8 (rD N) (mr N) (kr N) (uJ N) (pX N) (ks N) N
theorem acn (N : Nat) (a0 : ByteArray) (a1 : Int) (a2 : ByteArray) (K : TV → O β) : aL lay (VE8 afK afQ afT afU ags agw N) Tryz.f8 [.v (.one (.str a0)), (Z' a1), .v (.one (.str a2))] K = GR afK afQ afT afU ags agw N a0 a1 a2 (fun z3 z4 z5 => K (.tup [.agg [.int .i64 z3, .int .i64 z4], .one (.bool z5)])) := by kernel_rfl
theorem o8 (N : Nat) : ao (β := β) inv Tryz.prog 8 (S8 N) := by
 refine ap au mixed (E := E8 N) (ae (aa (o24 N) (aa (o25 N) (aa (o26 N) (aa (o27 N) (aa (o28 N) (aa (o29 N) ag))))))) ak av Tryz.func8 (by kernel_rfl) 0 (by kernel_rfl) trivial fun args K r h => ?_
 unfold S8 VS8 at h
 split at h
 ·exact (acn (rD N) (mr N) (kr N) (uJ N) (pX N) (ks N) N _ _ _ _).trans h
 ·cases h
def Ko (N : Nat) : Rv.Spec β := fun args K => match args with
 | [.v (.agg [.int .i64 a0, .int .i64 a1]), .v (.one (.int .i64 a2))] => ael a0 a1 a2 (fun z3 => K (.v (.one (.bool z3))))
 | _ => none
def S30 (N : Nat) : Rv.Spec β := Ko (gj N) N
def aaJ (N : Nat) : Env β := ⟨[(64, Ks aei N)], [], [], [], ⟨[], [], [], []⟩⟩
def E30 (N : Nat) : Env β := aaJ (ge N) N
theorem Yq (N : Nat) (a0 a1 a2 : Int) (K : TV → O β) : aL lay (aaJ aei N) Tryz.f30 [.v (.agg [.int .i64 a0, .int .i64 a1]), (Z' a2)] K = CH aei N a0 a1 a2 (fun z3 => K (.v (.one (.bool z3)))) := by kernel_rfl
theorem o30 (N : Nat) : ao (β := β) inv Tryz.prog 30 (S30 N) := by
 refine ap au mixed (E := E30 N) (ae (aa (o64 N) ag)) ak av Tryz.func30 (by kernel_rfl) 0 (by kernel_rfl) trivial fun args K r h => ?_
 unfold S30 Ko at h
 split at h
 ·exact (Yq (ge N) N _ _ _ _).trans h
 ·cases h
def AB (N : Nat) : Rv.Spec β := fun args K => match args with
 | [.v (.agg [.int .i64 a0, .int .i64 a1]), .v (.one (.int .i64 a2)), .v (.one (.int .i64 a3))] => aek a0 a1 a2 a3 (fun z4 => K (.v (.one (.int .i64 z4))))
 | _ => none
def aar (N : Nat) : Rv.Spec β := AB (gm N) N
def gS (v0 v1 v2 v3 v4 v5 : Int) (v6 v7 : Bool) : St := ⟨ac :: (Z' v0) :: (Z' v1) :: .v (.one (.ptr 0 0)) :: tn 3 (.v (.one (.ptr 1 0)) :: tn 3 ((Z' v2) :: (Z' v3) :: tn 22 [])), [.cells 26 [.int .i64 v4, .int .i64 v5], .cells 137 [.bool v6, .bool v7]]⟩
def ka (y0 y1 : Bool) : St := ⟨tn 7 (.v (.one (.ptr 0 0)) :: tn 27 []), [.cells 137 [.bool y0, .bool y1]]⟩
def tQ {γ : Type} (f : Int → Int → Int → Int → Int → Int → Bool → Bool → γ) (s : St) : γ := f (af (ah (vT (nx ac s.tmps 1)))) (af (ah (vT (nx ac s.tmps 2)))) (af (ah (vT (nx ac s.tmps 11)))) (af (ah (vT (nx ac s.tmps 12)))) (af (nx .und (aj (nx .dead s.blks 0)) 0)) (af (nx .und (aj (nx .dead s.blks 0)) 1)) (Fo (nx .und (aj (nx .dead s.blks 1)) 0)) (Fo (nx .und (aj (nx .dead s.blks 1)) 1))
theorem HB (s : St) : aP (gS 0 0 0 0 0 0 false false) s = tQ gS s := by kernel_rfl
def Aw (N : Nat) : ax β := fun s K => cond (aJ (gS 0 0 0 0 0 0 false false) s) (tQ (fun v0 v1 v2 v3 v4 v5 v6 v7 => afW N v0 v1 v2 v3 v4 v5 v6 v7 (fun y0 y1 => K (.exit 0) (ka y0 y1))) s) (none)
def PV (N : Nat) : ax β := Aw (jt N) N
def Kb (N : Nat) : Env β := ⟨[(65, xS zq2 N), (66, C8 zq3 N)], [], [(0, Aw afW N)], [], ⟨[], [], [], []⟩⟩
def PO (N : Nat) : Env β := Kb (zj2 N) (zj3 N) (jt N) N
theorem Ef (N : Nat) (v0 v1 v2 v3 v4 v5 : Int) (v6 v7 : Bool) (rec_ : St → O β) (K : Exit → St → O β) :
  stB lay (Kb zq2 zq3 afW N) Tryz.f105 0 (gS v0 v1 v2 v3 v4 v5 v6 v7) rec_ K = CI zq3 N v0 v1 v2 v3 v4 v5 v6 v7 (fun v0 v1 v2 v3 v4 v5 v6 v7 => rec_ (gS v0 v1 v2 v3 v4 v5 v6 v7)) (fun y0 y1 => K (.exit 0) (ka y0 y1)) := by kernel_rfl
theorem H7 (N : Nat) (K : Exit → St → O β) : ∀ (F : Nat) (v0 v1 v2 v3 v4 v5 : Int) (v6 v7 : Bool), (lp Tryz.f105 0).rounds lay (PO N) (ai Tryz.f105) F (gS v0 v1 v2 v3 v4 v5 v6 v7) K = jt N F v0 v1 v2 v3 v4 v5 v6 v7 (fun y0 y1 => K (.exit 0) (ka y0 y1)) := by
 intro F; induction F with
 | zero => intros; rfl
 | succ F ih => intros; rw [am]; refine (Ef (zj2 N) (zj3 N) (jt N) N _ _ _ _ _ _ _ _ (fun s => (lp Tryz.f105 0).rounds lay (PO N) (ai Tryz.f105) F s K) K).trans ?_; simp only [ih]; rfl
theorem QV (N : Nat) : aS (PO (β := β) N).loops (lp Tryz.f105 0).id = PV N := by kernel_rfl
theorem Rq (N : Nat) : ay lay (PO (β := β) N) (ai Tryz.f105) (lp Tryz.f105 0) := rks (QV ..) (rc1 (fun s K hb => ⟨N, by rw [← ar hb, HB s]; unfold tQ; exact H7 N K N _ _ _ _ _ _ _ _⟩) rc0)
theorem RO (N : Nat) (a0 a1 a2 a3 : Int) (K : TV → O β) : aL lay (Kb zq2 zq3 afW N) Tryz.f105 [.v (.agg [.int .i64 a0, .int .i64 a1]), (Z' a2), (Z' a3)] K = GT zq2 afW N a0 a1 a2 a3 (fun z4 => K ((Z' z4))) := by kernel_rfl
theorem WP (N : Nat) : ao (β := β) inv Tryz.prog 105 (aar N) := by
 refine ap au mixed (E := PO N) (ae (aa (o65 N) (aa (o66 N) ag))) ak av Tryz.func105 (by kernel_rfl) 1 (by kernel_rfl) ⟨trivial, Rq N⟩ fun args K r h => ?_
 unfold aar AB at h
 split at h
 ·exact (RO (zj2 N) (zj3 N) (jt N) N _ _ _ _ _).trans h
 ·cases h
def Km (N : Nat) : Rv.Spec β := fun args K => match args with
 | [.v (.agg [.int .i64 a0, .int .i64 a1]), .v (.agg [.int .i64 a2, .int .i64 a3])] => aeU a0 a1 a2 a3 (fun z4 => K (.v (.one (.bool z4))))
 | _ => none
def aay (N : Nat) : Rv.Spec β := Km (rE N) N
def SX (N : Nat) : Env β := ⟨[(105, AB aek N)], [], [], [], ⟨[], [], [], []⟩⟩
def acO (N : Nat) : Env β := SX (gm N) N
theorem R0 (N : Nat) (a0 a1 a2 a3 : Int) (K : TV → O β) : aL lay (SX aek N) Tryz.f123 [.v (.agg [.int .i64 a0, .int .i64 a1]), .v (.agg [.int .i64 a2, .int .i64 a3])] K = OR aek N a0 a1 a2 a3 (fun z4 => K (.v (.one (.bool z4)))) := by kernel_rfl
theorem adr (N : Nat) : ao (β := β) inv Tryz.prog 123 (aay N) := by
 refine ap au mixed (E := acO N) (ae (aa (WP N) ag)) ak av Tryz.func123 (by kernel_rfl) 0 (by kernel_rfl) trivial fun args K r h => ?_
 unfold aay Km at h
 split at h
 ·exact (R0 (gm N) N _ _ _ _ _).trans h
 ·cases h
end Go.Proofs.YtmhlcbibbhelkaaGreatDoor
