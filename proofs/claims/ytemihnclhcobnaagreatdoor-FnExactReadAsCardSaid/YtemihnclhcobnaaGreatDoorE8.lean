/- The functions that the claims reach answer as their texts do. -/
import Derived.Test.YtemihnclhcobnaaGreatDoorE7
namespace Go.Proofs.YtemihnclhcobnaaGreatDoor
open Go.Rv
set_option maxRecDepth 100000
set_option maxHeartbeats 2000000
set_option linter.unusedVariables false
def VS201 {β : Type} (N : Nat) (zq137 : (a0 : Tr) → (k : Bool → Option β) → Option β) : Rv.Spec β := fun args K => match args with
  | [.v (.one (.tr false a0))] => zq137 a0 (fun z1 => K (.v (.one (.bool z1))))
  | _ => none
def S201 {β : Type} (N : Nat) : Rv.Spec β := VS201 N (zj137 N)
def VE201 {β : Type} (N : Nat) : Env β := ⟨[], [], [], [], ⟨[], [], [], []⟩⟩
def E201 {β : Type} (N : Nat) : Env β := VE201 N
def zb137 {β : Type} (N : Nat) (a0 : Tr) (k : Bool → Option β) : Option β :=
(gd ((!(Tr.isNil a0)))
((gd ((!(Tr.isNil a0)))
((gd ((!(Tr.isNil a0)))
(k ((Tr.isNil ((Tr.l a0))))))))))
theorem zt137 {β : Type} (N : Nat) (a0 : Tr) (k : Bool → Option β) : zj137 N a0 k = zb137 N a0 k := by
  unfold zj137 zb137
  rfl
theorem ve201_0 {β : Type} (N : Nat)  (a0 : Tr) (K : TV → Option β) : evFn lay (VE201 N) Tryz.f201 [.v (.one (.tr false a0))] K = zb137 N a0 (fun z1 => K (.v (.one (.bool z1)))) := by kernel_rfl
theorem e201_0 {β : Type} (N : Nat)  (a0 : Tr) (K : TV → Option β) : evFn lay (E201 N) Tryz.f201 [.v (.one (.tr false a0))] K = zj137 N a0 (fun z1 => K (.v (.one (.bool z1)))) := (ve201_0 N a0 K).trans (zt137 N a0 (fun z1 => K (.v (.one (.bool z1))))).symm
theorem o201 {β : Type} (N : Nat) : SpecOK (β := β) inv Tryz.prog 201 (S201 N) := by
  refine spec_of lay_ok mixed (E := E201 N) (specs_loops specs_nil) muts_nil gs_nil Tryz.func201 (by kernel_rfl) 0 (by kernel_rfl) trivial fun args K r h => ?_
  unfold S201 VS201 at h
  split at h
  · exact (e201_0 N _ _).trans h
  · cases h
def VS212 {β : Type} (N : Nat) (zq138 : (a0 : Int) → (a1 : Int) → (k : Int → Int → Option β) → Option β) : Rv.Spec β := fun args K => match args with
  | [.v (.one (.int .i64 a0)), .v (.one (.int .i64 a1))] => zq138 a0 a1 (fun z2 z3 => K (.v (.agg [.int .i64 z2, .int .i64 z3])))
  | _ => none
def S212 {β : Type} (N : Nat) : Rv.Spec β := VS212 N (zj138 N)
def VE212 {β : Type} (N : Nat) (zq92 : (a0 : Int) → (a1 : (Int → (Bool → Option β) → Option β)) → (k : Int → Int → Option β) → Option β) (zq65 : (a0 : Int) → (c0 : ByteArray) → (k : Bool → Option β) → Option β) (zq70 : (a0 : Int) → (c0 : Int) → (c1 : Int) → (k : Bool → Option β) → Option β) (zq81 : (a0 : Int) → (c0 : List (Int × Int)) → (k : Bool → Option β) → Option β) (zq87 : (a0 : Int) → (c0 : Tr) → (k : Bool → Option β) → Option β) (zq88 : (a0 : Int) → (c0 : Tr) → (k : Bool → Option β) → Option β) (zq89 : (a0 : Int) → (c0 : Int) → (k : Bool → Option β) → Option β) : Env β := ⟨[(129, VS129 N zq92 zq65 zq70 zq81 zq87 zq88 zq89), (238, VS238 N zq89)], [], [], [], ⟨[], [], [], []⟩⟩
def E212 {β : Type} (N : Nat) : Env β := VE212 N (zj92 N) (zj65 N) (zj70 N) (zj81 N) (zj87 N) (zj88 N) (zj89 N)
def zb138 {β : Type} (N : Nat) (zq92 : (a0 : Int) → (a1 : (Int → (Bool → Option β) → Option β)) → (k : Int → Int → Option β) → Option β) (zq89 : (a0 : Int) → (c0 : Int) → (k : Bool → Option β) → Option β) (a0 : Int) (a1 : Int) (k : Int → Int → Option β) : Option β :=
zq92 a0 (fun x0 k => zq89 x0 a1 k) fun r4 r5 =>
k r4 r5
theorem zt138 {β : Type} (N : Nat) (a0 : Int) (a1 : Int) (k : Int → Int → Option β) : zj138 N a0 a1 k = zb138 N (zj92 N) (zj89 N) a0 a1 k := by
  unfold zj138 zb138
  rfl
theorem ve212_0 {β : Type} (N : Nat) (zq92 : (a0 : Int) → (a1 : (Int → (Bool → Option β) → Option β)) → (k : Int → Int → Option β) → Option β) (zq65 : (a0 : Int) → (c0 : ByteArray) → (k : Bool → Option β) → Option β) (zq70 : (a0 : Int) → (c0 : Int) → (c1 : Int) → (k : Bool → Option β) → Option β) (zq81 : (a0 : Int) → (c0 : List (Int × Int)) → (k : Bool → Option β) → Option β) (zq87 : (a0 : Int) → (c0 : Tr) → (k : Bool → Option β) → Option β) (zq88 : (a0 : Int) → (c0 : Tr) → (k : Bool → Option β) → Option β) (zq89 : (a0 : Int) → (c0 : Int) → (k : Bool → Option β) → Option β)  (a0 : Int) (a1 : Int) (K : TV → Option β) : evFn lay (VE212 N zq92 zq65 zq70 zq81 zq87 zq88 zq89) Tryz.f212 [.v (.one (.int .i64 a0)), .v (.one (.int .i64 a1))] K = zb138 N zq92 zq89 a0 a1 (fun z2 z3 => K (.v (.agg [.int .i64 z2, .int .i64 z3]))) := by kernel_rfl
theorem e212_0 {β : Type} (N : Nat)  (a0 : Int) (a1 : Int) (K : TV → Option β) : evFn lay (E212 N) Tryz.f212 [.v (.one (.int .i64 a0)), .v (.one (.int .i64 a1))] K = zj138 N a0 a1 (fun z2 z3 => K (.v (.agg [.int .i64 z2, .int .i64 z3]))) := (ve212_0 N (zj92 N) (zj65 N) (zj70 N) (zj81 N) (zj87 N) (zj88 N) (zj89 N) a0 a1 K).trans (zt138 N a0 a1 (fun z2 z3 => K (.v (.agg [.int .i64 z2, .int .i64 z3])))).symm
theorem o212 {β : Type} (N : Nat) : SpecOK (β := β) inv Tryz.prog 212 (S212 N) := by
  refine spec_of lay_ok mixed (E := E212 N) (specs_loops (specs_cons (o129 N) (specs_cons (o238 N) specs_nil))) muts_nil gs_nil Tryz.func212 (by kernel_rfl) 0 (by kernel_rfl) trivial fun args K r h => ?_
  unfold S212 VS212 at h
  split at h
  · exact (e212_0 N _ _ _).trans h
  · cases h
def VS202 {β : Type} (N : Nat) (zq139 : (a0 : Int) → (a1 : Int) → (k : Int → Int → Bool → Option β) → Option β) : Rv.Spec β := fun args K => match args with
  | [.v (.one (.int .i64 a0)), .v (.one (.int .i64 a1))] => zq139 a0 a1 (fun z2 z3 z4 => K (.tup [.agg [.int .i64 z2, .int .i64 z3], .one (.bool z4)]))
  | _ => none
def S202 {β : Type} (N : Nat) : Rv.Spec β := VS202 N (zj139 N)
def VE202 {β : Type} (N : Nat) (zq71 : (a0 : Int) → (k : Bool → Option β) → Option β) (zq138 : (a0 : Int) → (a1 : Int) → (k : Int → Int → Option β) → Option β) : Env β := ⟨[(99, VS99 N zq71), (212, VS212 N zq138)], [], [], [], ⟨[], [], [], []⟩⟩
def E202 {β : Type} (N : Nat) : Env β := VE202 N (zj71 N) (zj138 N)
def zb139 {β : Type} (N : Nat) (zq71 : (a0 : Int) → (k : Bool → Option β) → Option β) (zq138 : (a0 : Int) → (a1 : Int) → (k : Int → Int → Option β) → Option β) (a0 : Int) (a1 : Int) (k : Int → Int → Bool → Option β) : Option β :=
zq71 a0 fun r5 =>
(cond (!r5)
(k 0 0 false)
((cond ((decide (a1 < 0)))
(k 0 0 false)
((cond ((decide (a1 ≥ a0)))
(k 0 0 false)
(zq138 a0 a1 fun r6 r7 =>
k r6 r7 true))))))
theorem zt139 {β : Type} (N : Nat) (a0 : Int) (a1 : Int) (k : Int → Int → Bool → Option β) : zj139 N a0 a1 k = zb139 N (zj71 N) (zj138 N) a0 a1 k := by
  unfold zj139 zb139
  rfl
theorem ve202_0 {β : Type} (N : Nat) (zq71 : (a0 : Int) → (k : Bool → Option β) → Option β) (zq138 : (a0 : Int) → (a1 : Int) → (k : Int → Int → Option β) → Option β)  (a0 : Int) (a1 : Int) (K : TV → Option β) : evFn lay (VE202 N zq71 zq138) Tryz.f202 [.v (.one (.int .i64 a0)), .v (.one (.int .i64 a1))] K = zb139 N zq71 zq138 a0 a1 (fun z2 z3 z4 => K (.tup [.agg [.int .i64 z2, .int .i64 z3], .one (.bool z4)])) := by kernel_rfl
theorem e202_0 {β : Type} (N : Nat)  (a0 : Int) (a1 : Int) (K : TV → Option β) : evFn lay (E202 N) Tryz.f202 [.v (.one (.int .i64 a0)), .v (.one (.int .i64 a1))] K = zj139 N a0 a1 (fun z2 z3 z4 => K (.tup [.agg [.int .i64 z2, .int .i64 z3], .one (.bool z4)])) := (ve202_0 N (zj71 N) (zj138 N) a0 a1 K).trans (zt139 N a0 a1 (fun z2 z3 z4 => K (.tup [.agg [.int .i64 z2, .int .i64 z3], .one (.bool z4)]))).symm
theorem o202 {β : Type} (N : Nat) : SpecOK (β := β) inv Tryz.prog 202 (S202 N) := by
  refine spec_of lay_ok mixed (E := E202 N) (specs_loops (specs_cons (o99 N) (specs_cons (o212 N) specs_nil))) muts_nil gs_nil Tryz.func202 (by kernel_rfl) 0 (by kernel_rfl) trivial fun args K r h => ?_
  unfold S202 VS202 at h
  split at h
  · exact (e202_0 N _ _ _).trans h
  · cases h
def VS174 {β : Type} (N : Nat) (zq140 : (a0 : Int) → (a1 : Int) → (k : Int → Int → Option β) → Option β) : Rv.Spec β := fun args K => match args with
  | [.v (.agg [.int .i64 a0, .int .i64 a1])] => zq140 a0 a1 (fun z2 z3 => K (.v (.agg [.int .i64 z2, .int .i64 z3])))
  | _ => none
def S174 {β : Type} (N : Nat) : Rv.Spec β := VS174 N (zj140 N)
def VE174 {β : Type} (N : Nat) (zq66 : (a0 : Int) → (a1 : Int) → (k : Int → Option β) → Option β) : Env β := ⟨[(100, VS100 N zq66)], [], [], [], ⟨[], [], [], []⟩⟩
def E174 {β : Type} (N : Nat) : Env β := VE174 N (zj66 N)
def zb140 {β : Type} (N : Nat) (zq66 : (a0 : Int) → (a1 : Int) → (k : Int → Option β) → Option β) (a0 : Int) (a1 : Int) (k : Int → Int → Option β) : Option β :=
zq66 a0 a1 fun r4 =>
(gd ((decide (0 ≤ r4)))
(k a0 ((bits .xor .i64 a1 (w64 ((shlI .i64 1 r4) - 1))))))
theorem zt140 {β : Type} (N : Nat) (a0 : Int) (a1 : Int) (k : Int → Int → Option β) : zj140 N a0 a1 k = zb140 N (zj66 N) a0 a1 k := by
  unfold zj140 zb140
  rfl
theorem ve174_0 {β : Type} (N : Nat) (zq66 : (a0 : Int) → (a1 : Int) → (k : Int → Option β) → Option β)  (a0 : Int) (a1 : Int) (K : TV → Option β) : evFn lay (VE174 N zq66) Tryz.f174 [.v (.agg [.int .i64 a0, .int .i64 a1])] K = zb140 N zq66 a0 a1 (fun z2 z3 => K (.v (.agg [.int .i64 z2, .int .i64 z3]))) := by kernel_rfl
theorem e174_0 {β : Type} (N : Nat)  (a0 : Int) (a1 : Int) (K : TV → Option β) : evFn lay (E174 N) Tryz.f174 [.v (.agg [.int .i64 a0, .int .i64 a1])] K = zj140 N a0 a1 (fun z2 z3 => K (.v (.agg [.int .i64 z2, .int .i64 z3]))) := (ve174_0 N (zj66 N) a0 a1 K).trans (zt140 N a0 a1 (fun z2 z3 => K (.v (.agg [.int .i64 z2, .int .i64 z3])))).symm
theorem o174 {β : Type} (N : Nat) : SpecOK (β := β) inv Tryz.prog 174 (S174 N) := by
  refine spec_of lay_ok mixed (E := E174 N) (specs_loops (specs_cons (o100 N) specs_nil)) muts_nil gs_nil Tryz.func174 (by kernel_rfl) 0 (by kernel_rfl) trivial fun args K r h => ?_
  unfold S174 VS174 at h
  split at h
  · exact (e174_0 N _ _ _).trans h
  · cases h
def VSF139 {β : Type} (N : Nat) (zq142 : Nat → Tr → Int → (Int → Int → Bool → Option β) → Option β) (G : Nat) : Rv.Spec β := fun args K => match args with
  | [.v (.one (.tr false a0)), .v (.one (.int .i64 a1))] => zq142 G a0 a1 (fun z2 z3 z4 => K (.tup [.agg [.int .i64 z2, .int .i64 z3], .one (.bool z4)]))
  | _ => none
def SF139 {β : Type} (N : Nat) (G : Nat) : Rv.Spec β := VSF139 N (zj142 N) G
def VS139 {β : Type} (N : Nat) (zq142 : Nat → Tr → Int → (Int → Int → Bool → Option β) → Option β) : Rv.Spec β := VSF139 N zq142 N
def S139 {β : Type} (N : Nat) : Rv.Spec β := SF139 N N
def VE139 {β : Type} (N : Nat) (zq137 : (a0 : Tr) → (k : Bool → Option β) → Option β) (zq100 : (a0 : Int) → (k : Bool → Option β) → Option β) (zq139 : (a0 : Int) → (a1 : Int) → (k : Int → Int → Bool → Option β) → Option β) (zq92 : (a0 : Int) → (a1 : (Int → (Bool → Option β) → Option β)) → (k : Int → Int → Option β) → Option β) (zq65 : (a0 : Int) → (c0 : ByteArray) → (k : Bool → Option β) → Option β) (zq70 : (a0 : Int) → (c0 : Int) → (c1 : Int) → (k : Bool → Option β) → Option β) (zq81 : (a0 : Int) → (c0 : List (Int × Int)) → (k : Bool → Option β) → Option β) (zq87 : (a0 : Int) → (c0 : Tr) → (k : Bool → Option β) → Option β) (zq88 : (a0 : Int) → (c0 : Tr) → (k : Bool → Option β) → Option β) (zq89 : (a0 : Int) → (c0 : Int) → (k : Bool → Option β) → Option β) (zq140 : (a0 : Int) → (a1 : Int) → (k : Int → Int → Option β) → Option β) (zq142 : Nat → Tr → Int → (Int → Int → Bool → Option β) → Option β) (G : Nat) : Env β := ⟨[(201, VS201 N zq137), (187, VS187 N zq100), (202, VS202 N zq139), (129, VS129 N zq92 zq65 zq70 zq81 zq87 zq88 zq89), (203, VS203 N zq88), (174, VS174 N zq140), (139, VSF139 N zq142 G)], [], [], [], ⟨[], [], [], []⟩⟩
def E139 {β : Type} (N : Nat) (G : Nat) : Env β := VE139 N (zj137 N) (zj100 N) (zj139 N) (zj92 N) (zj65 N) (zj70 N) (zj81 N) (zj87 N) (zj88 N) (zj89 N) (zj140 N) (zj142 N) G
def zb141 {β : Type} (N : Nat) (zq137 : (a0 : Tr) → (k : Bool → Option β) → Option β) (zq100 : (a0 : Int) → (k : Bool → Option β) → Option β) (zq139 : (a0 : Int) → (a1 : Int) → (k : Int → Int → Bool → Option β) → Option β) (zq92 : (a0 : Int) → (a1 : (Int → (Bool → Option β) → Option β)) → (k : Int → Int → Option β) → Option β) (zq88 : (a0 : Int) → (c0 : Tr) → (k : Bool → Option β) → Option β) (zq140 : (a0 : Int) → (a1 : Int) → (k : Int → Int → Option β) → Option β) (self : Tr → Int → (Int → Int → Bool → Option β) → Option β) (a0 : Tr) (a1 : Int) (k : Int → Int → Bool → Option β) : Option β :=
zq137 a0 fun r5 =>
(cond r5
((gd ((!(Tr.isNil a0)))
((gd ((!(Tr.isNil a0)))
((gd ((!(Tr.isNil a0)))
(zq100 ((Tr.a a0)) fun r6 =>
(cond r6
((gd ((!(Tr.isNil a0)))
((gd ((!(Tr.isNil a0)))
((gd ((!(Tr.isNil a0)))
(zq139 a1 ((w64 ((w8 ((Tr.a a0) - 97))))) fun r7 r8 r9 =>
k r7 r8 r9)))))))
(zq92 a1 (fun x0 k => zq88 x0 a0 k) fun r10 r11 =>
k r10 r11 true)))))))))
((gd ((!(Tr.isNil a0)))
((gd ((!(Tr.isNil a0)))
((gd ((!(Tr.isNil a0)))
(self ((Tr.l a0)) a1 fun r12 r13 r14 =>
(cond (!r14)
(k 0 0 false)
((gd ((!(Tr.isNil a0)))
((gd ((!(Tr.isNil a0)))
((gd ((!(Tr.isNil a0)))
((cond (((Tr.a a0) == 33))
(zq140 r12 r13 fun r15 r16 =>
k r15 r16 true)
((gd ((!(Tr.isNil a0)))
((gd ((!(Tr.isNil a0)))
((gd ((!(Tr.isNil a0)))
(self ((Tr.r a0)) a1 fun r17 r18 r19 =>
(cond (!r19)
(k 0 0 false)
((gd ((!(Tr.isNil a0)))
((gd ((!(Tr.isNil a0)))
((gd ((!(Tr.isNil a0)))
((cond (((Tr.a a0) == 38))
(k r12 ((bits .and .i64 r13 r18)) true)
((cond (((Tr.a a0) == 124))
(k r12 ((bits .or .i64 r13 r18)) true)
(k r12 ((bits .xor .i64 r13 r18)) true))))))))))))))))))))))))))))))))))))
theorem zt141 {β : Type} (N : Nat) (self : Tr → Int → (Int → Int → Bool → Option β) → Option β) (a0 : Tr) (a1 : Int) (k : Int → Int → Bool → Option β) : zj141 N self a0 a1 k = zb141 N (zj137 N) (zj100 N) (zj139 N) (zj92 N) (zj88 N) (zj140 N) self a0 a1 k := by
  unfold zj141 zb141
  rfl
theorem ve139_0 {β : Type} (N : Nat) (zq137 : (a0 : Tr) → (k : Bool → Option β) → Option β) (zq100 : (a0 : Int) → (k : Bool → Option β) → Option β) (zq139 : (a0 : Int) → (a1 : Int) → (k : Int → Int → Bool → Option β) → Option β) (zq92 : (a0 : Int) → (a1 : (Int → (Bool → Option β) → Option β)) → (k : Int → Int → Option β) → Option β) (zq65 : (a0 : Int) → (c0 : ByteArray) → (k : Bool → Option β) → Option β) (zq70 : (a0 : Int) → (c0 : Int) → (c1 : Int) → (k : Bool → Option β) → Option β) (zq81 : (a0 : Int) → (c0 : List (Int × Int)) → (k : Bool → Option β) → Option β) (zq87 : (a0 : Int) → (c0 : Tr) → (k : Bool → Option β) → Option β) (zq88 : (a0 : Int) → (c0 : Tr) → (k : Bool → Option β) → Option β) (zq89 : (a0 : Int) → (c0 : Int) → (k : Bool → Option β) → Option β) (zq140 : (a0 : Int) → (a1 : Int) → (k : Int → Int → Option β) → Option β) (zq142 : Nat → Tr → Int → (Int → Int → Bool → Option β) → Option β) (G : Nat)  (a0 : Tr) (a1 : Int) (K : TV → Option β) : evFn lay (VE139 N zq137 zq100 zq139 zq92 zq65 zq70 zq81 zq87 zq88 zq89 zq140 zq142 G) Tryz.f139 [.v (.one (.tr false a0)), .v (.one (.int .i64 a1))] K = zb141 N zq137 zq100 zq139 zq92 zq88 zq140 (zq142 G) a0 a1 (fun z2 z3 z4 => K (.tup [.agg [.int .i64 z2, .int .i64 z3], .one (.bool z4)])) := by kernel_rfl
theorem e139_0 {β : Type} (N : Nat) (G : Nat)  (a0 : Tr) (a1 : Int) (K : TV → Option β) : evFn lay (E139 N G) Tryz.f139 [.v (.one (.tr false a0)), .v (.one (.int .i64 a1))] K = zj142 N (G + 1) a0 a1 (fun z2 z3 z4 => K (.tup [.agg [.int .i64 z2, .int .i64 z3], .one (.bool z4)])) := (ve139_0 N (zj137 N) (zj100 N) (zj139 N) (zj92 N) (zj65 N) (zj70 N) (zj81 N) (zj87 N) (zj88 N) (zj89 N) (zj140 N) (zj142 N) G a0 a1 K).trans (zt141 N (zj142 N G) a0 a1 (fun z2 z3 z4 => K (.tup [.agg [.int .i64 z2, .int .i64 z3], .one (.bool z4)]))).symm
theorem z139 {β : Type} (N : Nat) : ∀ args K r, SF139 (β := β) N 0 args K = some r → (none : Option β) = some r := by
  intro args K r h
  unfold SF139 VSF139 at h
  split at h <;> exact h
theorem of139 {β : Type} (N : Nat) : ∀ G, SpecOK (β := β) inv Tryz.prog 139 (SF139 N G) := by
  intro G
  induction G with
  | zero => exact s_zero Tryz.func139 (by kernel_rfl) (z139 N)
  | succ G ih =>
    refine spec_of lay_ok mixed (E := E139 N G) (specs_loops (specs_cons (o201 N) (specs_cons (o187 N) (specs_cons (o202 N) (specs_cons (o129 N) (specs_cons (o203 N) (specs_cons (o174 N) (specs_cons ih specs_nil)))))))) muts_nil gs_nil Tryz.func139 (by kernel_rfl) 0 (by kernel_rfl) trivial fun args K r h => ?_
    unfold SF139 VSF139 at h
    split at h
    · exact (e139_0 N G _ _ _).trans h
    · cases h
theorem o139 {β : Type} (N : Nat) : SpecOK (β := β) inv Tryz.prog 139 (S139 N) := of139 N N
def VS69 {β : Type} (N : Nat) (zq144 : (a0 : ByteArray) → (a1 : Int) → (k : Int → Int → Bool → Option β) → Option β) : Rv.Spec β := fun args K => match args with
  | [.v (.one (.str a0)), .v (.one (.int .i64 a1))] => zq144 a0 a1 (fun z2 z3 z4 => K (.tup [.agg [.int .i64 z2, .int .i64 z3], .one (.bool z4)]))
  | _ => none
def S69 {β : Type} (N : Nat) : Rv.Spec β := VS69 N (zj144 N)
def VE69 {β : Type} (N : Nat) (zq136 : (a0 : ByteArray) → (k : Tr → Bool → Option β) → Option β) (zq71 : (a0 : Int) → (k : Bool → Option β) → Option β) (zq142 : Nat → Tr → Int → (Int → Int → Bool → Option β) → Option β) : Env β := ⟨[(138, VS138 N zq136), (99, VS99 N zq71), (139, VS139 N zq142)], [], [], [], ⟨[], [], [], []⟩⟩
def E69 {β : Type} (N : Nat) : Env β := VE69 N (zj136 N) (zj71 N) (zj142 N)
def zb144 {β : Type} (N : Nat) (zq136 : (a0 : ByteArray) → (k : Tr → Bool → Option β) → Option β) (zq71 : (a0 : Int) → (k : Bool → Option β) → Option β) (zq142 : Nat → Tr → Int → (Int → Int → Bool → Option β) → Option β) (a0 : ByteArray) (a1 : Int) (k : Int → Int → Bool → Option β) : Option β :=
zq136 a0 fun r5 r6 =>
(cond (!r6)
(k 0 0 false)
(zq71 a1 fun r7 =>
(cond (!r7)
(k 0 0 false)
(zq142 N r5 a1 fun r8 r9 r10 =>
k r8 r9 r10))))
theorem zt144 {β : Type} (N : Nat) (a0 : ByteArray) (a1 : Int) (k : Int → Int → Bool → Option β) : zj144 N a0 a1 k = zb144 N (zj136 N) (zj71 N) (zj142 N) a0 a1 k := by
  unfold zj144 zb144
  rfl
theorem ve69_0 {β : Type} (N : Nat) (zq136 : (a0 : ByteArray) → (k : Tr → Bool → Option β) → Option β) (zq71 : (a0 : Int) → (k : Bool → Option β) → Option β) (zq142 : Nat → Tr → Int → (Int → Int → Bool → Option β) → Option β)  (a0 : ByteArray) (a1 : Int) (K : TV → Option β) : evFn lay (VE69 N zq136 zq71 zq142) Tryz.f69 [.v (.one (.str a0)), .v (.one (.int .i64 a1))] K = zb144 N zq136 zq71 zq142 a0 a1 (fun z2 z3 z4 => K (.tup [.agg [.int .i64 z2, .int .i64 z3], .one (.bool z4)])) := by kernel_rfl
theorem e69_0 {β : Type} (N : Nat)  (a0 : ByteArray) (a1 : Int) (K : TV → Option β) : evFn lay (E69 N) Tryz.f69 [.v (.one (.str a0)), .v (.one (.int .i64 a1))] K = zj144 N a0 a1 (fun z2 z3 z4 => K (.tup [.agg [.int .i64 z2, .int .i64 z3], .one (.bool z4)])) := (ve69_0 N (zj136 N) (zj71 N) (zj142 N) a0 a1 K).trans (zt144 N a0 a1 (fun z2 z3 z4 => K (.tup [.agg [.int .i64 z2, .int .i64 z3], .one (.bool z4)]))).symm
theorem o69 {β : Type} (N : Nat) : SpecOK (β := β) inv Tryz.prog 69 (S69 N) := by
  refine spec_of lay_ok mixed (E := E69 N) (specs_loops (specs_cons (o138 N) (specs_cons (o99 N) (specs_cons (o139 N) specs_nil)))) muts_nil gs_nil Tryz.func69 (by kernel_rfl) 0 (by kernel_rfl) trivial fun args K r h => ?_
  unfold S69 VS69 at h
  split at h
  · exact (e69_0 N _ _ _).trans h
  · cases h
def VS12 {β : Type} (N : Nat) (zq145 : (a0 : ByteArray) → (a1 : Int) → (a2 : ByteArray) → (k : Int → Int → Bool → Option β) → Option β) : Rv.Spec β := fun args K => match args with
  | [.v (.one (.str a0)), .v (.one (.int .i64 a1)), .v (.one (.str a2))] => zq145 a0 a1 a2 (fun z3 z4 z5 => K (.tup [.agg [.int .i64 z3, .int .i64 z4], .one (.bool z5)]))
  | _ => none
def S12 {β : Type} (N : Nat) : Rv.Spec β := VS12 N (zj145 N)
def VE12 {β : Type} (N : Nat) (zq99 : (a0 : ByteArray) → (k : Int → Int → Bool → Option β) → Option β) (zq116 : (a0 : Int) → (a1 : ByteArray) → (k : Int → Int → Bool → Option β) → Option β) (zq121 : (a0 : Int) → (a1 : ByteArray) → (k : List (Int × Int) → Bool → Option β) → Option β) (zq123 : (a0 : Int) → (a1 : List (Int × Int)) → (k : Int → Int → Bool → Option β) → Option β) (zq132 : (a0 : ByteArray) → (a1 : Int) → (k : Int → Int → Bool → Option β) → Option β) (zq144 : (a0 : ByteArray) → (a1 : Int) → (k : Int → Int → Bool → Option β) → Option β) : Env β := ⟨[(64, VS64 N zq99), (65, VS65 N zq116), (66, VS66 N zq121), (67, VS67 N zq123), (68, VS68 N zq132), (69, VS69 N zq144)], [], [], [], ⟨[], [], [], []⟩⟩
def E12 {β : Type} (N : Nat) : Env β := VE12 N (zj99 N) (zj116 N) (zj121 N) (zj123 N) (zj132 N) (zj144 N)
def zb145 {β : Type} (N : Nat) (zq99 : (a0 : ByteArray) → (k : Int → Int → Bool → Option β) → Option β) (zq116 : (a0 : Int) → (a1 : ByteArray) → (k : Int → Int → Bool → Option β) → Option β) (zq121 : (a0 : Int) → (a1 : ByteArray) → (k : List (Int × Int) → Bool → Option β) → Option β) (zq123 : (a0 : Int) → (a1 : List (Int × Int)) → (k : Int → Int → Bool → Option β) → Option β) (zq132 : (a0 : ByteArray) → (a1 : Int) → (k : Int → Int → Bool → Option β) → Option β) (zq144 : (a0 : ByteArray) → (a1 : Int) → (k : Int → Int → Bool → Option β) → Option β) (a0 : ByteArray) (a1 : Int) (a2 : ByteArray) (k : Int → Int → Bool → Option β) : Option β :=
(cond ((decide (a1 < 0)))
(k 0 0 false)
((cond ((decide (a1 > 4)))
(k 0 0 false)
((cond ((a0.toList == ((strOf [116, 97, 98, 108, 101])).toList))
(zq99 a2 fun r6 r7 r8 =>
(cond (!r8)
(k 0 0 false)
((cond ((r6 != a1))
(k 0 0 false)
(k r6 r7 true)))))
((cond ((a0.toList == ((strOf [97, 110, 102])).toList))
(zq116 a1 a2 fun r9 r10 r11 =>
k r9 r10 r11)
((cond ((a0.toList == ((strOf [115, 117, 109])).toList))
(zq121 a1 a2 fun r12 r13 =>
(cond (!r13)
(k 0 0 false)
(zq123 a1 r12 fun r14 r15 r16 =>
k r14 r15 r16)))
((cond ((a0.toList == ((strOf [116, 114, 101, 101])).toList))
(zq132 a2 a1 fun r17 r18 r19 =>
k r17 r18 r19)
((cond ((a0.toList == ((strOf [102, 111, 114, 109, 117, 108, 97])).toList))
(zq144 a2 a1 fun r20 r21 r22 =>
k r20 r21 r22)
(k 0 0 false))))))))))))))
theorem zt145 {β : Type} (N : Nat) (a0 : ByteArray) (a1 : Int) (a2 : ByteArray) (k : Int → Int → Bool → Option β) : zj145 N a0 a1 a2 k = zb145 N (zj99 N) (zj116 N) (zj121 N) (zj123 N) (zj132 N) (zj144 N) a0 a1 a2 k := by
  unfold zj145 zb145
  rfl
theorem ve12_0 {β : Type} (N : Nat) (zq99 : (a0 : ByteArray) → (k : Int → Int → Bool → Option β) → Option β) (zq116 : (a0 : Int) → (a1 : ByteArray) → (k : Int → Int → Bool → Option β) → Option β) (zq121 : (a0 : Int) → (a1 : ByteArray) → (k : List (Int × Int) → Bool → Option β) → Option β) (zq123 : (a0 : Int) → (a1 : List (Int × Int)) → (k : Int → Int → Bool → Option β) → Option β) (zq132 : (a0 : ByteArray) → (a1 : Int) → (k : Int → Int → Bool → Option β) → Option β) (zq144 : (a0 : ByteArray) → (a1 : Int) → (k : Int → Int → Bool → Option β) → Option β)  (a0 : ByteArray) (a1 : Int) (a2 : ByteArray) (K : TV → Option β) : evFn lay (VE12 N zq99 zq116 zq121 zq123 zq132 zq144) Tryz.f12 [.v (.one (.str a0)), .v (.one (.int .i64 a1)), .v (.one (.str a2))] K = zb145 N zq99 zq116 zq121 zq123 zq132 zq144 a0 a1 a2 (fun z3 z4 z5 => K (.tup [.agg [.int .i64 z3, .int .i64 z4], .one (.bool z5)])) := by kernel_rfl
theorem e12_0 {β : Type} (N : Nat)  (a0 : ByteArray) (a1 : Int) (a2 : ByteArray) (K : TV → Option β) : evFn lay (E12 N) Tryz.f12 [.v (.one (.str a0)), .v (.one (.int .i64 a1)), .v (.one (.str a2))] K = zj145 N a0 a1 a2 (fun z3 z4 z5 => K (.tup [.agg [.int .i64 z3, .int .i64 z4], .one (.bool z5)])) := (ve12_0 N (zj99 N) (zj116 N) (zj121 N) (zj123 N) (zj132 N) (zj144 N) a0 a1 a2 K).trans (zt145 N a0 a1 a2 (fun z3 z4 z5 => K (.tup [.agg [.int .i64 z3, .int .i64 z4], .one (.bool z5)]))).symm
theorem o12 {β : Type} (N : Nat) : SpecOK (β := β) inv Tryz.prog 12 (S12 N) := by
  refine spec_of lay_ok mixed (E := E12 N) (specs_loops (specs_cons (o64 N) (specs_cons (o65 N) (specs_cons (o66 N) (specs_cons (o67 N) (specs_cons (o68 N) (specs_cons (o69 N) specs_nil))))))) muts_nil gs_nil Tryz.func12 (by kernel_rfl) 0 (by kernel_rfl) trivial fun args K r h => ?_
  unfold S12 VS12 at h
  split at h
  · exact (e12_0 N _ _ _ _).trans h
  · cases h
def VS13 {β : Type} (N : Nat) (zq146 : (a0 : Int) → (a1 : Int) → (a2 : Int) → (a3 : Int) → (k : Bool → Option β) → Option β) : Rv.Spec β := fun args K => match args with
  | [.v (.agg [.int .i64 a0, .int .i64 a1]), .v (.agg [.int .i64 a2, .int .i64 a3])] => zq146 a0 a1 a2 a3 (fun z4 => K (.v (.one (.bool z4))))
  | _ => none
def S13 {β : Type} (N : Nat) : Rv.Spec β := VS13 N (zj146 N)
def VE13 {β : Type} (N : Nat) : Env β := ⟨[], [], [], [], ⟨[], [], [], []⟩⟩
def E13 {β : Type} (N : Nat) : Env β := VE13 N
def zb146 {β : Type} (N : Nat) (a0 : Int) (a1 : Int) (a2 : Int) (a3 : Int) (k : Bool → Option β) : Option β :=
(cond ((a0 != a2))
(k false)
((cond ((a1 != a3))
(k false)
(k true))))
theorem zt146 {β : Type} (N : Nat) (a0 : Int) (a1 : Int) (a2 : Int) (a3 : Int) (k : Bool → Option β) : zj146 N a0 a1 a2 a3 k = zb146 N a0 a1 a2 a3 k := by
  unfold zj146 zb146
  rfl
theorem ve13_0 {β : Type} (N : Nat)  (a0 : Int) (a1 : Int) (a2 : Int) (a3 : Int) (K : TV → Option β) : evFn lay (VE13 N) Tryz.f13 [.v (.agg [.int .i64 a0, .int .i64 a1]), .v (.agg [.int .i64 a2, .int .i64 a3])] K = zb146 N a0 a1 a2 a3 (fun z4 => K (.v (.one (.bool z4)))) := by kernel_rfl
theorem e13_0 {β : Type} (N : Nat)  (a0 : Int) (a1 : Int) (a2 : Int) (a3 : Int) (K : TV → Option β) : evFn lay (E13 N) Tryz.f13 [.v (.agg [.int .i64 a0, .int .i64 a1]), .v (.agg [.int .i64 a2, .int .i64 a3])] K = zj146 N a0 a1 a2 a3 (fun z4 => K (.v (.one (.bool z4)))) := (ve13_0 N a0 a1 a2 a3 K).trans (zt146 N a0 a1 a2 a3 (fun z4 => K (.v (.one (.bool z4))))).symm
theorem o13 {β : Type} (N : Nat) : SpecOK (β := β) inv Tryz.prog 13 (S13 N) := by
  refine spec_of lay_ok mixed (E := E13 N) (specs_loops specs_nil) muts_nil gs_nil Tryz.func13 (by kernel_rfl) 0 (by kernel_rfl) trivial fun args K r h => ?_
  unfold S13 VS13 at h
  split at h
  · exact (e13_0 N _ _ _ _ _).trans h
  · cases h
def VS4 {β : Type} (N : Nat) (q_laws_FnExactReadAs : (a0 : ByteArray) → (a1 : Int) → (a2 : ByteArray) → (k : Bool → Option β) → Option β) : Rv.Spec β := fun args K => match args with
  | [.v (.one (.str a0)), .v (.one (.int .i64 a1)), .v (.one (.str a2))] => q_laws_FnExactReadAs a0 a1 a2 (fun z3 => K (.v (.one (.bool z3))))
  | _ => none
def S4 {β : Type} (N : Nat) : Rv.Spec β := VS4 N (laws_FnExactReadAs N)
def VE4 {β : Type} (N : Nat) (zq64 : (a0 : ByteArray) → (a1 : Int) → (a2 : ByteArray) → (k : Int → Int → Bool → Option β) → Option β) (zq145 : (a0 : ByteArray) → (a1 : Int) → (a2 : ByteArray) → (k : Int → Int → Bool → Option β) → Option β) (zq146 : (a0 : Int) → (a1 : Int) → (a2 : Int) → (a3 : Int) → (k : Bool → Option β) → Option β) : Env β := ⟨[(11, VS11 N zq64), (12, VS12 N zq145), (13, VS13 N zq146)], [], [], [], ⟨[], [], [], []⟩⟩
def E4 {β : Type} (N : Nat) : Env β := VE4 N (zj64 N) (zj145 N) (zj146 N)
def BV_laws_FnExactReadAs {β : Type} (N : Nat) (zq64 : (a0 : ByteArray) → (a1 : Int) → (a2 : ByteArray) → (k : Int → Int → Bool → Option β) → Option β) (zq145 : (a0 : ByteArray) → (a1 : Int) → (a2 : ByteArray) → (k : Int → Int → Bool → Option β) → Option β) (zq146 : (a0 : Int) → (a1 : Int) → (a2 : Int) → (a3 : Int) → (k : Bool → Option β) → Option β) (a0 : ByteArray) (a1 : Int) (a2 : ByteArray) (k : Bool → Option β) : Option β :=
(cond ((decide ((a0.size : Int) > 1048576)))
(k true)
((cond ((decide ((a2.size : Int) > 1048576)))
(k true)
(zq64 a0 a1 a2 fun r4 r5 r6 =>
zq145 a0 a1 a2 fun r7 r8 r9 =>
zq146 r7 r8 r4 r5 fun r10 =>
(cond (!r10)
(k false)
((cond ((!(r9 == r6)))
(k false)
(k true))))))))
theorem t_laws_FnExactReadAs {β : Type} (N : Nat) (a0 : ByteArray) (a1 : Int) (a2 : ByteArray) (k : Bool → Option β) : laws_FnExactReadAs N a0 a1 a2 k = BV_laws_FnExactReadAs N (zj64 N) (zj145 N) (zj146 N) a0 a1 a2 k := by
  unfold laws_FnExactReadAs BV_laws_FnExactReadAs
  rfl
theorem ve4_0 {β : Type} (N : Nat) (zq64 : (a0 : ByteArray) → (a1 : Int) → (a2 : ByteArray) → (k : Int → Int → Bool → Option β) → Option β) (zq145 : (a0 : ByteArray) → (a1 : Int) → (a2 : ByteArray) → (k : Int → Int → Bool → Option β) → Option β) (zq146 : (a0 : Int) → (a1 : Int) → (a2 : Int) → (a3 : Int) → (k : Bool → Option β) → Option β)  (a0 : ByteArray) (a1 : Int) (a2 : ByteArray) (K : TV → Option β) : evFn lay (VE4 N zq64 zq145 zq146) Tryz.f4 [.v (.one (.str a0)), .v (.one (.int .i64 a1)), .v (.one (.str a2))] K = BV_laws_FnExactReadAs N zq64 zq145 zq146 a0 a1 a2 (fun z3 => K (.v (.one (.bool z3)))) := by kernel_rfl
theorem e4_0 {β : Type} (N : Nat)  (a0 : ByteArray) (a1 : Int) (a2 : ByteArray) (K : TV → Option β) : evFn lay (E4 N) Tryz.f4 [.v (.one (.str a0)), .v (.one (.int .i64 a1)), .v (.one (.str a2))] K = laws_FnExactReadAs N a0 a1 a2 (fun z3 => K (.v (.one (.bool z3)))) := (ve4_0 N (zj64 N) (zj145 N) (zj146 N) a0 a1 a2 K).trans (t_laws_FnExactReadAs N a0 a1 a2 (fun z3 => K (.v (.one (.bool z3))))).symm
theorem o4 {β : Type} (N : Nat) : SpecOK (β := β) inv Tryz.prog 4 (S4 N) := by
  refine spec_of lay_ok mixed (E := E4 N) (specs_loops (specs_cons (o11 N) (specs_cons (o12 N) (specs_cons (o13 N) specs_nil)))) muts_nil gs_nil Tryz.func4 (by kernel_rfl) 0 (by kernel_rfl) trivial fun args K r h => ?_
  unfold S4 VS4 at h
  split at h
  · exact (e4_0 N _ _ _ _).trans h
  · cases h
end Go.Proofs.YtemihnclhcobnaaGreatDoor
