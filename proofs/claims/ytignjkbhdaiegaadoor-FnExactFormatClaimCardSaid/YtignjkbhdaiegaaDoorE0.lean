/- The functions that the claims reach answer as their texts do. -/
import Derived.Test.YtignjkbhdaiegaaDoorT0
import Derived.Test.YtignjkbhdaiegaaDoorProg
import Derived.KernelRfl
import Derived.Test.YtignjkbhdaiegaaDoorShelf
namespace Go.Proofs.YtignjkbhdaiegaaDoor
open Go.Rv
set_option maxRecDepth 100000
set_option maxHeartbeats 2000000
set_option linter.unusedVariables false
def lay : Lay := [(2, .int .i64),
  (3, .int .i64),
  (4, .bool),
  (5, .int .u8),
  (9, .string),
  (12, .int .u64),
  (21, .int .i32),
  (22, .struct [⟨0, 1, false⟩, ⟨1, 1, false⟩] [3, 3] 16 true),
  (23, .struct [⟨0, 1, false⟩, ⟨1, 1, false⟩] [3, 3] 16 true),
  (24, .slice 3),
  (25, .struct [⟨0, 1, false⟩, ⟨1, 2, true⟩, ⟨3, 1, false⟩, ⟨4, 1, false⟩, ⟨5, 1, false⟩, ⟨6, 1, false⟩] [3, 3, 3, 3, 3, 9, 24] 80 false),
  (26, .struct [⟨0, 1, false⟩, ⟨1, 2, true⟩, ⟨3, 1, false⟩, ⟨4, 1, false⟩, ⟨5, 1, false⟩, ⟨6, 1, false⟩] [3, 3, 3, 3, 3, 9, 24] 80 false),
  (29, .struct [⟨0, 1, false⟩, ⟨1, 1, false⟩] [3, 3] 16 true),
  (30, .struct [⟨0, 1, false⟩, ⟨1, 2, true⟩, ⟨3, 1, false⟩, ⟨4, 1, false⟩, ⟨5, 1, false⟩, ⟨6, 1, false⟩] [3, 3, 3, 3, 3, 9, 24] 80 false),
  (31, .struct [⟨0, 1, false⟩, ⟨1, 2, true⟩, ⟨3, 1, false⟩, ⟨4, 1, false⟩, ⟨5, 1, false⟩, ⟨6, 1, false⟩] [3, 3, 3, 3, 3, 9, 24] 80 false),
  (43, .slice 9),
  (48, .int .u64),
  (49, .slice 5),
  (55, .pointer 82),
  (58, .pointer 85),
  (61, .pointer 87),
  (64, .pointer 66),
  (65, .struct [⟨0, 1, false⟩, ⟨1, 1, false⟩] [64, 49] 32 false),
  (66, .struct [⟨0, 1, false⟩, ⟨1, 1, false⟩] [64, 49] 32 false),
  (80, .pointer 5),
  (81, .struct [⟨0, 1, false⟩, ⟨1, 1, false⟩, ⟨2, 1, false⟩] [5, 55, 55] 24 false),
  (82, .struct [⟨0, 1, false⟩, ⟨1, 1, false⟩, ⟨2, 1, false⟩] [5, 55, 55] 24 false),
  (84, .struct [⟨0, 1, false⟩, ⟨1, 1, false⟩, ⟨2, 1, false⟩] [5, 58, 58] 24 false),
  (85, .struct [⟨0, 1, false⟩, ⟨1, 1, false⟩, ⟨2, 1, false⟩] [5, 58, 58] 24 false),
  (86, .struct [⟨0, 1, false⟩, ⟨1, 1, false⟩, ⟨2, 1, false⟩, ⟨3, 1, false⟩] [5, 3, 61, 61] 32 false),
  (87, .struct [⟨0, 1, false⟩, ⟨1, 1, false⟩, ⟨2, 1, false⟩, ⟨3, 1, false⟩] [5, 3, 61, 61] 32 false),
  (94, .int .u64),
  (101, .int .u32)]

theorem lay_ok : LayOK Tryd.prog lay := layOK_of (by decide +kernel)
theorem mixed : Tryd.prog.follows .mixedOrders = true := by kernel_rfl
def inv : World → Prop := tabInv Tryd.prog
def S28 {β : Type} (N : Nat) : Rv.Spec β := joinSpec N
theorem o28 {β : Type} (N : Nat) : SpecOK (β := β) inv Tryd.prog 28 (S28 N) := join_ok Tryd.func28 (by kernel_rfl) Tryd.strings_Join_none Tryd.strings_Join N
def S46 {β : Type} (N : Nat) : Rv.Spec β := itoaSpec N
theorem o46 {β : Type} (N : Nat) : SpecOK (β := β) inv Tryd.prog 46 (S46 N) := itoa_ok Tryd.func46 (by kernel_rfl) Tryd.strconv_Itoa N
def S55 {β : Type} (N : Nat) : Rv.Spec β := indexByteSpec N
theorem o55 {β : Type} (N : Nat) : SpecOK (β := β) inv Tryd.prog 55 (S55 N) := indexByte_ok Tryd.func55 (by kernel_rfl) Tryd.strings_IndexByte N
def VS9 {β : Type} (N : Nat) (q_laws_szIntS : (a0 : List Int) → (a1 : Int) → (k : Int → Option β) → Option β) : Rv.Spec β := fun args K => match args with
  | [.v (.one (.sl 3 (.ints .i64 a0))), .v (.one (.int .i64 a1))] => q_laws_szIntS a0 a1 (fun z2 => K (.v (.one (.int .i64 z2))))
  | _ => none
def S9 {β : Type} (N : Nat) : Rv.Spec β := VS9 N (laws_szIntS N)
def VE9 {β : Type} (N : Nat) : Env β := ⟨[], [], [], [], ⟨[], [], []⟩⟩
def E9 {β : Type} (N : Nat) : Env β := VE9 N
def BV_laws_szIntS {β : Type} (N : Nat) (a0 : List Int) (a1 : Int) (k : Int → Option β) : Option β :=
(cond ((decide ((w64 (a1 - (a0.length : Int))) < 0)))
(k (-1))
(k ((w64 (a1 - (a0.length : Int))))))
theorem t_laws_szIntS {β : Type} (N : Nat) (a0 : List Int) (a1 : Int) (k : Int → Option β) : laws_szIntS N a0 a1 k = BV_laws_szIntS N a0 a1 k := by
  unfold laws_szIntS BV_laws_szIntS
  rfl
theorem ve9_0 {β : Type} (N : Nat)  (a0 : List Int) (a1 : Int) (K : TV → Option β) : evFn lay (VE9 N) Tryd.f9 [.v (.one (.sl 3 (.ints .i64 a0))), .v (.one (.int .i64 a1))] K = BV_laws_szIntS N a0 a1 (fun z2 => K (.v (.one (.int .i64 z2)))) := by kernel_rfl
theorem e9_0 {β : Type} (N : Nat)  (a0 : List Int) (a1 : Int) (K : TV → Option β) : evFn lay (E9 N) Tryd.f9 [.v (.one (.sl 3 (.ints .i64 a0))), .v (.one (.int .i64 a1))] K = laws_szIntS N a0 a1 (fun z2 => K (.v (.one (.int .i64 z2)))) := (ve9_0 N a0 a1 K).trans (t_laws_szIntS N a0 a1 (fun z2 => K (.v (.one (.int .i64 z2))))).symm
theorem o9 {β : Type} (N : Nat) : SpecOK (β := β) inv Tryd.prog 9 (S9 N) := by
  refine spec_of lay_ok mixed (E := E9 N) (specs_loops specs_nil) muts_nil gs_nil Tryd.func9 (by kernel_rfl) 0 (by kernel_rfl) trivial fun args K r h => ?_
  unfold S9 VS9 at h
  split at h
  · exact (e9_0 N _ _ _).trans h
  · cases h
def VS4 {β : Type} (N : Nat) (q_laws_szClaim : (a0 : Int) → (a1 : Int) → (a2 : Int) → (a3 : Int) → (a4 : Int) → (a5 : ByteArray) → (a6 : List Int) → (a7 : Int) → (k : Int → Option β) → Option β) : Rv.Spec β := fun args K => match args with
  | [.v (.agg [.int .i64 a0, .int .i64 a1, .int .i64 a2, .int .i64 a3, .int .i64 a4, .str a5, .sl 3 (.ints .i64 a6)]), .v (.one (.int .i64 a7))] => q_laws_szClaim a0 a1 a2 a3 a4 a5 a6 a7 (fun z8 => K (.v (.one (.int .i64 z8))))
  | _ => none
def S4 {β : Type} (N : Nat) : Rv.Spec β := VS4 N (laws_szClaim N)
def VE4 {β : Type} (N : Nat) (q_laws_szIntS : (a0 : List Int) → (a1 : Int) → (k : Int → Option β) → Option β) : Env β := ⟨[(9, VS9 N q_laws_szIntS)], [], [], [], ⟨[], [], []⟩⟩
def E4 {β : Type} (N : Nat) : Env β := VE4 N (laws_szIntS N)
def BV_laws_szClaim {β : Type} (N : Nat) (q_laws_szIntS : (a0 : List Int) → (a1 : Int) → (k : Int → Option β) → Option β) (a0 : Int) (a1 : Int) (a2 : Int) (a3 : Int) (a4 : Int) (a5 : ByteArray) (a6 : List Int) (a7 : Int) (k : Int → Option β) : Option β :=
(cond ((decide ((w64 (a7 - (a5.size : Int))) < 0)))
(k (-1))
(q_laws_szIntS a6 ((w64 (a7 - (a5.size : Int)))) fun r9 =>
(cond ((decide (r9 < 0)))
(k (-1))
(k r9))))
theorem t_laws_szClaim {β : Type} (N : Nat) (a0 : Int) (a1 : Int) (a2 : Int) (a3 : Int) (a4 : Int) (a5 : ByteArray) (a6 : List Int) (a7 : Int) (k : Int → Option β) : laws_szClaim N a0 a1 a2 a3 a4 a5 a6 a7 k = BV_laws_szClaim N (laws_szIntS N) a0 a1 a2 a3 a4 a5 a6 a7 k := by
  unfold laws_szClaim BV_laws_szClaim
  rfl
theorem ve4_0 {β : Type} (N : Nat) (q_laws_szIntS : (a0 : List Int) → (a1 : Int) → (k : Int → Option β) → Option β)  (a0 : Int) (a1 : Int) (a2 : Int) (a3 : Int) (a4 : Int) (a5 : ByteArray) (a6 : List Int) (a7 : Int) (K : TV → Option β) : evFn lay (VE4 N q_laws_szIntS) Tryd.f4 [.v (.agg [.int .i64 a0, .int .i64 a1, .int .i64 a2, .int .i64 a3, .int .i64 a4, .str a5, .sl 3 (.ints .i64 a6)]), .v (.one (.int .i64 a7))] K = BV_laws_szClaim N q_laws_szIntS a0 a1 a2 a3 a4 a5 a6 a7 (fun z8 => K (.v (.one (.int .i64 z8)))) := by kernel_rfl
theorem e4_0 {β : Type} (N : Nat)  (a0 : Int) (a1 : Int) (a2 : Int) (a3 : Int) (a4 : Int) (a5 : ByteArray) (a6 : List Int) (a7 : Int) (K : TV → Option β) : evFn lay (E4 N) Tryd.f4 [.v (.agg [.int .i64 a0, .int .i64 a1, .int .i64 a2, .int .i64 a3, .int .i64 a4, .str a5, .sl 3 (.ints .i64 a6)]), .v (.one (.int .i64 a7))] K = laws_szClaim N a0 a1 a2 a3 a4 a5 a6 a7 (fun z8 => K (.v (.one (.int .i64 z8)))) := (ve4_0 N (laws_szIntS N) a0 a1 a2 a3 a4 a5 a6 a7 K).trans (t_laws_szClaim N a0 a1 a2 a3 a4 a5 a6 a7 (fun z8 => K (.v (.one (.int .i64 z8))))).symm
theorem o4 {β : Type} (N : Nat) : SpecOK (β := β) inv Tryd.prog 4 (S4 N) := by
  refine spec_of lay_ok mixed (E := E4 N) (specs_loops (specs_cons (o9 N) specs_nil)) muts_nil gs_nil Tryd.func4 (by kernel_rfl) 0 (by kernel_rfl) trivial fun args K r h => ?_
  unfold S4 VS4 at h
  split at h
  · exact (e4_0 N _ _ _ _ _ _ _ _ _).trans h
  · cases h
def VS18 {β : Type} (N : Nat) (q_laws_toTable : (a0 : Int) → (a1 : Int) → (k : Int → Int → Option β) → Option β) : Rv.Spec β := fun args K => match args with
  | [.v (.agg [.int .i64 a0, .int .i64 a1])] => q_laws_toTable a0 a1 (fun z2 z3 => K (.v (.agg [.int .i64 z2, .int .i64 z3])))
  | _ => none
def S18 {β : Type} (N : Nat) : Rv.Spec β := VS18 N (laws_toTable N)
def VE18 {β : Type} (N : Nat) : Env β := ⟨[], [], [], [], ⟨[], [], []⟩⟩
def E18 {β : Type} (N : Nat) : Env β := VE18 N
def BV_laws_toTable {β : Type} (N : Nat) (a0 : Int) (a1 : Int) (k : Int → Int → Option β) : Option β :=
k a0 a1
theorem t_laws_toTable {β : Type} (N : Nat) (a0 : Int) (a1 : Int) (k : Int → Int → Option β) : laws_toTable N a0 a1 k = BV_laws_toTable N a0 a1 k := by
  unfold laws_toTable BV_laws_toTable
  rfl
theorem ve18_0 {β : Type} (N : Nat)  (a0 : Int) (a1 : Int) (K : TV → Option β) : evFn lay (VE18 N) Tryd.f18 [.v (.agg [.int .i64 a0, .int .i64 a1])] K = BV_laws_toTable N a0 a1 (fun z2 z3 => K (.v (.agg [.int .i64 z2, .int .i64 z3]))) := by kernel_rfl
theorem e18_0 {β : Type} (N : Nat)  (a0 : Int) (a1 : Int) (K : TV → Option β) : evFn lay (E18 N) Tryd.f18 [.v (.agg [.int .i64 a0, .int .i64 a1])] K = laws_toTable N a0 a1 (fun z2 z3 => K (.v (.agg [.int .i64 z2, .int .i64 z3]))) := (ve18_0 N a0 a1 K).trans (t_laws_toTable N a0 a1 (fun z2 z3 => K (.v (.agg [.int .i64 z2, .int .i64 z3])))).symm
theorem o18 {β : Type} (N : Nat) : SpecOK (β := β) inv Tryd.prog 18 (S18 N) := by
  refine spec_of lay_ok mixed (E := E18 N) (specs_loops specs_nil) muts_nil gs_nil Tryd.func18 (by kernel_rfl) 0 (by kernel_rfl) trivial fun args K r h => ?_
  unfold S18 VS18 at h
  split at h
  · exact (e18_0 N _ _ _).trans h
  · cases h
def VS19 {β : Type} (N : Nat) (q_laws_toIntS : (a0 : List Int) → (k : List Int → Option β) → Option β) : Rv.Spec β := fun args K => match args with
  | [.v (.one (.sl 3 (.ints .i64 a0)))] => q_laws_toIntS a0 (fun z1 => K (.v (.one (.sl 3 (.ints .i64 z1)))))
  | _ => none
def S19 {β : Type} (N : Nat) : Rv.Spec β := VS19 N (laws_toIntS N)
def h19_0_0  (v0 : List Int) (v1 : Int) (v2 : List Int) : St := ⟨.v (.one (.sl 3 (.ints .i64 v0))) :: .v (.one .und) :: .v (.one .und) :: .v (.one (.row 0)) :: .v (.one (.int .i64 v1)) :: .v (.one .und) :: .v (.one .und) :: .v (.one .und) :: .v (.one .und) :: .v (.one .und) :: .v (.one .und) :: .v (.one .und) :: .v (.one .und) :: .v (.one .und) :: .v (.one .und) :: .v (.one .und) :: .v (.one .und) :: .v (.one .und) :: .v (.one .und) :: .v (.one .und) :: .v (.one .und) :: .v (.one .und) :: [], [.row 3 (.ints .i64 v2)]⟩
def x19_0_0_k0  (y0 : List Int) : St := ⟨.v (.one .und) :: .v (.one .und) :: .v (.one .und) :: .v (.one (.row 0)) :: .v (.one .und) :: .v (.one .und) :: .v (.one .und) :: .v (.one .und) :: .v (.one .und) :: .v (.one .und) :: .v (.one .und) :: .v (.one .und) :: .v (.one .und) :: .v (.one .und) :: .v (.one .und) :: .v (.one .und) :: .v (.one .und) :: .v (.one .und) :: .v (.one .und) :: .v (.one .und) :: .v (.one .und) :: .v (.one .und) :: [], [.row 3 (.ints .i64 y0)]⟩
theorem fl19_0_0 (s : St) : refSt (h19_0_0 [] 0 []) s = h19_0_0 (rInts (rowV (oneA (vT (nx tund s.tmps 0))))) (intS (oneA (vT (nx tund s.tmps 4)))) (rInts (rowB_ (nx .dead s.blks 0))) := by kernel_rfl
def VLS19_0 {β : Type} (N : Nat) (q_laws_toIntS_l0 : Nat → List Int → Int → List Int → (List Int → Option β) → Option β) : LSpec β := fun s K => cond (shpSt (h19_0_0 [] 0 []) s) ((fun (v0 : List Int) (v1 : Int) (v2 : List Int) => q_laws_toIntS_l0  N v0 v1 v2 (fun y0 => K (.exit 0) (x19_0_0_k0  y0))) (rInts (rowV (oneA (vT (nx tund s.tmps 0))))) (intS (oneA (vT (nx tund s.tmps 4)))) (rInts (rowB_ (nx .dead s.blks 0)))) (none)
def LS19_0 {β : Type} (N : Nat) : LSpec β := VLS19_0 N (laws_toIntS_l0 N)
def VE19 {β : Type} (N : Nat) (q_laws_toIntS_l0 : Nat → List Int → Int → List Int → (List Int → Option β) → Option β) : Env β := ⟨[], [], [(0, VLS19_0 N q_laws_toIntS_l0)], [], ⟨[], [], []⟩⟩
def E19 {β : Type} (N : Nat) : Env β := VE19 N (laws_toIntS_l0 N)
def BV_laws_toIntS_l0b {β : Type} (N : Nat)  (v0 : List Int) (v1 : Int) (v2 : List Int) (rec_ : List Int → Int → List Int → Option β) (k0 : List Int → Option β) : Option β :=
(cond ((decide (v1 < (v0.length : Int))))
((gd ((decide (0 ≤ v1)))
((gd ((decide (v1 < (v0.length : Int))))
((gd ((decide (0 ≤ v1)))
((gd ((decide (v1 < (v2.length : Int))))
(rec_ v0 ((w64 (v1 + 1))) ((wr v2 v1 (rd 0 v0 v1))))))))))))
(k0 v2))
theorem t_laws_toIntS_l0b {β : Type} (N : Nat)  (v0 : List Int) (v1 : Int) (v2 : List Int) (rec_ : List Int → Int → List Int → Option β) (k0 : List Int → Option β) : laws_toIntS_l0b N v0 v1 v2 rec_ k0 = BV_laws_toIntS_l0b N v0 v1 v2 rec_ k0 := by
  unfold laws_toIntS_l0b BV_laws_toIntS_l0b
  rfl
theorem vst19_0_0 {β : Type} (N : Nat) (q_laws_toIntS_l0 : Nat → List Int → Int → List Int → (List Int → Option β) → Option β)  (v0 : List Int) (v1 : Int) (v2 : List Int) (rec_ : St → Option β) (K : Exit → St → Option β) :
    ev lay (VE19 N q_laws_toIntS_l0) (retMask Tryd.f19) (lp Tryd.f19 0).body (lp Tryd.f19 0).ex ((lp Tryd.f19 0).lv (retMask Tryd.f19)) (h19_0_0  v0 v1 v2) (nextR (fun s' => rec_ (s'.tidy ((lp Tryd.f19 0).lv (retMask Tryd.f19)))) K) = BV_laws_toIntS_l0b N  v0 v1 v2 (fun v0 v1 v2 => rec_ (h19_0_0  v0 v1 v2)) (fun y0 => K (.exit 0) (x19_0_0_k0  y0)) := by kernel_rfl
theorem st19_0_0 {β : Type} (N : Nat)  (v0 : List Int) (v1 : Int) (v2 : List Int) (rec_ : St → Option β) (K : Exit → St → Option β) :
    ev lay (E19 N) (retMask Tryd.f19) (lp Tryd.f19 0).body (lp Tryd.f19 0).ex ((lp Tryd.f19 0).lv (retMask Tryd.f19)) (h19_0_0  v0 v1 v2) (nextR (fun s' => rec_ (s'.tidy ((lp Tryd.f19 0).lv (retMask Tryd.f19)))) K) = laws_toIntS_l0b N  v0 v1 v2 (fun v0 v1 v2 => rec_ (h19_0_0  v0 v1 v2)) (fun y0 => K (.exit 0) (x19_0_0_k0  y0)) := (vst19_0_0 N (laws_toIntS_l0 N) v0 v1 v2 rec_ K).trans (t_laws_toIntS_l0b N  v0 v1 v2 (fun v0 v1 v2 => rec_ (h19_0_0  v0 v1 v2)) (fun y0 => K (.exit 0) (x19_0_0_k0  y0))).symm
theorem ro19_0_0 {β : Type} (N : Nat)  (K : Exit → St → Option β) : ∀ (F : Nat) (v0 : List Int) (v1 : Int) (v2 : List Int), (lp Tryd.f19 0).rounds lay (E19 N) (retMask Tryd.f19) F (h19_0_0  v0 v1 v2) K = laws_toIntS_l0 N  F v0 v1 v2 (fun y0 => K (.exit 0) (x19_0_0_k0  y0)) := by
  intro F
  induction F with
  | zero => intros; rfl
  | succ F ih =>
    intros
    rw [rounds_next]
    refine (st19_0_0 N  _ _ _ (fun s => (lp Tryd.f19 0).rounds lay (E19 N) (retMask Tryd.f19) F s K) K).trans ?_
    simp only [ih]
    rfl
theorem lk19_0 {β : Type} (N : Nat) : lookL (E19 (β := β) N).loops (lp Tryd.f19 0).id = LS19_0 N := by kernel_rfl
theorem rk19_0 {β : Type} (N : Nat) : RoundsOK lay (E19 (β := β) N) (retMask Tryd.f19) (lp Tryd.f19 0) := by
  intro s K r h
  rw [lk19_0] at h
  unfold LS19_0 VLS19_0 at h
  cases hb : shpSt (h19_0_0 [] 0 []) s with
  | true =>
    rw [hb, cond_true] at h
    exact ⟨N, by rw [← shpSt_ref hb, fl19_0_0 s]; exact (ro19_0_0 N  K N (rInts (rowV (oneA (vT (nx tund s.tmps 0))))) (intS (oneA (vT (nx tund s.tmps 4)))) (rInts (rowB_ (nx .dead s.blks 0)))).trans h⟩
  | false =>
  rw [hb, cond_false] at h
  clear hb
  cases h
def BV_laws_toIntS {β : Type} (N : Nat) (q_laws_toIntS_l0 : Nat → List Int → Int → List Int → (List Int → Option β) → Option β) (a0 : List Int) (k : List Int → Option β) : Option β :=
(gd ((decide (0 ≤ (a0.length : Int))))
((gd ((decide ((a0.length : Int) ≤ (a0.length : Int))))
((gd ((decide (8 * (a0.length : Int) ≤ 281474976710656)))
(q_laws_toIntS_l0  N a0 0 ((List.replicate (Int.toNat (a0.length : Int)) (0 : Int))) (fun e2_0 =>
k e2_0)))))))
theorem t_laws_toIntS {β : Type} (N : Nat) (a0 : List Int) (k : List Int → Option β) : laws_toIntS N a0 k = BV_laws_toIntS N (laws_toIntS_l0 N) a0 k := by
  unfold laws_toIntS BV_laws_toIntS
  rfl
theorem ve19_0 {β : Type} (N : Nat) (q_laws_toIntS_l0 : Nat → List Int → Int → List Int → (List Int → Option β) → Option β)  (a0 : List Int) (K : TV → Option β) : evFn lay (VE19 N q_laws_toIntS_l0) Tryd.f19 [.v (.one (.sl 3 (.ints .i64 a0)))] K = BV_laws_toIntS N q_laws_toIntS_l0 a0 (fun z1 => K (.v (.one (.sl 3 (.ints .i64 z1))))) := by kernel_rfl
theorem e19_0 {β : Type} (N : Nat)  (a0 : List Int) (K : TV → Option β) : evFn lay (E19 N) Tryd.f19 [.v (.one (.sl 3 (.ints .i64 a0)))] K = laws_toIntS N a0 (fun z1 => K (.v (.one (.sl 3 (.ints .i64 z1))))) := (ve19_0 N (laws_toIntS_l0 N) a0 K).trans (t_laws_toIntS N a0 (fun z1 => K (.v (.one (.sl 3 (.ints .i64 z1)))))).symm
theorem o19 {β : Type} (N : Nat) : SpecOK (β := β) inv Tryd.prog 19 (S19 N) := by
  refine spec_of lay_ok mixed (E := E19 N) (specs_loops specs_nil) muts_nil gs_nil Tryd.func19 (by kernel_rfl) 1 (by kernel_rfl) ⟨trivial, rk19_0 N⟩ fun args K r h => ?_
  unfold S19 VS19 at h
  split at h
  · exact (e19_0 N _ _).trans h
  · cases h
def VS6 {β : Type} (N : Nat) (q_laws_toClaim : (a0 : Int) → (a1 : Int) → (a2 : Int) → (a3 : Int) → (a4 : Int) → (a5 : ByteArray) → (a6 : List Int) → (k : Int → Int → Int → Int → Int → ByteArray → List Int → Option β) → Option β) : Rv.Spec β := fun args K => match args with
  | [.v (.agg [.int .i64 a0, .int .i64 a1, .int .i64 a2, .int .i64 a3, .int .i64 a4, .str a5, .sl 3 (.ints .i64 a6)])] => q_laws_toClaim a0 a1 a2 a3 a4 a5 a6 (fun z7 z8 z9 z10 z11 z12 z13 => K (.v (.agg [.int .i64 z7, .int .i64 z8, .int .i64 z9, .int .i64 z10, .int .i64 z11, .str z12, .sl 3 (.ints .i64 z13)])))
  | _ => none
def S6 {β : Type} (N : Nat) : Rv.Spec β := VS6 N (laws_toClaim N)
def VE6 {β : Type} (N : Nat) (q_laws_toTable : (a0 : Int) → (a1 : Int) → (k : Int → Int → Option β) → Option β) (q_laws_toIntS : (a0 : List Int) → (k : List Int → Option β) → Option β) : Env β := ⟨[(18, VS18 N q_laws_toTable), (19, VS19 N q_laws_toIntS)], [], [], [], ⟨[], [], []⟩⟩
def E6 {β : Type} (N : Nat) : Env β := VE6 N (laws_toTable N) (laws_toIntS N)
def BV_laws_toClaim {β : Type} (N : Nat) (q_laws_toTable : (a0 : Int) → (a1 : Int) → (k : Int → Int → Option β) → Option β) (q_laws_toIntS : (a0 : List Int) → (k : List Int → Option β) → Option β) (a0 : Int) (a1 : Int) (a2 : Int) (a3 : Int) (a4 : Int) (a5 : ByteArray) (a6 : List Int) (k : Int → Int → Int → Int → Int → ByteArray → List Int → Option β) : Option β :=
q_laws_toTable a1 a2 fun r14 r15 =>
q_laws_toIntS a6 fun r16 =>
k a0 r14 r15 a3 a4 a5 r16
theorem t_laws_toClaim {β : Type} (N : Nat) (a0 : Int) (a1 : Int) (a2 : Int) (a3 : Int) (a4 : Int) (a5 : ByteArray) (a6 : List Int) (k : Int → Int → Int → Int → Int → ByteArray → List Int → Option β) : laws_toClaim N a0 a1 a2 a3 a4 a5 a6 k = BV_laws_toClaim N (laws_toTable N) (laws_toIntS N) a0 a1 a2 a3 a4 a5 a6 k := by
  unfold laws_toClaim BV_laws_toClaim
  rfl
theorem ve6_0 {β : Type} (N : Nat) (q_laws_toTable : (a0 : Int) → (a1 : Int) → (k : Int → Int → Option β) → Option β) (q_laws_toIntS : (a0 : List Int) → (k : List Int → Option β) → Option β)  (a0 : Int) (a1 : Int) (a2 : Int) (a3 : Int) (a4 : Int) (a5 : ByteArray) (a6 : List Int) (K : TV → Option β) : evFn lay (VE6 N q_laws_toTable q_laws_toIntS) Tryd.f6 [.v (.agg [.int .i64 a0, .int .i64 a1, .int .i64 a2, .int .i64 a3, .int .i64 a4, .str a5, .sl 3 (.ints .i64 a6)])] K = BV_laws_toClaim N q_laws_toTable q_laws_toIntS a0 a1 a2 a3 a4 a5 a6 (fun z7 z8 z9 z10 z11 z12 z13 => K (.v (.agg [.int .i64 z7, .int .i64 z8, .int .i64 z9, .int .i64 z10, .int .i64 z11, .str z12, .sl 3 (.ints .i64 z13)]))) := by kernel_rfl
theorem e6_0 {β : Type} (N : Nat)  (a0 : Int) (a1 : Int) (a2 : Int) (a3 : Int) (a4 : Int) (a5 : ByteArray) (a6 : List Int) (K : TV → Option β) : evFn lay (E6 N) Tryd.f6 [.v (.agg [.int .i64 a0, .int .i64 a1, .int .i64 a2, .int .i64 a3, .int .i64 a4, .str a5, .sl 3 (.ints .i64 a6)])] K = laws_toClaim N a0 a1 a2 a3 a4 a5 a6 (fun z7 z8 z9 z10 z11 z12 z13 => K (.v (.agg [.int .i64 z7, .int .i64 z8, .int .i64 z9, .int .i64 z10, .int .i64 z11, .str z12, .sl 3 (.ints .i64 z13)]))) := (ve6_0 N (laws_toTable N) (laws_toIntS N) a0 a1 a2 a3 a4 a5 a6 K).trans (t_laws_toClaim N a0 a1 a2 a3 a4 a5 a6 (fun z7 z8 z9 z10 z11 z12 z13 => K (.v (.agg [.int .i64 z7, .int .i64 z8, .int .i64 z9, .int .i64 z10, .int .i64 z11, .str z12, .sl 3 (.ints .i64 z13)])))).symm
theorem o6 {β : Type} (N : Nat) : SpecOK (β := β) inv Tryd.prog 6 (S6 N) := by
  refine spec_of lay_ok mixed (E := E6 N) (specs_loops (specs_cons (o18 N) (specs_cons (o19 N) specs_nil))) muts_nil gs_nil Tryd.func6 (by kernel_rfl) 0 (by kernel_rfl) trivial fun args K r h => ?_
  unfold S6 VS6 at h
  split at h
  · exact (e6_0 N _ _ _ _ _ _ _ _).trans h
  · cases h
def VS31 {β : Type} (N : Nat) (q_spec_l1In : (a0 : Int) → (a1 : Int) → (a2 : Int) → (k : Bool → Option β) → Option β) : Rv.Spec β := fun args K => match args with
  | [.v (.one (.int .i64 a0)), .v (.one (.int .i64 a1)), .v (.one (.int .i64 a2))] => q_spec_l1In a0 a1 a2 (fun z3 => K (.v (.one (.bool z3))))
  | _ => none
def S31 {β : Type} (N : Nat) : Rv.Spec β := VS31 N (spec_l1In N)
def VE31 {β : Type} (N : Nat) : Env β := ⟨[], [], [], [], ⟨[], [], []⟩⟩
def E31 {β : Type} (N : Nat) : Env β := VE31 N
def BV_spec_l1In {β : Type} (N : Nat) (a0 : Int) (a1 : Int) (a2 : Int) (k : Bool → Option β) : Option β :=
(cond ((decide (a0 ≥ a1)))
(k ((decide (a0 ≤ a2))))
(k false))
theorem t_spec_l1In {β : Type} (N : Nat) (a0 : Int) (a1 : Int) (a2 : Int) (k : Bool → Option β) : spec_l1In N a0 a1 a2 k = BV_spec_l1In N a0 a1 a2 k := by
  unfold spec_l1In BV_spec_l1In
  rfl
theorem ve31_0 {β : Type} (N : Nat)  (a0 : Int) (a1 : Int) (a2 : Int) (K : TV → Option β) : evFn lay (VE31 N) Tryd.f31 [.v (.one (.int .i64 a0)), .v (.one (.int .i64 a1)), .v (.one (.int .i64 a2))] K = BV_spec_l1In N a0 a1 a2 (fun z3 => K (.v (.one (.bool z3)))) := by kernel_rfl
theorem e31_0 {β : Type} (N : Nat)  (a0 : Int) (a1 : Int) (a2 : Int) (K : TV → Option β) : evFn lay (E31 N) Tryd.f31 [.v (.one (.int .i64 a0)), .v (.one (.int .i64 a1)), .v (.one (.int .i64 a2))] K = spec_l1In N a0 a1 a2 (fun z3 => K (.v (.one (.bool z3)))) := (ve31_0 N a0 a1 a2 K).trans (t_spec_l1In N a0 a1 a2 (fun z3 => K (.v (.one (.bool z3))))).symm
theorem o31 {β : Type} (N : Nat) : SpecOK (β := β) inv Tryd.prog 31 (S31 N) := by
  refine spec_of lay_ok mixed (E := E31 N) (specs_loops specs_nil) muts_nil gs_nil Tryd.func31 (by kernel_rfl) 0 (by kernel_rfl) trivial fun args K r h => ?_
  unfold S31 VS31 at h
  split at h
  · exact (e31_0 N _ _ _ _).trans h
  · cases h
def VS10 {β : Type} (N : Nat) (q_spec_ClaimWord : (a0 : Int) → (k : ByteArray → Option β) → Option β) : Rv.Spec β := fun args K => match args with
  | [.v (.one (.int .i64 a0))] => q_spec_ClaimWord a0 (fun z1 => K (.v (.one (.str z1))))
  | _ => none
def S10 {β : Type} (N : Nat) : Rv.Spec β := VS10 N (spec_ClaimWord N)
def VE10 {β : Type} (N : Nat) (q_spec_l1In : (a0 : Int) → (a1 : Int) → (a2 : Int) → (k : Bool → Option β) → Option β) : Env β := ⟨[(31, VS31 N q_spec_l1In)], [], [], [], ⟨[], [], []⟩⟩
def E10 {β : Type} (N : Nat) : Env β := VE10 N (spec_l1In N)
def BV_spec_ClaimWord {β : Type} (N : Nat) (q_spec_l1In : (a0 : Int) → (a1 : Int) → (a2 : Int) → (k : Bool → Option β) → Option β) (a0 : Int) (k : ByteArray → Option β) : Option β :=
q_spec_l1In a0 1 7 fun r2 =>
(cond (!r2)
(k ByteArray.empty)
((gd ((decide (0 ≤ (w64 (a0 - 1)))))
((gd ((decide ((w64 (a0 - 1)) < (((((((((([] : List ByteArray) ++ [(strOf [100, 101, 112, 116, 104])]) ++ [(strOf [119, 101, 105, 103, 104, 116, 115])]) ++ [(strOf [110, 111, 110, 101])]) ++ [(strOf [102, 111, 114, 109, 117, 108, 97])]) ++ [(strOf [112, 114, 111, 116, 111, 99, 111, 108])]) ++ [(strOf [111, 114, 100, 101, 114])]) ++ [(strOf [116, 101, 115, 116, 115])])).length : Int))))
(k ((rd ByteArray.empty ((((((((([] : List ByteArray) ++ [(strOf [100, 101, 112, 116, 104])]) ++ [(strOf [119, 101, 105, 103, 104, 116, 115])]) ++ [(strOf [110, 111, 110, 101])]) ++ [(strOf [102, 111, 114, 109, 117, 108, 97])]) ++ [(strOf [112, 114, 111, 116, 111, 99, 111, 108])]) ++ [(strOf [111, 114, 100, 101, 114])]) ++ [(strOf [116, 101, 115, 116, 115])])) (w64 (a0 - 1))))))))))
theorem t_spec_ClaimWord {β : Type} (N : Nat) (a0 : Int) (k : ByteArray → Option β) : spec_ClaimWord N a0 k = BV_spec_ClaimWord N (spec_l1In N) a0 k := by
  unfold spec_ClaimWord BV_spec_ClaimWord
  rfl
theorem ve10_0 {β : Type} (N : Nat) (q_spec_l1In : (a0 : Int) → (a1 : Int) → (a2 : Int) → (k : Bool → Option β) → Option β)  (a0 : Int) (K : TV → Option β) : evFn lay (VE10 N q_spec_l1In) Tryd.f10 [.v (.one (.int .i64 a0))] K = BV_spec_ClaimWord N q_spec_l1In a0 (fun z1 => K (.v (.one (.str z1)))) := by kernel_rfl
theorem e10_0 {β : Type} (N : Nat)  (a0 : Int) (K : TV → Option β) : evFn lay (E10 N) Tryd.f10 [.v (.one (.int .i64 a0))] K = spec_ClaimWord N a0 (fun z1 => K (.v (.one (.str z1)))) := (ve10_0 N (spec_l1In N) a0 K).trans (t_spec_ClaimWord N a0 (fun z1 => K (.v (.one (.str z1))))).symm
theorem o10 {β : Type} (N : Nat) : SpecOK (β := β) inv Tryd.prog 10 (S10 N) := by
  refine spec_of lay_ok mixed (E := E10 N) (specs_loops (specs_cons (o31 N) specs_nil)) muts_nil gs_nil Tryd.func10 (by kernel_rfl) 0 (by kernel_rfl) trivial fun args K r h => ?_
  unfold S10 VS10 at h
  split at h
  · exact (e10_0 N _ _).trans h
  · cases h
def VS11 {β : Type} (N : Nat) (q_spec_IsTable : (a0 : Int) → (a1 : Int) → (k : Bool → Option β) → Option β) : Rv.Spec β := fun args K => match args with
  | [.v (.agg [.int .i64 a0, .int .i64 a1])] => q_spec_IsTable a0 a1 (fun z2 => K (.v (.one (.bool z2))))
  | _ => none
def S11 {β : Type} (N : Nat) : Rv.Spec β := VS11 N (spec_IsTable N)
def VE11 {β : Type} (N : Nat) (q_spec_l1In : (a0 : Int) → (a1 : Int) → (a2 : Int) → (k : Bool → Option β) → Option β) : Env β := ⟨[(31, VS31 N q_spec_l1In)], [], [], [], ⟨[], [], []⟩⟩
def E11 {β : Type} (N : Nat) : Env β := VE11 N (spec_l1In N)
def BV_spec_IsTable {β : Type} (N : Nat) (q_spec_l1In : (a0 : Int) → (a1 : Int) → (a2 : Int) → (k : Bool → Option β) → Option β) (a0 : Int) (a1 : Int) (k : Bool → Option β) : Option β :=
q_spec_l1In a0 0 5 fun r3 =>
(cond r3
((gd ((decide (0 ≤ a0)))
((gd ((decide (0 ≤ (shlI .u64 1 a0))))
(q_spec_l1In a1 0 ((w64 ((shlI .i64 1 (shlI .u64 1 a0)) - 1))) fun r4 =>
k r4)))))
(k false))
theorem t_spec_IsTable {β : Type} (N : Nat) (a0 : Int) (a1 : Int) (k : Bool → Option β) : spec_IsTable N a0 a1 k = BV_spec_IsTable N (spec_l1In N) a0 a1 k := by
  unfold spec_IsTable BV_spec_IsTable
  rfl
theorem ve11_0 {β : Type} (N : Nat) (q_spec_l1In : (a0 : Int) → (a1 : Int) → (a2 : Int) → (k : Bool → Option β) → Option β)  (a0 : Int) (a1 : Int) (K : TV → Option β) : evFn lay (VE11 N q_spec_l1In) Tryd.f11 [.v (.agg [.int .i64 a0, .int .i64 a1])] K = BV_spec_IsTable N q_spec_l1In a0 a1 (fun z2 => K (.v (.one (.bool z2)))) := by kernel_rfl
theorem e11_0 {β : Type} (N : Nat)  (a0 : Int) (a1 : Int) (K : TV → Option β) : evFn lay (E11 N) Tryd.f11 [.v (.agg [.int .i64 a0, .int .i64 a1])] K = spec_IsTable N a0 a1 (fun z2 => K (.v (.one (.bool z2)))) := (ve11_0 N (spec_l1In N) a0 a1 K).trans (t_spec_IsTable N a0 a1 (fun z2 => K (.v (.one (.bool z2))))).symm
theorem o11 {β : Type} (N : Nat) : SpecOK (β := β) inv Tryd.prog 11 (S11 N) := by
  refine spec_of lay_ok mixed (E := E11 N) (specs_loops (specs_cons (o31 N) specs_nil)) muts_nil gs_nil Tryd.func11 (by kernel_rfl) 0 (by kernel_rfl) trivial fun args K r h => ?_
  unfold S11 VS11 at h
  split at h
  · exact (e11_0 N _ _ _).trans h
  · cases h
def VS12 {β : Type} (N : Nat) (q_spec_FormatTable : (a0 : Int) → (a1 : Int) → (k : ByteArray → Option β) → Option β) : Rv.Spec β := fun args K => match args with
  | [.v (.agg [.int .i64 a0, .int .i64 a1])] => q_spec_FormatTable a0 a1 (fun z2 => K (.v (.one (.str z2))))
  | _ => none
def S12 {β : Type} (N : Nat) : Rv.Spec β := VS12 N (spec_FormatTable N)
def h12_0_0  (v0 : ByteArray) (v1 : Int) (v2 : Int) (v3 : Int) : St := ⟨.v (.one .und) :: .v (.one (.ptr 0 0)) :: .v (.one .und) :: .v (.one (.str v0)) :: .v (.one (.int .i64 v1)) :: .v (.one .und) :: .v (.one .und) :: .v (.one .und) :: .v (.one .und) :: .v (.one .und) :: .v (.one .und) :: .v (.one .und) :: .v (.one .und) :: .v (.one .und) :: .v (.one .und) :: .v (.one .und) :: .v (.one .und) :: .v (.one .und) :: .v (.one .und) :: .v (.one .und) :: .v (.one .und) :: .v (.one .und) :: .v (.one .und) :: .v (.one .und) :: .v (.one .und) :: .v (.one .und) :: .v (.one .und) :: [], [.cells 29 [.int .i64 v2, .int .i64 v3]]⟩
def x12_0_0_k0  (y0 : ByteArray) : St := ⟨.v (.one .und) :: .v (.one .und) :: .v (.one .und) :: .v (.one (.str y0)) :: .v (.one .und) :: .v (.one .und) :: .v (.one .und) :: .v (.one .und) :: .v (.one .und) :: .v (.one .und) :: .v (.one .und) :: .v (.one .und) :: .v (.one .und) :: .v (.one .und) :: .v (.one .und) :: .v (.one .und) :: .v (.one .und) :: .v (.one .und) :: .v (.one .und) :: .v (.one .und) :: .v (.one .und) :: .v (.one .und) :: .v (.one .und) :: .v (.one .und) :: .v (.one .und) :: .v (.one .und) :: .v (.one .und) :: [], []⟩
theorem fl12_0_0 (s : St) : refSt (h12_0_0 ByteArray.empty 0 0 0) s = h12_0_0 (strS (oneA (vT (nx tund s.tmps 3)))) (intS (oneA (vT (nx tund s.tmps 4)))) (intS (nx .und (cellsB (nx .dead s.blks 0)) 0)) (intS (nx .und (cellsB (nx .dead s.blks 0)) 1)) := by kernel_rfl
def VLS12_0 {β : Type} (N : Nat) (q_spec_FormatTable_l0 : Nat → ByteArray → Int → Int → Int → (ByteArray → Option β) → Option β) : LSpec β := fun s K => cond (shpSt (h12_0_0 ByteArray.empty 0 0 0) s) ((fun (v0 : ByteArray) (v1 : Int) (v2 : Int) (v3 : Int) => q_spec_FormatTable_l0  N v0 v1 v2 v3 (fun y0 => K (.exit 0) (x12_0_0_k0  y0))) (strS (oneA (vT (nx tund s.tmps 3)))) (intS (oneA (vT (nx tund s.tmps 4)))) (intS (nx .und (cellsB (nx .dead s.blks 0)) 0)) (intS (nx .und (cellsB (nx .dead s.blks 0)) 1))) (none)
def LS12_0 {β : Type} (N : Nat) : LSpec β := VLS12_0 N (spec_FormatTable_l0 N)
def VE12 {β : Type} (N : Nat) (q_spec_IsTable : (a0 : Int) → (a1 : Int) → (k : Bool → Option β) → Option β) (q_spec_FormatTable_l0 : Nat → ByteArray → Int → Int → Int → (ByteArray → Option β) → Option β) : Env β := ⟨[(11, VS11 N q_spec_IsTable)], [], [(0, VLS12_0 N q_spec_FormatTable_l0)], [], ⟨[], [], []⟩⟩
def E12 {β : Type} (N : Nat) : Env β := VE12 N (spec_IsTable N) (spec_FormatTable_l0 N)
def BV_spec_FormatTable_l0b {β : Type} (N : Nat) (q_spec_IsTable : (a0 : Int) → (a1 : Int) → (k : Bool → Option β) → Option β)  (v0 : ByteArray) (v1 : Int) (v2 : Int) (v3 : Int) (rec_ : ByteArray → Int → Int → Int → Option β) (k0 : ByteArray → Option β) : Option β :=
q_spec_IsTable v2 v3 fun r3 =>
(cond r3
((gd ((decide (0 ≤ v2)))
((cond ((decide (v1 < (shlI .i64 1 v2))))
((gd ((decide (0 ≤ v1)))
((cond (((bits .and .i64 (shrI .i64 v3 v1) 1) == 1))
((gd ((decide (v0.size + ((strOf [49])).size ≤ 9223372036854775807)))
(rec_ ((v0 ++ (strOf [49]))) ((w64 (v1 + 1))) v2 v3)))
((gd ((decide (v0.size + ((strOf [48])).size ≤ 9223372036854775807)))
(rec_ ((v0 ++ (strOf [48]))) ((w64 (v1 + 1))) v2 v3)))))))
(k0 v0)))))
(k0 v0))
theorem t_spec_FormatTable_l0b {β : Type} (N : Nat)  (v0 : ByteArray) (v1 : Int) (v2 : Int) (v3 : Int) (rec_ : ByteArray → Int → Int → Int → Option β) (k0 : ByteArray → Option β) : spec_FormatTable_l0b N v0 v1 v2 v3 rec_ k0 = BV_spec_FormatTable_l0b N (spec_IsTable N) v0 v1 v2 v3 rec_ k0 := by
  unfold spec_FormatTable_l0b BV_spec_FormatTable_l0b
  rfl
theorem vst12_0_0 {β : Type} (N : Nat) (q_spec_IsTable : (a0 : Int) → (a1 : Int) → (k : Bool → Option β) → Option β) (q_spec_FormatTable_l0 : Nat → ByteArray → Int → Int → Int → (ByteArray → Option β) → Option β)  (v0 : ByteArray) (v1 : Int) (v2 : Int) (v3 : Int) (rec_ : St → Option β) (K : Exit → St → Option β) :
    ev lay (VE12 N q_spec_IsTable q_spec_FormatTable_l0) (retMask Tryd.f12) (lp Tryd.f12 0).body (lp Tryd.f12 0).ex ((lp Tryd.f12 0).lv (retMask Tryd.f12)) (h12_0_0  v0 v1 v2 v3) (nextR (fun s' => rec_ (s'.tidy ((lp Tryd.f12 0).lv (retMask Tryd.f12)))) K) = BV_spec_FormatTable_l0b N q_spec_IsTable  v0 v1 v2 v3 (fun v0 v1 v2 v3 => rec_ (h12_0_0  v0 v1 v2 v3)) (fun y0 => K (.exit 0) (x12_0_0_k0  y0)) := by kernel_rfl
theorem st12_0_0 {β : Type} (N : Nat)  (v0 : ByteArray) (v1 : Int) (v2 : Int) (v3 : Int) (rec_ : St → Option β) (K : Exit → St → Option β) :
    ev lay (E12 N) (retMask Tryd.f12) (lp Tryd.f12 0).body (lp Tryd.f12 0).ex ((lp Tryd.f12 0).lv (retMask Tryd.f12)) (h12_0_0  v0 v1 v2 v3) (nextR (fun s' => rec_ (s'.tidy ((lp Tryd.f12 0).lv (retMask Tryd.f12)))) K) = spec_FormatTable_l0b N  v0 v1 v2 v3 (fun v0 v1 v2 v3 => rec_ (h12_0_0  v0 v1 v2 v3)) (fun y0 => K (.exit 0) (x12_0_0_k0  y0)) := (vst12_0_0 N (spec_IsTable N) (spec_FormatTable_l0 N) v0 v1 v2 v3 rec_ K).trans (t_spec_FormatTable_l0b N  v0 v1 v2 v3 (fun v0 v1 v2 v3 => rec_ (h12_0_0  v0 v1 v2 v3)) (fun y0 => K (.exit 0) (x12_0_0_k0  y0))).symm
theorem ro12_0_0 {β : Type} (N : Nat)  (K : Exit → St → Option β) : ∀ (F : Nat) (v0 : ByteArray) (v1 : Int) (v2 : Int) (v3 : Int), (lp Tryd.f12 0).rounds lay (E12 N) (retMask Tryd.f12) F (h12_0_0  v0 v1 v2 v3) K = spec_FormatTable_l0 N  F v0 v1 v2 v3 (fun y0 => K (.exit 0) (x12_0_0_k0  y0)) := by
  intro F
  induction F with
  | zero => intros; rfl
  | succ F ih =>
    intros
    rw [rounds_next]
    refine (st12_0_0 N  _ _ _ _ (fun s => (lp Tryd.f12 0).rounds lay (E12 N) (retMask Tryd.f12) F s K) K).trans ?_
    simp only [ih]
    rfl
theorem lk12_0 {β : Type} (N : Nat) : lookL (E12 (β := β) N).loops (lp Tryd.f12 0).id = LS12_0 N := by kernel_rfl
theorem rk12_0 {β : Type} (N : Nat) : RoundsOK lay (E12 (β := β) N) (retMask Tryd.f12) (lp Tryd.f12 0) := by
  intro s K r h
  rw [lk12_0] at h
  unfold LS12_0 VLS12_0 at h
  cases hb : shpSt (h12_0_0 ByteArray.empty 0 0 0) s with
  | true =>
    rw [hb, cond_true] at h
    exact ⟨N, by rw [← shpSt_ref hb, fl12_0_0 s]; exact (ro12_0_0 N  K N (strS (oneA (vT (nx tund s.tmps 3)))) (intS (oneA (vT (nx tund s.tmps 4)))) (intS (nx .und (cellsB (nx .dead s.blks 0)) 0)) (intS (nx .und (cellsB (nx .dead s.blks 0)) 1))).trans h⟩
  | false =>
  rw [hb, cond_false] at h
  clear hb
  cases h
def BV_spec_FormatTable {β : Type} (N : Nat) (q_spec_FormatTable_l0 : Nat → ByteArray → Int → Int → Int → (ByteArray → Option β) → Option β) (a0 : Int) (a1 : Int) (k : ByteArray → Option β) : Option β :=
q_spec_FormatTable_l0  N ByteArray.empty 0 a0 a1 (fun e4_0 =>
k e4_0)
theorem t_spec_FormatTable {β : Type} (N : Nat) (a0 : Int) (a1 : Int) (k : ByteArray → Option β) : spec_FormatTable N a0 a1 k = BV_spec_FormatTable N (spec_FormatTable_l0 N) a0 a1 k := by
  unfold spec_FormatTable BV_spec_FormatTable
  rfl
theorem ve12_0 {β : Type} (N : Nat) (q_spec_IsTable : (a0 : Int) → (a1 : Int) → (k : Bool → Option β) → Option β) (q_spec_FormatTable_l0 : Nat → ByteArray → Int → Int → Int → (ByteArray → Option β) → Option β)  (a0 : Int) (a1 : Int) (K : TV → Option β) : evFn lay (VE12 N q_spec_IsTable q_spec_FormatTable_l0) Tryd.f12 [.v (.agg [.int .i64 a0, .int .i64 a1])] K = BV_spec_FormatTable N q_spec_FormatTable_l0 a0 a1 (fun z2 => K (.v (.one (.str z2)))) := by kernel_rfl
theorem e12_0 {β : Type} (N : Nat)  (a0 : Int) (a1 : Int) (K : TV → Option β) : evFn lay (E12 N) Tryd.f12 [.v (.agg [.int .i64 a0, .int .i64 a1])] K = spec_FormatTable N a0 a1 (fun z2 => K (.v (.one (.str z2)))) := (ve12_0 N (spec_IsTable N) (spec_FormatTable_l0 N) a0 a1 K).trans (t_spec_FormatTable N a0 a1 (fun z2 => K (.v (.one (.str z2))))).symm
theorem o12 {β : Type} (N : Nat) : SpecOK (β := β) inv Tryd.prog 12 (S12 N) := by
  refine spec_of lay_ok mixed (E := E12 N) (specs_loops (specs_cons (o11 N) specs_nil)) muts_nil gs_nil Tryd.func12 (by kernel_rfl) 1 (by kernel_rfl) ⟨trivial, rk12_0 N⟩ fun args K r h => ?_
  unfold S12 VS12 at h
  split at h
  · exact (e12_0 N _ _ _).trans h
  · cases h
def VS13 {β : Type} (N : Nat) (q_spec_FormatInt : (a0 : Int) → (k : ByteArray → Option β) → Option β) : Rv.Spec β := fun args K => match args with
  | [.v (.one (.int .i64 a0))] => q_spec_FormatInt a0 (fun z1 => K (.v (.one (.str z1))))
  | _ => none
def S13 {β : Type} (N : Nat) : Rv.Spec β := VS13 N (spec_FormatInt N)
def h13_0_0  (v0 : Int) (v1 : ByteArray) (v2 : Bool) : St := ⟨.v (.one (.int .i64 v0)) :: .v (.one .und) :: .v (.one .und) :: .v (.one (.str v1)) :: .v (.one (.bool v2)) :: .v (.one .und) :: .v (.one .und) :: .v (.one .und) :: .v (.one .und) :: .v (.one .und) :: .v (.one .und) :: .v (.one .und) :: .v (.one .und) :: .v (.one .und) :: .v (.one .und) :: .v (.one .und) :: .v (.one .und) :: .v (.one .und) :: .v (.one .und) :: .v (.one .und) :: .v (.one .und) :: .v (.one .und) :: .v (.one .und) :: .v (.one .und) :: .v (.one .und) :: .v (.one .und) :: .v (.one .und) :: .v (.one .und) :: .v (.one .und) :: .v (.one .und) :: .v (.one .und) :: [], []⟩
def x13_0_0_k0  (y0 : ByteArray) (y1 : Bool) : St := ⟨.v (.one .und) :: .v (.one .und) :: .v (.one .und) :: .v (.one (.str y0)) :: .v (.one (.bool y1)) :: .v (.one .und) :: .v (.one .und) :: .v (.one .und) :: .v (.one .und) :: .v (.one .und) :: .v (.one .und) :: .v (.one .und) :: .v (.one .und) :: .v (.one .und) :: .v (.one .und) :: .v (.one .und) :: .v (.one .und) :: .v (.one .und) :: .v (.one .und) :: .v (.one .und) :: .v (.one .und) :: .v (.one .und) :: .v (.one .und) :: .v (.one .und) :: .v (.one .und) :: .v (.one .und) :: .v (.one .und) :: .v (.one .und) :: .v (.one .und) :: .v (.one .und) :: .v (.one .und) :: [], []⟩
theorem fl13_0_0 (s : St) : refSt (h13_0_0 0 ByteArray.empty false) s = h13_0_0 (intS (oneA (vT (nx tund s.tmps 0)))) (strS (oneA (vT (nx tund s.tmps 3)))) (boolS (oneA (vT (nx tund s.tmps 4)))) := by kernel_rfl
def VLS13_0 {β : Type} (N : Nat) (q_spec_FormatInt_l0 : Nat → Int → ByteArray → Bool → (ByteArray → Bool → Option β) → Option β) : LSpec β := fun s K => cond (shpSt (h13_0_0 0 ByteArray.empty false) s) ((fun (v0 : Int) (v1 : ByteArray) (v2 : Bool) => q_spec_FormatInt_l0  N v0 v1 v2 (fun y0 y1 => K (.exit 0) (x13_0_0_k0  y0 y1))) (intS (oneA (vT (nx tund s.tmps 0)))) (strS (oneA (vT (nx tund s.tmps 3)))) (boolS (oneA (vT (nx tund s.tmps 4))))) (none)
def LS13_0 {β : Type} (N : Nat) : LSpec β := VLS13_0 N (spec_FormatInt_l0 N)
def VE13 {β : Type} (N : Nat) (q_spec_FormatInt_l0 : Nat → Int → ByteArray → Bool → (ByteArray → Bool → Option β) → Option β) : Env β := ⟨[], [], [(0, VLS13_0 N q_spec_FormatInt_l0)], [], ⟨[], [], []⟩⟩
def E13 {β : Type} (N : Nat) : Env β := VE13 N (spec_FormatInt_l0 N)
def BV_spec_FormatInt_l0b {β : Type} (N : Nat)  (v0 : Int) (v1 : ByteArray) (v2 : Bool) (rec_ : Int → ByteArray → Bool → Option β) (k0 : ByteArray → Bool → Option β) : Option β :=
(cond ((v0 != 0))
((cond ((decide ((remI v0 10) < 0)))
((gd ((decide (((strOf ((([] : List Int) ++ [(w8 ((w64 (48 + (w64 (0 - (remI v0 10)))))))])))).size + v1.size ≤ 9223372036854775807)))
(rec_ ((quoI .i64 v0 10)) (((strOf ((([] : List Int) ++ [(w8 ((w64 (48 + (w64 (0 - (remI v0 10)))))))]))) ++ v1)) v2)))
((gd ((decide (((strOf ((([] : List Int) ++ [(w8 ((w64 (48 + (remI v0 10)))))])))).size + v1.size ≤ 9223372036854775807)))
(rec_ ((quoI .i64 v0 10)) (((strOf ((([] : List Int) ++ [(w8 ((w64 (48 + (remI v0 10)))))]))) ++ v1)) v2)))))
(k0 v1 v2))
theorem t_spec_FormatInt_l0b {β : Type} (N : Nat)  (v0 : Int) (v1 : ByteArray) (v2 : Bool) (rec_ : Int → ByteArray → Bool → Option β) (k0 : ByteArray → Bool → Option β) : spec_FormatInt_l0b N v0 v1 v2 rec_ k0 = BV_spec_FormatInt_l0b N v0 v1 v2 rec_ k0 := by
  unfold spec_FormatInt_l0b BV_spec_FormatInt_l0b
  rfl
theorem vst13_0_0 {β : Type} (N : Nat) (q_spec_FormatInt_l0 : Nat → Int → ByteArray → Bool → (ByteArray → Bool → Option β) → Option β)  (v0 : Int) (v1 : ByteArray) (v2 : Bool) (rec_ : St → Option β) (K : Exit → St → Option β) :
    ev lay (VE13 N q_spec_FormatInt_l0) (retMask Tryd.f13) (lp Tryd.f13 0).body (lp Tryd.f13 0).ex ((lp Tryd.f13 0).lv (retMask Tryd.f13)) (h13_0_0  v0 v1 v2) (nextR (fun s' => rec_ (s'.tidy ((lp Tryd.f13 0).lv (retMask Tryd.f13)))) K) = BV_spec_FormatInt_l0b N  v0 v1 v2 (fun v0 v1 v2 => rec_ (h13_0_0  v0 v1 v2)) (fun y0 y1 => K (.exit 0) (x13_0_0_k0  y0 y1)) := by kernel_rfl
theorem st13_0_0 {β : Type} (N : Nat)  (v0 : Int) (v1 : ByteArray) (v2 : Bool) (rec_ : St → Option β) (K : Exit → St → Option β) :
    ev lay (E13 N) (retMask Tryd.f13) (lp Tryd.f13 0).body (lp Tryd.f13 0).ex ((lp Tryd.f13 0).lv (retMask Tryd.f13)) (h13_0_0  v0 v1 v2) (nextR (fun s' => rec_ (s'.tidy ((lp Tryd.f13 0).lv (retMask Tryd.f13)))) K) = spec_FormatInt_l0b N  v0 v1 v2 (fun v0 v1 v2 => rec_ (h13_0_0  v0 v1 v2)) (fun y0 y1 => K (.exit 0) (x13_0_0_k0  y0 y1)) := (vst13_0_0 N (spec_FormatInt_l0 N) v0 v1 v2 rec_ K).trans (t_spec_FormatInt_l0b N  v0 v1 v2 (fun v0 v1 v2 => rec_ (h13_0_0  v0 v1 v2)) (fun y0 y1 => K (.exit 0) (x13_0_0_k0  y0 y1))).symm
theorem ro13_0_0 {β : Type} (N : Nat)  (K : Exit → St → Option β) : ∀ (F : Nat) (v0 : Int) (v1 : ByteArray) (v2 : Bool), (lp Tryd.f13 0).rounds lay (E13 N) (retMask Tryd.f13) F (h13_0_0  v0 v1 v2) K = spec_FormatInt_l0 N  F v0 v1 v2 (fun y0 y1 => K (.exit 0) (x13_0_0_k0  y0 y1)) := by
  intro F
  induction F with
  | zero => intros; rfl
  | succ F ih =>
    intros
    rw [rounds_next]
    refine (st13_0_0 N  _ _ _ (fun s => (lp Tryd.f13 0).rounds lay (E13 N) (retMask Tryd.f13) F s K) K).trans ?_
    simp only [ih]
    rfl
theorem lk13_0 {β : Type} (N : Nat) : lookL (E13 (β := β) N).loops (lp Tryd.f13 0).id = LS13_0 N := by kernel_rfl
theorem rk13_0 {β : Type} (N : Nat) : RoundsOK lay (E13 (β := β) N) (retMask Tryd.f13) (lp Tryd.f13 0) := by
  intro s K r h
  rw [lk13_0] at h
  unfold LS13_0 VLS13_0 at h
  cases hb : shpSt (h13_0_0 0 ByteArray.empty false) s with
  | true =>
    rw [hb, cond_true] at h
    exact ⟨N, by rw [← shpSt_ref hb, fl13_0_0 s]; exact (ro13_0_0 N  K N (intS (oneA (vT (nx tund s.tmps 0)))) (strS (oneA (vT (nx tund s.tmps 3)))) (boolS (oneA (vT (nx tund s.tmps 4))))).trans h⟩
  | false =>
  rw [hb, cond_false] at h
  clear hb
  cases h
def BV_spec_FormatInt {β : Type} (N : Nat) (q_spec_FormatInt_l0 : Nat → Int → ByteArray → Bool → (ByteArray → Bool → Option β) → Option β) (a0 : Int) (k : ByteArray → Option β) : Option β :=
(cond ((a0 == 0))
(k ((strOf [48])))
(q_spec_FormatInt_l0  N a0 ByteArray.empty ((decide (a0 < 0))) (fun e2_0 e2_1 =>
(cond e2_1
((gd ((decide (((strOf [45])).size + e2_0.size ≤ 9223372036854775807)))
(k (((strOf [45]) ++ e2_0)))))
(k e2_0)))))
theorem t_spec_FormatInt {β : Type} (N : Nat) (a0 : Int) (k : ByteArray → Option β) : spec_FormatInt N a0 k = BV_spec_FormatInt N (spec_FormatInt_l0 N) a0 k := by
  unfold spec_FormatInt BV_spec_FormatInt
  rfl
theorem ve13_0 {β : Type} (N : Nat) (q_spec_FormatInt_l0 : Nat → Int → ByteArray → Bool → (ByteArray → Bool → Option β) → Option β)  (a0 : Int) (K : TV → Option β) : evFn lay (VE13 N q_spec_FormatInt_l0) Tryd.f13 [.v (.one (.int .i64 a0))] K = BV_spec_FormatInt N q_spec_FormatInt_l0 a0 (fun z1 => K (.v (.one (.str z1)))) := by kernel_rfl
theorem e13_0 {β : Type} (N : Nat)  (a0 : Int) (K : TV → Option β) : evFn lay (E13 N) Tryd.f13 [.v (.one (.int .i64 a0))] K = spec_FormatInt N a0 (fun z1 => K (.v (.one (.str z1)))) := (ve13_0 N (spec_FormatInt_l0 N) a0 K).trans (t_spec_FormatInt N a0 (fun z1 => K (.v (.one (.str z1))))).symm
theorem o13 {β : Type} (N : Nat) : SpecOK (β := β) inv Tryd.prog 13 (S13 N) := by
  refine spec_of lay_ok mixed (E := E13 N) (specs_loops specs_nil) muts_nil gs_nil Tryd.func13 (by kernel_rfl) 1 (by kernel_rfl) ⟨trivial, rk13_0 N⟩ fun args K r h => ?_
  unfold S13 VS13 at h
  split at h
  · exact (e13_0 N _ _).trans h
  · cases h
def VSF32 {β : Type} (N : Nat) (q_spec_l7End_f : Nat → ByteArray → Int → Int → (Int → Option β) → Option β) (G : Nat) : Rv.Spec β := fun args K => match args with
  | [.v (.one (.str a0)), .v (.one (.int .i64 a1)), .v (.one (.int .i64 a2))] => q_spec_l7End_f G a0 a1 a2 (fun z3 => K (.v (.one (.int .i64 z3))))
  | _ => none
def SF32 {β : Type} (N : Nat) (G : Nat) : Rv.Spec β := VSF32 N (spec_l7End_f N) G
def VS32 {β : Type} (N : Nat) (q_spec_l7End_f : Nat → ByteArray → Int → Int → (Int → Option β) → Option β) : Rv.Spec β := VSF32 N q_spec_l7End_f N
def S32 {β : Type} (N : Nat) : Rv.Spec β := SF32 N N
def VE32 {β : Type} (N : Nat) (q_spec_l1In : (a0 : Int) → (a1 : Int) → (a2 : Int) → (k : Bool → Option β) → Option β) (q_spec_l7End_f : Nat → ByteArray → Int → Int → (Int → Option β) → Option β) (G : Nat) : Env β := ⟨[(31, VS31 N q_spec_l1In), (32, VSF32 N q_spec_l7End_f G)], [], [], [], ⟨[], [], []⟩⟩
def E32 {β : Type} (N : Nat) (G : Nat) : Env β := VE32 N (spec_l1In N) (spec_l7End_f N) G
def BV_spec_l7End_b {β : Type} (N : Nat) (q_spec_l1In : (a0 : Int) → (a1 : Int) → (a2 : Int) → (k : Bool → Option β) → Option β) (self : ByteArray → Int → Int → (Int → Option β) → Option β) (a0 : ByteArray) (a1 : Int) (a2 : Int) (k : Int → Option β) : Option β :=
(cond ((decide (a1 ≥ (a0.size : Int))))
(k (-1))
((gd ((decide (0 ≤ a1)))
((gd ((decide (a1 < (a0.size : Int))))
((cond (((bt a0 a1) == 48))
(k ((w64 (a1 + 1))))
((gd ((decide (0 ≤ a1)))
((gd ((decide (a1 < (a0.size : Int))))
((cond (((bt a0 a1) == 49))
(k ((w64 (a1 + 1))))
((gd ((decide (0 ≤ a1)))
((gd ((decide (a1 < (a0.size : Int))))
(q_spec_l1In ((w64 ((w64 ((bt a0 a1))) - 97))) 0 4 fun r4 =>
(cond (!r4)
(k (-1))
((gd ((decide (0 ≤ (w64 ((w64 ((bt a0 a1))) - 97)))))
((cond (((bits .and .i64 (shrI .i64 a2 (w64 ((w64 ((bt a0 a1))) - 97))) 1) == 1))
(k (-1))
((gd ((decide (0 ≤ (w64 ((w64 ((bt a0 a1))) - 97)))))
(self a0 ((w64 (a1 + 1))) ((bits .or .i64 a2 (shlI .i64 1 (w64 ((w64 ((bt a0 a1))) - 97))))) fun r5 =>
(cond ((decide (r5 < 0)))
(k (-1))
((gd ((decide (0 ≤ (w64 ((w64 ((bt a0 a1))) - 97)))))
(self a0 r5 ((bits .or .i64 a2 (shlI .i64 1 (w64 ((w64 ((bt a0 a1))) - 97))))) fun r6 =>
k r6))))))))))))))))))))))))))))))
theorem t_spec_l7End_b {β : Type} (N : Nat) (self : ByteArray → Int → Int → (Int → Option β) → Option β) (a0 : ByteArray) (a1 : Int) (a2 : Int) (k : Int → Option β) : spec_l7End_b N self a0 a1 a2 k = BV_spec_l7End_b N (spec_l1In N) self a0 a1 a2 k := by
  unfold spec_l7End_b BV_spec_l7End_b
  rfl
theorem ve32_0 {β : Type} (N : Nat) (q_spec_l1In : (a0 : Int) → (a1 : Int) → (a2 : Int) → (k : Bool → Option β) → Option β) (q_spec_l7End_f : Nat → ByteArray → Int → Int → (Int → Option β) → Option β) (G : Nat)  (a0 : ByteArray) (a1 : Int) (a2 : Int) (K : TV → Option β) : evFn lay (VE32 N q_spec_l1In q_spec_l7End_f G) Tryd.f32 [.v (.one (.str a0)), .v (.one (.int .i64 a1)), .v (.one (.int .i64 a2))] K = BV_spec_l7End_b N q_spec_l1In (q_spec_l7End_f G) a0 a1 a2 (fun z3 => K (.v (.one (.int .i64 z3)))) := by kernel_rfl
theorem e32_0 {β : Type} (N : Nat) (G : Nat)  (a0 : ByteArray) (a1 : Int) (a2 : Int) (K : TV → Option β) : evFn lay (E32 N G) Tryd.f32 [.v (.one (.str a0)), .v (.one (.int .i64 a1)), .v (.one (.int .i64 a2))] K = spec_l7End_f N (G + 1) a0 a1 a2 (fun z3 => K (.v (.one (.int .i64 z3)))) := (ve32_0 N (spec_l1In N) (spec_l7End_f N) G a0 a1 a2 K).trans (t_spec_l7End_b N (spec_l7End_f N G) a0 a1 a2 (fun z3 => K (.v (.one (.int .i64 z3))))).symm
theorem z32 {β : Type} (N : Nat) : ∀ args K r, SF32 (β := β) N 0 args K = some r → (none : Option β) = some r := by
  intro args K r h
  unfold SF32 VSF32 at h
  split at h <;> exact h
theorem of32 {β : Type} (N : Nat) : ∀ G, SpecOK (β := β) inv Tryd.prog 32 (SF32 N G) := by
  intro G
  induction G with
  | zero => exact s_zero Tryd.func32 (by kernel_rfl) (z32 N)
  | succ G ih =>
    refine spec_of lay_ok mixed (E := E32 N G) (specs_loops (specs_cons (o31 N) (specs_cons ih specs_nil))) muts_nil gs_nil Tryd.func32 (by kernel_rfl) 0 (by kernel_rfl) trivial fun args K r h => ?_
    unfold SF32 VSF32 at h
    split at h
    · exact (e32_0 N G _ _ _ _).trans h
    · cases h
theorem o32 {β : Type} (N : Nat) : SpecOK (β := β) inv Tryd.prog 32 (S32 N) := of32 N N
def VS14 {β : Type} (N : Nat) (q_spec_IsTree : (a0 : ByteArray) → (k : Bool → Option β) → Option β) : Rv.Spec β := fun args K => match args with
  | [.v (.one (.str a0))] => q_spec_IsTree a0 (fun z1 => K (.v (.one (.bool z1))))
  | _ => none
def S14 {β : Type} (N : Nat) : Rv.Spec β := VS14 N (spec_IsTree N)
def VE14 {β : Type} (N : Nat) (q_spec_l7End_f : Nat → ByteArray → Int → Int → (Int → Option β) → Option β) : Env β := ⟨[(32, VS32 N q_spec_l7End_f)], [], [], [], ⟨[], [], []⟩⟩
def E14 {β : Type} (N : Nat) : Env β := VE14 N (spec_l7End_f N)
def BV_spec_IsTree {β : Type} (N : Nat) (q_spec_l7End_f : Nat → ByteArray → Int → Int → (Int → Option β) → Option β) (a0 : ByteArray) (k : Bool → Option β) : Option β :=
(cond ((decide ((a0.size : Int) ≤ 63)))
((cond ((decide ((a0.size : Int) > 0)))
(q_spec_l7End_f N a0 0 0 fun r2 =>
k ((r2 == (a0.size : Int))))
(k false)))
(k false))
theorem t_spec_IsTree {β : Type} (N : Nat) (a0 : ByteArray) (k : Bool → Option β) : spec_IsTree N a0 k = BV_spec_IsTree N (spec_l7End_f N) a0 k := by
  unfold spec_IsTree BV_spec_IsTree
  rfl
theorem ve14_0 {β : Type} (N : Nat) (q_spec_l7End_f : Nat → ByteArray → Int → Int → (Int → Option β) → Option β)  (a0 : ByteArray) (K : TV → Option β) : evFn lay (VE14 N q_spec_l7End_f) Tryd.f14 [.v (.one (.str a0))] K = BV_spec_IsTree N q_spec_l7End_f a0 (fun z1 => K (.v (.one (.bool z1)))) := by kernel_rfl
theorem e14_0 {β : Type} (N : Nat)  (a0 : ByteArray) (K : TV → Option β) : evFn lay (E14 N) Tryd.f14 [.v (.one (.str a0))] K = spec_IsTree N a0 (fun z1 => K (.v (.one (.bool z1)))) := (ve14_0 N (spec_l7End_f N) a0 K).trans (t_spec_IsTree N a0 (fun z1 => K (.v (.one (.bool z1))))).symm
theorem o14 {β : Type} (N : Nat) : SpecOK (β := β) inv Tryd.prog 14 (S14 N) := by
  refine spec_of lay_ok mixed (E := E14 N) (specs_loops (specs_cons (o32 N) specs_nil)) muts_nil gs_nil Tryd.func14 (by kernel_rfl) 0 (by kernel_rfl) trivial fun args K r h => ?_
  unfold S14 VS14 at h
  split at h
  · exact (e14_0 N _ _).trans h
  · cases h
def VSF33 {β : Type} (N : Nat) (q_spec_l5End_f : Nat → ByteArray → Int → (Int → Option β) → Option β) (G : Nat) : Rv.Spec β := fun args K => match args with
  | [.v (.one (.str a0)), .v (.one (.int .i64 a1))] => q_spec_l5End_f G a0 a1 (fun z2 => K (.v (.one (.int .i64 z2))))
  | _ => none
def SF33 {β : Type} (N : Nat) (G : Nat) : Rv.Spec β := VSF33 N (spec_l5End_f N) G
def VS33 {β : Type} (N : Nat) (q_spec_l5End_f : Nat → ByteArray → Int → (Int → Option β) → Option β) : Rv.Spec β := VSF33 N q_spec_l5End_f N
def S33 {β : Type} (N : Nat) : Rv.Spec β := SF33 N N
def VE33 {β : Type} (N : Nat) (q_spec_l5End_f : Nat → ByteArray → Int → (Int → Option β) → Option β) (G : Nat) : Env β := ⟨[(33, VSF33 N q_spec_l5End_f G)], [], [], [], ⟨[], [], []⟩⟩
def E33 {β : Type} (N : Nat) (G : Nat) : Env β := VE33 N (spec_l5End_f N) G
def BV_spec_l5End_b {β : Type} (N : Nat) (self : ByteArray → Int → (Int → Option β) → Option β) (a0 : ByteArray) (a1 : Int) (k : Int → Option β) : Option β :=
(cond ((decide (a1 ≥ (a0.size : Int))))
(k (-1))
((gd ((decide (0 ≤ a1)))
((gd ((decide (a1 < (a0.size : Int))))
((cond (((bt a0 a1) == 97))
((cond (((bt a0 a1) == 97))
(k ((w64 (a1 + 1))))
((cond (((bt a0 a1) == 33))
(self a0 ((w64 (a1 + 1))) fun r3 =>
k r3)
((cond (((bt a0 a1) == 38))
((cond (((bt a0 a1) == 38))
(self a0 ((w64 (a1 + 1))) fun r4 =>
(cond ((decide (r4 < 0)))
(k (-1))
(self a0 r4 fun r5 =>
k r5)))
(k (-1))))
((cond (((bt a0 a1) == 124))
((cond (((bt a0 a1) == 124))
(self a0 ((w64 (a1 + 1))) fun r6 =>
(cond ((decide (r6 < 0)))
(k (-1))
(self a0 r6 fun r7 =>
k r7)))
(k (-1))))
((cond (((bt a0 a1) == 94))
(self a0 ((w64 (a1 + 1))) fun r8 =>
(cond ((decide (r8 < 0)))
(k (-1))
(self a0 r8 fun r9 =>
k r9)))
(k (-1))))))))))))
((cond (((bt a0 a1) == 98))
((cond (((bt a0 a1) == 98))
(k ((w64 (a1 + 1))))
((cond (((bt a0 a1) == 33))
(self a0 ((w64 (a1 + 1))) fun r10 =>
k r10)
((cond (((bt a0 a1) == 38))
((cond (((bt a0 a1) == 38))
(self a0 ((w64 (a1 + 1))) fun r11 =>
(cond ((decide (r11 < 0)))
(k (-1))
(self a0 r11 fun r12 =>
k r12)))
(k (-1))))
((cond (((bt a0 a1) == 124))
((cond (((bt a0 a1) == 124))
(self a0 ((w64 (a1 + 1))) fun r13 =>
(cond ((decide (r13 < 0)))
(k (-1))
(self a0 r13 fun r14 =>
k r14)))
(k (-1))))
((cond (((bt a0 a1) == 94))
(self a0 ((w64 (a1 + 1))) fun r15 =>
(cond ((decide (r15 < 0)))
(k (-1))
(self a0 r15 fun r16 =>
k r16)))
(k (-1))))))))))))
((cond (((bt a0 a1) == 99))
((cond (((bt a0 a1) == 99))
(k ((w64 (a1 + 1))))
((cond (((bt a0 a1) == 33))
(self a0 ((w64 (a1 + 1))) fun r17 =>
k r17)
((cond (((bt a0 a1) == 38))
((cond (((bt a0 a1) == 38))
(self a0 ((w64 (a1 + 1))) fun r18 =>
(cond ((decide (r18 < 0)))
(k (-1))
(self a0 r18 fun r19 =>
k r19)))
(k (-1))))
((cond (((bt a0 a1) == 124))
((cond (((bt a0 a1) == 124))
(self a0 ((w64 (a1 + 1))) fun r20 =>
(cond ((decide (r20 < 0)))
(k (-1))
(self a0 r20 fun r21 =>
k r21)))
(k (-1))))
((cond (((bt a0 a1) == 94))
(self a0 ((w64 (a1 + 1))) fun r22 =>
(cond ((decide (r22 < 0)))
(k (-1))
(self a0 r22 fun r23 =>
k r23)))
(k (-1))))))))))))
((cond (((bt a0 a1) == 100))
((cond (((bt a0 a1) == 100))
(k ((w64 (a1 + 1))))
((cond (((bt a0 a1) == 33))
(self a0 ((w64 (a1 + 1))) fun r24 =>
k r24)
((cond (((bt a0 a1) == 38))
((cond (((bt a0 a1) == 38))
(self a0 ((w64 (a1 + 1))) fun r25 =>
(cond ((decide (r25 < 0)))
(k (-1))
(self a0 r25 fun r26 =>
k r26)))
(k (-1))))
((cond (((bt a0 a1) == 124))
((cond (((bt a0 a1) == 124))
(self a0 ((w64 (a1 + 1))) fun r27 =>
(cond ((decide (r27 < 0)))
(k (-1))
(self a0 r27 fun r28 =>
k r28)))
(k (-1))))
((cond (((bt a0 a1) == 94))
(self a0 ((w64 (a1 + 1))) fun r29 =>
(cond ((decide (r29 < 0)))
(k (-1))
(self a0 r29 fun r30 =>
k r30)))
(k (-1))))))))))))
((cond (((bt a0 a1) == 101))
((cond (((bt a0 a1) == 101))
(k ((w64 (a1 + 1))))
((cond (((bt a0 a1) == 33))
(self a0 ((w64 (a1 + 1))) fun r31 =>
k r31)
((cond (((bt a0 a1) == 38))
((cond (((bt a0 a1) == 38))
(self a0 ((w64 (a1 + 1))) fun r32 =>
(cond ((decide (r32 < 0)))
(k (-1))
(self a0 r32 fun r33 =>
k r33)))
(k (-1))))
((cond (((bt a0 a1) == 124))
((cond (((bt a0 a1) == 124))
(self a0 ((w64 (a1 + 1))) fun r34 =>
(cond ((decide (r34 < 0)))
(k (-1))
(self a0 r34 fun r35 =>
k r35)))
(k (-1))))
((cond (((bt a0 a1) == 94))
(self a0 ((w64 (a1 + 1))) fun r36 =>
(cond ((decide (r36 < 0)))
(k (-1))
(self a0 r36 fun r37 =>
k r37)))
(k (-1))))))))))))
((cond (((bt a0 a1) == 48))
((cond (((bt a0 a1) == 48))
(k ((w64 (a1 + 1))))
((cond (((bt a0 a1) == 33))
(self a0 ((w64 (a1 + 1))) fun r38 =>
k r38)
((cond (((bt a0 a1) == 38))
((cond (((bt a0 a1) == 38))
(self a0 ((w64 (a1 + 1))) fun r39 =>
(cond ((decide (r39 < 0)))
(k (-1))
(self a0 r39 fun r40 =>
k r40)))
(k (-1))))
((cond (((bt a0 a1) == 124))
((cond (((bt a0 a1) == 124))
(self a0 ((w64 (a1 + 1))) fun r41 =>
(cond ((decide (r41 < 0)))
(k (-1))
(self a0 r41 fun r42 =>
k r42)))
(k (-1))))
((cond (((bt a0 a1) == 94))
(self a0 ((w64 (a1 + 1))) fun r43 =>
(cond ((decide (r43 < 0)))
(k (-1))
(self a0 r43 fun r44 =>
k r44)))
(k (-1))))))))))))
((cond (((bt a0 a1) == 49))
(k ((w64 (a1 + 1))))
((cond (((bt a0 a1) == 33))
(self a0 ((w64 (a1 + 1))) fun r45 =>
k r45)
((cond (((bt a0 a1) == 38))
((cond (((bt a0 a1) == 38))
(self a0 ((w64 (a1 + 1))) fun r46 =>
(cond ((decide (r46 < 0)))
(k (-1))
(self a0 r46 fun r47 =>
k r47)))
(k (-1))))
((cond (((bt a0 a1) == 124))
((cond (((bt a0 a1) == 124))
(self a0 ((w64 (a1 + 1))) fun r48 =>
(cond ((decide (r48 < 0)))
(k (-1))
(self a0 r48 fun r49 =>
k r49)))
(k (-1))))
((cond (((bt a0 a1) == 94))
(self a0 ((w64 (a1 + 1))) fun r50 =>
(cond ((decide (r50 < 0)))
(k (-1))
(self a0 r50 fun r51 =>
k r51)))
(k (-1)))))))))))))))))))))))))))))
theorem t_spec_l5End_b {β : Type} (N : Nat) (self : ByteArray → Int → (Int → Option β) → Option β) (a0 : ByteArray) (a1 : Int) (k : Int → Option β) : spec_l5End_b N self a0 a1 k = BV_spec_l5End_b N self a0 a1 k := by
  unfold spec_l5End_b BV_spec_l5End_b
  rfl
theorem ve33_0 {β : Type} (N : Nat) (q_spec_l5End_f : Nat → ByteArray → Int → (Int → Option β) → Option β) (G : Nat)  (a0 : ByteArray) (a1 : Int) (K : TV → Option β) : evFn lay (VE33 N q_spec_l5End_f G) Tryd.f33 [.v (.one (.str a0)), .v (.one (.int .i64 a1))] K = BV_spec_l5End_b N (q_spec_l5End_f G) a0 a1 (fun z2 => K (.v (.one (.int .i64 z2)))) := by kernel_rfl
theorem e33_0 {β : Type} (N : Nat) (G : Nat)  (a0 : ByteArray) (a1 : Int) (K : TV → Option β) : evFn lay (E33 N G) Tryd.f33 [.v (.one (.str a0)), .v (.one (.int .i64 a1))] K = spec_l5End_f N (G + 1) a0 a1 (fun z2 => K (.v (.one (.int .i64 z2)))) := (ve33_0 N (spec_l5End_f N) G a0 a1 K).trans (t_spec_l5End_b N (spec_l5End_f N G) a0 a1 (fun z2 => K (.v (.one (.int .i64 z2))))).symm
theorem z33 {β : Type} (N : Nat) : ∀ args K r, SF33 (β := β) N 0 args K = some r → (none : Option β) = some r := by
  intro args K r h
  unfold SF33 VSF33 at h
  split at h <;> exact h
theorem of33 {β : Type} (N : Nat) : ∀ G, SpecOK (β := β) inv Tryd.prog 33 (SF33 N G) := by
  intro G
  induction G with
  | zero => exact s_zero Tryd.func33 (by kernel_rfl) (z33 N)
  | succ G ih =>
    refine spec_of lay_ok mixed (E := E33 N G) (specs_loops (specs_cons ih specs_nil)) muts_nil gs_nil Tryd.func33 (by kernel_rfl) 0 (by kernel_rfl) trivial fun args K r h => ?_
    unfold SF33 VSF33 at h
    split at h
    · exact (e33_0 N G _ _ _).trans h
    · cases h
theorem o33 {β : Type} (N : Nat) : SpecOK (β := β) inv Tryd.prog 33 (S33 N) := of33 N N
def VS15 {β : Type} (N : Nat) (q_spec_IsFormula : (a0 : ByteArray) → (k : Bool → Option β) → Option β) : Rv.Spec β := fun args K => match args with
  | [.v (.one (.str a0))] => q_spec_IsFormula a0 (fun z1 => K (.v (.one (.bool z1))))
  | _ => none
def S15 {β : Type} (N : Nat) : Rv.Spec β := VS15 N (spec_IsFormula N)
def VE15 {β : Type} (N : Nat) (q_spec_l5End_f : Nat → ByteArray → Int → (Int → Option β) → Option β) : Env β := ⟨[(33, VS33 N q_spec_l5End_f)], [], [], [], ⟨[], [], []⟩⟩
def E15 {β : Type} (N : Nat) : Env β := VE15 N (spec_l5End_f N)
def BV_spec_IsFormula {β : Type} (N : Nat) (q_spec_l5End_f : Nat → ByteArray → Int → (Int → Option β) → Option β) (a0 : ByteArray) (k : Bool → Option β) : Option β :=
(cond ((decide ((a0.size : Int) ≤ 60)))
((cond ((decide ((a0.size : Int) > 0)))
(q_spec_l5End_f N a0 0 fun r2 =>
k ((r2 == (a0.size : Int))))
(k false)))
(k false))
theorem t_spec_IsFormula {β : Type} (N : Nat) (a0 : ByteArray) (k : Bool → Option β) : spec_IsFormula N a0 k = BV_spec_IsFormula N (spec_l5End_f N) a0 k := by
  unfold spec_IsFormula BV_spec_IsFormula
  rfl
theorem ve15_0 {β : Type} (N : Nat) (q_spec_l5End_f : Nat → ByteArray → Int → (Int → Option β) → Option β)  (a0 : ByteArray) (K : TV → Option β) : evFn lay (VE15 N q_spec_l5End_f) Tryd.f15 [.v (.one (.str a0))] K = BV_spec_IsFormula N q_spec_l5End_f a0 (fun z1 => K (.v (.one (.bool z1)))) := by kernel_rfl
theorem e15_0 {β : Type} (N : Nat)  (a0 : ByteArray) (K : TV → Option β) : evFn lay (E15 N) Tryd.f15 [.v (.one (.str a0))] K = spec_IsFormula N a0 (fun z1 => K (.v (.one (.bool z1)))) := (ve15_0 N (spec_l5End_f N) a0 K).trans (t_spec_IsFormula N a0 (fun z1 => K (.v (.one (.bool z1))))).symm
theorem o15 {β : Type} (N : Nat) : SpecOK (β := β) inv Tryd.prog 15 (S15 N) := by
  refine spec_of lay_ok mixed (E := E15 N) (specs_loops (specs_cons (o33 N) specs_nil)) muts_nil gs_nil Tryd.func15 (by kernel_rfl) 0 (by kernel_rfl) trivial fun args K r h => ?_
  unfold S15 VS15 at h
  split at h
  · exact (e15_0 N _ _).trans h
  · cases h
def VS45 {β : Type} (N : Nat) (q_spec_l21Digit : (a0 : Int) → (k : Int → Option β) → Option β) : Rv.Spec β := fun args K => match args with
  | [.v (.one (.int .u8 a0))] => q_spec_l21Digit a0 (fun z1 => K (.v (.one (.int .i64 z1))))
  | _ => none
def S45 {β : Type} (N : Nat) : Rv.Spec β := VS45 N (spec_l21Digit N)
def VE45 {β : Type} (N : Nat) : Env β := ⟨[], [], [], [], ⟨[], [], []⟩⟩
def E45 {β : Type} (N : Nat) : Env β := VE45 N
def BV_spec_l21Digit {β : Type} (N : Nat) (a0 : Int) (k : Int → Option β) : Option β :=
(cond ((decide (a0 ≥ 48)))
((cond ((decide (a0 ≤ 57)))
(k ((w64 ((w8 (a0 - 48))))))
((cond ((decide (a0 ≥ 97)))
((cond ((decide (a0 ≤ 102)))
(k ((w64 ((w64 ((w8 (a0 - 97)))) + 10))))
(k (-1))))
(k (-1))))))
((cond ((decide (a0 ≥ 97)))
((cond ((decide (a0 ≤ 102)))
(k ((w64 ((w64 ((w8 (a0 - 97)))) + 10))))
(k (-1))))
(k (-1)))))
theorem t_spec_l21Digit {β : Type} (N : Nat) (a0 : Int) (k : Int → Option β) : spec_l21Digit N a0 k = BV_spec_l21Digit N a0 k := by
  unfold spec_l21Digit BV_spec_l21Digit
  rfl
theorem ve45_0 {β : Type} (N : Nat)  (a0 : Int) (K : TV → Option β) : evFn lay (VE45 N) Tryd.f45 [.v (.one (.int .u8 a0))] K = BV_spec_l21Digit N a0 (fun z1 => K (.v (.one (.int .i64 z1)))) := by kernel_rfl
theorem e45_0 {β : Type} (N : Nat)  (a0 : Int) (K : TV → Option β) : evFn lay (E45 N) Tryd.f45 [.v (.one (.int .u8 a0))] K = spec_l21Digit N a0 (fun z1 => K (.v (.one (.int .i64 z1)))) := (ve45_0 N a0 K).trans (t_spec_l21Digit N a0 (fun z1 => K (.v (.one (.int .i64 z1))))).symm
theorem o45 {β : Type} (N : Nat) : SpecOK (β := β) inv Tryd.prog 45 (S45 N) := by
  refine spec_of lay_ok mixed (E := E45 N) (specs_loops specs_nil) muts_nil gs_nil Tryd.func45 (by kernel_rfl) 0 (by kernel_rfl) trivial fun args K r h => ?_
  unfold S45 VS45 at h
  split at h
  · exact (e45_0 N _ _).trans h
  · cases h
def VSF34 {β : Type} (N : Nat) (q_spec_l21End_f : Nat → ByteArray → Int → (Int → Option β) → Option β) (G : Nat) : Rv.Spec β := fun args K => match args with
  | [.v (.one (.str a0)), .v (.one (.int .i64 a1))] => q_spec_l21End_f G a0 a1 (fun z2 => K (.v (.one (.int .i64 z2))))
  | _ => none
def SF34 {β : Type} (N : Nat) (G : Nat) : Rv.Spec β := VSF34 N (spec_l21End_f N) G
def VS34 {β : Type} (N : Nat) (q_spec_l21End_f : Nat → ByteArray → Int → (Int → Option β) → Option β) : Rv.Spec β := VSF34 N q_spec_l21End_f N
def S34 {β : Type} (N : Nat) : Rv.Spec β := SF34 N N
def VE34 {β : Type} (N : Nat) (q_spec_l21Digit : (a0 : Int) → (k : Int → Option β) → Option β) (q_spec_l21End_f : Nat → ByteArray → Int → (Int → Option β) → Option β) (G : Nat) : Env β := ⟨[(45, VS45 N q_spec_l21Digit), (34, VSF34 N q_spec_l21End_f G)], [], [], [], ⟨[], [], []⟩⟩
def E34 {β : Type} (N : Nat) (G : Nat) : Env β := VE34 N (spec_l21Digit N) (spec_l21End_f N) G
def BV_spec_l21End_b {β : Type} (N : Nat) (q_spec_l21Digit : (a0 : Int) → (k : Int → Option β) → Option β) (self : ByteArray → Int → (Int → Option β) → Option β) (a0 : ByteArray) (a1 : Int) (k : Int → Option β) : Option β :=
(cond ((decide (a1 ≥ (a0.size : Int))))
(k (-1))
((gd ((decide (0 ≤ a1)))
((gd ((decide (a1 < (a0.size : Int))))
((cond (((bt a0 a1) == 48))
(k ((w64 (a1 + 1))))
((gd ((decide (0 ≤ a1)))
((gd ((decide (a1 < (a0.size : Int))))
((cond (((bt a0 a1) == 49))
(k ((w64 (a1 + 1))))
((gd ((decide (0 ≤ a1)))
((gd ((decide (a1 < (a0.size : Int))))
((cond (((bt a0 a1) != 65))
((gd ((decide (0 ≤ a1)))
((gd ((decide (a1 < (a0.size : Int))))
((cond (((bt a0 a1) != 66))
(k (-1))
((cond ((decide ((w64 (a1 + 1)) ≥ (a0.size : Int))))
(k (-1))
((gd ((decide (0 ≤ (w64 (a1 + 1)))))
((gd ((decide ((w64 (a1 + 1)) < (a0.size : Int))))
(q_spec_l21Digit ((bt a0 (w64 (a1 + 1)))) fun r3 =>
(cond ((decide (r3 < 0)))
(k (-1))
(self a0 ((w64 (a1 + 2))) fun r4 =>
(cond ((decide (r4 < 0)))
(k (-1))
(self a0 r4 fun r5 =>
k r5)))))))))))))))))
((cond ((decide ((w64 (a1 + 1)) ≥ (a0.size : Int))))
(k (-1))
((gd ((decide (0 ≤ (w64 (a1 + 1)))))
((gd ((decide ((w64 (a1 + 1)) < (a0.size : Int))))
(q_spec_l21Digit ((bt a0 (w64 (a1 + 1)))) fun r6 =>
(cond ((decide (r6 < 0)))
(k (-1))
(self a0 ((w64 (a1 + 2))) fun r7 =>
(cond ((decide (r7 < 0)))
(k (-1))
(self a0 r7 fun r8 =>
k r8))))))))))))))))))))))))))))))
theorem t_spec_l21End_b {β : Type} (N : Nat) (self : ByteArray → Int → (Int → Option β) → Option β) (a0 : ByteArray) (a1 : Int) (k : Int → Option β) : spec_l21End_b N self a0 a1 k = BV_spec_l21End_b N (spec_l21Digit N) self a0 a1 k := by
  unfold spec_l21End_b BV_spec_l21End_b
  rfl
theorem ve34_0 {β : Type} (N : Nat) (q_spec_l21Digit : (a0 : Int) → (k : Int → Option β) → Option β) (q_spec_l21End_f : Nat → ByteArray → Int → (Int → Option β) → Option β) (G : Nat)  (a0 : ByteArray) (a1 : Int) (K : TV → Option β) : evFn lay (VE34 N q_spec_l21Digit q_spec_l21End_f G) Tryd.f34 [.v (.one (.str a0)), .v (.one (.int .i64 a1))] K = BV_spec_l21End_b N q_spec_l21Digit (q_spec_l21End_f G) a0 a1 (fun z2 => K (.v (.one (.int .i64 z2)))) := by kernel_rfl
theorem e34_0 {β : Type} (N : Nat) (G : Nat)  (a0 : ByteArray) (a1 : Int) (K : TV → Option β) : evFn lay (E34 N G) Tryd.f34 [.v (.one (.str a0)), .v (.one (.int .i64 a1))] K = spec_l21End_f N (G + 1) a0 a1 (fun z2 => K (.v (.one (.int .i64 z2)))) := (ve34_0 N (spec_l21Digit N) (spec_l21End_f N) G a0 a1 K).trans (t_spec_l21End_b N (spec_l21End_f N G) a0 a1 (fun z2 => K (.v (.one (.int .i64 z2))))).symm
theorem z34 {β : Type} (N : Nat) : ∀ args K r, SF34 (β := β) N 0 args K = some r → (none : Option β) = some r := by
  intro args K r h
  unfold SF34 VSF34 at h
  split at h <;> exact h
theorem of34 {β : Type} (N : Nat) : ∀ G, SpecOK (β := β) inv Tryd.prog 34 (SF34 N G) := by
  intro G
  induction G with
  | zero => exact s_zero Tryd.func34 (by kernel_rfl) (z34 N)
  | succ G ih =>
    refine spec_of lay_ok mixed (E := E34 N G) (specs_loops (specs_cons (o45 N) (specs_cons ih specs_nil))) muts_nil gs_nil Tryd.func34 (by kernel_rfl) 0 (by kernel_rfl) trivial fun args K r h => ?_
    unfold SF34 VSF34 at h
    split at h
    · exact (e34_0 N G _ _ _).trans h
    · cases h
theorem o34 {β : Type} (N : Nat) : SpecOK (β := β) inv Tryd.prog 34 (S34 N) := of34 N N
def VS16 {β : Type} (N : Nat) (q_spec_IsProtocol : (a0 : ByteArray) → (k : Bool → Option β) → Option β) : Rv.Spec β := fun args K => match args with
  | [.v (.one (.str a0))] => q_spec_IsProtocol a0 (fun z1 => K (.v (.one (.bool z1))))
  | _ => none
def S16 {β : Type} (N : Nat) : Rv.Spec β := VS16 N (spec_IsProtocol N)
def VE16 {β : Type} (N : Nat) (q_spec_l21End_f : Nat → ByteArray → Int → (Int → Option β) → Option β) : Env β := ⟨[(34, VS34 N q_spec_l21End_f)], [], [], [], ⟨[], [], []⟩⟩
def E16 {β : Type} (N : Nat) : Env β := VE16 N (spec_l21End_f N)
def BV_spec_IsProtocol {β : Type} (N : Nat) (q_spec_l21End_f : Nat → ByteArray → Int → (Int → Option β) → Option β) (a0 : ByteArray) (k : Bool → Option β) : Option β :=
(cond ((decide ((a0.size : Int) ≤ 100)))
((cond ((decide ((a0.size : Int) > 0)))
(q_spec_l21End_f N a0 0 fun r2 =>
k ((r2 == (a0.size : Int))))
(k false)))
(k false))
theorem t_spec_IsProtocol {β : Type} (N : Nat) (a0 : ByteArray) (k : Bool → Option β) : spec_IsProtocol N a0 k = BV_spec_IsProtocol N (spec_l21End_f N) a0 k := by
  unfold spec_IsProtocol BV_spec_IsProtocol
  rfl
theorem ve16_0 {β : Type} (N : Nat) (q_spec_l21End_f : Nat → ByteArray → Int → (Int → Option β) → Option β)  (a0 : ByteArray) (K : TV → Option β) : evFn lay (VE16 N q_spec_l21End_f) Tryd.f16 [.v (.one (.str a0))] K = BV_spec_IsProtocol N q_spec_l21End_f a0 (fun z1 => K (.v (.one (.bool z1)))) := by kernel_rfl
theorem e16_0 {β : Type} (N : Nat)  (a0 : ByteArray) (K : TV → Option β) : evFn lay (E16 N) Tryd.f16 [.v (.one (.str a0))] K = spec_IsProtocol N a0 (fun z1 => K (.v (.one (.bool z1)))) := (ve16_0 N (spec_l21End_f N) a0 K).trans (t_spec_IsProtocol N a0 (fun z1 => K (.v (.one (.bool z1))))).symm
theorem o16 {β : Type} (N : Nat) : SpecOK (β := β) inv Tryd.prog 16 (S16 N) := by
  refine spec_of lay_ok mixed (E := E16 N) (specs_loops (specs_cons (o34 N) specs_nil)) muts_nil gs_nil Tryd.func16 (by kernel_rfl) 0 (by kernel_rfl) trivial fun args K r h => ?_
  unfold S16 VS16 at h
  split at h
  · exact (e16_0 N _ _).trans h
  · cases h
end Go.Proofs.YtignjkbhdaiegaaDoor
