/- The functions that the claims reach answer as their texts do. -/
import Derived.Test.YtfdggelojmofmaaDoorE4
namespace Go.Proofs.YtfdggelojmofmaaDoor
open Go.Rv
set_option maxRecDepth 100000
set_option maxHeartbeats 2000000
set_option linter.unusedVariables false
def VS100 {β : Type} (N : Nat) (zq81 : (a0 : Int) → (a1 : Int) → (a2 : Int) → (a3 : Int) → (k : List Int → Bool → Option β) → Option β) : Rv.Spec β := fun args K => match args with
  | [.v (.agg [.int .i64 a0, .int .i64 a1]), .v (.one (.int .i64 a2)), .v (.one (.int .i64 a3))] => zq81 a0 a1 a2 a3 (fun z4 z5 => K (.tup [.one (.fsl 3 (.ints .i64 z4)), .one (.bool z5)]))
  | _ => none
def S100 {β : Type} (N : Nat) : Rv.Spec β := VS100 N (zj81 N)
def VE100 {β : Type} (N : Nat) (zq62 : (a0 : Int) → (a1 : Int) → (a2 : Int) → (k : Bool → Option β) → Option β) (zq67 : (a0 : Int) → (k : Bool → Option β) → Option β) (zq79 : Nat → Int → Int → Int → Int → Int → List Int → List Int → (Int → Int → Int → Int → List Int → List Int → Option β) → Option β) : Env β := ⟨[(98, VS98 N zq62), (156, VS156 N zq67)], [], [], [(157, VS157 N zq79)], ⟨[], [26, 6], [153]⟩⟩
def E100 {β : Type} (N : Nat) : Env β := VE100 N (zj62 N) (zj67 N) (zj79 N)
def zb81 {β : Type} (N : Nat) (zq62 : (a0 : Int) → (a1 : Int) → (a2 : Int) → (k : Bool → Option β) → Option β) (zq67 : (a0 : Int) → (k : Bool → Option β) → Option β) (zq79 : Nat → Int → Int → Int → Int → Int → List Int → List Int → (Int → Int → Int → Int → List Int → List Int → Option β) → Option β) (a0 : Int) (a1 : Int) (a2 : Int) (a3 : Int) (k : List Int → Bool → Option β) : Option β :=
zq62 a0 a1 a2 fun r6 =>
(cond (!r6)
(k (([] : List Int)) false)
((cond ((decide (a0 > 4)))
(k (([] : List Int)) false)
(zq67 a3 fun r7 =>
(cond (!r7)
(k (([] : List Int)) false)
(zq79 N 0 a0 a1 a2 a3 (([] : List Int)) (([] : List Int)) (fun r8_0 r8_1 r8_2 r8_3 r8_4 r8_5 =>
k r8_4 true)))))))
theorem zt81 {β : Type} (N : Nat) (a0 : Int) (a1 : Int) (a2 : Int) (a3 : Int) (k : List Int → Bool → Option β) : zj81 N a0 a1 a2 a3 k = zb81 N (zj62 N) (zj67 N) (zj79 N) a0 a1 a2 a3 k := by
  unfold zj81 zb81
  rfl
theorem ve100_0 {β : Type} (N : Nat) (zq62 : (a0 : Int) → (a1 : Int) → (a2 : Int) → (k : Bool → Option β) → Option β) (zq67 : (a0 : Int) → (k : Bool → Option β) → Option β) (zq79 : Nat → Int → Int → Int → Int → Int → List Int → List Int → (Int → Int → Int → Int → List Int → List Int → Option β) → Option β)  (a0 : Int) (a1 : Int) (a2 : Int) (a3 : Int) (K : TV → Option β) : evFn lay (VE100 N zq62 zq67 zq79) Tryd.f100 [.v (.agg [.int .i64 a0, .int .i64 a1]), .v (.one (.int .i64 a2)), .v (.one (.int .i64 a3))] (frzK K) = zb81 N zq62 zq67 zq79 a0 a1 a2 a3 (fun z4 z5 => K (.tup [.one (.fsl 3 (.ints .i64 z4)), .one (.bool z5)])) := by kernel_rfl
theorem e100_0 {β : Type} (N : Nat)  (a0 : Int) (a1 : Int) (a2 : Int) (a3 : Int) (K : TV → Option β) : evFn lay (E100 N) Tryd.f100 [.v (.agg [.int .i64 a0, .int .i64 a1]), .v (.one (.int .i64 a2)), .v (.one (.int .i64 a3))] (frzK K) = zj81 N a0 a1 a2 a3 (fun z4 z5 => K (.tup [.one (.fsl 3 (.ints .i64 z4)), .one (.bool z5)])) := (ve100_0 N (zj62 N) (zj67 N) (zj79 N) a0 a1 a2 a3 K).trans (zt81 N a0 a1 a2 a3 (fun z4 z5 => K (.tup [.one (.fsl 3 (.ints .i64 z4)), .one (.bool z5)]))).symm
theorem o100 {β : Type} (N : Nat) : SpecOK (β := β) inv Tryd.prog 100 (S100 N) := by
  refine spec_of_frz lay_ok mixed (E := E100 N) (specs_loops (specs_cons (o98 N) (specs_cons (o156 N) specs_nil))) muts_nil (gs_cons (o157 N) gs_nil) Tryd.func100 (by kernel_rfl) 0 (by kernel_rfl) trivial fun args K r h => ?_
  unfold S100 VS100 at h
  split at h
  · exact (e100_0 N _ _ _ _ _).trans h
  · cases h
def VS64 {β : Type} (N : Nat) (zq82 : (a0 : Int) → (k : ByteArray → Option β) → Option β) : Rv.Spec β := fun args K => match args with
  | [.v (.one (.int .i64 a0))] => zq82 a0 (fun z1 => K (.v (.one (.str z1))))
  | _ => none
def S64 {β : Type} (N : Nat) : Rv.Spec β := VS64 N (zj82 N)
def VE64 {β : Type} (N : Nat) : Env β := ⟨[(130, S130 N)], [], [], [], ⟨[], [], [153]⟩⟩
def E64 {β : Type} (N : Nat) : Env β := VE64 N
def zb82 {β : Type} (N : Nat) (a0 : Int) (k : ByteArray → Option β) : Option β :=
strconv_Itoa N a0 fun r2 =>
k r2
theorem zt82 {β : Type} (N : Nat) (a0 : Int) (k : ByteArray → Option β) : zj82 N a0 k = zb82 N a0 k := by
  unfold zj82 zb82
  rfl
theorem ve64_0 {β : Type} (N : Nat)  (a0 : Int) (K : TV → Option β) : evFn lay (VE64 N) Tryd.f64 [.v (.one (.int .i64 a0))] K = zb82 N a0 (fun z1 => K (.v (.one (.str z1)))) := by kernel_rfl
theorem e64_0 {β : Type} (N : Nat)  (a0 : Int) (K : TV → Option β) : evFn lay (E64 N) Tryd.f64 [.v (.one (.int .i64 a0))] K = zj82 N a0 (fun z1 => K (.v (.one (.str z1)))) := (ve64_0 N a0 K).trans (zt82 N a0 (fun z1 => K (.v (.one (.str z1))))).symm
theorem o64 {β : Type} (N : Nat) : SpecOK (β := β) inv Tryd.prog 64 (S64 N) := by
  refine spec_of lay_ok mixed (E := E64 N) (specs_loops (specs_cons (o130 N) specs_nil)) muts_nil gs_nil Tryd.func64 (by kernel_rfl) 0 (by kernel_rfl) trivial fun args K r h => ?_
  unfold S64 VS64 at h
  split at h
  · exact (e64_0 N _ _).trans h
  · cases h
def VS61 {β : Type} (N : Nat) (zq85 : (a0 : List Int) → (k : ByteArray → Option β) → Option β) : Rv.Spec β := fun args K => match args with
  | [.v (.one (.sl 3 (.ints .i64 a0)))] => zq85 a0 (fun z1 => K (.v (.one (.str z1))))
  | _ => none
def S61 {β : Type} (N : Nat) : Rv.Spec β := VS61 N (zj85 N)
def h61_0_0  (v0 : List Int) (v1 : Int) (v2 : Int) (v3 : List ByteArray) : St := ⟨tund :: tund :: tund :: .v (.one (.row 0)) :: tund :: tund :: tund :: tund :: tund :: tund :: tund :: tund :: .v (.one (.sl 3 (.ints .i64 v0))) :: .v (.one (.int .i64 v1)) :: .v (.one (.int .i64 v2)) :: tund :: tund :: tund :: tund :: tund :: tund :: tund :: tund :: tund :: tund :: tund :: tund :: [], [.row 9 (.strs v3)]⟩
def x61_0_0_k0  (y0 : List ByteArray) : St := ⟨tund :: tund :: tund :: .v (.one (.row 0)) :: tund :: tund :: tund :: tund :: tund :: tund :: tund :: tund :: tund :: tund :: tund :: tund :: tund :: tund :: tund :: tund :: tund :: tund :: tund :: tund :: tund :: tund :: tund :: [], [.row 9 (.strs y0)]⟩
theorem fl61_0_0 (s : St) : refSt (h61_0_0 [] 0 0 []) s = h61_0_0 (rInts (rowV (oneA (vT (nx tund s.tmps 12))))) (intS (oneA (vT (nx tund s.tmps 13)))) (intS (oneA (vT (nx tund s.tmps 14)))) (rStrs (rowB_ (nx .dead s.blks 0))) := by kernel_rfl
def VLS61_0 {β : Type} (N : Nat) (zq84 : Nat → List Int → Int → Int → List ByteArray → (List ByteArray → Option β) → Option β) : LSpec β := fun s K => cond (shpSt (h61_0_0 [] 0 0 []) s) ((fun (v0 : List Int) (v1 : Int) (v2 : Int) (v3 : List ByteArray) => zq84  N v0 v1 v2 v3 (fun y0 => K (.exit 0) (x61_0_0_k0  y0))) (rInts (rowV (oneA (vT (nx tund s.tmps 12))))) (intS (oneA (vT (nx tund s.tmps 13)))) (intS (oneA (vT (nx tund s.tmps 14)))) (rStrs (rowB_ (nx .dead s.blks 0)))) (none)
def LS61_0 {β : Type} (N : Nat) : LSpec β := VLS61_0 N (zj84 N)
def VE61 {β : Type} (N : Nat) (zq82 : (a0 : Int) → (k : ByteArray → Option β) → Option β) (zq84 : Nat → List Int → Int → Int → List ByteArray → (List ByteArray → Option β) → Option β) : Env β := ⟨[(64, VS64 N zq82), (126, S126 N)], [], [(0, VLS61_0 N zq84)], [], ⟨[], [], [153]⟩⟩
def E61 {β : Type} (N : Nat) : Env β := VE61 N (zj82 N) (zj84 N)
def zb83 {β : Type} (N : Nat) (zq82 : (a0 : Int) → (k : ByteArray → Option β) → Option β)  (v0 : List Int) (v1 : Int) (v2 : Int) (v3 : List ByteArray) (rec_ : List Int → Int → Int → List ByteArray → Option β) (k0 : List ByteArray → Option β) : Option β :=
(cond ((decide (v2 < v1)))
((gd ((decide (0 ≤ v2)))
((gd ((decide (v2 < (v0.length : Int))))
(zq82 ((rd 0 v0 v2)) fun r2 =>
(gd ((decide (0 ≤ v2)))
((gd ((decide (v2 < (v3.length : Int))))
(rec_ v0 v1 ((w64 (v2 + 1))) ((wr v3 v2 r2)))))))))))
(k0 v3))
theorem zt83 {β : Type} (N : Nat)  (v0 : List Int) (v1 : Int) (v2 : Int) (v3 : List ByteArray) (rec_ : List Int → Int → Int → List ByteArray → Option β) (k0 : List ByteArray → Option β) : zj83 N v0 v1 v2 v3 rec_ k0 = zb83 N (zj82 N) v0 v1 v2 v3 rec_ k0 := by
  unfold zj83 zb83
  rfl
theorem vst61_0_0 {β : Type} (N : Nat) (zq82 : (a0 : Int) → (k : ByteArray → Option β) → Option β) (zq84 : Nat → List Int → Int → Int → List ByteArray → (List ByteArray → Option β) → Option β)  (v0 : List Int) (v1 : Int) (v2 : Int) (v3 : List ByteArray) (rec_ : St → Option β) (K : Exit → St → Option β) :
    ev lay (VE61 N zq82 zq84) (retMask Tryd.f61) (lp Tryd.f61 0).body (lp Tryd.f61 0).ex ((lp Tryd.f61 0).lv (retMask Tryd.f61)) (h61_0_0  v0 v1 v2 v3) (nextR (fun s' => rec_ (s'.tidy ((lp Tryd.f61 0).lv (retMask Tryd.f61)))) K) = zb83 N zq82  v0 v1 v2 v3 (fun v0 v1 v2 v3 => rec_ (h61_0_0  v0 v1 v2 v3)) (fun y0 => K (.exit 0) (x61_0_0_k0  y0)) := by kernel_rfl
theorem st61_0_0 {β : Type} (N : Nat)  (v0 : List Int) (v1 : Int) (v2 : Int) (v3 : List ByteArray) (rec_ : St → Option β) (K : Exit → St → Option β) :
    ev lay (E61 N) (retMask Tryd.f61) (lp Tryd.f61 0).body (lp Tryd.f61 0).ex ((lp Tryd.f61 0).lv (retMask Tryd.f61)) (h61_0_0  v0 v1 v2 v3) (nextR (fun s' => rec_ (s'.tidy ((lp Tryd.f61 0).lv (retMask Tryd.f61)))) K) = zj83 N  v0 v1 v2 v3 (fun v0 v1 v2 v3 => rec_ (h61_0_0  v0 v1 v2 v3)) (fun y0 => K (.exit 0) (x61_0_0_k0  y0)) := (vst61_0_0 N (zj82 N) (zj84 N) v0 v1 v2 v3 rec_ K).trans (zt83 N  v0 v1 v2 v3 (fun v0 v1 v2 v3 => rec_ (h61_0_0  v0 v1 v2 v3)) (fun y0 => K (.exit 0) (x61_0_0_k0  y0))).symm
theorem ro61_0_0 {β : Type} (N : Nat)  (K : Exit → St → Option β) : ∀ (F : Nat) (v0 : List Int) (v1 : Int) (v2 : Int) (v3 : List ByteArray), (lp Tryd.f61 0).rounds lay (E61 N) (retMask Tryd.f61) F (h61_0_0  v0 v1 v2 v3) K = zj84 N  F v0 v1 v2 v3 (fun y0 => K (.exit 0) (x61_0_0_k0  y0)) := by
  intro F
  induction F with
  | zero => intros; rfl
  | succ F ih =>
    intros
    rw [rounds_next]
    refine (st61_0_0 N  _ _ _ _ (fun s => (lp Tryd.f61 0).rounds lay (E61 N) (retMask Tryd.f61) F s K) K).trans ?_
    simp only [ih]
    rfl
theorem lk61_0 {β : Type} (N : Nat) : lookL (E61 (β := β) N).loops (lp Tryd.f61 0).id = LS61_0 N := by kernel_rfl
theorem rk61_0 {β : Type} (N : Nat) : RoundsOK lay (E61 (β := β) N) (retMask Tryd.f61) (lp Tryd.f61 0) := by
  intro s K r h
  rw [lk61_0] at h
  unfold LS61_0 VLS61_0 at h
  cases hb : shpSt (h61_0_0 [] 0 0 []) s with
  | true =>
    rw [hb, cond_true] at h
    exact ⟨N, by rw [← shpSt_ref hb, fl61_0_0 s]; exact (ro61_0_0 N  K N (rInts (rowV (oneA (vT (nx tund s.tmps 12))))) (intS (oneA (vT (nx tund s.tmps 13)))) (intS (oneA (vT (nx tund s.tmps 14)))) (rStrs (rowB_ (nx .dead s.blks 0)))).trans h⟩
  | false =>
  rw [hb, cond_false] at h
  clear hb
  cases h
def zb85 {β : Type} (N : Nat) (zq84 : Nat → List Int → Int → Int → List ByteArray → (List ByteArray → Option β) → Option β) (a0 : List Int) (k : ByteArray → Option β) : Option β :=
(cond (((a0.length : Int) == 0))
(k ((strOf [110, 111, 110, 101])))
((gd ((decide (0 ≤ (a0.length : Int))))
((gd ((decide ((a0.length : Int) ≤ (a0.length : Int))))
((gd ((decide (16 * (a0.length : Int) ≤ 281474976710656)))
(zq84  N a0 ((a0.length : Int)) 0 ((List.replicate (Int.toNat (a0.length : Int)) ByteArray.empty)) (fun e3_0 =>
strings_Join N e3_0 ((strOf [44])) fun r4 =>
k r4)))))))))
theorem zt85 {β : Type} (N : Nat) (a0 : List Int) (k : ByteArray → Option β) : zj85 N a0 k = zb85 N (zj84 N) a0 k := by
  unfold zj85 zb85
  rfl
theorem ve61_0 {β : Type} (N : Nat) (zq82 : (a0 : Int) → (k : ByteArray → Option β) → Option β) (zq84 : Nat → List Int → Int → Int → List ByteArray → (List ByteArray → Option β) → Option β)  (a0 : List Int) (K : TV → Option β) : evFn lay (VE61 N zq82 zq84) Tryd.f61 [.v (.one (.sl 3 (.ints .i64 a0)))] K = zb85 N zq84 a0 (fun z1 => K (.v (.one (.str z1)))) := by kernel_rfl
theorem e61_0 {β : Type} (N : Nat)  (a0 : List Int) (K : TV → Option β) : evFn lay (E61 N) Tryd.f61 [.v (.one (.sl 3 (.ints .i64 a0)))] K = zj85 N a0 (fun z1 => K (.v (.one (.str z1)))) := (ve61_0 N (zj82 N) (zj84 N) a0 K).trans (zt85 N a0 (fun z1 => K (.v (.one (.str z1))))).symm
theorem o61 {β : Type} (N : Nat) : SpecOK (β := β) inv Tryd.prog 61 (S61 N) := by
  refine spec_of lay_ok mixed (E := E61 N) (specs_loops (specs_cons (o64 N) (specs_cons (o126 N) specs_nil))) muts_nil gs_nil Tryd.func61 (by kernel_rfl) 1 (by kernel_rfl) ⟨trivial, rk61_0 N⟩ fun args K r h => ?_
  unfold S61 VS61 at h
  split at h
  · exact (e61_0 N _ _).trans h
  · cases h
def VS160 {β : Type} (N : Nat) (zq86 : (a0 : Int) → (k : Int → Option β) → Option β) : Rv.Spec β := fun args K => match args with
  | [.v (.one (.int .u64 a0))] => zq86 a0 (fun z1 => K (.v (.one (.int .i64 z1))))
  | _ => none
def S160 {β : Type} (N : Nat) : Rv.Spec β := VS160 N (zj86 N)
def VE160 {β : Type} (N : Nat) : Env β := ⟨[], [], [], [], ⟨[], [], [153]⟩⟩
def E160 {β : Type} (N : Nat) : Env β := VE160 N
def zb86 {β : Type} (N : Nat) (a0 : Int) (k : Int → Option β) : Option β :=
(cond ((decide (a0 ≥ 4294967296)))
((cond ((decide ((shrI .u64 a0 32) ≥ 65536)))
((cond ((decide ((shrI .u64 (shrI .u64 a0 32) 16) ≥ 256)))
((gd ((decide (0 ≤ (w8 ((shrI .u64 (shrI .u64 (shrI .u64 a0 32) 16) 8))))))
((gd ((decide ((w8 ((shrI .u64 (shrI .u64 (shrI .u64 a0 32) 16) 8))) < (len8.size : Int))))
(k ((w64 (56 + (w64 ((bt len8 (w8 ((shrI .u64 (shrI .u64 (shrI .u64 a0 32) 16) 8))))))))))))))
((gd ((decide (0 ≤ (w8 ((shrI .u64 (shrI .u64 a0 32) 16))))))
((gd ((decide ((w8 ((shrI .u64 (shrI .u64 a0 32) 16))) < (len8.size : Int))))
(k ((w64 (48 + (w64 ((bt len8 (w8 ((shrI .u64 (shrI .u64 a0 32) 16))))))))))))))))
((cond ((decide ((shrI .u64 a0 32) ≥ 256)))
((gd ((decide (0 ≤ (w8 ((shrI .u64 (shrI .u64 a0 32) 8))))))
((gd ((decide ((w8 ((shrI .u64 (shrI .u64 a0 32) 8))) < (len8.size : Int))))
(k ((w64 (40 + (w64 ((bt len8 (w8 ((shrI .u64 (shrI .u64 a0 32) 8))))))))))))))
((gd ((decide (0 ≤ (w8 ((shrI .u64 a0 32))))))
((gd ((decide ((w8 ((shrI .u64 a0 32))) < (len8.size : Int))))
(k ((w64 (32 + (w64 ((bt len8 (w8 ((shrI .u64 a0 32))))))))))))))))))
((cond ((decide (a0 ≥ 65536)))
((cond ((decide ((shrI .u64 a0 16) ≥ 256)))
((gd ((decide (0 ≤ (w8 ((shrI .u64 (shrI .u64 a0 16) 8))))))
((gd ((decide ((w8 ((shrI .u64 (shrI .u64 a0 16) 8))) < (len8.size : Int))))
(k ((w64 (24 + (w64 ((bt len8 (w8 ((shrI .u64 (shrI .u64 a0 16) 8))))))))))))))
((gd ((decide (0 ≤ (w8 ((shrI .u64 a0 16))))))
((gd ((decide ((w8 ((shrI .u64 a0 16))) < (len8.size : Int))))
(k ((w64 (16 + (w64 ((bt len8 (w8 ((shrI .u64 a0 16))))))))))))))))
((cond ((decide (a0 ≥ 256)))
((gd ((decide (0 ≤ (w8 ((shrI .u64 a0 8))))))
((gd ((decide ((w8 ((shrI .u64 a0 8))) < (len8.size : Int))))
(k ((w64 (8 + (w64 ((bt len8 (w8 ((shrI .u64 a0 8))))))))))))))
((gd ((decide (0 ≤ (w8 (a0)))))
((gd ((decide ((w8 (a0)) < (len8.size : Int))))
(k ((w64 (0 + (w64 ((bt len8 (w8 (a0))))))))))))))))))
theorem zt86 {β : Type} (N : Nat) (a0 : Int) (k : Int → Option β) : zj86 N a0 k = zb86 N a0 k := by
  unfold zj86 zb86
  rfl
theorem ve160_0 {β : Type} (N : Nat)  (a0 : Int) (K : TV → Option β) : evFn lay (VE160 N) Tryd.f160 [.v (.one (.int .u64 a0))] K = zb86 N a0 (fun z1 => K (.v (.one (.int .i64 z1)))) := by kernel_rfl
theorem e160_0 {β : Type} (N : Nat)  (a0 : Int) (K : TV → Option β) : evFn lay (E160 N) Tryd.f160 [.v (.one (.int .u64 a0))] K = zj86 N a0 (fun z1 => K (.v (.one (.int .i64 z1)))) := (ve160_0 N a0 K).trans (zt86 N a0 (fun z1 => K (.v (.one (.int .i64 z1))))).symm
theorem o160 {β : Type} (N : Nat) : SpecOK (β := β) inv Tryd.prog 160 (S160 N) := by
  refine spec_of lay_ok mixed (E := E160 N) (specs_loops specs_nil) muts_nil gs_nil Tryd.func160 (by kernel_rfl) 0 (by kernel_rfl) trivial fun args K r h => ?_
  unfold S160 VS160 at h
  split at h
  · exact (e160_0 N _ _).trans h
  · cases h
def VS101 {β : Type} (N : Nat) (zq91 : (a0 : List Int) → (k : Int → Option β) → Option β) : Rv.Spec β := fun args K => match args with
  | [.v (.one (.sl 3 (.ints .i64 a0)))] => zq91 a0 (fun z1 => K (.v (.one (.int .i64 z1))))
  | _ => none
def S101 {β : Type} (N : Nat) : Rv.Spec β := VS101 N (zj91 N)
def h101_0_0  (v0 : List Int) (v1 : Int) (v2 : Int) (v3 : Mp) : St := ⟨tund :: tund :: tund :: .v (.one (.mp 0)) :: tund :: tund :: tund :: tund :: tund :: tund :: tund :: tund :: tund :: tund :: tund :: tund :: tund :: .v (.one (.sl 3 (.ints .i64 v0))) :: .v (.one (.int .i64 v1)) :: .v (.one (.int .i64 v2)) :: tund :: tund :: tund :: tund :: tund :: tund :: tund :: tund :: tund :: tund :: tund :: tund :: tund :: tund :: tund :: tund :: tund :: tund :: tund :: tund :: tund :: tund :: tund :: tund :: tund :: [], [.mp ⟨false, false⟩ v3]⟩
def x101_0_0_k0  (y0 : Mp) : St := ⟨tund :: tund :: tund :: .v (.one (.mp 0)) :: tund :: tund :: tund :: tund :: tund :: tund :: tund :: tund :: tund :: tund :: tund :: tund :: tund :: tund :: tund :: tund :: tund :: tund :: tund :: tund :: tund :: tund :: tund :: tund :: tund :: tund :: tund :: tund :: tund :: tund :: tund :: tund :: tund :: tund :: tund :: tund :: tund :: tund :: tund :: tund :: tund :: [], [.mp ⟨false, false⟩ y0]⟩
def h101_1_0  (v0 : Int) (v1 : List Int) (v2 : Int) (v3 : Int) (v4 : Mp) : St := ⟨tund :: tund :: tund :: .v (.one (.mp 0)) :: tund :: .v (.one (.int .i64 v0)) :: tund :: tund :: tund :: tund :: tund :: tund :: tund :: tund :: tund :: tund :: tund :: .v (.one (.sl 3 (.ints .i64 v1))) :: .v (.one (.int .i64 v2)) :: .v (.one (.int .i64 v3)) :: tund :: tund :: tund :: tund :: tund :: tund :: tund :: tund :: tund :: tund :: tund :: tund :: tund :: tund :: tund :: tund :: tund :: tund :: tund :: tund :: tund :: tund :: tund :: tund :: tund :: [], [.mp ⟨false, false⟩ v4]⟩
def x101_1_0_k0  (y0 : List Int) (y1 : Int) (y2 : Int) (y3 : Mp) : St := ⟨tund :: tund :: tund :: .v (.one (.mp 0)) :: tund :: tund :: tund :: tund :: tund :: tund :: tund :: tund :: tund :: tund :: tund :: tund :: tund :: .v (.one (.sl 3 (.ints .i64 y0))) :: .v (.one (.int .i64 y1)) :: .v (.one (.int .i64 y2)) :: tund :: tund :: tund :: tund :: tund :: tund :: tund :: tund :: tund :: tund :: tund :: tund :: tund :: tund :: tund :: tund :: tund :: tund :: tund :: tund :: tund :: tund :: tund :: tund :: tund :: [], [.mp ⟨false, false⟩ y3]⟩
theorem fl101_0_0 (s : St) : refSt (h101_0_0 [] 0 0 []) s = h101_0_0 (rInts (rowV (oneA (vT (nx tund s.tmps 17))))) (intS (oneA (vT (nx tund s.tmps 18)))) (intS (oneA (vT (nx tund s.tmps 19)))) (mpB (nx .dead s.blks 0)) := by kernel_rfl
def VLS101_0 {β : Type} (N : Nat) (zq90 : Nat → List Int → Int → Int → Mp → (Mp → Option β) → Option β) : LSpec β := fun s K => cond (shpSt (h101_0_0 [] 0 0 []) s) ((fun (v0 : List Int) (v1 : Int) (v2 : Int) (v3 : Mp) => zq90  N v0 v1 v2 v3 (fun y0 => K (.exit 0) (x101_0_0_k0  y0))) (rInts (rowV (oneA (vT (nx tund s.tmps 17))))) (intS (oneA (vT (nx tund s.tmps 18)))) (intS (oneA (vT (nx tund s.tmps 19)))) (mpB (nx .dead s.blks 0))) (none)
def LS101_0 {β : Type} (N : Nat) : LSpec β := VLS101_0 N (zj90 N)
theorem fl101_1_0 (s : St) : refSt (h101_1_0 0 [] 0 0 []) s = h101_1_0 (intS (oneA (vT (nx tund s.tmps 5)))) (rInts (rowV (oneA (vT (nx tund s.tmps 17))))) (intS (oneA (vT (nx tund s.tmps 18)))) (intS (oneA (vT (nx tund s.tmps 19)))) (mpB (nx .dead s.blks 0)) := by kernel_rfl
def VLS101_2 {β : Type} (N : Nat) (zq88 : Nat → Int → List Int → Int → Int → Mp → (List Int → Int → Int → Mp → Option β) → Option β) : LSpec β := fun s K => cond (shpSt (h101_1_0 0 [] 0 0 []) s) ((fun (v0 : Int) (v1 : List Int) (v2 : Int) (v3 : Int) (v4 : Mp) => zq88  N v0 v1 v2 v3 v4 (fun y0 y1 y2 y3 => K (.exit 2) (x101_1_0_k0  y0 y1 y2 y3))) (intS (oneA (vT (nx tund s.tmps 5)))) (rInts (rowV (oneA (vT (nx tund s.tmps 17))))) (intS (oneA (vT (nx tund s.tmps 18)))) (intS (oneA (vT (nx tund s.tmps 19)))) (mpB (nx .dead s.blks 0))) (none)
def LS101_2 {β : Type} (N : Nat) : LSpec β := VLS101_2 N (zj88 N)
def VE101 {β : Type} (N : Nat) (zq74 : (a0 : List Int) → (a1 : (Int → (Bool → Option β) → Option β)) → (k : Bool → Option β) → Option β) (zq69 : (a0 : Int) → (c0 : Int) → (c1 : Int) → (c2 : Int) → (c3 : Int) → (c4 : List Int) → (c5 : Int) → (k : Bool → Option β) → Option β) (zq70 : (a0 : Int) → (k : Bool → Option β) → Option β) (zq86 : (a0 : Int) → (k : Int → Option β) → Option β) (zq90 : Nat → List Int → Int → Int → Mp → (Mp → Option β) → Option β) (zq88 : Nat → Int → List Int → Int → Int → Mp → (List Int → Int → Int → Mp → Option β) → Option β) : Env β := ⟨[(158, VS158 N zq74 zq69 zq70), (159, VS159 N zq70), (160, VS160 N zq86)], [], [(0, VLS101_0 N zq90), (2, VLS101_2 N zq88)], [], ⟨[], [], [153]⟩⟩
def E101 {β : Type} (N : Nat) : Env β := VE101 N (zj74 N) (zj69 N) (zj70 N) (zj86 N) (zj90 N) (zj88 N)
def zb89 {β : Type} (N : Nat) (zq88 : Nat → Int → List Int → Int → Int → Mp → (List Int → Int → Int → Mp → Option β) → Option β)  (v0 : List Int) (v1 : Int) (v2 : Int) (v3 : Mp) (rec_ : List Int → Int → Int → Mp → Option β) (k0 : Mp → Option β) : Option β :=
(cond ((decide (v2 < v1)))
((gd ((decide (0 ≤ v2)))
((gd ((decide (v2 < (v0.length : Int))))
(zq88  N ((rd 0 v0 v2)) v0 v1 v2 v3 (fun e4_0 e4_1 e4_2 e4_3 =>
rec_ e4_0 e4_1 ((w64 (e4_2 + 1))) e4_3))))))
(k0 v3))
theorem zt89 {β : Type} (N : Nat)  (v0 : List Int) (v1 : Int) (v2 : Int) (v3 : Mp) (rec_ : List Int → Int → Int → Mp → Option β) (k0 : Mp → Option β) : zj89 N v0 v1 v2 v3 rec_ k0 = zb89 N (zj88 N) v0 v1 v2 v3 rec_ k0 := by
  unfold zj89 zb89
  rfl
theorem vst101_0_0 {β : Type} (N : Nat) (zq74 : (a0 : List Int) → (a1 : (Int → (Bool → Option β) → Option β)) → (k : Bool → Option β) → Option β) (zq69 : (a0 : Int) → (c0 : Int) → (c1 : Int) → (c2 : Int) → (c3 : Int) → (c4 : List Int) → (c5 : Int) → (k : Bool → Option β) → Option β) (zq70 : (a0 : Int) → (k : Bool → Option β) → Option β) (zq86 : (a0 : Int) → (k : Int → Option β) → Option β) (zq90 : Nat → List Int → Int → Int → Mp → (Mp → Option β) → Option β) (zq88 : Nat → Int → List Int → Int → Int → Mp → (List Int → Int → Int → Mp → Option β) → Option β)  (v0 : List Int) (v1 : Int) (v2 : Int) (v3 : Mp) (rec_ : St → Option β) (K : Exit → St → Option β) :
    ev lay (VE101 N zq74 zq69 zq70 zq86 zq90 zq88) (retMask Tryd.f101) (lp Tryd.f101 0).body (lp Tryd.f101 0).ex ((lp Tryd.f101 0).lv (retMask Tryd.f101)) (h101_0_0  v0 v1 v2 v3) (nextR (fun s' => rec_ (s'.tidy ((lp Tryd.f101 0).lv (retMask Tryd.f101)))) K) = zb89 N zq88  v0 v1 v2 v3 (fun v0 v1 v2 v3 => rec_ (h101_0_0  v0 v1 v2 v3)) (fun y0 => K (.exit 0) (x101_0_0_k0  y0)) := by kernel_rfl
theorem st101_0_0 {β : Type} (N : Nat)  (v0 : List Int) (v1 : Int) (v2 : Int) (v3 : Mp) (rec_ : St → Option β) (K : Exit → St → Option β) :
    ev lay (E101 N) (retMask Tryd.f101) (lp Tryd.f101 0).body (lp Tryd.f101 0).ex ((lp Tryd.f101 0).lv (retMask Tryd.f101)) (h101_0_0  v0 v1 v2 v3) (nextR (fun s' => rec_ (s'.tidy ((lp Tryd.f101 0).lv (retMask Tryd.f101)))) K) = zj89 N  v0 v1 v2 v3 (fun v0 v1 v2 v3 => rec_ (h101_0_0  v0 v1 v2 v3)) (fun y0 => K (.exit 0) (x101_0_0_k0  y0)) := (vst101_0_0 N (zj74 N) (zj69 N) (zj70 N) (zj86 N) (zj90 N) (zj88 N) v0 v1 v2 v3 rec_ K).trans (zt89 N  v0 v1 v2 v3 (fun v0 v1 v2 v3 => rec_ (h101_0_0  v0 v1 v2 v3)) (fun y0 => K (.exit 0) (x101_0_0_k0  y0))).symm
theorem ro101_0_0 {β : Type} (N : Nat)  (K : Exit → St → Option β) : ∀ (F : Nat) (v0 : List Int) (v1 : Int) (v2 : Int) (v3 : Mp), (lp Tryd.f101 0).rounds lay (E101 N) (retMask Tryd.f101) F (h101_0_0  v0 v1 v2 v3) K = zj90 N  F v0 v1 v2 v3 (fun y0 => K (.exit 0) (x101_0_0_k0  y0)) := by
  intro F
  induction F with
  | zero => intros; rfl
  | succ F ih =>
    intros
    rw [rounds_next]
    refine (st101_0_0 N  _ _ _ _ (fun s => (lp Tryd.f101 0).rounds lay (E101 N) (retMask Tryd.f101) F s K) K).trans ?_
    simp only [ih]
    rfl
theorem lk101_0 {β : Type} (N : Nat) : lookL (E101 (β := β) N).loops (lp Tryd.f101 0).id = LS101_0 N := by kernel_rfl
theorem rk101_0 {β : Type} (N : Nat) : RoundsOK lay (E101 (β := β) N) (retMask Tryd.f101) (lp Tryd.f101 0) := by
  intro s K r h
  rw [lk101_0] at h
  unfold LS101_0 VLS101_0 at h
  cases hb : shpSt (h101_0_0 [] 0 0 []) s with
  | true =>
    rw [hb, cond_true] at h
    exact ⟨N, by rw [← shpSt_ref hb, fl101_0_0 s]; exact (ro101_0_0 N  K N (rInts (rowV (oneA (vT (nx tund s.tmps 17))))) (intS (oneA (vT (nx tund s.tmps 18)))) (intS (oneA (vT (nx tund s.tmps 19)))) (mpB (nx .dead s.blks 0))).trans h⟩
  | false =>
  rw [hb, cond_false] at h
  clear hb
  cases h
def zb87 {β : Type} (N : Nat) (zq86 : (a0 : Int) → (k : Int → Option β) → Option β)  (v0 : Int) (v1 : List Int) (v2 : Int) (v3 : Int) (v4 : Mp) (rec_ : Int → List Int → Int → Int → Mp → Option β) (k0 : List Int → Int → Int → Mp → Option β) : Option β :=
(cond ((v0 != 0))
(zq86 ((wu64 (v0))) fun r3 =>
(cond ((!(hasM ⟨false, false⟩ v4 r3 0)))
(k0 v1 v2 v3 ((putM ⟨false, false⟩ v4 r3 0 v0)))
(rec_ ((bits .xor .i64 v0 (getM ⟨false, false⟩ v4 r3 0))) v1 v2 v3 v4)))
(k0 v1 v2 v3 v4))
theorem zt87 {β : Type} (N : Nat)  (v0 : Int) (v1 : List Int) (v2 : Int) (v3 : Int) (v4 : Mp) (rec_ : Int → List Int → Int → Int → Mp → Option β) (k0 : List Int → Int → Int → Mp → Option β) : zj87 N v0 v1 v2 v3 v4 rec_ k0 = zb87 N (zj86 N) v0 v1 v2 v3 v4 rec_ k0 := by
  unfold zj87 zb87
  rfl
theorem vst101_1_0 {β : Type} (N : Nat) (zq74 : (a0 : List Int) → (a1 : (Int → (Bool → Option β) → Option β)) → (k : Bool → Option β) → Option β) (zq69 : (a0 : Int) → (c0 : Int) → (c1 : Int) → (c2 : Int) → (c3 : Int) → (c4 : List Int) → (c5 : Int) → (k : Bool → Option β) → Option β) (zq70 : (a0 : Int) → (k : Bool → Option β) → Option β) (zq86 : (a0 : Int) → (k : Int → Option β) → Option β) (zq90 : Nat → List Int → Int → Int → Mp → (Mp → Option β) → Option β) (zq88 : Nat → Int → List Int → Int → Int → Mp → (List Int → Int → Int → Mp → Option β) → Option β)  (v0 : Int) (v1 : List Int) (v2 : Int) (v3 : Int) (v4 : Mp) (rec_ : St → Option β) (K : Exit → St → Option β) :
    ev lay (VE101 N zq74 zq69 zq70 zq86 zq90 zq88) (retMask Tryd.f101) (lp Tryd.f101 1).body (lp Tryd.f101 1).ex ((lp Tryd.f101 1).lv (retMask Tryd.f101)) (h101_1_0  v0 v1 v2 v3 v4) (nextR (fun s' => rec_ (s'.tidy ((lp Tryd.f101 1).lv (retMask Tryd.f101)))) K) = zb87 N zq86  v0 v1 v2 v3 v4 (fun v0 v1 v2 v3 v4 => rec_ (h101_1_0  v0 v1 v2 v3 v4)) (fun y0 y1 y2 y3 => K (.exit 2) (x101_1_0_k0  y0 y1 y2 y3)) := by kernel_rfl
theorem st101_1_0 {β : Type} (N : Nat)  (v0 : Int) (v1 : List Int) (v2 : Int) (v3 : Int) (v4 : Mp) (rec_ : St → Option β) (K : Exit → St → Option β) :
    ev lay (E101 N) (retMask Tryd.f101) (lp Tryd.f101 1).body (lp Tryd.f101 1).ex ((lp Tryd.f101 1).lv (retMask Tryd.f101)) (h101_1_0  v0 v1 v2 v3 v4) (nextR (fun s' => rec_ (s'.tidy ((lp Tryd.f101 1).lv (retMask Tryd.f101)))) K) = zj87 N  v0 v1 v2 v3 v4 (fun v0 v1 v2 v3 v4 => rec_ (h101_1_0  v0 v1 v2 v3 v4)) (fun y0 y1 y2 y3 => K (.exit 2) (x101_1_0_k0  y0 y1 y2 y3)) := (vst101_1_0 N (zj74 N) (zj69 N) (zj70 N) (zj86 N) (zj90 N) (zj88 N) v0 v1 v2 v3 v4 rec_ K).trans (zt87 N  v0 v1 v2 v3 v4 (fun v0 v1 v2 v3 v4 => rec_ (h101_1_0  v0 v1 v2 v3 v4)) (fun y0 y1 y2 y3 => K (.exit 2) (x101_1_0_k0  y0 y1 y2 y3))).symm
theorem ro101_1_0 {β : Type} (N : Nat)  (K : Exit → St → Option β) : ∀ (F : Nat) (v0 : Int) (v1 : List Int) (v2 : Int) (v3 : Int) (v4 : Mp), (lp Tryd.f101 1).rounds lay (E101 N) (retMask Tryd.f101) F (h101_1_0  v0 v1 v2 v3 v4) K = zj88 N  F v0 v1 v2 v3 v4 (fun y0 y1 y2 y3 => K (.exit 2) (x101_1_0_k0  y0 y1 y2 y3)) := by
  intro F
  induction F with
  | zero => intros; rfl
  | succ F ih =>
    intros
    rw [rounds_next]
    refine (st101_1_0 N  _ _ _ _ _ (fun s => (lp Tryd.f101 1).rounds lay (E101 N) (retMask Tryd.f101) F s K) K).trans ?_
    simp only [ih]
    rfl
theorem lk101_2 {β : Type} (N : Nat) : lookL (E101 (β := β) N).loops (lp Tryd.f101 1).id = LS101_2 N := by kernel_rfl
theorem rk101_2 {β : Type} (N : Nat) : RoundsOK lay (E101 (β := β) N) (retMask Tryd.f101) (lp Tryd.f101 1) := by
  intro s K r h
  rw [lk101_2] at h
  unfold LS101_2 VLS101_2 at h
  cases hb : shpSt (h101_1_0 0 [] 0 0 []) s with
  | true =>
    rw [hb, cond_true] at h
    exact ⟨N, by rw [← shpSt_ref hb, fl101_1_0 s]; exact (ro101_1_0 N  K N (intS (oneA (vT (nx tund s.tmps 5)))) (rInts (rowV (oneA (vT (nx tund s.tmps 17))))) (intS (oneA (vT (nx tund s.tmps 18)))) (intS (oneA (vT (nx tund s.tmps 19)))) (mpB (nx .dead s.blks 0))).trans h⟩
  | false =>
  rw [hb, cond_false] at h
  clear hb
  cases h
def zb91 {β : Type} (N : Nat) (zq74 : (a0 : List Int) → (a1 : (Int → (Bool → Option β) → Option β)) → (k : Bool → Option β) → Option β) (zq70 : (a0 : Int) → (k : Bool → Option β) → Option β) (zq90 : Nat → List Int → Int → Int → Mp → (Mp → Option β) → Option β) (a0 : List Int) (k : Int → Option β) : Option β :=
(cond ((decide ((a0.length : Int) > 32)))
(k (-1))
(zq74 a0 (fun x0 k => zq70 x0 k) fun r2 =>
(cond r2
(k (-1))
(zq90  N a0 ((a0.length : Int)) 0 (([] : Mp)) (fun e5_0 =>
k ((e5_0.length : Int)))))))
theorem zt91 {β : Type} (N : Nat) (a0 : List Int) (k : Int → Option β) : zj91 N a0 k = zb91 N (zj74 N) (zj70 N) (zj90 N) a0 k := by
  unfold zj91 zb91
  rfl
theorem ve101_0 {β : Type} (N : Nat) (zq74 : (a0 : List Int) → (a1 : (Int → (Bool → Option β) → Option β)) → (k : Bool → Option β) → Option β) (zq69 : (a0 : Int) → (c0 : Int) → (c1 : Int) → (c2 : Int) → (c3 : Int) → (c4 : List Int) → (c5 : Int) → (k : Bool → Option β) → Option β) (zq70 : (a0 : Int) → (k : Bool → Option β) → Option β) (zq86 : (a0 : Int) → (k : Int → Option β) → Option β) (zq90 : Nat → List Int → Int → Int → Mp → (Mp → Option β) → Option β) (zq88 : Nat → Int → List Int → Int → Int → Mp → (List Int → Int → Int → Mp → Option β) → Option β)  (a0 : List Int) (K : TV → Option β) : evFn lay (VE101 N zq74 zq69 zq70 zq86 zq90 zq88) Tryd.f101 [.v (.one (.sl 3 (.ints .i64 a0)))] K = zb91 N zq74 zq70 zq90 a0 (fun z1 => K (.v (.one (.int .i64 z1)))) := by kernel_rfl
theorem e101_0 {β : Type} (N : Nat)  (a0 : List Int) (K : TV → Option β) : evFn lay (E101 N) Tryd.f101 [.v (.one (.sl 3 (.ints .i64 a0)))] K = zj91 N a0 (fun z1 => K (.v (.one (.int .i64 z1)))) := (ve101_0 N (zj74 N) (zj69 N) (zj70 N) (zj86 N) (zj90 N) (zj88 N) a0 K).trans (zt91 N a0 (fun z1 => K (.v (.one (.int .i64 z1))))).symm
theorem o101 {β : Type} (N : Nat) : SpecOK (β := β) inv Tryd.prog 101 (S101 N) := by
  refine spec_of lay_ok mixed (E := E101 N) (specs_loops (specs_cons (o158 N) (specs_cons (o159 N) (specs_cons (o160 N) specs_nil)))) muts_nil gs_nil Tryd.func101 (by kernel_rfl) 2 (by kernel_rfl) ⟨⟨trivial, rk101_0 N⟩, rk101_2 N⟩ fun args K r h => ?_
  unfold S101 VS101 at h
  split at h
  · exact (e101_0 N _ _).trans h
  · cases h
def VS102 {β : Type} (N : Nat) (zq94 : (a0 : List Int) → (k : Int → Option β) → Option β) : Rv.Spec β := fun args K => match args with
  | [.v (.one (.sl 3 (.ints .i64 a0)))] => zq94 a0 (fun z1 => K (.v (.one (.int .i64 z1))))
  | _ => none
def S102 {β : Type} (N : Nat) : Rv.Spec β := VS102 N (zj94 N)
def h102_0_0  (v0 : List Int) (v1 : Int) (v2 : Int) (v3 : Mp) : St := ⟨tund :: tund :: tund :: .v (.one (.mp 0)) :: tund :: tund :: tund :: .v (.one (.sl 3 (.ints .i64 v0))) :: .v (.one (.int .i64 v1)) :: .v (.one (.int .i64 v2)) :: tund :: tund :: tund :: tund :: tund :: tund :: tund :: tund :: [], [.mp ⟨false, true⟩ v3]⟩
def x102_0_0_k0  (y0 : Mp) : St := ⟨tund :: tund :: tund :: .v (.one (.mp 0)) :: tund :: tund :: tund :: tund :: tund :: tund :: tund :: tund :: tund :: tund :: tund :: tund :: tund :: tund :: [], [.mp ⟨false, true⟩ y0]⟩
theorem fl102_0_0 (s : St) : refSt (h102_0_0 [] 0 0 []) s = h102_0_0 (rInts (rowV (oneA (vT (nx tund s.tmps 7))))) (intS (oneA (vT (nx tund s.tmps 8)))) (intS (oneA (vT (nx tund s.tmps 9)))) (mpB (nx .dead s.blks 0)) := by kernel_rfl
def VLS102_0 {β : Type} (N : Nat) (zq93 : Nat → List Int → Int → Int → Mp → (Mp → Option β) → Option β) : LSpec β := fun s K => cond (shpSt (h102_0_0 [] 0 0 []) s) ((fun (v0 : List Int) (v1 : Int) (v2 : Int) (v3 : Mp) => zq93  N v0 v1 v2 v3 (fun y0 => K (.exit 0) (x102_0_0_k0  y0))) (rInts (rowV (oneA (vT (nx tund s.tmps 7))))) (intS (oneA (vT (nx tund s.tmps 8)))) (intS (oneA (vT (nx tund s.tmps 9)))) (mpB (nx .dead s.blks 0))) (none)
def LS102_0 {β : Type} (N : Nat) : LSpec β := VLS102_0 N (zj93 N)
def VE102 {β : Type} (N : Nat) (zq93 : Nat → List Int → Int → Int → Mp → (Mp → Option β) → Option β) : Env β := ⟨[], [], [(0, VLS102_0 N zq93)], [], ⟨[], [], [153]⟩⟩
def E102 {β : Type} (N : Nat) : Env β := VE102 N (zj93 N)
def zb92 {β : Type} (N : Nat)  (v0 : List Int) (v1 : Int) (v2 : Int) (v3 : Mp) (rec_ : List Int → Int → Int → Mp → Option β) (k0 : Mp → Option β) : Option β :=
(cond ((decide (v2 < v1)))
((gd ((decide (0 ≤ v2)))
((gd ((decide (v2 < (v0.length : Int))))
(rec_ v0 v1 ((w64 (v2 + 1))) ((putM ⟨false, true⟩ v3 (rd 0 v0 v2) 0 ((cond true (1 : Int) 0)))))))))
(k0 v3))
theorem zt92 {β : Type} (N : Nat)  (v0 : List Int) (v1 : Int) (v2 : Int) (v3 : Mp) (rec_ : List Int → Int → Int → Mp → Option β) (k0 : Mp → Option β) : zj92 N v0 v1 v2 v3 rec_ k0 = zb92 N v0 v1 v2 v3 rec_ k0 := by
  unfold zj92 zb92
  rfl
theorem vst102_0_0 {β : Type} (N : Nat) (zq93 : Nat → List Int → Int → Int → Mp → (Mp → Option β) → Option β)  (v0 : List Int) (v1 : Int) (v2 : Int) (v3 : Mp) (rec_ : St → Option β) (K : Exit → St → Option β) :
    ev lay (VE102 N zq93) (retMask Tryd.f102) (lp Tryd.f102 0).body (lp Tryd.f102 0).ex ((lp Tryd.f102 0).lv (retMask Tryd.f102)) (h102_0_0  v0 v1 v2 v3) (nextR (fun s' => rec_ (s'.tidy ((lp Tryd.f102 0).lv (retMask Tryd.f102)))) K) = zb92 N  v0 v1 v2 v3 (fun v0 v1 v2 v3 => rec_ (h102_0_0  v0 v1 v2 v3)) (fun y0 => K (.exit 0) (x102_0_0_k0  y0)) := by kernel_rfl
theorem st102_0_0 {β : Type} (N : Nat)  (v0 : List Int) (v1 : Int) (v2 : Int) (v3 : Mp) (rec_ : St → Option β) (K : Exit → St → Option β) :
    ev lay (E102 N) (retMask Tryd.f102) (lp Tryd.f102 0).body (lp Tryd.f102 0).ex ((lp Tryd.f102 0).lv (retMask Tryd.f102)) (h102_0_0  v0 v1 v2 v3) (nextR (fun s' => rec_ (s'.tidy ((lp Tryd.f102 0).lv (retMask Tryd.f102)))) K) = zj92 N  v0 v1 v2 v3 (fun v0 v1 v2 v3 => rec_ (h102_0_0  v0 v1 v2 v3)) (fun y0 => K (.exit 0) (x102_0_0_k0  y0)) := (vst102_0_0 N (zj93 N) v0 v1 v2 v3 rec_ K).trans (zt92 N  v0 v1 v2 v3 (fun v0 v1 v2 v3 => rec_ (h102_0_0  v0 v1 v2 v3)) (fun y0 => K (.exit 0) (x102_0_0_k0  y0))).symm
theorem ro102_0_0 {β : Type} (N : Nat)  (K : Exit → St → Option β) : ∀ (F : Nat) (v0 : List Int) (v1 : Int) (v2 : Int) (v3 : Mp), (lp Tryd.f102 0).rounds lay (E102 N) (retMask Tryd.f102) F (h102_0_0  v0 v1 v2 v3) K = zj93 N  F v0 v1 v2 v3 (fun y0 => K (.exit 0) (x102_0_0_k0  y0)) := by
  intro F
  induction F with
  | zero => intros; rfl
  | succ F ih =>
    intros
    rw [rounds_next]
    refine (st102_0_0 N  _ _ _ _ (fun s => (lp Tryd.f102 0).rounds lay (E102 N) (retMask Tryd.f102) F s K) K).trans ?_
    simp only [ih]
    rfl
theorem lk102_0 {β : Type} (N : Nat) : lookL (E102 (β := β) N).loops (lp Tryd.f102 0).id = LS102_0 N := by kernel_rfl
theorem rk102_0 {β : Type} (N : Nat) : RoundsOK lay (E102 (β := β) N) (retMask Tryd.f102) (lp Tryd.f102 0) := by
  intro s K r h
  rw [lk102_0] at h
  unfold LS102_0 VLS102_0 at h
  cases hb : shpSt (h102_0_0 [] 0 0 []) s with
  | true =>
    rw [hb, cond_true] at h
    exact ⟨N, by rw [← shpSt_ref hb, fl102_0_0 s]; exact (ro102_0_0 N  K N (rInts (rowV (oneA (vT (nx tund s.tmps 7))))) (intS (oneA (vT (nx tund s.tmps 8)))) (intS (oneA (vT (nx tund s.tmps 9)))) (mpB (nx .dead s.blks 0))).trans h⟩
  | false =>
  rw [hb, cond_false] at h
  clear hb
  cases h
def zb94 {β : Type} (N : Nat) (zq93 : Nat → List Int → Int → Int → Mp → (Mp → Option β) → Option β) (a0 : List Int) (k : Int → Option β) : Option β :=
zq93  N a0 ((a0.length : Int)) 0 (([] : Mp)) (fun e2_0 =>
k ((e2_0.length : Int)))
theorem zt94 {β : Type} (N : Nat) (a0 : List Int) (k : Int → Option β) : zj94 N a0 k = zb94 N (zj93 N) a0 k := by
  unfold zj94 zb94
  rfl
theorem ve102_0 {β : Type} (N : Nat) (zq93 : Nat → List Int → Int → Int → Mp → (Mp → Option β) → Option β)  (a0 : List Int) (K : TV → Option β) : evFn lay (VE102 N zq93) Tryd.f102 [.v (.one (.sl 3 (.ints .i64 a0)))] K = zb94 N zq93 a0 (fun z1 => K (.v (.one (.int .i64 z1)))) := by kernel_rfl
theorem e102_0 {β : Type} (N : Nat)  (a0 : List Int) (K : TV → Option β) : evFn lay (E102 N) Tryd.f102 [.v (.one (.sl 3 (.ints .i64 a0)))] K = zj94 N a0 (fun z1 => K (.v (.one (.int .i64 z1)))) := (ve102_0 N (zj93 N) a0 K).trans (zt94 N a0 (fun z1 => K (.v (.one (.int .i64 z1))))).symm
theorem o102 {β : Type} (N : Nat) : SpecOK (β := β) inv Tryd.prog 102 (S102 N) := by
  refine spec_of lay_ok mixed (E := E102 N) (specs_loops specs_nil) muts_nil gs_nil Tryd.func102 (by kernel_rfl) 1 (by kernel_rfl) ⟨trivial, rk102_0 N⟩ fun args K r h => ?_
  unfold S102 VS102 at h
  split at h
  · exact (e102_0 N _ _).trans h
  · cases h
def VS161 {β : Type} (N : Nat) (zq95 : (a0 : Int) → (a1 : Int) → (a2 : Int) → (k0 : Int → Int → Option β) → (k1 : Int → Int → Int → Int → Int → Mp → Option β) → Option β) : GSpec β := fun args bl K => match args, bl with
  | [.v (.agg [.int .i64 a0, .int .i64 a1]), .v (.one (.int .i64 a2))], [] => zq95 a0 a1 a2 (fun y0 y1 => K (.tup [.one (.nilp), .agg [.int .i64 y0, .int .i64 y1], .one (.bool false)]) []) (fun y0 y1 y3 y4 y5 y6 => K (.tup [.one (.ptr 0 0), .agg [.int .i64 y0, .int .i64 y1], .one (.bool true)]) [.cells 187 [.int .i64 y3, .int .i64 y4, .int .i64 y5, .mp 1], .mp ⟨true, false⟩ y6])
  | _, _ => none
def S161 {β : Type} (N : Nat) : GSpec β := VS161 N (zj95 N)
def VE161 {β : Type} (N : Nat) (zq62 : (a0 : Int) → (a1 : Int) → (a2 : Int) → (k : Bool → Option β) → Option β) : Env β := ⟨[(98, VS98 N zq62)], [], [], [], ⟨[], [], [153]⟩⟩
def E161 {β : Type} (N : Nat) : Env β := VE161 N (zj62 N)
def zb95 {β : Type} (N : Nat) (zq62 : (a0 : Int) → (a1 : Int) → (a2 : Int) → (k : Bool → Option β) → Option β) (a0 : Int) (a1 : Int) (a2 : Int) (k0 : Int → Int → Option β) (k1 : Int → Int → Int → Int → Int → Mp → Option β) : Option β :=
zq62 a0 a1 a2 fun r5 =>
(cond (!r5)
(k0 0 0)
((cond ((decide (a2 > 2)))
(k0 0 0)
((cond ((decide ((w64 (a0 - a2)) > 2)))
(k0 0 0)
((gd ((decide (0 ≤ a2)))
((gd ((decide (0 ≤ (shlI .u64 1 a2))))
((gd ((decide (0 ≤ (w64 (a0 - a2)))))
((gd ((decide (0 ≤ (shlI .u64 1 (w64 (a0 - a2))))))
(k1 ((w64 ((shlI .i64 1 (shlI .u64 1 a2)) - 1))) ((w64 ((shlI .i64 1 (shlI .u64 1 (w64 (a0 - a2)))) - 1))) a0 a1 a2 (([] : Mp))))))))))))))))
theorem zt95 {β : Type} (N : Nat) (a0 : Int) (a1 : Int) (a2 : Int) (k0 : Int → Int → Option β) (k1 : Int → Int → Int → Int → Int → Mp → Option β) : zj95 N a0 a1 a2 k0 k1 = zb95 N (zj62 N) a0 a1 a2 k0 k1 := by
  unfold zj95 zb95
  rfl
theorem ve161_0 {β : Type} (N : Nat) (zq62 : (a0 : Int) → (a1 : Int) → (a2 : Int) → (k : Bool → Option β) → Option β) (a0 : Int) (a1 : Int) (a2 : Int) (K : TV → List Blk → Option β) : evFnG lay (VE161 N zq62) Tryd.f161 [.v (.agg [.int .i64 a0, .int .i64 a1]), .v (.one (.int .i64 a2))] [] K = zb95 N zq62 a0 a1 a2 (fun y0 y1 => K (.tup [.one (.nilp), .agg [.int .i64 y0, .int .i64 y1], .one (.bool false)]) []) (fun y0 y1 y3 y4 y5 y6 => K (.tup [.one (.ptr 0 0), .agg [.int .i64 y0, .int .i64 y1], .one (.bool true)]) [.cells 187 [.int .i64 y3, .int .i64 y4, .int .i64 y5, .mp 1], .mp ⟨true, false⟩ y6]) := by kernel_rfl
theorem e161_0 {β : Type} (N : Nat) (a0 : Int) (a1 : Int) (a2 : Int) (K : TV → List Blk → Option β) : evFnG lay (E161 N) Tryd.f161 [.v (.agg [.int .i64 a0, .int .i64 a1]), .v (.one (.int .i64 a2))] [] K = zj95 N a0 a1 a2 (fun y0 y1 => K (.tup [.one (.nilp), .agg [.int .i64 y0, .int .i64 y1], .one (.bool false)]) []) (fun y0 y1 y3 y4 y5 y6 => K (.tup [.one (.ptr 0 0), .agg [.int .i64 y0, .int .i64 y1], .one (.bool true)]) [.cells 187 [.int .i64 y3, .int .i64 y4, .int .i64 y5, .mp 1], .mp ⟨true, false⟩ y6]) := (ve161_0 N (zj62 N) a0 a1 a2 K).trans (zt95 N a0 a1 a2 (fun y0 y1 => K (.tup [.one (.nilp), .agg [.int .i64 y0, .int .i64 y1], .one (.bool false)]) []) (fun y0 y1 y3 y4 y5 y6 => K (.tup [.one (.ptr 0 0), .agg [.int .i64 y0, .int .i64 y1], .one (.bool true)]) [.cells 187 [.int .i64 y3, .int .i64 y4, .int .i64 y5, .mp 1], .mp ⟨true, false⟩ y6])).symm
theorem o161 {β : Type} (N : Nat) : GOK (β := β) inv Tryd.prog 161 (S161 N) := by
  refine g_of lay_ok mixed (E := E161 N) (specs_loops (specs_cons (o98 N) specs_nil)) muts_nil gs_nil Tryd.func161 (by kernel_rfl) 0 (by kernel_rfl) trivial fun args bl K r h => ?_
  unfold S161 VS161 at h
  split at h
  · exact (e161_0 N _ _ _ _).trans h
  · cases h
def VS209 {β : Type} (N : Nat) (zq99 : (a0 : Int) → (a1 : Int) → (a2 : Int) → (a3 : Int) → (k : Int → Int → Int → Int → Bool → Option β) → Option β) : Rv.Spec β := fun args K => match args with
  | [.v (.agg [.int .i64 a0, .int .i64 a1]), .v (.one (.int .u8 a2)), .v (.one (.int .i64 a3))] => zq99 a0 a1 a2 a3 (fun z4 z5 z6 z7 z8 => K (.tup [.agg [.int .i64 z4, .int .i64 z5], .agg [.int .i64 z6, .int .i64 z7], .one (.bool z8)]))
  | _ => none
def S209 {β : Type} (N : Nat) : Rv.Spec β := VS209 N (zj99 N)
def VE209 {β : Type} (N : Nat) : Env β := ⟨[], [], [], [], ⟨[], [], [153]⟩⟩
def E209 {β : Type} (N : Nat) : Env β := VE209 N
def zb99 {β : Type} (N : Nat) (a0 : Int) (a1 : Int) (a2 : Int) (a3 : Int) (k : Int → Int → Int → Int → Bool → Option β) : Option β :=
(cond ((a2 == 66))
((cond ((a3 == 0))
((zj96 false a0 a1 a0 a1
(k a0 a1 a0 a1 false)))
((cond ((a3 == a1))
((zj96 false a0 a1 a0 a1
(k a0 a1 a0 a1 false)))
((cond (((bits .andNot .i64 a3 a1) != 0))
((zj96 false a0 a1 a0 a1
(k a0 a1 a0 a1 false)))
((zj97 a2 a3 a1 0 0 0 0 a0 a1 a0 a1
((zj97 a2 a3 a1 0 0 0 0 a0 a1 a0 a1
((zj97 a2 a3 a1 0 0 0 0 a0 a1 a0 a1
((zj97 a2 a3 a1 0 0 0 0 a0 a1 a0 a1
((zj97 a2 a3 a1 0 0 0 0 a0 a1 a0 a1
((zj97 a2 a3 a1 0 0 0 0 a0 a1 a0 a1
((zj97 a2 a3 a1 0 0 0 0 a0 a1 a0 a1
((cond ((a2 == 65))
((zj98 true ((bits .andNot .i64 a1 a3)) a1 a3 a1
(k ((bits .andNot .i64 a1 a3)) a1 a3 a1 true)))
((zj98 true a0 ((bits .andNot .i64 a1 a3)) a0 a3
(k a0 ((bits .andNot .i64 a1 a3)) a0 a3 true)))))))))))))))))))))))))
((cond ((a3 == 0))
((zj96 false a0 a1 a0 a1
(k a0 a1 a0 a1 false)))
((cond ((a3 == a0))
((zj96 false a0 a1 a0 a1
(k a0 a1 a0 a1 false)))
((cond (((bits .andNot .i64 a3 a0) != 0))
((zj96 false a0 a1 a0 a1
(k a0 a1 a0 a1 false)))
((zj97 a2 a3 a0 0 0 0 0 a0 a1 a0 a1
((zj97 a2 a3 a0 0 0 0 0 a0 a1 a0 a1
((zj97 a2 a3 a0 0 0 0 0 a0 a1 a0 a1
((zj97 a2 a3 a0 0 0 0 0 a0 a1 a0 a1
((zj97 a2 a3 a0 0 0 0 0 a0 a1 a0 a1
((zj97 a2 a3 a0 0 0 0 0 a0 a1 a0 a1
((zj97 a2 a3 a0 0 0 0 0 a0 a1 a0 a1
((cond ((a2 == 65))
((zj98 true ((bits .andNot .i64 a0 a3)) a1 a3 a1
(k ((bits .andNot .i64 a0 a3)) a1 a3 a1 true)))
((zj98 true a0 ((bits .andNot .i64 a0 a3)) a0 a3
(k a0 ((bits .andNot .i64 a0 a3)) a0 a3 true))))))))))))))))))))))))))
theorem zt99 {β : Type} (N : Nat) (a0 : Int) (a1 : Int) (a2 : Int) (a3 : Int) (k : Int → Int → Int → Int → Bool → Option β) : zj99 N a0 a1 a2 a3 k = zb99 N a0 a1 a2 a3 k := by
  unfold zj99 zb99
  rfl
theorem ve209_0 {β : Type} (N : Nat)  (a0 : Int) (a1 : Int) (a2 : Int) (a3 : Int) (K : TV → Option β) : evFn lay (VE209 N) Tryd.f209 [.v (.agg [.int .i64 a0, .int .i64 a1]), .v (.one (.int .u8 a2)), .v (.one (.int .i64 a3))] K = zb99 N a0 a1 a2 a3 (fun z4 z5 z6 z7 z8 => K (.tup [.agg [.int .i64 z4, .int .i64 z5], .agg [.int .i64 z6, .int .i64 z7], .one (.bool z8)])) := by kernel_rfl
theorem e209_0 {β : Type} (N : Nat)  (a0 : Int) (a1 : Int) (a2 : Int) (a3 : Int) (K : TV → Option β) : evFn lay (E209 N) Tryd.f209 [.v (.agg [.int .i64 a0, .int .i64 a1]), .v (.one (.int .u8 a2)), .v (.one (.int .i64 a3))] K = zj99 N a0 a1 a2 a3 (fun z4 z5 z6 z7 z8 => K (.tup [.agg [.int .i64 z4, .int .i64 z5], .agg [.int .i64 z6, .int .i64 z7], .one (.bool z8)])) := (ve209_0 N a0 a1 a2 a3 K).trans (zt99 N a0 a1 a2 a3 (fun z4 z5 z6 z7 z8 => K (.tup [.agg [.int .i64 z4, .int .i64 z5], .agg [.int .i64 z6, .int .i64 z7], .one (.bool z8)]))).symm
theorem o209 {β : Type} (N : Nat) : SpecOK (β := β) inv Tryd.prog 209 (S209 N) := by
  refine spec_of lay_ok mixed (E := E209 N) (specs_loops specs_nil) muts_nil gs_nil Tryd.func209 (by kernel_rfl) 0 (by kernel_rfl) trivial fun args K r h => ?_
  unfold S209 VS209 at h
  split at h
  · exact (e209_0 N _ _ _ _ _).trans h
  · cases h
def VS208 {β : Type} (N : Nat) (zq102 : (a0 : Int) → (a1 : Int) → (a2 : Int) → (a3 : Int) → (a4 : Int) → (a5 : Mp) → (k0 : Int → Int → Int → Int → Mp → Option β) → Option β) : GSpec β := fun args bl K => match args, bl with
  | [.v (.one (.ptr 0 0)), .v (.agg [.int .i64 a0, .int .i64 a1])], [.pcells 0 187 [.int .i64 a2, .int .i64 a3, .int .i64 a4, .mp 1], .pmp 1 ⟨true, false⟩ a5] => zq102 a0 a1 a2 a3 a4 a5 (fun y0 y1 y2 y3 y4 => K (.v (.one (.int .i64 y0))) [.pcells 0 187 [.int .i64 y1, .int .i64 y2, .int .i64 y3, .mp 1], .pmp 1 ⟨true, false⟩ y4])
  | _, _ => none
def S208 {β : Type} (N : Nat) : GSpec β := VS208 N (zj102 N)
def h208_0_0  (v0 : Int) (v1 : Int) (v2 : Int) (v3 : Int) (v4 : Int) (v5 : Int) (v6 : Mp) (v7 : Int) (v8 : Int) : St := ⟨.v (.one (.ptr 0 0)) :: tund :: tund :: .v (.one (.ptr 2 0)) :: tund :: .v (.one (.int .i64 v0)) :: tund :: tund :: tund :: tund :: tund :: .v (.one (.int .i64 v1)) :: .v (.one (.int .i64 v2)) :: tund :: tund :: tund :: tund :: tund :: tund :: tund :: tund :: tund :: tund :: tund :: tund :: tund :: tund :: tund :: tund :: tund :: tund :: tund :: tund :: tund :: tund :: tund :: tund :: tund :: tund :: tund :: tund :: tund :: tund :: tund :: tund :: tund :: tund :: tund :: tund :: tund :: tund :: tund :: tund :: tund :: tund :: tund :: tund :: tund :: tund :: tund :: tund :: [], [.pcells 0 187 [.int .i64 v3, .int .i64 v4, .int .i64 v5, .mp 1], .pmp 1 ⟨true, false⟩ v6, .cells 141 [.int .i64 v7, .int .i64 v8]]⟩
def x208_0_0_k0  (y0 : Int) (y1 : Int) (y2 : Int) (y3 : Int) (y4 : Mp) : St := ⟨tund :: tund :: tund :: tund :: .v (.one (.int .i64 y0)) :: tund :: tund :: tund :: tund :: tund :: tund :: tund :: tund :: tund :: tund :: tund :: tund :: tund :: tund :: tund :: tund :: tund :: tund :: tund :: tund :: tund :: tund :: tund :: tund :: tund :: tund :: tund :: tund :: tund :: tund :: tund :: tund :: tund :: tund :: tund :: tund :: tund :: tund :: tund :: tund :: tund :: tund :: tund :: tund :: tund :: tund :: tund :: tund :: tund :: tund :: tund :: tund :: tund :: tund :: tund :: tund :: [], [.pcells 0 187 [.int .i64 y1, .int .i64 y2, .int .i64 y3, .mp 1], .pmp 1 ⟨true, false⟩ y4]⟩
def x208_0_0_k1  (y0 : Int) (y1 : Int) (y2 : Int) (y3 : Int) (y4 : Mp) : St := ⟨tund :: tund :: tund :: tund :: tund :: .v (.one (.int .i64 y0)) :: tund :: tund :: tund :: tund :: tund :: tund :: tund :: tund :: tund :: tund :: tund :: tund :: tund :: tund :: tund :: tund :: tund :: tund :: tund :: tund :: tund :: tund :: tund :: tund :: tund :: tund :: tund :: tund :: tund :: tund :: tund :: tund :: tund :: tund :: tund :: tund :: tund :: tund :: tund :: tund :: tund :: tund :: tund :: tund :: tund :: tund :: tund :: tund :: tund :: tund :: tund :: tund :: tund :: tund :: tund :: [], [.pcells 0 187 [.int .i64 y1, .int .i64 y2, .int .i64 y3, .mp 1], .pmp 1 ⟨true, false⟩ y4]⟩
theorem fl208_0_0 (s : St) : refSt (h208_0_0 0 0 0 0 0 0 [] 0 0) s = h208_0_0 (intS (oneA (vT (nx tund s.tmps 5)))) (intS (oneA (vT (nx tund s.tmps 11)))) (intS (oneA (vT (nx tund s.tmps 12)))) (intS (nx .und (cellsB (nx .dead s.blks 0)) 0)) (intS (nx .und (cellsB (nx .dead s.blks 0)) 1)) (intS (nx .und (cellsB (nx .dead s.blks 0)) 2)) (mpB (nx .dead s.blks 1)) (intS (nx .und (cellsB (nx .dead s.blks 2)) 0)) (intS (nx .und (cellsB (nx .dead s.blks 2)) 1)) := by kernel_rfl
def VLS208_0 {β : Type} (N : Nat) (zq101 : Nat → Int → Int → Int → Int → Int → Int → Mp → Int → Int → (Int → Int → Int → Int → Mp → Option β) → (Int → Int → Int → Int → Mp → Option β) → Option β) : LSpec β := fun s K => cond (shpSt (h208_0_0 0 0 0 0 0 0 [] 0 0) s) ((fun (v0 : Int) (v1 : Int) (v2 : Int) (v3 : Int) (v4 : Int) (v5 : Int) (v6 : Mp) (v7 : Int) (v8 : Int) => zq101  N v0 v1 v2 v3 v4 v5 v6 v7 v8 (fun y0 y1 y2 y3 y4 => K .ret (x208_0_0_k0  y0 y1 y2 y3 y4)) (fun y0 y1 y2 y3 y4 => K (.exit 0) (x208_0_0_k1  y0 y1 y2 y3 y4))) (intS (oneA (vT (nx tund s.tmps 5)))) (intS (oneA (vT (nx tund s.tmps 11)))) (intS (oneA (vT (nx tund s.tmps 12)))) (intS (nx .und (cellsB (nx .dead s.blks 0)) 0)) (intS (nx .und (cellsB (nx .dead s.blks 0)) 1)) (intS (nx .und (cellsB (nx .dead s.blks 0)) 2)) (mpB (nx .dead s.blks 1)) (intS (nx .und (cellsB (nx .dead s.blks 2)) 0)) (intS (nx .und (cellsB (nx .dead s.blks 2)) 1))) (none)
def LS208_0 {β : Type} (N : Nat) : LSpec β := VLS208_0 N (zj101 N)
def VE208 {β : Type} (N : Nat) (zq60 : (a0 : Int) → (a1 : Int) → (k : Int → Option β) → Option β) (zq63 : (a0 : Int) → (a1 : Int) → (a2 : Int) → (k : Int → Option β) → Option β) (zq101 : Nat → Int → Int → Int → Int → Int → Int → Mp → Int → Int → (Int → Int → Int → Int → Mp → Option β) → (Int → Int → Int → Int → Mp → Option β) → Option β) : Env β := ⟨[(125, VS125 N zq60), (128, VS128 N zq63)], [], [(0, VLS208_0 N zq101)], [], ⟨[], [], [153]⟩⟩
def E208 {β : Type} (N : Nat) : Env β := VE208 N (zj60 N) (zj63 N) (zj101 N)
def zb100 {β : Type} (N : Nat) (zq63 : (a0 : Int) → (a1 : Int) → (a2 : Int) → (k : Int → Option β) → Option β)  (v0 : Int) (v1 : Int) (v2 : Int) (v3 : Int) (v4 : Int) (v5 : Int) (v6 : Mp) (v7 : Int) (v8 : Int) (rec_ : Int → Int → Int → Int → Int → Int → Mp → Int → Int → Option β) (k0 : Int → Int → Int → Int → Mp → Option β) (k1 : Int → Int → Int → Int → Mp → Option β) : Option β :=
(cond ((decide (v2 < v1)))
((gd ((decide (0 ≤ v5)))
((gd ((decide (0 ≤ (bits .and .i64 v2 (w64 ((shlI .i64 1 v5) - 1))))))
((cond (((bits .and .i64 (shrI .i64 v7 (bits .and .i64 v2 (w64 ((shlI .i64 1 v5) - 1)))) 1) == 0))
(rec_ v0 v1 ((w64 (v2 + 1))) v3 v4 v5 v6 v7 v8)
((gd ((decide (0 ≤ v5)))
((gd ((decide (0 ≤ (shrI .i64 v2 v5))))
((cond (((bits .and .i64 (shrI .i64 v8 (shrI .i64 v2 v5)) 1) == 0))
(rec_ v0 v1 ((w64 (v2 + 1))) v3 v4 v5 v6 v7 v8)
((cond ((decide (v0 ≥ 0)))
(zq63 v3 v4 v2 fun r9 =>
(cond ((r9 != v0))
(k0 (-1) v3 v4 v5 v6)
(zq63 v3 v4 v2 fun r10 =>
rec_ r10 v1 ((w64 (v2 + 1))) v3 v4 v5 v6 v7 v8)))
(zq63 v3 v4 v2 fun r11 =>
rec_ r11 v1 ((w64 (v2 + 1))) v3 v4 v5 v6 v7 v8)))))))))))))))
(k1 v0 v3 v4 v5 v6))
theorem zt100 {β : Type} (N : Nat)  (v0 : Int) (v1 : Int) (v2 : Int) (v3 : Int) (v4 : Int) (v5 : Int) (v6 : Mp) (v7 : Int) (v8 : Int) (rec_ : Int → Int → Int → Int → Int → Int → Mp → Int → Int → Option β) (k0 : Int → Int → Int → Int → Mp → Option β) (k1 : Int → Int → Int → Int → Mp → Option β) : zj100 N v0 v1 v2 v3 v4 v5 v6 v7 v8 rec_ k0 k1 = zb100 N (zj63 N) v0 v1 v2 v3 v4 v5 v6 v7 v8 rec_ k0 k1 := by
  unfold zj100 zb100
  rfl
theorem vst208_0_0 {β : Type} (N : Nat) (zq60 : (a0 : Int) → (a1 : Int) → (k : Int → Option β) → Option β) (zq63 : (a0 : Int) → (a1 : Int) → (a2 : Int) → (k : Int → Option β) → Option β) (zq101 : Nat → Int → Int → Int → Int → Int → Int → Mp → Int → Int → (Int → Int → Int → Int → Mp → Option β) → (Int → Int → Int → Int → Mp → Option β) → Option β)  (v0 : Int) (v1 : Int) (v2 : Int) (v3 : Int) (v4 : Int) (v5 : Int) (v6 : Mp) (v7 : Int) (v8 : Int) (rec_ : St → Option β) (K : Exit → St → Option β) :
    ev lay (VE208 N zq60 zq63 zq101) (retMask Tryd.f208) (lp Tryd.f208 0).body (lp Tryd.f208 0).ex ((lp Tryd.f208 0).lv (retMask Tryd.f208)) (h208_0_0  v0 v1 v2 v3 v4 v5 v6 v7 v8) (nextR (fun s' => rec_ (s'.tidy ((lp Tryd.f208 0).lv (retMask Tryd.f208)))) K) = zb100 N zq63  v0 v1 v2 v3 v4 v5 v6 v7 v8 (fun v0 v1 v2 v3 v4 v5 v6 v7 v8 => rec_ (h208_0_0  v0 v1 v2 v3 v4 v5 v6 v7 v8)) (fun y0 y1 y2 y3 y4 => K .ret (x208_0_0_k0  y0 y1 y2 y3 y4)) (fun y0 y1 y2 y3 y4 => K (.exit 0) (x208_0_0_k1  y0 y1 y2 y3 y4)) := by kernel_rfl
theorem st208_0_0 {β : Type} (N : Nat)  (v0 : Int) (v1 : Int) (v2 : Int) (v3 : Int) (v4 : Int) (v5 : Int) (v6 : Mp) (v7 : Int) (v8 : Int) (rec_ : St → Option β) (K : Exit → St → Option β) :
    ev lay (E208 N) (retMask Tryd.f208) (lp Tryd.f208 0).body (lp Tryd.f208 0).ex ((lp Tryd.f208 0).lv (retMask Tryd.f208)) (h208_0_0  v0 v1 v2 v3 v4 v5 v6 v7 v8) (nextR (fun s' => rec_ (s'.tidy ((lp Tryd.f208 0).lv (retMask Tryd.f208)))) K) = zj100 N  v0 v1 v2 v3 v4 v5 v6 v7 v8 (fun v0 v1 v2 v3 v4 v5 v6 v7 v8 => rec_ (h208_0_0  v0 v1 v2 v3 v4 v5 v6 v7 v8)) (fun y0 y1 y2 y3 y4 => K .ret (x208_0_0_k0  y0 y1 y2 y3 y4)) (fun y0 y1 y2 y3 y4 => K (.exit 0) (x208_0_0_k1  y0 y1 y2 y3 y4)) := (vst208_0_0 N (zj60 N) (zj63 N) (zj101 N) v0 v1 v2 v3 v4 v5 v6 v7 v8 rec_ K).trans (zt100 N  v0 v1 v2 v3 v4 v5 v6 v7 v8 (fun v0 v1 v2 v3 v4 v5 v6 v7 v8 => rec_ (h208_0_0  v0 v1 v2 v3 v4 v5 v6 v7 v8)) (fun y0 y1 y2 y3 y4 => K .ret (x208_0_0_k0  y0 y1 y2 y3 y4)) (fun y0 y1 y2 y3 y4 => K (.exit 0) (x208_0_0_k1  y0 y1 y2 y3 y4))).symm
theorem ro208_0_0 {β : Type} (N : Nat)  (K : Exit → St → Option β) : ∀ (F : Nat) (v0 : Int) (v1 : Int) (v2 : Int) (v3 : Int) (v4 : Int) (v5 : Int) (v6 : Mp) (v7 : Int) (v8 : Int), (lp Tryd.f208 0).rounds lay (E208 N) (retMask Tryd.f208) F (h208_0_0  v0 v1 v2 v3 v4 v5 v6 v7 v8) K = zj101 N  F v0 v1 v2 v3 v4 v5 v6 v7 v8 (fun y0 y1 y2 y3 y4 => K .ret (x208_0_0_k0  y0 y1 y2 y3 y4)) (fun y0 y1 y2 y3 y4 => K (.exit 0) (x208_0_0_k1  y0 y1 y2 y3 y4)) := by
  intro F
  induction F with
  | zero => intros; rfl
  | succ F ih =>
    intros
    rw [rounds_next]
    refine (st208_0_0 N  _ _ _ _ _ _ _ _ _ (fun s => (lp Tryd.f208 0).rounds lay (E208 N) (retMask Tryd.f208) F s K) K).trans ?_
    simp only [ih]
    rfl
theorem lk208_0 {β : Type} (N : Nat) : lookL (E208 (β := β) N).loops (lp Tryd.f208 0).id = LS208_0 N := by kernel_rfl
theorem rk208_0 {β : Type} (N : Nat) : RoundsOK lay (E208 (β := β) N) (retMask Tryd.f208) (lp Tryd.f208 0) := by
  intro s K r h
  rw [lk208_0] at h
  unfold LS208_0 VLS208_0 at h
  cases hb : shpSt (h208_0_0 0 0 0 0 0 0 [] 0 0) s with
  | true =>
    rw [hb, cond_true] at h
    exact ⟨N, by rw [← shpSt_ref hb, fl208_0_0 s]; exact (ro208_0_0 N  K N (intS (oneA (vT (nx tund s.tmps 5)))) (intS (oneA (vT (nx tund s.tmps 11)))) (intS (oneA (vT (nx tund s.tmps 12)))) (intS (nx .und (cellsB (nx .dead s.blks 0)) 0)) (intS (nx .und (cellsB (nx .dead s.blks 0)) 1)) (intS (nx .und (cellsB (nx .dead s.blks 0)) 2)) (mpB (nx .dead s.blks 1)) (intS (nx .und (cellsB (nx .dead s.blks 2)) 0)) (intS (nx .und (cellsB (nx .dead s.blks 2)) 1))).trans h⟩
  | false =>
  rw [hb, cond_false] at h
  clear hb
  cases h
def zb102 {β : Type} (N : Nat) (zq60 : (a0 : Int) → (a1 : Int) → (k : Int → Option β) → Option β) (zq101 : Nat → Int → Int → Int → Int → Int → Int → Mp → Int → Int → (Int → Int → Int → Int → Mp → Option β) → (Int → Int → Int → Int → Mp → Option β) → Option β) (a0 : Int) (a1 : Int) (a2 : Int) (a3 : Int) (a4 : Int) (a5 : Mp) (k0 : Int → Int → Int → Int → Mp → Option β) : Option β :=
zq60 a2 a3 fun r8 =>
zq101  N (-1) r8 0 a2 a3 a4 a5 a0 a1 (fun e12_0 e12_1 e12_2 e12_3 e12_4 =>
k0 e12_0 e12_1 e12_2 e12_3 e12_4) (fun e13_0 e13_1 e13_2 e13_3 e13_4 =>
k0 e13_0 e13_1 e13_2 e13_3 e13_4)
theorem zt102 {β : Type} (N : Nat) (a0 : Int) (a1 : Int) (a2 : Int) (a3 : Int) (a4 : Int) (a5 : Mp) (k0 : Int → Int → Int → Int → Mp → Option β) : zj102 N a0 a1 a2 a3 a4 a5 k0 = zb102 N (zj60 N) (zj101 N) a0 a1 a2 a3 a4 a5 k0 := by
  unfold zj102 zb102
  rfl
theorem ve208_0 {β : Type} (N : Nat) (zq60 : (a0 : Int) → (a1 : Int) → (k : Int → Option β) → Option β) (zq63 : (a0 : Int) → (a1 : Int) → (a2 : Int) → (k : Int → Option β) → Option β) (zq101 : Nat → Int → Int → Int → Int → Int → Int → Mp → Int → Int → (Int → Int → Int → Int → Mp → Option β) → (Int → Int → Int → Int → Mp → Option β) → Option β) (a0 : Int) (a1 : Int) (a2 : Int) (a3 : Int) (a4 : Int) (a5 : Mp) (K : TV → List Blk → Option β) : evFnG lay (VE208 N zq60 zq63 zq101) Tryd.f208 [.v (.one (.ptr 0 0)), .v (.agg [.int .i64 a0, .int .i64 a1])] [.pcells 0 187 [.int .i64 a2, .int .i64 a3, .int .i64 a4, .mp 1], .pmp 1 ⟨true, false⟩ a5] K = zb102 N zq60 zq101 a0 a1 a2 a3 a4 a5 (fun y0 y1 y2 y3 y4 => K (.v (.one (.int .i64 y0))) [.pcells 0 187 [.int .i64 y1, .int .i64 y2, .int .i64 y3, .mp 1], .pmp 1 ⟨true, false⟩ y4]) := by kernel_rfl
theorem e208_0 {β : Type} (N : Nat) (a0 : Int) (a1 : Int) (a2 : Int) (a3 : Int) (a4 : Int) (a5 : Mp) (K : TV → List Blk → Option β) : evFnG lay (E208 N) Tryd.f208 [.v (.one (.ptr 0 0)), .v (.agg [.int .i64 a0, .int .i64 a1])] [.pcells 0 187 [.int .i64 a2, .int .i64 a3, .int .i64 a4, .mp 1], .pmp 1 ⟨true, false⟩ a5] K = zj102 N a0 a1 a2 a3 a4 a5 (fun y0 y1 y2 y3 y4 => K (.v (.one (.int .i64 y0))) [.pcells 0 187 [.int .i64 y1, .int .i64 y2, .int .i64 y3, .mp 1], .pmp 1 ⟨true, false⟩ y4]) := (ve208_0 N (zj60 N) (zj63 N) (zj101 N) a0 a1 a2 a3 a4 a5 K).trans (zt102 N a0 a1 a2 a3 a4 a5 (fun y0 y1 y2 y3 y4 => K (.v (.one (.int .i64 y0))) [.pcells 0 187 [.int .i64 y1, .int .i64 y2, .int .i64 y3, .mp 1], .pmp 1 ⟨true, false⟩ y4])).symm
theorem o208 {β : Type} (N : Nat) : GOK (β := β) inv Tryd.prog 208 (S208 N) := by
  refine g_of lay_ok mixed (E := E208 N) (specs_loops (specs_cons (o125 N) (specs_cons (o128 N) specs_nil))) muts_nil gs_nil Tryd.func208 (by kernel_rfl) 1 (by kernel_rfl) ⟨trivial, rk208_0 N⟩ fun args bl K r h => ?_
  unfold S208 VS208 at h
  split at h
  · exact (e208_0 N _ _ _ _ _ _ _).trans h
  · cases h
end Go.Proofs.YtfdggelojmofmaaDoor
