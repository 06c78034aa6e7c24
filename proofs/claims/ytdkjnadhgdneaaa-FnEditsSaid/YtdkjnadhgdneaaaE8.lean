/- The functions that the claims reach answer as their texts do. -/
import Derived.Test.YtdkjnadhgdneaaaE7
namespace Go.Proofs.Ytdkjnadhgdneaaa
open Go.Rv
set_option maxRecDepth 100000
set_option maxHeartbeats 2000000
set_option linter.unusedVariables false
def VS22 {β : Type} (N : Nat) (q_spec_DrawEqualKept_g0 : (a0 : List Int) → (k0 : Int → Int → Int → Int → Int → Int → List Int → Option β) → (k1 : Int → Int → Int → Int → Int → Int → List Int → List Int → Option β) → Option β) : GSpec β := fun args bl K => match args, bl with
  | [.v (.one (.sl 5 (.ints .u8 a0)))], [] => q_spec_DrawEqualKept_g0 a0 (fun y0 y1 y2 y3 y4 y5 y6 => K (.tup [.agg [.int .i64 y0, .int .i64 y1, .int .i64 y2, .row 0], .agg [.int .i64 y3, .int .i64 y4, .int .i64 y5, .row 0]]) [.row 3 (.ints .i64 y6)]) (fun y0 y1 y2 y3 y4 y5 y6 y7 => K (.tup [.agg [.int .i64 y0, .int .i64 y1, .int .i64 y2, .row 0], .agg [.int .i64 y3, .int .i64 y4, .int .i64 y5, .row 1]]) [.row 3 (.ints .i64 y6), .row 3 (.ints .i64 y7)])
  | _, _ => none
def S22 {β : Type} (N : Nat) : GSpec β := VS22 N (spec_DrawEqualKept_g0 N)
def VE22 {β : Type} (N : Nat) (q_spec_l1New_g0 : (a0 : List Int) → (k0 : List Int → Int → Int → Option β) → Option β) (q_spec_l30Draw_g0 : (a0 : List Int) → (a1 : Int) → (a2 : Int) → (k0 : Int → Int → Int → List Int → Int → Int → List Int → Option β) → Option β) (q_spec_l1Once_g0 : (a0 : Int) → (a1 : List Int) → (a2 : Int) → (a3 : Int) → (k0 : Bool → List Int → Int → Int → Option β) → Option β) : Env β := ⟨[], [], [], [(55, VS55 N q_spec_l1New_g0), (56, VS56 N q_spec_l30Draw_g0), (65, VS65 N q_spec_l1Once_g0)]⟩
def E22 {β : Type} (N : Nat) : Env β := VE22 N (spec_l1New_g0 N) (spec_l30Draw_g0 N) (spec_l1Once_g0 N)
def BV_spec_DrawEqualKept_g0 {β : Type} (N : Nat) (q_spec_l1New_g0 : (a0 : List Int) → (k0 : List Int → Int → Int → Option β) → Option β) (q_spec_l30Draw_g0 : (a0 : List Int) → (a1 : Int) → (a2 : Int) → (k0 : Int → Int → Int → List Int → Int → Int → List Int → Option β) → Option β) (q_spec_l1Once_g0 : (a0 : Int) → (a1 : List Int) → (a2 : Int) → (a3 : Int) → (k0 : Bool → List Int → Int → Int → Option β) → Option β) (a0 : List Int) (k0 : Int → Int → Int → Int → Int → Int → List Int → Option β) (k1 : Int → Int → Int → Int → Int → Int → List Int → List Int → Option β) : Option β :=
q_spec_l1New_g0 a0 (fun r65_0 r65_1 r65_2 =>
q_spec_l30Draw_g0 r65_0 r65_1 r65_2 (fun r107_0 r107_1 r107_2 r107_3 r107_4 r107_5 r107_6 =>
q_spec_l1Once_g0 2 r107_3 r107_4 r107_5 (fun r109_0 r109_1 r109_2 r109_3 =>
(cond r109_0
((spec_DrawEqualKept_s4 r107_0 r107_1 r107_2 r107_0 r107_1 r107_2 r107_6
(k0 r107_0 r107_1 r107_2 r107_0 r107_1 r107_2 r107_6)))
(q_spec_l30Draw_g0 r109_1 r109_2 r109_3 (fun r110_0 r110_1 r110_2 r110_3 r110_4 r110_5 r110_6 =>
k1 r107_0 r107_1 r107_2 r110_0 r110_1 r110_2 r107_6 r110_6))))))
theorem t_spec_DrawEqualKept_g0 {β : Type} (N : Nat) (a0 : List Int) (k0 : Int → Int → Int → Int → Int → Int → List Int → Option β) (k1 : Int → Int → Int → Int → Int → Int → List Int → List Int → Option β) : spec_DrawEqualKept_g0 N a0 k0 k1 = BV_spec_DrawEqualKept_g0 N (spec_l1New_g0 N) (spec_l30Draw_g0 N) (spec_l1Once_g0 N) a0 k0 k1 := by
  unfold spec_DrawEqualKept_g0 BV_spec_DrawEqualKept_g0
  rfl
theorem ve22_0 {β : Type} (N : Nat) (q_spec_l1New_g0 : (a0 : List Int) → (k0 : List Int → Int → Int → Option β) → Option β) (q_spec_l30Draw_g0 : (a0 : List Int) → (a1 : Int) → (a2 : Int) → (k0 : Int → Int → Int → List Int → Int → Int → List Int → Option β) → Option β) (q_spec_l1Once_g0 : (a0 : Int) → (a1 : List Int) → (a2 : Int) → (a3 : Int) → (k0 : Bool → List Int → Int → Int → Option β) → Option β) (a0 : List Int) (K : TV → List Blk → Option β) : evFnG lay (VE22 N q_spec_l1New_g0 q_spec_l30Draw_g0 q_spec_l1Once_g0) Try.f22 [.v (.one (.sl 5 (.ints .u8 a0)))] [] K = BV_spec_DrawEqualKept_g0 N q_spec_l1New_g0 q_spec_l30Draw_g0 q_spec_l1Once_g0 a0 (fun y0 y1 y2 y3 y4 y5 y6 => K (.tup [.agg [.int .i64 y0, .int .i64 y1, .int .i64 y2, .row 0], .agg [.int .i64 y3, .int .i64 y4, .int .i64 y5, .row 0]]) [.row 3 (.ints .i64 y6)]) (fun y0 y1 y2 y3 y4 y5 y6 y7 => K (.tup [.agg [.int .i64 y0, .int .i64 y1, .int .i64 y2, .row 0], .agg [.int .i64 y3, .int .i64 y4, .int .i64 y5, .row 1]]) [.row 3 (.ints .i64 y6), .row 3 (.ints .i64 y7)]) := by kernel_rfl
theorem e22_0 {β : Type} (N : Nat) (a0 : List Int) (K : TV → List Blk → Option β) : evFnG lay (E22 N) Try.f22 [.v (.one (.sl 5 (.ints .u8 a0)))] [] K = spec_DrawEqualKept_g0 N a0 (fun y0 y1 y2 y3 y4 y5 y6 => K (.tup [.agg [.int .i64 y0, .int .i64 y1, .int .i64 y2, .row 0], .agg [.int .i64 y3, .int .i64 y4, .int .i64 y5, .row 0]]) [.row 3 (.ints .i64 y6)]) (fun y0 y1 y2 y3 y4 y5 y6 y7 => K (.tup [.agg [.int .i64 y0, .int .i64 y1, .int .i64 y2, .row 0], .agg [.int .i64 y3, .int .i64 y4, .int .i64 y5, .row 1]]) [.row 3 (.ints .i64 y6), .row 3 (.ints .i64 y7)]) := (ve22_0 N (spec_l1New_g0 N) (spec_l30Draw_g0 N) (spec_l1Once_g0 N) a0 K).trans (t_spec_DrawEqualKept_g0 N a0 (fun y0 y1 y2 y3 y4 y5 y6 => K (.tup [.agg [.int .i64 y0, .int .i64 y1, .int .i64 y2, .row 0], .agg [.int .i64 y3, .int .i64 y4, .int .i64 y5, .row 0]]) [.row 3 (.ints .i64 y6)]) (fun y0 y1 y2 y3 y4 y5 y6 y7 => K (.tup [.agg [.int .i64 y0, .int .i64 y1, .int .i64 y2, .row 0], .agg [.int .i64 y3, .int .i64 y4, .int .i64 y5, .row 1]]) [.row 3 (.ints .i64 y6), .row 3 (.ints .i64 y7)])).symm
theorem o22 {β : Type} (N : Nat) : GOK (β := β) Try.prog 22 (S22 N) := by
  refine g_of lay_ok mixed (E := E22 N) (specs_loops specs_nil) muts_nil (gs_cons (o55 N) (gs_cons (o56 N) (gs_cons (o65 N) gs_nil))) Try.func22 (by kernel_rfl) 0 (by kernel_rfl) trivial fun args bl K r h => ?_
  unfold S22 VS22 at h
  split at h
  · exact (e22_0 N _ _).trans h
  · cases h
def VS3 {β : Type} (N : Nat) (q_laws_FnEdits : (a0 : List Int) → (k : Bool → Option β) → Option β) : Rv.Spec β := fun args K => match args with
  | [.v (.one (.sl 5 (.ints .u8 a0)))] => q_laws_FnEdits a0 (fun z1 => K (.v (.one (.bool z1))))
  | _ => none
def S3 {β : Type} (N : Nat) : Rv.Spec β := VS3 N (laws_FnEdits N)
def VE3 {β : Type} (N : Nat) (q_laws_big : (a0 : List Int) → (k : Bool → Option β) → Option β) (q_spec_DrawFlipAt : (a0 : List Int) → (k : Int → Int → Int → List Int → Int → Option β) → Option β) (q_impl_FlipAt : (a0 : Int) → (a1 : Int) → (a2 : Int) → (a3 : List Int) → (a4 : Int) → (k : Int → Int → Int → List Int → Bool → Option β) → Option β) (q_spec_FlipAt : (a0 : Int) → (a1 : Int) → (a2 : Int) → (a3 : List Int) → (a4 : Int) → (k : Int → Int → Int → List Int → Bool → Option β) → Option β) (q_spec_EqualKept : (a0 : Int) → (a1 : Int) → (a2 : Int) → (a3 : List Int) → (a4 : Int) → (a5 : Int) → (a6 : Int) → (a7 : List Int) → (k : Bool → Option β) → Option β) (q_impl_NewKept : (a0 : Int) → (a1 : Int) → (k : Int → Int → Int → List Int → Bool → Option β) → Option β) (q_impl_IsKept : (a0 : Int) → (a1 : Int) → (a2 : Int) → (a3 : List Int) → (k : Bool → Option β) → Option β) (q_impl_DistanceBetween : (a0 : Int) → (a1 : Int) → (a2 : Int) → (a3 : Int) → (k : Int → Option β) → Option β) (q_spec_DrawFlipAll : (a0 : List Int) → (k : Int → Int → Int → List Int → List Int → Option β) → Option β) (q_impl_FlipAll : (a0 : Int) → (a1 : Int) → (a2 : Int) → (a3 : List Int) → (a4 : List Int) → (k : Int → Int → Int → List Int → Bool → Option β) → Option β) (q_spec_FlipAll : (a0 : Int) → (a1 : Int) → (a2 : Int) → (a3 : List Int) → (a4 : List Int) → (k : Int → Int → Int → List Int → Bool → Option β) → Option β) (q_spec_DrawIsKept : (a0 : List Int) → (k : Int → Int → Int → List Int → Option β) → Option β) (q_spec_DrawNewKept : (a0 : List Int) → (k : Int → Int → Option β) → Option β) (q_spec_NewKept : (a0 : Int) → (a1 : Int) → (k : Int → Int → Int → List Int → Bool → Option β) → Option β) (q_spec_IsKept : (a0 : Int) → (a1 : Int) → (a2 : Int) → (a3 : List Int) → (k : Bool → Option β) → Option β) (q_impl_EqualKept : (a0 : Int) → (a1 : Int) → (a2 : Int) → (a3 : List Int) → (a4 : Int) → (a5 : Int) → (a6 : Int) → (a7 : List Int) → (k : Bool → Option β) → Option β) (q_spec_DrawEqualKept_g0 : (a0 : List Int) → (k0 : Int → Int → Int → Int → Int → Int → List Int → Option β) → (k1 : Int → Int → Int → Int → Int → Int → List Int → List Int → Option β) → Option β) : Env β := ⟨[(8, VS8 N q_laws_big), (9, VS9 N q_spec_DrawFlipAt), (10, VS10 N q_impl_FlipAt), (11, VS11 N q_spec_FlipAt), (12, VS12 N q_spec_EqualKept), (13, VS13 N q_impl_NewKept), (14, VS14 N q_impl_IsKept), (15, VS15 N q_impl_DistanceBetween), (16, VS16 N q_spec_DrawFlipAll), (17, VS17 N q_impl_FlipAll), (18, VS18 N q_spec_FlipAll), (19, VS19 N q_spec_DrawIsKept), (20, VS20 N q_spec_DrawNewKept), (21, VS21 N q_spec_NewKept), (23, VS23 N q_spec_IsKept), (24, VS24 N q_impl_EqualKept)], [], [], [(22, VS22 N q_spec_DrawEqualKept_g0)]⟩
def E3 {β : Type} (N : Nat) : Env β := VE3 N (laws_big N) (spec_DrawFlipAt N) (impl_FlipAt N) (spec_FlipAt N) (spec_EqualKept N) (impl_NewKept N) (impl_IsKept N) (impl_DistanceBetween N) (spec_DrawFlipAll N) (impl_FlipAll N) (spec_FlipAll N) (spec_DrawIsKept N) (spec_DrawNewKept N) (spec_NewKept N) (spec_IsKept N) (impl_EqualKept N) (spec_DrawEqualKept_g0 N)
def BV_laws_FnEdits {β : Type} (N : Nat) (q_laws_big : (a0 : List Int) → (k : Bool → Option β) → Option β) (q_spec_DrawFlipAt : (a0 : List Int) → (k : Int → Int → Int → List Int → Int → Option β) → Option β) (q_impl_FlipAt : (a0 : Int) → (a1 : Int) → (a2 : Int) → (a3 : List Int) → (a4 : Int) → (k : Int → Int → Int → List Int → Bool → Option β) → Option β) (q_spec_FlipAt : (a0 : Int) → (a1 : Int) → (a2 : Int) → (a3 : List Int) → (a4 : Int) → (k : Int → Int → Int → List Int → Bool → Option β) → Option β) (q_spec_EqualKept : (a0 : Int) → (a1 : Int) → (a2 : Int) → (a3 : List Int) → (a4 : Int) → (a5 : Int) → (a6 : Int) → (a7 : List Int) → (k : Bool → Option β) → Option β) (q_impl_NewKept : (a0 : Int) → (a1 : Int) → (k : Int → Int → Int → List Int → Bool → Option β) → Option β) (q_impl_IsKept : (a0 : Int) → (a1 : Int) → (a2 : Int) → (a3 : List Int) → (k : Bool → Option β) → Option β) (q_impl_DistanceBetween : (a0 : Int) → (a1 : Int) → (a2 : Int) → (a3 : Int) → (k : Int → Option β) → Option β) (q_spec_DrawFlipAll : (a0 : List Int) → (k : Int → Int → Int → List Int → List Int → Option β) → Option β) (q_impl_FlipAll : (a0 : Int) → (a1 : Int) → (a2 : Int) → (a3 : List Int) → (a4 : List Int) → (k : Int → Int → Int → List Int → Bool → Option β) → Option β) (q_spec_FlipAll : (a0 : Int) → (a1 : Int) → (a2 : Int) → (a3 : List Int) → (a4 : List Int) → (k : Int → Int → Int → List Int → Bool → Option β) → Option β) (q_spec_DrawIsKept : (a0 : List Int) → (k : Int → Int → Int → List Int → Option β) → Option β) (q_spec_DrawNewKept : (a0 : List Int) → (k : Int → Int → Option β) → Option β) (q_spec_NewKept : (a0 : Int) → (a1 : Int) → (k : Int → Int → Int → List Int → Bool → Option β) → Option β) (q_spec_DrawEqualKept_g0 : (a0 : List Int) → (k0 : Int → Int → Int → Int → Int → Int → List Int → Option β) → (k1 : Int → Int → Int → Int → Int → Int → List Int → List Int → Option β) → Option β) (q_spec_IsKept : (a0 : Int) → (a1 : Int) → (a2 : Int) → (a3 : List Int) → (k : Bool → Option β) → Option β) (q_impl_EqualKept : (a0 : Int) → (a1 : Int) → (a2 : Int) → (a3 : List Int) → (a4 : Int) → (a5 : Int) → (a6 : Int) → (a7 : List Int) → (k : Bool → Option β) → Option β) (a0 : List Int) (k : Bool → Option β) : Option β :=
q_laws_big a0 fun r2 =>
(cond r2
(k true)
(q_spec_DrawFlipAt a0 fun r3 r4 r5 r6 r7 =>
q_impl_FlipAt r3 r4 r5 r6 r7 fun r8 r9 r10 r11 r12 =>
q_spec_FlipAt r3 r4 r5 r6 r7 fun r13 r14 r15 r16 r17 =>
(cond ((!(r12 == r17)))
(k false)
(q_spec_EqualKept r8 r9 r10 r11 r13 r14 r15 r16 fun r18 =>
(cond (!r18)
(k false)
((cond r12
(q_impl_NewKept r13 r14 fun r19 r20 r21 r22 r23 =>
q_impl_FlipAt r13 r14 r15 r16 r7 fun r24 r25 r26 r27 r28 =>
q_impl_IsKept r13 r14 r15 r16 fun r29 =>
(cond (!r29)
(k false)
((cond (!r23)
(k false)
(q_spec_EqualKept r19 r20 r21 r22 r13 r14 r15 r16 fun r30 =>
(cond (!r30)
(k false)
((cond (!r28)
(k false)
(q_spec_EqualKept r24 r25 r26 r27 r3 r4 r5 r6 fun r31 =>
(cond (!r31)
(k false)
(q_impl_DistanceBetween r3 r4 r13 r14 fun r32 =>
(cond ((r32 != 1))
(k false)
(q_spec_DrawFlipAll a0 fun r33 r34 r35 r36 r37 =>
q_impl_FlipAll r33 r34 r35 r36 r37 fun r38 r39 r40 r41 r42 =>
q_spec_FlipAll r33 r34 r35 r36 r37 fun r43 r44 r45 r46 r47 =>
q_spec_DrawIsKept a0 fun r48 r49 r50 r51 =>
q_spec_DrawNewKept a0 fun r52 r53 =>
q_impl_NewKept r52 r53 fun r54 r55 r56 r57 r58 =>
q_spec_NewKept r52 r53 fun r59 r60 r61 r62 r63 =>
q_spec_DrawEqualKept_g0 a0 (fun r64_0 r64_1 r64_2 r64_3 r64_4 r64_5 r64_6 =>
(cond ((r42 == r47))
(q_spec_EqualKept r38 r39 r40 r41 r43 r44 r45 r46 fun r65 =>
(cond r65
((cond (!r42)
(q_impl_IsKept r48 r49 r50 r51 fun r66 =>
q_spec_IsKept r48 r49 r50 r51 fun r67 =>
(cond ((r66 == r67))
((cond ((r58 == r63))
(q_spec_EqualKept r54 r55 r56 r57 r59 r60 r61 r62 fun r68 =>
(cond r68
(q_impl_EqualKept r64_0 r64_1 r64_2 r64_6 r64_3 r64_4 r64_5 r64_6 fun r69 =>
q_spec_EqualKept r64_0 r64_1 r64_2 r64_6 r64_3 r64_4 r64_5 r64_6 fun r70 =>
k ((r69 == r70)))
(k false)))
(k false)))
(k false)))
(q_impl_IsKept r43 r44 r45 r46 fun r71 =>
(cond r71
(q_impl_IsKept r48 r49 r50 r51 fun r72 =>
q_spec_IsKept r48 r49 r50 r51 fun r73 =>
(cond ((r72 == r73))
((cond ((r58 == r63))
(q_spec_EqualKept r54 r55 r56 r57 r59 r60 r61 r62 fun r74 =>
(cond r74
(q_impl_EqualKept r64_0 r64_1 r64_2 r64_6 r64_3 r64_4 r64_5 r64_6 fun r75 =>
q_spec_EqualKept r64_0 r64_1 r64_2 r64_6 r64_3 r64_4 r64_5 r64_6 fun r76 =>
k ((r75 == r76)))
(k false)))
(k false)))
(k false)))
(k false)))))
(k false)))
(k false))) (fun r77_0 r77_1 r77_2 r77_3 r77_4 r77_5 r77_6 r77_7 =>
(cond ((r42 == r47))
(q_spec_EqualKept r38 r39 r40 r41 r43 r44 r45 r46 fun r78 =>
(cond r78
((cond (!r42)
(q_impl_IsKept r48 r49 r50 r51 fun r79 =>
q_spec_IsKept r48 r49 r50 r51 fun r80 =>
(cond ((r79 == r80))
((cond ((r58 == r63))
(q_spec_EqualKept r54 r55 r56 r57 r59 r60 r61 r62 fun r81 =>
(cond r81
(q_impl_EqualKept r77_0 r77_1 r77_2 r77_6 r77_3 r77_4 r77_5 r77_7 fun r82 =>
q_spec_EqualKept r77_0 r77_1 r77_2 r77_6 r77_3 r77_4 r77_5 r77_7 fun r83 =>
k ((r82 == r83)))
(k false)))
(k false)))
(k false)))
(q_impl_IsKept r43 r44 r45 r46 fun r84 =>
(cond r84
(q_impl_IsKept r48 r49 r50 r51 fun r85 =>
q_spec_IsKept r48 r49 r50 r51 fun r86 =>
(cond ((r85 == r86))
((cond ((r58 == r63))
(q_spec_EqualKept r54 r55 r56 r57 r59 r60 r61 r62 fun r87 =>
(cond r87
(q_impl_EqualKept r77_0 r77_1 r77_2 r77_6 r77_3 r77_4 r77_5 r77_7 fun r88 =>
q_spec_EqualKept r77_0 r77_1 r77_2 r77_6 r77_3 r77_4 r77_5 r77_7 fun r89 =>
k ((r88 == r89)))
(k false)))
(k false)))
(k false)))
(k false)))))
(k false)))
(k false))))))))))))))))
(q_spec_DrawFlipAll a0 fun r90 r91 r92 r93 r94 =>
q_impl_FlipAll r90 r91 r92 r93 r94 fun r95 r96 r97 r98 r99 =>
q_spec_FlipAll r90 r91 r92 r93 r94 fun r100 r101 r102 r103 r104 =>
q_spec_DrawIsKept a0 fun r105 r106 r107 r108 =>
q_spec_DrawNewKept a0 fun r109 r110 =>
q_impl_NewKept r109 r110 fun r111 r112 r113 r114 r115 =>
q_spec_NewKept r109 r110 fun r116 r117 r118 r119 r120 =>
q_spec_DrawEqualKept_g0 a0 (fun r121_0 r121_1 r121_2 r121_3 r121_4 r121_5 r121_6 =>
(cond ((r99 == r104))
(q_spec_EqualKept r95 r96 r97 r98 r100 r101 r102 r103 fun r122 =>
(cond r122
((cond (!r99)
(q_impl_IsKept r105 r106 r107 r108 fun r123 =>
q_spec_IsKept r105 r106 r107 r108 fun r124 =>
(cond ((r123 == r124))
((cond ((r115 == r120))
(q_spec_EqualKept r111 r112 r113 r114 r116 r117 r118 r119 fun r125 =>
(cond r125
(q_impl_EqualKept r121_0 r121_1 r121_2 r121_6 r121_3 r121_4 r121_5 r121_6 fun r126 =>
q_spec_EqualKept r121_0 r121_1 r121_2 r121_6 r121_3 r121_4 r121_5 r121_6 fun r127 =>
k ((r126 == r127)))
(k false)))
(k false)))
(k false)))
(q_impl_IsKept r100 r101 r102 r103 fun r128 =>
(cond r128
(q_impl_IsKept r105 r106 r107 r108 fun r129 =>
q_spec_IsKept r105 r106 r107 r108 fun r130 =>
(cond ((r129 == r130))
((cond ((r115 == r120))
(q_spec_EqualKept r111 r112 r113 r114 r116 r117 r118 r119 fun r131 =>
(cond r131
(q_impl_EqualKept r121_0 r121_1 r121_2 r121_6 r121_3 r121_4 r121_5 r121_6 fun r132 =>
q_spec_EqualKept r121_0 r121_1 r121_2 r121_6 r121_3 r121_4 r121_5 r121_6 fun r133 =>
k ((r132 == r133)))
(k false)))
(k false)))
(k false)))
(k false)))))
(k false)))
(k false))) (fun r134_0 r134_1 r134_2 r134_3 r134_4 r134_5 r134_6 r134_7 =>
(cond ((r99 == r104))
(q_spec_EqualKept r95 r96 r97 r98 r100 r101 r102 r103 fun r135 =>
(cond r135
((cond (!r99)
(q_impl_IsKept r105 r106 r107 r108 fun r136 =>
q_spec_IsKept r105 r106 r107 r108 fun r137 =>
(cond ((r136 == r137))
((cond ((r115 == r120))
(q_spec_EqualKept r111 r112 r113 r114 r116 r117 r118 r119 fun r138 =>
(cond r138
(q_impl_EqualKept r134_0 r134_1 r134_2 r134_6 r134_3 r134_4 r134_5 r134_7 fun r139 =>
q_spec_EqualKept r134_0 r134_1 r134_2 r134_6 r134_3 r134_4 r134_5 r134_7 fun r140 =>
k ((r139 == r140)))
(k false)))
(k false)))
(k false)))
(q_impl_IsKept r100 r101 r102 r103 fun r141 =>
(cond r141
(q_impl_IsKept r105 r106 r107 r108 fun r142 =>
q_spec_IsKept r105 r106 r107 r108 fun r143 =>
(cond ((r142 == r143))
((cond ((r115 == r120))
(q_spec_EqualKept r111 r112 r113 r114 r116 r117 r118 r119 fun r144 =>
(cond r144
(q_impl_EqualKept r134_0 r134_1 r134_2 r134_6 r134_3 r134_4 r134_5 r134_7 fun r145 =>
q_spec_EqualKept r134_0 r134_1 r134_2 r134_6 r134_3 r134_4 r134_5 r134_7 fun r146 =>
k ((r145 == r146)))
(k false)))
(k false)))
(k false)))
(k false)))))
(k false)))
(k false)))))))))))
theorem t_laws_FnEdits {β : Type} (N : Nat) (a0 : List Int) (k : Bool → Option β) : laws_FnEdits N a0 k = BV_laws_FnEdits N (laws_big N) (spec_DrawFlipAt N) (impl_FlipAt N) (spec_FlipAt N) (spec_EqualKept N) (impl_NewKept N) (impl_IsKept N) (impl_DistanceBetween N) (spec_DrawFlipAll N) (impl_FlipAll N) (spec_FlipAll N) (spec_DrawIsKept N) (spec_DrawNewKept N) (spec_NewKept N) (spec_DrawEqualKept_g0 N) (spec_IsKept N) (impl_EqualKept N) a0 k := by
  unfold laws_FnEdits BV_laws_FnEdits
  rfl
theorem ve3_0 {β : Type} (N : Nat) (q_laws_big : (a0 : List Int) → (k : Bool → Option β) → Option β) (q_spec_DrawFlipAt : (a0 : List Int) → (k : Int → Int → Int → List Int → Int → Option β) → Option β) (q_impl_FlipAt : (a0 : Int) → (a1 : Int) → (a2 : Int) → (a3 : List Int) → (a4 : Int) → (k : Int → Int → Int → List Int → Bool → Option β) → Option β) (q_spec_FlipAt : (a0 : Int) → (a1 : Int) → (a2 : Int) → (a3 : List Int) → (a4 : Int) → (k : Int → Int → Int → List Int → Bool → Option β) → Option β) (q_spec_EqualKept : (a0 : Int) → (a1 : Int) → (a2 : Int) → (a3 : List Int) → (a4 : Int) → (a5 : Int) → (a6 : Int) → (a7 : List Int) → (k : Bool → Option β) → Option β) (q_impl_NewKept : (a0 : Int) → (a1 : Int) → (k : Int → Int → Int → List Int → Bool → Option β) → Option β) (q_impl_IsKept : (a0 : Int) → (a1 : Int) → (a2 : Int) → (a3 : List Int) → (k : Bool → Option β) → Option β) (q_impl_DistanceBetween : (a0 : Int) → (a1 : Int) → (a2 : Int) → (a3 : Int) → (k : Int → Option β) → Option β) (q_spec_DrawFlipAll : (a0 : List Int) → (k : Int → Int → Int → List Int → List Int → Option β) → Option β) (q_impl_FlipAll : (a0 : Int) → (a1 : Int) → (a2 : Int) → (a3 : List Int) → (a4 : List Int) → (k : Int → Int → Int → List Int → Bool → Option β) → Option β) (q_spec_FlipAll : (a0 : Int) → (a1 : Int) → (a2 : Int) → (a3 : List Int) → (a4 : List Int) → (k : Int → Int → Int → List Int → Bool → Option β) → Option β) (q_spec_DrawIsKept : (a0 : List Int) → (k : Int → Int → Int → List Int → Option β) → Option β) (q_spec_DrawNewKept : (a0 : List Int) → (k : Int → Int → Option β) → Option β) (q_spec_NewKept : (a0 : Int) → (a1 : Int) → (k : Int → Int → Int → List Int → Bool → Option β) → Option β) (q_spec_IsKept : (a0 : Int) → (a1 : Int) → (a2 : Int) → (a3 : List Int) → (k : Bool → Option β) → Option β) (q_impl_EqualKept : (a0 : Int) → (a1 : Int) → (a2 : Int) → (a3 : List Int) → (a4 : Int) → (a5 : Int) → (a6 : Int) → (a7 : List Int) → (k : Bool → Option β) → Option β) (q_spec_DrawEqualKept_g0 : (a0 : List Int) → (k0 : Int → Int → Int → Int → Int → Int → List Int → Option β) → (k1 : Int → Int → Int → Int → Int → Int → List Int → List Int → Option β) → Option β)  (a0 : List Int) (K : TV → Option β) : evFn lay (VE3 N q_laws_big q_spec_DrawFlipAt q_impl_FlipAt q_spec_FlipAt q_spec_EqualKept q_impl_NewKept q_impl_IsKept q_impl_DistanceBetween q_spec_DrawFlipAll q_impl_FlipAll q_spec_FlipAll q_spec_DrawIsKept q_spec_DrawNewKept q_spec_NewKept q_spec_IsKept q_impl_EqualKept q_spec_DrawEqualKept_g0) Try.f3 [.v (.one (.sl 5 (.ints .u8 a0)))] K = BV_laws_FnEdits N q_laws_big q_spec_DrawFlipAt q_impl_FlipAt q_spec_FlipAt q_spec_EqualKept q_impl_NewKept q_impl_IsKept q_impl_DistanceBetween q_spec_DrawFlipAll q_impl_FlipAll q_spec_FlipAll q_spec_DrawIsKept q_spec_DrawNewKept q_spec_NewKept q_spec_DrawEqualKept_g0 q_spec_IsKept q_impl_EqualKept a0 (fun z1 => K (.v (.one (.bool z1)))) := by kernel_rfl
theorem e3_0 {β : Type} (N : Nat)  (a0 : List Int) (K : TV → Option β) : evFn lay (E3 N) Try.f3 [.v (.one (.sl 5 (.ints .u8 a0)))] K = laws_FnEdits N a0 (fun z1 => K (.v (.one (.bool z1)))) := (ve3_0 N (laws_big N) (spec_DrawFlipAt N) (impl_FlipAt N) (spec_FlipAt N) (spec_EqualKept N) (impl_NewKept N) (impl_IsKept N) (impl_DistanceBetween N) (spec_DrawFlipAll N) (impl_FlipAll N) (spec_FlipAll N) (spec_DrawIsKept N) (spec_DrawNewKept N) (spec_NewKept N) (spec_IsKept N) (impl_EqualKept N) (spec_DrawEqualKept_g0 N) a0 K).trans (t_laws_FnEdits N a0 (fun z1 => K (.v (.one (.bool z1))))).symm
theorem o3 {β : Type} (N : Nat) : SpecOK (β := β) Try.prog 3 (S3 N) := by
  refine spec_of lay_ok mixed (E := E3 N) (specs_loops (specs_cons (o8 N) (specs_cons (o9 N) (specs_cons (o10 N) (specs_cons (o11 N) (specs_cons (o12 N) (specs_cons (o13 N) (specs_cons (o14 N) (specs_cons (o15 N) (specs_cons (o16 N) (specs_cons (o17 N) (specs_cons (o18 N) (specs_cons (o19 N) (specs_cons (o20 N) (specs_cons (o21 N) (specs_cons (o23 N) (specs_cons (o24 N) specs_nil))))))))))))))))) muts_nil (gs_cons (o22 N) gs_nil) Try.func3 (by kernel_rfl) 0 (by kernel_rfl) trivial fun args K r h => ?_
  unfold S3 VS3 at h
  split at h
  · exact (e3_0 N _ _).trans h
  · cases h
def VS114 {β : Type} (N : Nat) (q_spec_l3Var : (a0 : List Int) → (k : Int → Int → Int → Option β) → Option β) : Rv.Spec β := fun args K => match args with
  | [.v (.one (.sl 5 (.ints .u8 a0)))] => q_spec_l3Var a0 (fun z1 z2 z3 => K (.tup [.agg [.int .i64 z1, .int .i64 z2], .one (.int .i64 z3)]))
  | _ => none
def S114 {β : Type} (N : Nat) : Rv.Spec β := VS114 N (spec_l3Var N)
def VE114 {β : Type} (N : Nat) (q_spec_l1New_g0 : (a0 : List Int) → (k0 : List Int → Int → Int → Option β) → Option β) (q_spec_l2Any_g0 : (a0 : List Int) → (a1 : Int) → (a2 : Int) → (k0 : Int → Int → List Int → Int → Int → Option β) → Option β) (q_spec_l1Below_g0 : (a0 : Int) → (a1 : List Int) → (a2 : Int) → (a3 : Int) → (k0 : Int → List Int → Int → Int → Option β) → Option β) : Env β := ⟨[], [], [], [(55, VS55 N q_spec_l1New_g0), (68, VS68 N q_spec_l2Any_g0), (57, VS57 N q_spec_l1Below_g0)]⟩
def E114 {β : Type} (N : Nat) : Env β := VE114 N (spec_l1New_g0 N) (spec_l2Any_g0 N) (spec_l1Below_g0 N)
def BV_spec_l3Var {β : Type} (N : Nat) (q_spec_l1New_g0 : (a0 : List Int) → (k0 : List Int → Int → Int → Option β) → Option β) (q_spec_l2Any_g0 : (a0 : List Int) → (a1 : Int) → (a2 : Int) → (k0 : Int → Int → List Int → Int → Int → Option β) → Option β) (q_spec_l1Below_g0 : (a0 : Int) → (a1 : List Int) → (a2 : Int) → (a3 : Int) → (k0 : Int → List Int → Int → Int → Option β) → Option β) (a0 : List Int) (k : Int → Int → Int → Option β) : Option β :=
q_spec_l1New_g0 a0 (fun r4_0 r4_1 r4_2 =>
q_spec_l2Any_g0 r4_0 r4_1 r4_2 (fun r5_0 r5_1 r5_2 r5_3 r5_4 =>
q_spec_l1Below_g0 7 r5_2 r5_3 r5_4 (fun r6_0 r6_1 r6_2 r6_3 =>
k r5_0 r5_1 ((w64 (r6_0 - 1))))))
theorem t_spec_l3Var {β : Type} (N : Nat) (a0 : List Int) (k : Int → Int → Int → Option β) : spec_l3Var N a0 k = BV_spec_l3Var N (spec_l1New_g0 N) (spec_l2Any_g0 N) (spec_l1Below_g0 N) a0 k := by
  unfold spec_l3Var BV_spec_l3Var
  rfl
theorem ve114_0 {β : Type} (N : Nat) (q_spec_l1New_g0 : (a0 : List Int) → (k0 : List Int → Int → Int → Option β) → Option β) (q_spec_l2Any_g0 : (a0 : List Int) → (a1 : Int) → (a2 : Int) → (k0 : Int → Int → List Int → Int → Int → Option β) → Option β) (q_spec_l1Below_g0 : (a0 : Int) → (a1 : List Int) → (a2 : Int) → (a3 : Int) → (k0 : Int → List Int → Int → Int → Option β) → Option β)  (a0 : List Int) (K : TV → Option β) : evFn lay (VE114 N q_spec_l1New_g0 q_spec_l2Any_g0 q_spec_l1Below_g0) Try.f114 [.v (.one (.sl 5 (.ints .u8 a0)))] K = BV_spec_l3Var N q_spec_l1New_g0 q_spec_l2Any_g0 q_spec_l1Below_g0 a0 (fun z1 z2 z3 => K (.tup [.agg [.int .i64 z1, .int .i64 z2], .one (.int .i64 z3)])) := by kernel_rfl
theorem e114_0 {β : Type} (N : Nat)  (a0 : List Int) (K : TV → Option β) : evFn lay (E114 N) Try.f114 [.v (.one (.sl 5 (.ints .u8 a0)))] K = spec_l3Var N a0 (fun z1 z2 z3 => K (.tup [.agg [.int .i64 z1, .int .i64 z2], .one (.int .i64 z3)])) := (ve114_0 N (spec_l1New_g0 N) (spec_l2Any_g0 N) (spec_l1Below_g0 N) a0 K).trans (t_spec_l3Var N a0 (fun z1 z2 z3 => K (.tup [.agg [.int .i64 z1, .int .i64 z2], .one (.int .i64 z3)]))).symm
theorem o114 {β : Type} (N : Nat) : SpecOK (β := β) Try.prog 114 (S114 N) := by
  refine spec_of lay_ok mixed (E := E114 N) (specs_loops specs_nil) muts_nil (gs_cons (o55 N) (gs_cons (o68 N) (gs_cons (o57 N) gs_nil))) Try.func114 (by kernel_rfl) 0 (by kernel_rfl) trivial fun args K r h => ?_
  unfold S114 VS114 at h
  split at h
  · exact (e114_0 N _ _).trans h
  · cases h
def VS73 {β : Type} (N : Nat) (q_spec_DrawRestrictTable : (a0 : List Int) → (k : Int → Int → Int → Int → Option β) → Option β) : Rv.Spec β := fun args K => match args with
  | [.v (.one (.sl 5 (.ints .u8 a0)))] => q_spec_DrawRestrictTable a0 (fun z1 z2 z3 z4 => K (.tup [.agg [.int .i64 z1, .int .i64 z2], .one (.int .i64 z3), .one (.int .i64 z4)]))
  | _ => none
def S73 {β : Type} (N : Nat) : Rv.Spec β := VS73 N (spec_DrawRestrictTable N)
def VE73 {β : Type} (N : Nat) (q_spec_l3Var : (a0 : List Int) → (k : Int → Int → Int → Option β) → Option β) : Env β := ⟨[(114, VS114 N q_spec_l3Var)], [], [], []⟩
def E73 {β : Type} (N : Nat) : Env β := VE73 N (spec_l3Var N)
def BV_spec_DrawRestrictTable {β : Type} (N : Nat) (q_spec_l3Var : (a0 : List Int) → (k : Int → Int → Int → Option β) → Option β) (a0 : List Int) (k : Int → Int → Int → Int → Option β) : Option β :=
q_spec_l3Var a0 fun r5 r6 r7 =>
(gd ((decide (0 ≤ (remI (a0.length : Int) 6))))
((gd ((decide ((remI (a0.length : Int) 6) < ((((((((([] : List Int) ++ [0]) ++ [1]) ++ [0]) ++ [1]) ++ [2]) ++ [(-1)])).length : Int))))
((spec_DrawRestrictTable_s2 r7 ((rd 0 (((((((([] : List Int) ++ [0]) ++ [1]) ++ [0]) ++ [1]) ++ [2]) ++ [(-1)])) (remI (a0.length : Int) 6))) r5 r6
((gd ((decide (0 ≤ (remI (a0.length : Int) 6))))
((gd ((decide ((remI (a0.length : Int) 6) < ((((((((([] : List Int) ++ [0]) ++ [1]) ++ [0]) ++ [1]) ++ [2]) ++ [(-1)])).length : Int))))
((spec_DrawRestrictTable_s2 r7 ((rd 0 (((((((([] : List Int) ++ [0]) ++ [1]) ++ [0]) ++ [1]) ++ [2]) ++ [(-1)])) (remI (a0.length : Int) 6))) r5 r6
((gd ((decide (0 ≤ (remI (a0.length : Int) 6))))
((gd ((decide ((remI (a0.length : Int) 6) < ((((((((([] : List Int) ++ [0]) ++ [1]) ++ [0]) ++ [1]) ++ [2]) ++ [(-1)])).length : Int))))
((spec_DrawRestrictTable_s2 r7 ((rd 0 (((((((([] : List Int) ++ [0]) ++ [1]) ++ [0]) ++ [1]) ++ [2]) ++ [(-1)])) (remI (a0.length : Int) 6))) r5 r6
((gd ((decide (0 ≤ (remI (a0.length : Int) 6))))
((gd ((decide ((remI (a0.length : Int) 6) < ((((((((([] : List Int) ++ [0]) ++ [1]) ++ [0]) ++ [1]) ++ [2]) ++ [(-1)])).length : Int))))
((spec_DrawRestrictTable_s2 r7 ((rd 0 (((((((([] : List Int) ++ [0]) ++ [1]) ++ [0]) ++ [1]) ++ [2]) ++ [(-1)])) (remI (a0.length : Int) 6))) r5 r6
((gd ((decide (0 ≤ (remI (a0.length : Int) 6))))
((gd ((decide ((remI (a0.length : Int) 6) < ((((((((([] : List Int) ++ [0]) ++ [1]) ++ [0]) ++ [1]) ++ [2]) ++ [(-1)])).length : Int))))
((spec_DrawRestrictTable_s2 r7 ((rd 0 (((((((([] : List Int) ++ [0]) ++ [1]) ++ [0]) ++ [1]) ++ [2]) ++ [(-1)])) (remI (a0.length : Int) 6))) r5 r6
((gd ((decide (0 ≤ (remI (a0.length : Int) 6))))
((gd ((decide ((remI (a0.length : Int) 6) < ((((((((([] : List Int) ++ [0]) ++ [1]) ++ [0]) ++ [1]) ++ [2]) ++ [(-1)])).length : Int))))
((spec_DrawRestrictTable_s2 r7 ((rd 0 (((((((([] : List Int) ++ [0]) ++ [1]) ++ [0]) ++ [1]) ++ [2]) ++ [(-1)])) (remI (a0.length : Int) 6))) r5 r6
((gd ((decide (0 ≤ (remI (a0.length : Int) 6))))
((gd ((decide ((remI (a0.length : Int) 6) < ((((((((([] : List Int) ++ [0]) ++ [1]) ++ [0]) ++ [1]) ++ [2]) ++ [(-1)])).length : Int))))
((spec_DrawRestrictTable_s2 r7 ((rd 0 (((((((([] : List Int) ++ [0]) ++ [1]) ++ [0]) ++ [1]) ++ [2]) ++ [(-1)])) (remI (a0.length : Int) 6))) r5 r6
((spec_DrawRestrictTable_s2 r7 ((rd 0 (((((((([] : List Int) ++ [0]) ++ [1]) ++ [0]) ++ [1]) ++ [2]) ++ [(-1)])) (remI (a0.length : Int) 6))) r5 r6
(k r5 r6 r7 ((rd 0 (((((((([] : List Int) ++ [0]) ++ [1]) ++ [0]) ++ [1]) ++ [2]) ++ [(-1)])) (remI (a0.length : Int) 6)))))))))))))))))))))))))))))))))))))))))))))))
theorem t_spec_DrawRestrictTable {β : Type} (N : Nat) (a0 : List Int) (k : Int → Int → Int → Int → Option β) : spec_DrawRestrictTable N a0 k = BV_spec_DrawRestrictTable N (spec_l3Var N) a0 k := by
  unfold spec_DrawRestrictTable BV_spec_DrawRestrictTable
  rfl
theorem ve73_0 {β : Type} (N : Nat) (q_spec_l3Var : (a0 : List Int) → (k : Int → Int → Int → Option β) → Option β)  (a0 : List Int) (K : TV → Option β) : evFn lay (VE73 N q_spec_l3Var) Try.f73 [.v (.one (.sl 5 (.ints .u8 a0)))] K = BV_spec_DrawRestrictTable N q_spec_l3Var a0 (fun z1 z2 z3 z4 => K (.tup [.agg [.int .i64 z1, .int .i64 z2], .one (.int .i64 z3), .one (.int .i64 z4)])) := by kernel_rfl
theorem e73_0 {β : Type} (N : Nat)  (a0 : List Int) (K : TV → Option β) : evFn lay (E73 N) Try.f73 [.v (.one (.sl 5 (.ints .u8 a0)))] K = spec_DrawRestrictTable N a0 (fun z1 z2 z3 z4 => K (.tup [.agg [.int .i64 z1, .int .i64 z2], .one (.int .i64 z3), .one (.int .i64 z4)])) := (ve73_0 N (spec_l3Var N) a0 K).trans (t_spec_DrawRestrictTable N a0 (fun z1 z2 z3 z4 => K (.tup [.agg [.int .i64 z1, .int .i64 z2], .one (.int .i64 z3), .one (.int .i64 z4)]))).symm
theorem o73 {β : Type} (N : Nat) : SpecOK (β := β) Try.prog 73 (S73 N) := by
  refine spec_of lay_ok mixed (E := E73 N) (specs_loops (specs_cons (o114 N) specs_nil)) muts_nil gs_nil Try.func73 (by kernel_rfl) 0 (by kernel_rfl) trivial fun args K r h => ?_
  unfold S73 VS73 at h
  split at h
  · exact (e73_0 N _ _).trans h
  · cases h
def VS25 {β : Type} (N : Nat) (q_spec_DrawDetectingInputs : (a0 : List Int) → (k : Int → Int → Int → Int → Option β) → Option β) : Rv.Spec β := fun args K => match args with
  | [.v (.one (.sl 5 (.ints .u8 a0)))] => q_spec_DrawDetectingInputs a0 (fun z1 z2 z3 z4 => K (.tup [.agg [.int .i64 z1, .int .i64 z2], .one (.int .i64 z3), .one (.int .i64 z4)]))
  | _ => none
def S25 {β : Type} (N : Nat) : Rv.Spec β := VS25 N (spec_DrawDetectingInputs N)
def VE25 {β : Type} (N : Nat) (q_spec_DrawRestrictTable : (a0 : List Int) → (k : Int → Int → Int → Int → Option β) → Option β) : Env β := ⟨[(73, VS73 N q_spec_DrawRestrictTable)], [], [], []⟩
def E25 {β : Type} (N : Nat) : Env β := VE25 N (spec_DrawRestrictTable N)
def BV_spec_DrawDetectingInputs {β : Type} (N : Nat) (q_spec_DrawRestrictTable : (a0 : List Int) → (k : Int → Int → Int → Int → Option β) → Option β) (a0 : List Int) (k : Int → Int → Int → Int → Option β) : Option β :=
q_spec_DrawRestrictTable a0 fun r5 r6 r7 r8 =>
k r5 r6 r7 r8
theorem t_spec_DrawDetectingInputs {β : Type} (N : Nat) (a0 : List Int) (k : Int → Int → Int → Int → Option β) : spec_DrawDetectingInputs N a0 k = BV_spec_DrawDetectingInputs N (spec_DrawRestrictTable N) a0 k := by
  unfold spec_DrawDetectingInputs BV_spec_DrawDetectingInputs
  rfl
theorem ve25_0 {β : Type} (N : Nat) (q_spec_DrawRestrictTable : (a0 : List Int) → (k : Int → Int → Int → Int → Option β) → Option β)  (a0 : List Int) (K : TV → Option β) : evFn lay (VE25 N q_spec_DrawRestrictTable) Try.f25 [.v (.one (.sl 5 (.ints .u8 a0)))] K = BV_spec_DrawDetectingInputs N q_spec_DrawRestrictTable a0 (fun z1 z2 z3 z4 => K (.tup [.agg [.int .i64 z1, .int .i64 z2], .one (.int .i64 z3), .one (.int .i64 z4)])) := by kernel_rfl
theorem e25_0 {β : Type} (N : Nat)  (a0 : List Int) (K : TV → Option β) : evFn lay (E25 N) Try.f25 [.v (.one (.sl 5 (.ints .u8 a0)))] K = spec_DrawDetectingInputs N a0 (fun z1 z2 z3 z4 => K (.tup [.agg [.int .i64 z1, .int .i64 z2], .one (.int .i64 z3), .one (.int .i64 z4)])) := (ve25_0 N (spec_DrawRestrictTable N) a0 K).trans (t_spec_DrawDetectingInputs N a0 (fun z1 z2 z3 z4 => K (.tup [.agg [.int .i64 z1, .int .i64 z2], .one (.int .i64 z3), .one (.int .i64 z4)]))).symm
theorem o25 {β : Type} (N : Nat) : SpecOK (β := β) Try.prog 25 (S25 N) := by
  refine spec_of lay_ok mixed (E := E25 N) (specs_loops (specs_cons (o73 N) specs_nil)) muts_nil gs_nil Try.func25 (by kernel_rfl) 0 (by kernel_rfl) trivial fun args K r h => ?_
  unfold S25 VS25 at h
  split at h
  · exact (e25_0 N _ _).trans h
  · cases h
def VS74 {β : Type} (N : Nat) (q_impl_hasVariable : (a0 : Int) → (a1 : Int) → (a2 : Int) → (k : Bool → Option β) → Option β) : Rv.Spec β := fun args K => match args with
  | [.v (.agg [.int .i64 a0, .int .i64 a1]), .v (.one (.int .i64 a2))] => q_impl_hasVariable a0 a1 a2 (fun z3 => K (.v (.one (.bool z3))))
  | _ => none
def S74 {β : Type} (N : Nat) : Rv.Spec β := VS74 N (impl_hasVariable N)
def VE74 {β : Type} (N : Nat) (q_impl_IsTable : (a0 : Int) → (a1 : Int) → (k : Bool → Option β) → Option β) : Env β := ⟨[(61, VS61 N q_impl_IsTable)], [], [], []⟩
def E74 {β : Type} (N : Nat) : Env β := VE74 N (impl_IsTable N)
def BV_impl_hasVariable {β : Type} (N : Nat) (q_impl_IsTable : (a0 : Int) → (a1 : Int) → (k : Bool → Option β) → Option β) (a0 : Int) (a1 : Int) (a2 : Int) (k : Bool → Option β) : Option β :=
q_impl_IsTable a0 a1 fun r4 =>
(cond r4
((cond ((decide (a2 ≥ 0)))
(k ((decide (a2 < a0))))
(k false)))
(k false))
theorem t_impl_hasVariable {β : Type} (N : Nat) (a0 : Int) (a1 : Int) (a2 : Int) (k : Bool → Option β) : impl_hasVariable N a0 a1 a2 k = BV_impl_hasVariable N (impl_IsTable N) a0 a1 a2 k := by
  unfold impl_hasVariable BV_impl_hasVariable
  rfl
theorem ve74_0 {β : Type} (N : Nat) (q_impl_IsTable : (a0 : Int) → (a1 : Int) → (k : Bool → Option β) → Option β)  (a0 : Int) (a1 : Int) (a2 : Int) (K : TV → Option β) : evFn lay (VE74 N q_impl_IsTable) Try.f74 [.v (.agg [.int .i64 a0, .int .i64 a1]), .v (.one (.int .i64 a2))] K = BV_impl_hasVariable N q_impl_IsTable a0 a1 a2 (fun z3 => K (.v (.one (.bool z3)))) := by kernel_rfl
theorem e74_0 {β : Type} (N : Nat)  (a0 : Int) (a1 : Int) (a2 : Int) (K : TV → Option β) : evFn lay (E74 N) Try.f74 [.v (.agg [.int .i64 a0, .int .i64 a1]), .v (.one (.int .i64 a2))] K = impl_hasVariable N a0 a1 a2 (fun z3 => K (.v (.one (.bool z3)))) := (ve74_0 N (impl_IsTable N) a0 a1 a2 K).trans (t_impl_hasVariable N a0 a1 a2 (fun z3 => K (.v (.one (.bool z3))))).symm
theorem o74 {β : Type} (N : Nat) : SpecOK (β := β) Try.prog 74 (S74 N) := by
  refine spec_of lay_ok mixed (E := E74 N) (specs_loops (specs_cons (o61 N) specs_nil)) muts_nil gs_nil Try.func74 (by kernel_rfl) 0 (by kernel_rfl) trivial fun args K r h => ?_
  unfold S74 VS74 at h
  split at h
  · exact (e74_0 N _ _ _ _).trans h
  · cases h
def VS75 {β : Type} (N : Nat) (q_impl_isBit : (a0 : Int) → (k : Bool → Option β) → Option β) : Rv.Spec β := fun args K => match args with
  | [.v (.one (.int .i64 a0))] => q_impl_isBit a0 (fun z1 => K (.v (.one (.bool z1))))
  | _ => none
def S75 {β : Type} (N : Nat) : Rv.Spec β := VS75 N (impl_isBit N)
def VE75 {β : Type} (N : Nat) : Env β := ⟨[], [], [], []⟩
def E75 {β : Type} (N : Nat) : Env β := VE75 N
def BV_impl_isBit {β : Type} (N : Nat) (a0 : Int) (k : Bool → Option β) : Option β :=
(cond ((a0 == 0))
(k true)
(k ((a0 == 1))))
theorem t_impl_isBit {β : Type} (N : Nat) (a0 : Int) (k : Bool → Option β) : impl_isBit N a0 k = BV_impl_isBit N a0 k := by
  unfold impl_isBit BV_impl_isBit
  rfl
theorem ve75_0 {β : Type} (N : Nat)  (a0 : Int) (K : TV → Option β) : evFn lay (VE75 N) Try.f75 [.v (.one (.int .i64 a0))] K = BV_impl_isBit N a0 (fun z1 => K (.v (.one (.bool z1)))) := by kernel_rfl
theorem e75_0 {β : Type} (N : Nat)  (a0 : Int) (K : TV → Option β) : evFn lay (E75 N) Try.f75 [.v (.one (.int .i64 a0))] K = impl_isBit N a0 (fun z1 => K (.v (.one (.bool z1)))) := (ve75_0 N a0 K).trans (t_impl_isBit N a0 (fun z1 => K (.v (.one (.bool z1))))).symm
theorem o75 {β : Type} (N : Nat) : SpecOK (β := β) Try.prog 75 (S75 N) := by
  refine spec_of lay_ok mixed (E := E75 N) (specs_loops specs_nil) muts_nil gs_nil Try.func75 (by kernel_rfl) 0 (by kernel_rfl) trivial fun args K r h => ?_
  unfold S75 VS75 at h
  split at h
  · exact (e75_0 N _ _).trans h
  · cases h
def VS119 {β : Type} (N : Nat) (q_impl_Table_stuck_1 : (a0 : Int) → (c0 : Int) → (c1 : Int) → (c2 : Int) → (c3 : Int) → (k : Bool → Option β) → Option β) : Rv.Spec β := fun args K => match args with
  | [.v (.one (.int .i64 a0)), .v (.one (.cref [.int .i64 c0, .int .i64 c1] 0)), .v (.one (.cref [.int .i64 c2] 0)), .v (.one (.cref [.int .i64 c3] 0))] => q_impl_Table_stuck_1 a0 c0 c1 c2 c3 (fun z1 => K (.v (.one (.bool z1))))
  | _ => none
def S119 {β : Type} (N : Nat) : Rv.Spec β := VS119 N (impl_Table_stuck_1 N)
def VE119 {β : Type} (N : Nat) (q_impl_Table_at : (a0 : Int) → (a1 : Int) → (a2 : Int) → (k : Int → Option β) → Option β) : Env β := ⟨[(120, VS120 N q_impl_Table_at)], [], [], []⟩
def E119 {β : Type} (N : Nat) : Env β := VE119 N (impl_Table_at N)
def BV_impl_Table_stuck_1 {β : Type} (N : Nat) (q_impl_Table_at : (a0 : Int) → (a1 : Int) → (a2 : Int) → (k : Int → Option β) → Option β) (a0 : Int) (c0 : Int) (c1 : Int) (c2 : Int) (c3 : Int) (k : Bool → Option β) : Option β :=
(gd ((decide (0 ≤ c2)))
((gd ((decide (0 ≤ c2)))
(q_impl_Table_at c0 c1 ((bits .or .i64 (bits .andNot .i64 a0 (shlI .i64 1 c2)) (shlI .i64 c3 c2))) fun r2 =>
k ((r2 == 1))))))
theorem t_impl_Table_stuck_1 {β : Type} (N : Nat) (a0 : Int) (c0 : Int) (c1 : Int) (c2 : Int) (c3 : Int) (k : Bool → Option β) : impl_Table_stuck_1 N a0 c0 c1 c2 c3 k = BV_impl_Table_stuck_1 N (impl_Table_at N) a0 c0 c1 c2 c3 k := by
  unfold impl_Table_stuck_1 BV_impl_Table_stuck_1
  rfl
theorem ve119_0 {β : Type} (N : Nat) (q_impl_Table_at : (a0 : Int) → (a1 : Int) → (a2 : Int) → (k : Int → Option β) → Option β)  (a0 : Int) (c0 : Int) (c1 : Int) (c2 : Int) (c3 : Int) (K : TV → Option β) : evFn lay (VE119 N q_impl_Table_at) Try.f119 [.v (.one (.int .i64 a0)), .v (.one (.cref [.int .i64 c0, .int .i64 c1] 0)), .v (.one (.cref [.int .i64 c2] 0)), .v (.one (.cref [.int .i64 c3] 0))] K = BV_impl_Table_stuck_1 N q_impl_Table_at a0 c0 c1 c2 c3 (fun z1 => K (.v (.one (.bool z1)))) := by kernel_rfl
theorem e119_0 {β : Type} (N : Nat)  (a0 : Int) (c0 : Int) (c1 : Int) (c2 : Int) (c3 : Int) (K : TV → Option β) : evFn lay (E119 N) Try.f119 [.v (.one (.int .i64 a0)), .v (.one (.cref [.int .i64 c0, .int .i64 c1] 0)), .v (.one (.cref [.int .i64 c2] 0)), .v (.one (.cref [.int .i64 c3] 0))] K = impl_Table_stuck_1 N a0 c0 c1 c2 c3 (fun z1 => K (.v (.one (.bool z1)))) := (ve119_0 N (impl_Table_at N) a0 c0 c1 c2 c3 K).trans (t_impl_Table_stuck_1 N a0 c0 c1 c2 c3 (fun z1 => K (.v (.one (.bool z1))))).symm
theorem o119 {β : Type} (N : Nat) : SpecOK (β := β) Try.prog 119 (S119 N) := by
  refine spec_of lay_ok mixed (E := E119 N) (specs_loops (specs_cons (o120 N) specs_nil)) muts_nil gs_nil Try.func119 (by kernel_rfl) 0 (by kernel_rfl) trivial fun args K r h => ?_
  unfold S119 VS119 at h
  split at h
  · exact (e119_0 N _ _ _ _ _ _).trans h
  · cases h
end Go.Proofs.Ytdkjnadhgdneaaa
