/- The functions that the claims reach answer as their texts do. -/
import Derived.Test.YtdkjnadhgdneaaaDoorE3
namespace Go.Proofs.YtdkjnadhgdneaaaDoor
open Go.Rv
set_option maxRecDepth 100000
set_option maxHeartbeats 2000000
set_option linter.unusedVariables false
def VSF21 {β : Type} (N : Nat) (q_impl_talk_text_g0_f : Nat → Int → Int → Int → Int → Int → Mp → (ByteArray → Int → Int → Int → Mp → Option β) → Option β) (G : Nat) : GSpec β := fun args bl K => match args, bl with
  | [.v (.one (.ptr 0 0)), .v (.agg [.int .i64 a0, .int .i64 a1])], [.pcells 0 62 [.int .i64 a2, .int .i64 a3, .int .i64 a4, .mp 1], .pmp 1 ⟨true, false⟩ a5] => q_impl_talk_text_g0_f G a0 a1 a2 a3 a4 a5 (fun y0 y1 y2 y3 y4 => K (.v (.one (.str y0))) [.pcells 0 62 [.int .i64 y1, .int .i64 y2, .int .i64 y3, .mp 1], .pmp 1 ⟨true, false⟩ y4])
  | _, _ => none
def SF21 {β : Type} (N : Nat) (G : Nat) : GSpec β := VSF21 N (impl_talk_text_g0_f N) G
def VS21 {β : Type} (N : Nat) (q_impl_talk_text_g0_f : Nat → Int → Int → Int → Int → Int → Mp → (ByteArray → Int → Int → Int → Mp → Option β) → Option β) : GSpec β := VSF21 N q_impl_talk_text_g0_f N
def S21 {β : Type} (N : Nat) : GSpec β := SF21 N N
def h21_0_0  (v0 : Int) (v1 : Int) (v2 : Int) (v3 : Int) (v4 : Int) (v5 : Mp) (v6 : Int) (v7 : Int) (v8 : List Int) : St := ⟨.v (.one (.ptr 0 0)) :: .v (.one .und) :: .v (.one .und) :: .v (.one (.ptr 2 0)) :: .v (.one .und) :: .v (.one .und) :: .v (.one .und) :: .v (.one .und) :: .v (.one .und) :: .v (.one .und) :: .v (.one .und) :: .v (.one .und) :: .v (.one .und) :: .v (.one .und) :: .v (.one .und) :: .v (.one .und) :: .v (.one .und) :: .v (.one .und) :: .v (.one .und) :: .v (.one .und) :: .v (.one (.row 3)) :: .v (.one (.int .i64 v0)) :: .v (.one (.int .i64 v1)) :: .v (.one .und) :: .v (.one .und) :: .v (.one .und) :: .v (.one .und) :: .v (.one .und) :: .v (.one .und) :: .v (.one .und) :: .v (.one .und) :: .v (.one .und) :: .v (.one .und) :: .v (.one .und) :: .v (.one .und) :: .v (.one .und) :: .v (.one .und) :: .v (.one .und) :: .v (.one .und) :: .v (.one .und) :: .v (.one .und) :: .v (.one .und) :: .v (.one .und) :: .v (.one .und) :: .v (.one .und) :: .v (.one .und) :: .v (.one .und) :: .v (.one .und) :: .v (.one .und) :: .v (.one .und) :: .v (.one .und) :: .v (.one .und) :: .v (.one .und) :: .v (.one .und) :: .v (.one .und) :: .v (.one .und) :: .v (.one .und) :: .v (.one .und) :: .v (.one .und) :: .v (.one .und) :: .v (.one .und) :: .v (.one .und) :: .v (.one .und) :: .v (.one .und) :: .v (.one .und) :: .v (.one .und) :: .v (.one .und) :: .v (.one .und) :: .v (.one .und) :: .v (.one .und) :: .v (.one .und) :: [], [.pcells 0 62 [.int .i64 v2, .int .i64 v3, .int .i64 v4, .mp 1], .pmp 1 ⟨true, false⟩ v5, .cells 46 [.int .i64 v6, .int .i64 v7], .srow 5 (.ints .u8 v8)]⟩
def x21_0_0_k0  (y0 : ByteArray) (y1 : Int) (y2 : Int) (y3 : Int) (y4 : Mp) : St := ⟨.v (.one .und) :: .v (.one .und) :: .v (.one .und) :: .v (.one .und) :: .v (.one (.str y0)) :: .v (.one .und) :: .v (.one .und) :: .v (.one .und) :: .v (.one .und) :: .v (.one .und) :: .v (.one .und) :: .v (.one .und) :: .v (.one .und) :: .v (.one .und) :: .v (.one .und) :: .v (.one .und) :: .v (.one .und) :: .v (.one .und) :: .v (.one .und) :: .v (.one .und) :: .v (.one .und) :: .v (.one .und) :: .v (.one .und) :: .v (.one .und) :: .v (.one .und) :: .v (.one .und) :: .v (.one .und) :: .v (.one .und) :: .v (.one .und) :: .v (.one .und) :: .v (.one .und) :: .v (.one .und) :: .v (.one .und) :: .v (.one .und) :: .v (.one .und) :: .v (.one .und) :: .v (.one .und) :: .v (.one .und) :: .v (.one .und) :: .v (.one .und) :: .v (.one .und) :: .v (.one .und) :: .v (.one .und) :: .v (.one .und) :: .v (.one .und) :: .v (.one .und) :: .v (.one .und) :: .v (.one .und) :: .v (.one .und) :: .v (.one .und) :: .v (.one .und) :: .v (.one .und) :: .v (.one .und) :: .v (.one .und) :: .v (.one .und) :: .v (.one .und) :: .v (.one .und) :: .v (.one .und) :: .v (.one .und) :: .v (.one .und) :: .v (.one .und) :: .v (.one .und) :: .v (.one .und) :: .v (.one .und) :: .v (.one .und) :: .v (.one .und) :: .v (.one .und) :: .v (.one .und) :: .v (.one .und) :: .v (.one .und) :: .v (.one .und) :: [], [.pcells 0 62 [.int .i64 y1, .int .i64 y2, .int .i64 y3, .mp 1], .pmp 1 ⟨true, false⟩ y4]⟩
def x21_0_0_k1  (y0 : Int) (y1 : Int) (y2 : Int) (y3 : Mp) : St := ⟨.v (.one .und) :: .v (.one .und) :: .v (.one .und) :: .v (.one .und) :: .v (.one .und) :: .v (.one .und) :: .v (.one .und) :: .v (.one .und) :: .v (.one .und) :: .v (.one .und) :: .v (.one .und) :: .v (.one .und) :: .v (.one .und) :: .v (.one .und) :: .v (.one .und) :: .v (.one .und) :: .v (.one .und) :: .v (.one .und) :: .v (.one .und) :: .v (.one .und) :: .v (.one .und) :: .v (.one .und) :: .v (.one .und) :: .v (.one .und) :: .v (.one .und) :: .v (.one .und) :: .v (.one .und) :: .v (.one .und) :: .v (.one .und) :: .v (.one .und) :: .v (.one .und) :: .v (.one .und) :: .v (.one .und) :: .v (.one .und) :: .v (.one .und) :: .v (.one .und) :: .v (.one .und) :: .v (.one .und) :: .v (.one .und) :: .v (.one .und) :: .v (.one .und) :: .v (.one .und) :: .v (.one .und) :: .v (.one .und) :: .v (.one .und) :: .v (.one .und) :: .v (.one .und) :: .v (.one .und) :: .v (.one .und) :: .v (.one .und) :: .v (.one .und) :: .v (.one .und) :: .v (.one .und) :: .v (.one .und) :: .v (.one .und) :: .v (.one .und) :: .v (.one .und) :: .v (.one .und) :: .v (.one .und) :: .v (.one .und) :: .v (.one .und) :: .v (.one .und) :: .v (.one .und) :: .v (.one .und) :: .v (.one .und) :: .v (.one .und) :: .v (.one .und) :: .v (.one .und) :: .v (.one .und) :: .v (.one .und) :: .v (.one .und) :: [], [.pcells 0 62 [.int .i64 y0, .int .i64 y1, .int .i64 y2, .mp 1], .pmp 1 ⟨true, false⟩ y3]⟩
def h21_1_0  (v0 : Int) (v1 : Int) (v2 : Int) (v3 : Int) (v4 : Int) (v5 : Int) (v6 : Int) (v7 : Mp) (v8 : Int) (v9 : Int) (v10 : List Int) : St := ⟨.v (.one (.ptr 0 0)) :: .v (.one .und) :: .v (.one .und) :: .v (.one (.ptr 2 0)) :: .v (.one .und) :: .v (.one .und) :: .v (.one .und) :: .v (.one (.int .u8 v0)) :: .v (.one .und) :: .v (.one .und) :: .v (.one .und) :: .v (.one .und) :: .v (.one .und) :: .v (.one .und) :: .v (.one .und) :: .v (.one .und) :: .v (.one .und) :: .v (.one .und) :: .v (.one .und) :: .v (.one .und) :: .v (.one (.row 3)) :: .v (.one (.int .i64 v1)) :: .v (.one (.int .i64 v2)) :: .v (.one .und) :: .v (.one .und) :: .v (.one .und) :: .v (.one (.int .i64 v3)) :: .v (.one .und) :: .v (.one .und) :: .v (.one .und) :: .v (.one .und) :: .v (.one .und) :: .v (.one .und) :: .v (.one .und) :: .v (.one .und) :: .v (.one .und) :: .v (.one .und) :: .v (.one .und) :: .v (.one .und) :: .v (.one .und) :: .v (.one .und) :: .v (.one .und) :: .v (.one .und) :: .v (.one .und) :: .v (.one .und) :: .v (.one .und) :: .v (.one .und) :: .v (.one .und) :: .v (.one .und) :: .v (.one .und) :: .v (.one .und) :: .v (.one .und) :: .v (.one .und) :: .v (.one .und) :: .v (.one .und) :: .v (.one .und) :: .v (.one .und) :: .v (.one .und) :: .v (.one .und) :: .v (.one .und) :: .v (.one .und) :: .v (.one .und) :: .v (.one .und) :: .v (.one .und) :: .v (.one .und) :: .v (.one .und) :: .v (.one .und) :: .v (.one .und) :: .v (.one .und) :: .v (.one .und) :: .v (.one .und) :: [], [.pcells 0 62 [.int .i64 v4, .int .i64 v5, .int .i64 v6, .mp 1], .pmp 1 ⟨true, false⟩ v7, .cells 46 [.int .i64 v8, .int .i64 v9], .srow 5 (.ints .u8 v10)]⟩
def x21_1_0_k0  (y0 : ByteArray) (y1 : Int) (y2 : Int) (y3 : Int) (y4 : Mp) : St := ⟨.v (.one .und) :: .v (.one .und) :: .v (.one .und) :: .v (.one .und) :: .v (.one (.str y0)) :: .v (.one .und) :: .v (.one .und) :: .v (.one .und) :: .v (.one .und) :: .v (.one .und) :: .v (.one .und) :: .v (.one .und) :: .v (.one .und) :: .v (.one .und) :: .v (.one .und) :: .v (.one .und) :: .v (.one .und) :: .v (.one .und) :: .v (.one .und) :: .v (.one .und) :: .v (.one .und) :: .v (.one .und) :: .v (.one .und) :: .v (.one .und) :: .v (.one .und) :: .v (.one .und) :: .v (.one .und) :: .v (.one .und) :: .v (.one .und) :: .v (.one .und) :: .v (.one .und) :: .v (.one .und) :: .v (.one .und) :: .v (.one .und) :: .v (.one .und) :: .v (.one .und) :: .v (.one .und) :: .v (.one .und) :: .v (.one .und) :: .v (.one .und) :: .v (.one .und) :: .v (.one .und) :: .v (.one .und) :: .v (.one .und) :: .v (.one .und) :: .v (.one .und) :: .v (.one .und) :: .v (.one .und) :: .v (.one .und) :: .v (.one .und) :: .v (.one .und) :: .v (.one .und) :: .v (.one .und) :: .v (.one .und) :: .v (.one .und) :: .v (.one .und) :: .v (.one .und) :: .v (.one .und) :: .v (.one .und) :: .v (.one .und) :: .v (.one .und) :: .v (.one .und) :: .v (.one .und) :: .v (.one .und) :: .v (.one .und) :: .v (.one .und) :: .v (.one .und) :: .v (.one .und) :: .v (.one .und) :: .v (.one .und) :: .v (.one .und) :: [], [.pcells 0 62 [.int .i64 y1, .int .i64 y2, .int .i64 y3, .mp 1], .pmp 1 ⟨true, false⟩ y4]⟩
def x21_1_0_k1  (y0 : Int) (y1 : Int) (y2 : Int) (y3 : Int) (y4 : Int) (y5 : Mp) (y6 : Int) (y7 : Int) (y8 : List Int) : St := ⟨.v (.one (.ptr 0 0)) :: .v (.one .und) :: .v (.one .und) :: .v (.one (.ptr 2 0)) :: .v (.one .und) :: .v (.one .und) :: .v (.one .und) :: .v (.one .und) :: .v (.one .und) :: .v (.one .und) :: .v (.one .und) :: .v (.one .und) :: .v (.one .und) :: .v (.one .und) :: .v (.one .und) :: .v (.one .und) :: .v (.one .und) :: .v (.one .und) :: .v (.one .und) :: .v (.one .und) :: .v (.one (.row 3)) :: .v (.one (.int .i64 y0)) :: .v (.one (.int .i64 y1)) :: .v (.one .und) :: .v (.one .und) :: .v (.one .und) :: .v (.one .und) :: .v (.one .und) :: .v (.one .und) :: .v (.one .und) :: .v (.one .und) :: .v (.one .und) :: .v (.one .und) :: .v (.one .und) :: .v (.one .und) :: .v (.one .und) :: .v (.one .und) :: .v (.one .und) :: .v (.one .und) :: .v (.one .und) :: .v (.one .und) :: .v (.one .und) :: .v (.one .und) :: .v (.one .und) :: .v (.one .und) :: .v (.one .und) :: .v (.one .und) :: .v (.one .und) :: .v (.one .und) :: .v (.one .und) :: .v (.one .und) :: .v (.one .und) :: .v (.one .und) :: .v (.one .und) :: .v (.one .und) :: .v (.one .und) :: .v (.one .und) :: .v (.one .und) :: .v (.one .und) :: .v (.one .und) :: .v (.one .und) :: .v (.one .und) :: .v (.one .und) :: .v (.one .und) :: .v (.one .und) :: .v (.one .und) :: .v (.one .und) :: .v (.one .und) :: .v (.one .und) :: .v (.one .und) :: .v (.one .und) :: [], [.pcells 0 62 [.int .i64 y2, .int .i64 y3, .int .i64 y4, .mp 1], .pmp 1 ⟨true, false⟩ y5, .cells 46 [.int .i64 y6, .int .i64 y7], .srow 5 (.ints .u8 y8)]⟩
theorem fl21_0_0 (s : St) : refSt (h21_0_0 0 0 0 0 0 [] 0 0 []) s = h21_0_0 (intS (oneA (vT (nx tund s.tmps 21)))) (intS (oneA (vT (nx tund s.tmps 22)))) (intS (nx .und (cellsB (nx .dead s.blks 0)) 0)) (intS (nx .und (cellsB (nx .dead s.blks 0)) 1)) (intS (nx .und (cellsB (nx .dead s.blks 0)) 2)) (mpB (nx .dead s.blks 1)) (intS (nx .und (cellsB (nx .dead s.blks 2)) 0)) (intS (nx .und (cellsB (nx .dead s.blks 2)) 1)) (rInts (rowB_ (nx .dead s.blks 3))) := by kernel_rfl
def VLS21_0 {β : Type} (N : Nat) (q_impl_talk_text_l0 : (self : Int → Int → Int → Int → Int → Mp → (ByteArray → Int → Int → Int → Mp → Option β) → Option β) → Nat → Int → Int → Int → Int → Int → Mp → Int → Int → List Int → (ByteArray → Int → Int → Int → Mp → Option β) → (Int → Int → Int → Mp → Option β) → Option β) (q_impl_talk_text_g0_f : Nat → Int → Int → Int → Int → Int → Mp → (ByteArray → Int → Int → Int → Mp → Option β) → Option β) (G : Nat) : LSpec β := fun s K => cond (shpSt (h21_0_0 0 0 0 0 0 [] 0 0 []) s) ((fun (v0 : Int) (v1 : Int) (v2 : Int) (v3 : Int) (v4 : Int) (v5 : Mp) (v6 : Int) (v7 : Int) (v8 : List Int) => q_impl_talk_text_l0 (q_impl_talk_text_g0_f G)  N v0 v1 v2 v3 v4 v5 v6 v7 v8 (fun y0 y1 y2 y3 y4 => K .ret (x21_0_0_k0  y0 y1 y2 y3 y4)) (fun y0 y1 y2 y3 => K (.exit 0) (x21_0_0_k1  y0 y1 y2 y3))) (intS (oneA (vT (nx tund s.tmps 21)))) (intS (oneA (vT (nx tund s.tmps 22)))) (intS (nx .und (cellsB (nx .dead s.blks 0)) 0)) (intS (nx .und (cellsB (nx .dead s.blks 0)) 1)) (intS (nx .und (cellsB (nx .dead s.blks 0)) 2)) (mpB (nx .dead s.blks 1)) (intS (nx .und (cellsB (nx .dead s.blks 2)) 0)) (intS (nx .und (cellsB (nx .dead s.blks 2)) 1)) (rInts (rowB_ (nx .dead s.blks 3)))) (none)
def LS21_0 {β : Type} (N : Nat) (G : Nat) : LSpec β := VLS21_0 N (impl_talk_text_l0 N) (impl_talk_text_g0_f N) G
theorem fl21_1_0 (s : St) : refSt (h21_1_0 0 0 0 0 0 0 0 [] 0 0 []) s = h21_1_0 (intS (oneA (vT (nx tund s.tmps 7)))) (intS (oneA (vT (nx tund s.tmps 21)))) (intS (oneA (vT (nx tund s.tmps 22)))) (intS (oneA (vT (nx tund s.tmps 26)))) (intS (nx .und (cellsB (nx .dead s.blks 0)) 0)) (intS (nx .und (cellsB (nx .dead s.blks 0)) 1)) (intS (nx .und (cellsB (nx .dead s.blks 0)) 2)) (mpB (nx .dead s.blks 1)) (intS (nx .und (cellsB (nx .dead s.blks 2)) 0)) (intS (nx .und (cellsB (nx .dead s.blks 2)) 1)) (rInts (rowB_ (nx .dead s.blks 3))) := by kernel_rfl
def VLS21_2 {β : Type} (N : Nat) (q_impl_talk_text_l2 : (self : Int → Int → Int → Int → Int → Mp → (ByteArray → Int → Int → Int → Mp → Option β) → Option β) → Nat → Int → Int → Int → Int → Int → Int → Int → Mp → Int → Int → List Int → (ByteArray → Int → Int → Int → Mp → Option β) → (Int → Int → Int → Int → Int → Mp → Int → Int → List Int → Option β) → Option β) (q_impl_talk_text_g0_f : Nat → Int → Int → Int → Int → Int → Mp → (ByteArray → Int → Int → Int → Mp → Option β) → Option β) (G : Nat) : LSpec β := fun s K => cond (shpSt (h21_1_0 0 0 0 0 0 0 0 [] 0 0 []) s) ((fun (v0 : Int) (v1 : Int) (v2 : Int) (v3 : Int) (v4 : Int) (v5 : Int) (v6 : Int) (v7 : Mp) (v8 : Int) (v9 : Int) (v10 : List Int) => q_impl_talk_text_l2 (q_impl_talk_text_g0_f G)  N v0 v1 v2 v3 v4 v5 v6 v7 v8 v9 v10 (fun y0 y1 y2 y3 y4 => K .ret (x21_1_0_k0  y0 y1 y2 y3 y4)) (fun y0 y1 y2 y3 y4 y5 y6 y7 y8 => K (.exit 2) (x21_1_0_k1  y0 y1 y2 y3 y4 y5 y6 y7 y8))) (intS (oneA (vT (nx tund s.tmps 7)))) (intS (oneA (vT (nx tund s.tmps 21)))) (intS (oneA (vT (nx tund s.tmps 22)))) (intS (oneA (vT (nx tund s.tmps 26)))) (intS (nx .und (cellsB (nx .dead s.blks 0)) 0)) (intS (nx .und (cellsB (nx .dead s.blks 0)) 1)) (intS (nx .und (cellsB (nx .dead s.blks 0)) 2)) (mpB (nx .dead s.blks 1)) (intS (nx .und (cellsB (nx .dead s.blks 2)) 0)) (intS (nx .und (cellsB (nx .dead s.blks 2)) 1)) (rInts (rowB_ (nx .dead s.blks 3)))) (none)
def LS21_2 {β : Type} (N : Nat) (G : Nat) : LSpec β := VLS21_2 N (impl_talk_text_l2 N) (impl_talk_text_g0_f N) G
def VE21 {β : Type} (N : Nat) (q_impl_FormatInt : (a0 : Int) → (k : ByteArray → Option β) → Option β) (q_impl_sides_parted : (a0 : Int) → (a1 : Int) → (a2 : Int) → (a3 : Int) → (k : Int → Int → Int → Int → Bool → Option β) → Option β) (q_impl_talk_text_l0 : (self : Int → Int → Int → Int → Int → Mp → (ByteArray → Int → Int → Int → Mp → Option β) → Option β) → Nat → Int → Int → Int → Int → Int → Mp → Int → Int → List Int → (ByteArray → Int → Int → Int → Mp → Option β) → (Int → Int → Int → Mp → Option β) → Option β) (q_impl_talk_text_g0_f : Nat → Int → Int → Int → Int → Int → Mp → (ByteArray → Int → Int → Int → Mp → Option β) → Option β) (q_impl_talk_text_l2 : (self : Int → Int → Int → Int → Int → Mp → (ByteArray → Int → Int → Int → Mp → Option β) → Option β) → Nat → Int → Int → Int → Int → Int → Int → Int → Mp → Int → Int → List Int → (ByteArray → Int → Int → Int → Mp → Option β) → (Int → Int → Int → Int → Int → Mp → Int → Int → List Int → Option β) → Option β) (q_impl_talk_value_g0 : (a0 : Int) → (a1 : Int) → (a2 : Int) → (a3 : Int) → (a4 : Int) → (a5 : Mp) → (k0 : Int → Int → Int → Int → Mp → Option β) → Option β) (q_impl_talk_need_g0_f : Nat → Int → Int → Int → Int → Int → Mp → (Int → Int → Int → Int → Mp → Option β) → Option β) (G : Nat) : Env β := ⟨[(38, VS38 N q_impl_FormatInt), (39, VS39 N q_impl_sides_parted)], [], [(0, VLS21_0 N q_impl_talk_text_l0 q_impl_talk_text_g0_f G), (2, VLS21_2 N q_impl_talk_text_l2 q_impl_talk_text_g0_f G)], [(37, VS37 N q_impl_talk_value_g0), (40, VS40 N q_impl_talk_need_g0_f), (21, VSF21 N q_impl_talk_text_g0_f G)]⟩
def E21 {β : Type} (N : Nat) (G : Nat) : Env β := VE21 N (impl_FormatInt N) (impl_sides_parted N) (impl_talk_text_l0 N) (impl_talk_text_g0_f N) (impl_talk_text_l2 N) (impl_talk_value_g0 N) (impl_talk_need_g0_f N) G
def BV_impl_talk_text_l0b {β : Type} (N : Nat) (q_impl_talk_text_l2 : (self : Int → Int → Int → Int → Int → Mp → (ByteArray → Int → Int → Int → Mp → Option β) → Option β) → Nat → Int → Int → Int → Int → Int → Int → Int → Mp → Int → Int → List Int → (ByteArray → Int → Int → Int → Mp → Option β) → (Int → Int → Int → Int → Int → Mp → Int → Int → List Int → Option β) → Option β) (self : Int → Int → Int → Int → Int → Mp → (ByteArray → Int → Int → Int → Mp → Option β) → Option β)  (v0 : Int) (v1 : Int) (v2 : Int) (v3 : Int) (v4 : Int) (v5 : Mp) (v6 : Int) (v7 : Int) (v8 : List Int) (rec_ : Int → Int → Int → Int → Int → Mp → Int → Int → List Int → Option β) (k0 : ByteArray → Int → Int → Int → Mp → Option β) (k1 : Int → Int → Int → Mp → Option β) : Option β :=
(cond ((decide (v1 < v0)))
((gd ((decide (0 ≤ v1)))
((gd ((decide (v1 < (v8.length : Int))))
(q_impl_talk_text_l2 self  N ((rd 0 v8 v1)) v0 v1 0 v2 v3 v4 v5 v6 v7 v8 (fun e24_0 e24_1 e24_2 e24_3 e24_4 =>
k0 e24_0 e24_1 e24_2 e24_3 e24_4) (fun e25_0 e25_1 e25_2 e25_3 e25_4 e25_5 e25_6 e25_7 e25_8 =>
rec_ e25_0 ((w64 (e25_1 + 1))) e25_2 e25_3 e25_4 e25_5 e25_6 e25_7 e25_8))))))
(k1 v2 v3 v4 v5))
theorem t_impl_talk_text_l0b {β : Type} (N : Nat) (self : Int → Int → Int → Int → Int → Mp → (ByteArray → Int → Int → Int → Mp → Option β) → Option β)  (v0 : Int) (v1 : Int) (v2 : Int) (v3 : Int) (v4 : Int) (v5 : Mp) (v6 : Int) (v7 : Int) (v8 : List Int) (rec_ : Int → Int → Int → Int → Int → Mp → Int → Int → List Int → Option β) (k0 : ByteArray → Int → Int → Int → Mp → Option β) (k1 : Int → Int → Int → Mp → Option β) : impl_talk_text_l0b N self v0 v1 v2 v3 v4 v5 v6 v7 v8 rec_ k0 k1 = BV_impl_talk_text_l0b N (impl_talk_text_l2 N) self v0 v1 v2 v3 v4 v5 v6 v7 v8 rec_ k0 k1 := by
  unfold impl_talk_text_l0b BV_impl_talk_text_l0b
  rfl
theorem vst21_0_0 {β : Type} (N : Nat) (q_impl_FormatInt : (a0 : Int) → (k : ByteArray → Option β) → Option β) (q_impl_sides_parted : (a0 : Int) → (a1 : Int) → (a2 : Int) → (a3 : Int) → (k : Int → Int → Int → Int → Bool → Option β) → Option β) (q_impl_talk_text_l0 : (self : Int → Int → Int → Int → Int → Mp → (ByteArray → Int → Int → Int → Mp → Option β) → Option β) → Nat → Int → Int → Int → Int → Int → Mp → Int → Int → List Int → (ByteArray → Int → Int → Int → Mp → Option β) → (Int → Int → Int → Mp → Option β) → Option β) (q_impl_talk_text_g0_f : Nat → Int → Int → Int → Int → Int → Mp → (ByteArray → Int → Int → Int → Mp → Option β) → Option β) (q_impl_talk_text_l2 : (self : Int → Int → Int → Int → Int → Mp → (ByteArray → Int → Int → Int → Mp → Option β) → Option β) → Nat → Int → Int → Int → Int → Int → Int → Int → Mp → Int → Int → List Int → (ByteArray → Int → Int → Int → Mp → Option β) → (Int → Int → Int → Int → Int → Mp → Int → Int → List Int → Option β) → Option β) (q_impl_talk_value_g0 : (a0 : Int) → (a1 : Int) → (a2 : Int) → (a3 : Int) → (a4 : Int) → (a5 : Mp) → (k0 : Int → Int → Int → Int → Mp → Option β) → Option β) (q_impl_talk_need_g0_f : Nat → Int → Int → Int → Int → Int → Mp → (Int → Int → Int → Int → Mp → Option β) → Option β) (G : Nat)  (v0 : Int) (v1 : Int) (v2 : Int) (v3 : Int) (v4 : Int) (v5 : Mp) (v6 : Int) (v7 : Int) (v8 : List Int) (rec_ : St → Option β) (K : Exit → St → Option β) :
    ev lay (VE21 N q_impl_FormatInt q_impl_sides_parted q_impl_talk_text_l0 q_impl_talk_text_g0_f q_impl_talk_text_l2 q_impl_talk_value_g0 q_impl_talk_need_g0_f G) (retMask Tryd.f21) (lp Tryd.f21 0).body (lp Tryd.f21 0).ex ((lp Tryd.f21 0).lv (retMask Tryd.f21)) (h21_0_0  v0 v1 v2 v3 v4 v5 v6 v7 v8) (nextR (fun s' => rec_ (s'.tidy ((lp Tryd.f21 0).lv (retMask Tryd.f21)))) K) = BV_impl_talk_text_l0b N q_impl_talk_text_l2 (q_impl_talk_text_g0_f G)  v0 v1 v2 v3 v4 v5 v6 v7 v8 (fun v0 v1 v2 v3 v4 v5 v6 v7 v8 => rec_ (h21_0_0  v0 v1 v2 v3 v4 v5 v6 v7 v8)) (fun y0 y1 y2 y3 y4 => K .ret (x21_0_0_k0  y0 y1 y2 y3 y4)) (fun y0 y1 y2 y3 => K (.exit 0) (x21_0_0_k1  y0 y1 y2 y3)) := by kernel_rfl
theorem st21_0_0 {β : Type} (N : Nat) (G : Nat)  (v0 : Int) (v1 : Int) (v2 : Int) (v3 : Int) (v4 : Int) (v5 : Mp) (v6 : Int) (v7 : Int) (v8 : List Int) (rec_ : St → Option β) (K : Exit → St → Option β) :
    ev lay (E21 N G) (retMask Tryd.f21) (lp Tryd.f21 0).body (lp Tryd.f21 0).ex ((lp Tryd.f21 0).lv (retMask Tryd.f21)) (h21_0_0  v0 v1 v2 v3 v4 v5 v6 v7 v8) (nextR (fun s' => rec_ (s'.tidy ((lp Tryd.f21 0).lv (retMask Tryd.f21)))) K) = impl_talk_text_l0b N (impl_talk_text_g0_f N G)  v0 v1 v2 v3 v4 v5 v6 v7 v8 (fun v0 v1 v2 v3 v4 v5 v6 v7 v8 => rec_ (h21_0_0  v0 v1 v2 v3 v4 v5 v6 v7 v8)) (fun y0 y1 y2 y3 y4 => K .ret (x21_0_0_k0  y0 y1 y2 y3 y4)) (fun y0 y1 y2 y3 => K (.exit 0) (x21_0_0_k1  y0 y1 y2 y3)) := (vst21_0_0 N (impl_FormatInt N) (impl_sides_parted N) (impl_talk_text_l0 N) (impl_talk_text_g0_f N) (impl_talk_text_l2 N) (impl_talk_value_g0 N) (impl_talk_need_g0_f N) G v0 v1 v2 v3 v4 v5 v6 v7 v8 rec_ K).trans (t_impl_talk_text_l0b N (impl_talk_text_g0_f N G)  v0 v1 v2 v3 v4 v5 v6 v7 v8 (fun v0 v1 v2 v3 v4 v5 v6 v7 v8 => rec_ (h21_0_0  v0 v1 v2 v3 v4 v5 v6 v7 v8)) (fun y0 y1 y2 y3 y4 => K .ret (x21_0_0_k0  y0 y1 y2 y3 y4)) (fun y0 y1 y2 y3 => K (.exit 0) (x21_0_0_k1  y0 y1 y2 y3))).symm
theorem ro21_0_0 {β : Type} (N : Nat) (G : Nat)  (K : Exit → St → Option β) : ∀ (F : Nat) (v0 : Int) (v1 : Int) (v2 : Int) (v3 : Int) (v4 : Int) (v5 : Mp) (v6 : Int) (v7 : Int) (v8 : List Int), (lp Tryd.f21 0).rounds lay (E21 N G) (retMask Tryd.f21) F (h21_0_0  v0 v1 v2 v3 v4 v5 v6 v7 v8) K = impl_talk_text_l0 N (impl_talk_text_g0_f N G)  F v0 v1 v2 v3 v4 v5 v6 v7 v8 (fun y0 y1 y2 y3 y4 => K .ret (x21_0_0_k0  y0 y1 y2 y3 y4)) (fun y0 y1 y2 y3 => K (.exit 0) (x21_0_0_k1  y0 y1 y2 y3)) := by
  intro F
  induction F with
  | zero => intros; rfl
  | succ F ih =>
    intros
    rw [rounds_next]
    refine (st21_0_0 N G  _ _ _ _ _ _ _ _ _ (fun s => (lp Tryd.f21 0).rounds lay (E21 N G) (retMask Tryd.f21) F s K) K).trans ?_
    simp only [ih]
    rfl
theorem lk21_0 {β : Type} (N : Nat) (G : Nat) : lookL (E21 (β := β) N G).loops (lp Tryd.f21 0).id = LS21_0 N G := by kernel_rfl
theorem rk21_0 {β : Type} (N : Nat) (G : Nat) : RoundsOK lay (E21 (β := β) N G) (retMask Tryd.f21) (lp Tryd.f21 0) := by
  intro s K r h
  rw [lk21_0] at h
  unfold LS21_0 VLS21_0 at h
  cases hb : shpSt (h21_0_0 0 0 0 0 0 [] 0 0 []) s with
  | true =>
    rw [hb, cond_true] at h
    exact ⟨N, by rw [← shpSt_ref hb, fl21_0_0 s]; exact (ro21_0_0 N G  K N (intS (oneA (vT (nx tund s.tmps 21)))) (intS (oneA (vT (nx tund s.tmps 22)))) (intS (nx .und (cellsB (nx .dead s.blks 0)) 0)) (intS (nx .und (cellsB (nx .dead s.blks 0)) 1)) (intS (nx .und (cellsB (nx .dead s.blks 0)) 2)) (mpB (nx .dead s.blks 1)) (intS (nx .und (cellsB (nx .dead s.blks 2)) 0)) (intS (nx .und (cellsB (nx .dead s.blks 2)) 1)) (rInts (rowB_ (nx .dead s.blks 3)))).trans h⟩
  | false =>
  rw [hb, cond_false] at h
  clear hb
  cases h
def BV_impl_talk_text_l2b {β : Type} (N : Nat) (q_impl_sides_parted : (a0 : Int) → (a1 : Int) → (a2 : Int) → (a3 : Int) → (k : Int → Int → Int → Int → Bool → Option β) → Option β) (q_impl_talk_need_g0_f : Nat → Int → Int → Int → Int → Int → Mp → (Int → Int → Int → Int → Mp → Option β) → Option β) (self : Int → Int → Int → Int → Int → Mp → (ByteArray → Int → Int → Int → Mp → Option β) → Option β)  (v0 : Int) (v1 : Int) (v2 : Int) (v3 : Int) (v4 : Int) (v5 : Int) (v6 : Int) (v7 : Mp) (v8 : Int) (v9 : Int) (v10 : List Int) (rec_ : Int → Int → Int → Int → Int → Int → Int → Mp → Int → Int → List Int → Option β) (k0 : ByteArray → Int → Int → Int → Mp → Option β) (k1 : Int → Int → Int → Int → Int → Mp → Int → Int → List Int → Option β) : Option β :=
(cond ((decide (v3 < 16)))
(q_impl_sides_parted v8 v9 v0 v3 fun r10 r11 r12 r13 r14 =>
(cond r14
(q_impl_talk_need_g0_f N r10 r11 v4 v5 v6 v7 (fun r15_0 r15_1 r15_2 r15_3 r15_4 =>
q_impl_talk_need_g0_f N v8 v9 r15_1 r15_2 r15_3 r15_4 (fun r16_0 r16_1 r16_2 r16_3 r16_4 =>
(cond ((decide (r15_0 < r16_0)))
(q_impl_talk_need_g0_f N r12 r13 r16_1 r16_2 r16_3 r16_4 (fun r17_0 r17_1 r17_2 r17_3 r17_4 =>
q_impl_talk_need_g0_f N v8 v9 r17_1 r17_2 r17_3 r17_4 (fun r18_0 r18_1 r18_2 r18_3 r18_4 =>
(cond ((decide (r17_0 < r18_0)))
((gd ((decide (0 ≤ v3)))
((gd ((decide (v3 < (((strOf [48, 49, 50, 51, 52, 53, 54, 55, 56, 57, 97, 98, 99, 100, 101, 102])).size : Int))))
(self r10 r11 r18_1 r18_2 r18_3 r18_4 (fun r19_0 r19_1 r19_2 r19_3 r19_4 =>
(gd ((decide (((strOf (((([] : List Int) ++ [v0]) ++ [(bt ((strOf [48, 49, 50, 51, 52, 53, 54, 55, 56, 57, 97, 98, 99, 100, 101, 102])) v3)])))).size + r19_0.size ≤ 9223372036854775807)))
(self r12 r13 r19_1 r19_2 r19_3 r19_4 (fun r20_0 r20_1 r20_2 r20_3 r20_4 =>
(gd ((decide ((((strOf (((([] : List Int) ++ [v0]) ++ [(bt ((strOf [48, 49, 50, 51, 52, 53, 54, 55, 56, 57, 97, 98, 99, 100, 101, 102])) v3)]))) ++ r19_0)).size + r20_0.size ≤ 9223372036854775807)))
(self r10 r11 r18_1 r18_2 r18_3 r18_4 (fun r21_0 r21_1 r21_2 r21_3 r21_4 =>
(gd ((decide (((strOf (((([] : List Int) ++ [v0]) ++ [(bt ((strOf [48, 49, 50, 51, 52, 53, 54, 55, 56, 57, 97, 98, 99, 100, 101, 102])) v3)])))).size + r21_0.size ≤ 9223372036854775807)))
(self r12 r13 r21_1 r21_2 r21_3 r21_4 (fun r22_0 r22_1 r22_2 r22_3 r22_4 =>
(gd ((decide ((((strOf (((([] : List Int) ++ [v0]) ++ [(bt ((strOf [48, 49, 50, 51, 52, 53, 54, 55, 56, 57, 97, 98, 99, 100, 101, 102])) v3)]))) ++ r21_0)).size + r22_0.size ≤ 9223372036854775807)))
(self r12 r13 r21_1 r21_2 r21_3 r21_4 (fun r23_0 r23_1 r23_2 r23_3 r23_4 =>
(gd ((decide (((strOf (((([] : List Int) ++ [v0]) ++ [(bt ((strOf [48, 49, 50, 51, 52, 53, 54, 55, 56, 57, 97, 98, 99, 100, 101, 102])) v3)])))).size + r21_0.size ≤ 9223372036854775807)))
((gd ((decide ((((strOf (((([] : List Int) ++ [v0]) ++ [(bt ((strOf [48, 49, 50, 51, 52, 53, 54, 55, 56, 57, 97, 98, 99, 100, 101, 102])) v3)]))) ++ r21_0)).size + r23_0.size ≤ 9223372036854775807)))
((impl_talk_text_t12 ((((strOf (((([] : List Int) ++ [v0]) ++ [(bt ((strOf [48, 49, 50, 51, 52, 53, 54, 55, 56, 57, 97, 98, 99, 100, 101, 102])) v3)]))) ++ r21_0) ++ r22_0)) r22_1 r22_2 r22_3 r22_4 ((((strOf (((([] : List Int) ++ [v0]) ++ [(bt ((strOf [48, 49, 50, 51, 52, 53, 54, 55, 56, 57, 97, 98, 99, 100, 101, 102])) v3)]))) ++ r21_0) ++ r23_0)) r23_1 r23_2 r23_3 r23_4
((impl_talk_text_t12 ((((strOf (((([] : List Int) ++ [v0]) ++ [(bt ((strOf [48, 49, 50, 51, 52, 53, 54, 55, 56, 57, 97, 98, 99, 100, 101, 102])) v3)]))) ++ r19_0) ++ r20_0)) r20_1 r20_2 r20_3 r20_4 ((((strOf (((([] : List Int) ++ [v0]) ++ [(bt ((strOf [48, 49, 50, 51, 52, 53, 54, 55, 56, 57, 97, 98, 99, 100, 101, 102])) v3)]))) ++ r21_0) ++ r22_0)) r22_1 r22_2 r22_3 r22_4
(k0 ((((strOf (((([] : List Int) ++ [v0]) ++ [(bt ((strOf [48, 49, 50, 51, 52, 53, 54, 55, 56, 57, 97, 98, 99, 100, 101, 102])) v3)]))) ++ r19_0) ++ r20_0)) r20_1 r20_2 r20_3 r20_4))))))))))))))))))))))))))
(rec_ v0 v1 v2 ((w64 (v3 + 1))) r18_1 r18_2 r18_3 r18_4 v8 v9 v10)))))
(rec_ v0 v1 v2 ((w64 (v3 + 1))) r16_1 r16_2 r16_3 r16_4 v8 v9 v10)))))
(rec_ v0 v1 v2 ((w64 (v3 + 1))) v4 v5 v6 v7 v8 v9 v10)))
(k1 v1 v2 v4 v5 v6 v7 v8 v9 v10))
theorem t_impl_talk_text_l2b {β : Type} (N : Nat) (self : Int → Int → Int → Int → Int → Mp → (ByteArray → Int → Int → Int → Mp → Option β) → Option β)  (v0 : Int) (v1 : Int) (v2 : Int) (v3 : Int) (v4 : Int) (v5 : Int) (v6 : Int) (v7 : Mp) (v8 : Int) (v9 : Int) (v10 : List Int) (rec_ : Int → Int → Int → Int → Int → Int → Int → Mp → Int → Int → List Int → Option β) (k0 : ByteArray → Int → Int → Int → Mp → Option β) (k1 : Int → Int → Int → Int → Int → Mp → Int → Int → List Int → Option β) : impl_talk_text_l2b N self v0 v1 v2 v3 v4 v5 v6 v7 v8 v9 v10 rec_ k0 k1 = BV_impl_talk_text_l2b N (impl_sides_parted N) (impl_talk_need_g0_f N) self v0 v1 v2 v3 v4 v5 v6 v7 v8 v9 v10 rec_ k0 k1 := by
  unfold impl_talk_text_l2b BV_impl_talk_text_l2b
  rfl
theorem vst21_1_0 {β : Type} (N : Nat) (q_impl_FormatInt : (a0 : Int) → (k : ByteArray → Option β) → Option β) (q_impl_sides_parted : (a0 : Int) → (a1 : Int) → (a2 : Int) → (a3 : Int) → (k : Int → Int → Int → Int → Bool → Option β) → Option β) (q_impl_talk_text_l0 : (self : Int → Int → Int → Int → Int → Mp → (ByteArray → Int → Int → Int → Mp → Option β) → Option β) → Nat → Int → Int → Int → Int → Int → Mp → Int → Int → List Int → (ByteArray → Int → Int → Int → Mp → Option β) → (Int → Int → Int → Mp → Option β) → Option β) (q_impl_talk_text_g0_f : Nat → Int → Int → Int → Int → Int → Mp → (ByteArray → Int → Int → Int → Mp → Option β) → Option β) (q_impl_talk_text_l2 : (self : Int → Int → Int → Int → Int → Mp → (ByteArray → Int → Int → Int → Mp → Option β) → Option β) → Nat → Int → Int → Int → Int → Int → Int → Int → Mp → Int → Int → List Int → (ByteArray → Int → Int → Int → Mp → Option β) → (Int → Int → Int → Int → Int → Mp → Int → Int → List Int → Option β) → Option β) (q_impl_talk_value_g0 : (a0 : Int) → (a1 : Int) → (a2 : Int) → (a3 : Int) → (a4 : Int) → (a5 : Mp) → (k0 : Int → Int → Int → Int → Mp → Option β) → Option β) (q_impl_talk_need_g0_f : Nat → Int → Int → Int → Int → Int → Mp → (Int → Int → Int → Int → Mp → Option β) → Option β) (G : Nat)  (v0 : Int) (v1 : Int) (v2 : Int) (v3 : Int) (v4 : Int) (v5 : Int) (v6 : Int) (v7 : Mp) (v8 : Int) (v9 : Int) (v10 : List Int) (rec_ : St → Option β) (K : Exit → St → Option β) :
    ev lay (VE21 N q_impl_FormatInt q_impl_sides_parted q_impl_talk_text_l0 q_impl_talk_text_g0_f q_impl_talk_text_l2 q_impl_talk_value_g0 q_impl_talk_need_g0_f G) (retMask Tryd.f21) (lp Tryd.f21 1).body (lp Tryd.f21 1).ex ((lp Tryd.f21 1).lv (retMask Tryd.f21)) (h21_1_0  v0 v1 v2 v3 v4 v5 v6 v7 v8 v9 v10) (nextR (fun s' => rec_ (s'.tidy ((lp Tryd.f21 1).lv (retMask Tryd.f21)))) K) = BV_impl_talk_text_l2b N q_impl_sides_parted q_impl_talk_need_g0_f (q_impl_talk_text_g0_f G)  v0 v1 v2 v3 v4 v5 v6 v7 v8 v9 v10 (fun v0 v1 v2 v3 v4 v5 v6 v7 v8 v9 v10 => rec_ (h21_1_0  v0 v1 v2 v3 v4 v5 v6 v7 v8 v9 v10)) (fun y0 y1 y2 y3 y4 => K .ret (x21_1_0_k0  y0 y1 y2 y3 y4)) (fun y0 y1 y2 y3 y4 y5 y6 y7 y8 => K (.exit 2) (x21_1_0_k1  y0 y1 y2 y3 y4 y5 y6 y7 y8)) := by kernel_rfl
theorem st21_1_0 {β : Type} (N : Nat) (G : Nat)  (v0 : Int) (v1 : Int) (v2 : Int) (v3 : Int) (v4 : Int) (v5 : Int) (v6 : Int) (v7 : Mp) (v8 : Int) (v9 : Int) (v10 : List Int) (rec_ : St → Option β) (K : Exit → St → Option β) :
    ev lay (E21 N G) (retMask Tryd.f21) (lp Tryd.f21 1).body (lp Tryd.f21 1).ex ((lp Tryd.f21 1).lv (retMask Tryd.f21)) (h21_1_0  v0 v1 v2 v3 v4 v5 v6 v7 v8 v9 v10) (nextR (fun s' => rec_ (s'.tidy ((lp Tryd.f21 1).lv (retMask Tryd.f21)))) K) = impl_talk_text_l2b N (impl_talk_text_g0_f N G)  v0 v1 v2 v3 v4 v5 v6 v7 v8 v9 v10 (fun v0 v1 v2 v3 v4 v5 v6 v7 v8 v9 v10 => rec_ (h21_1_0  v0 v1 v2 v3 v4 v5 v6 v7 v8 v9 v10)) (fun y0 y1 y2 y3 y4 => K .ret (x21_1_0_k0  y0 y1 y2 y3 y4)) (fun y0 y1 y2 y3 y4 y5 y6 y7 y8 => K (.exit 2) (x21_1_0_k1  y0 y1 y2 y3 y4 y5 y6 y7 y8)) := (vst21_1_0 N (impl_FormatInt N) (impl_sides_parted N) (impl_talk_text_l0 N) (impl_talk_text_g0_f N) (impl_talk_text_l2 N) (impl_talk_value_g0 N) (impl_talk_need_g0_f N) G v0 v1 v2 v3 v4 v5 v6 v7 v8 v9 v10 rec_ K).trans (t_impl_talk_text_l2b N (impl_talk_text_g0_f N G)  v0 v1 v2 v3 v4 v5 v6 v7 v8 v9 v10 (fun v0 v1 v2 v3 v4 v5 v6 v7 v8 v9 v10 => rec_ (h21_1_0  v0 v1 v2 v3 v4 v5 v6 v7 v8 v9 v10)) (fun y0 y1 y2 y3 y4 => K .ret (x21_1_0_k0  y0 y1 y2 y3 y4)) (fun y0 y1 y2 y3 y4 y5 y6 y7 y8 => K (.exit 2) (x21_1_0_k1  y0 y1 y2 y3 y4 y5 y6 y7 y8))).symm
theorem ro21_1_0 {β : Type} (N : Nat) (G : Nat)  (K : Exit → St → Option β) : ∀ (F : Nat) (v0 : Int) (v1 : Int) (v2 : Int) (v3 : Int) (v4 : Int) (v5 : Int) (v6 : Int) (v7 : Mp) (v8 : Int) (v9 : Int) (v10 : List Int), (lp Tryd.f21 1).rounds lay (E21 N G) (retMask Tryd.f21) F (h21_1_0  v0 v1 v2 v3 v4 v5 v6 v7 v8 v9 v10) K = impl_talk_text_l2 N (impl_talk_text_g0_f N G)  F v0 v1 v2 v3 v4 v5 v6 v7 v8 v9 v10 (fun y0 y1 y2 y3 y4 => K .ret (x21_1_0_k0  y0 y1 y2 y3 y4)) (fun y0 y1 y2 y3 y4 y5 y6 y7 y8 => K (.exit 2) (x21_1_0_k1  y0 y1 y2 y3 y4 y5 y6 y7 y8)) := by
  intro F
  induction F with
  | zero => intros; rfl
  | succ F ih =>
    intros
    rw [rounds_next]
    refine (st21_1_0 N G  _ _ _ _ _ _ _ _ _ _ _ (fun s => (lp Tryd.f21 1).rounds lay (E21 N G) (retMask Tryd.f21) F s K) K).trans ?_
    simp only [ih]
    rfl
theorem lk21_2 {β : Type} (N : Nat) (G : Nat) : lookL (E21 (β := β) N G).loops (lp Tryd.f21 1).id = LS21_2 N G := by kernel_rfl
theorem rk21_2 {β : Type} (N : Nat) (G : Nat) : RoundsOK lay (E21 (β := β) N G) (retMask Tryd.f21) (lp Tryd.f21 1) := by
  intro s K r h
  rw [lk21_2] at h
  unfold LS21_2 VLS21_2 at h
  cases hb : shpSt (h21_1_0 0 0 0 0 0 0 0 [] 0 0 []) s with
  | true =>
    rw [hb, cond_true] at h
    exact ⟨N, by rw [← shpSt_ref hb, fl21_1_0 s]; exact (ro21_1_0 N G  K N (intS (oneA (vT (nx tund s.tmps 7)))) (intS (oneA (vT (nx tund s.tmps 21)))) (intS (oneA (vT (nx tund s.tmps 22)))) (intS (oneA (vT (nx tund s.tmps 26)))) (intS (nx .und (cellsB (nx .dead s.blks 0)) 0)) (intS (nx .und (cellsB (nx .dead s.blks 0)) 1)) (intS (nx .und (cellsB (nx .dead s.blks 0)) 2)) (mpB (nx .dead s.blks 1)) (intS (nx .und (cellsB (nx .dead s.blks 2)) 0)) (intS (nx .und (cellsB (nx .dead s.blks 2)) 1)) (rInts (rowB_ (nx .dead s.blks 3)))).trans h⟩
  | false =>
  rw [hb, cond_false] at h
  clear hb
  cases h
def BV_impl_talk_text_g0_b {β : Type} (N : Nat) (q_impl_talk_value_g0 : (a0 : Int) → (a1 : Int) → (a2 : Int) → (a3 : Int) → (a4 : Int) → (a5 : Mp) → (k0 : Int → Int → Int → Int → Mp → Option β) → Option β) (q_impl_FormatInt : (a0 : Int) → (k : ByteArray → Option β) → Option β) (q_impl_talk_text_l0 : (self : Int → Int → Int → Int → Int → Mp → (ByteArray → Int → Int → Int → Mp → Option β) → Option β) → Nat → Int → Int → Int → Int → Int → Mp → Int → Int → List Int → (ByteArray → Int → Int → Int → Mp → Option β) → (Int → Int → Int → Mp → Option β) → Option β) (self : Int → Int → Int → Int → Int → Mp → (ByteArray → Int → Int → Int → Mp → Option β) → Option β) (a0 : Int) (a1 : Int) (a2 : Int) (a3 : Int) (a4 : Int) (a5 : Mp) (k0 : ByteArray → Int → Int → Int → Mp → Option β) : Option β :=
q_impl_talk_value_g0 a0 a1 a2 a3 a4 a5 (fun r8_0 r8_1 r8_2 r8_3 r8_4 =>
(cond ((decide (r8_0 ≥ 0)))
(q_impl_FormatInt r8_0 fun r9 =>
k0 r9 r8_1 r8_2 r8_3 r8_4)
(q_impl_talk_text_l0 self  N (((((([] : List Int) ++ [65]) ++ [66])).length : Int)) 0 r8_1 r8_2 r8_3 r8_4 a0 a1 (((([] : List Int) ++ [65]) ++ [66])) (fun e26_0 e26_1 e26_2 e26_3 e26_4 =>
k0 e26_0 e26_1 e26_2 e26_3 e26_4) (fun e27_0 e27_1 e27_2 e27_3 =>
k0 ByteArray.empty e27_0 e27_1 e27_2 e27_3))))
theorem t_impl_talk_text_g0_b {β : Type} (N : Nat) (self : Int → Int → Int → Int → Int → Mp → (ByteArray → Int → Int → Int → Mp → Option β) → Option β) (a0 : Int) (a1 : Int) (a2 : Int) (a3 : Int) (a4 : Int) (a5 : Mp) (k0 : ByteArray → Int → Int → Int → Mp → Option β) : impl_talk_text_g0_b N self a0 a1 a2 a3 a4 a5 k0 = BV_impl_talk_text_g0_b N (impl_talk_value_g0 N) (impl_FormatInt N) (impl_talk_text_l0 N) self a0 a1 a2 a3 a4 a5 k0 := by
  unfold impl_talk_text_g0_b BV_impl_talk_text_g0_b
  rfl
theorem ve21_0 {β : Type} (N : Nat) (q_impl_FormatInt : (a0 : Int) → (k : ByteArray → Option β) → Option β) (q_impl_sides_parted : (a0 : Int) → (a1 : Int) → (a2 : Int) → (a3 : Int) → (k : Int → Int → Int → Int → Bool → Option β) → Option β) (q_impl_talk_text_l0 : (self : Int → Int → Int → Int → Int → Mp → (ByteArray → Int → Int → Int → Mp → Option β) → Option β) → Nat → Int → Int → Int → Int → Int → Mp → Int → Int → List Int → (ByteArray → Int → Int → Int → Mp → Option β) → (Int → Int → Int → Mp → Option β) → Option β) (q_impl_talk_text_g0_f : Nat → Int → Int → Int → Int → Int → Mp → (ByteArray → Int → Int → Int → Mp → Option β) → Option β) (q_impl_talk_text_l2 : (self : Int → Int → Int → Int → Int → Mp → (ByteArray → Int → Int → Int → Mp → Option β) → Option β) → Nat → Int → Int → Int → Int → Int → Int → Int → Mp → Int → Int → List Int → (ByteArray → Int → Int → Int → Mp → Option β) → (Int → Int → Int → Int → Int → Mp → Int → Int → List Int → Option β) → Option β) (q_impl_talk_value_g0 : (a0 : Int) → (a1 : Int) → (a2 : Int) → (a3 : Int) → (a4 : Int) → (a5 : Mp) → (k0 : Int → Int → Int → Int → Mp → Option β) → Option β) (q_impl_talk_need_g0_f : Nat → Int → Int → Int → Int → Int → Mp → (Int → Int → Int → Int → Mp → Option β) → Option β) (G : Nat) (a0 : Int) (a1 : Int) (a2 : Int) (a3 : Int) (a4 : Int) (a5 : Mp) (K : TV → List Blk → Option β) : evFnG lay (VE21 N q_impl_FormatInt q_impl_sides_parted q_impl_talk_text_l0 q_impl_talk_text_g0_f q_impl_talk_text_l2 q_impl_talk_value_g0 q_impl_talk_need_g0_f G) Tryd.f21 [.v (.one (.ptr 0 0)), .v (.agg [.int .i64 a0, .int .i64 a1])] [.pcells 0 62 [.int .i64 a2, .int .i64 a3, .int .i64 a4, .mp 1], .pmp 1 ⟨true, false⟩ a5] K = BV_impl_talk_text_g0_b N q_impl_talk_value_g0 q_impl_FormatInt q_impl_talk_text_l0 (q_impl_talk_text_g0_f G) a0 a1 a2 a3 a4 a5 (fun y0 y1 y2 y3 y4 => K (.v (.one (.str y0))) [.pcells 0 62 [.int .i64 y1, .int .i64 y2, .int .i64 y3, .mp 1], .pmp 1 ⟨true, false⟩ y4]) := by kernel_rfl
theorem e21_0 {β : Type} (N : Nat) (G : Nat) (a0 : Int) (a1 : Int) (a2 : Int) (a3 : Int) (a4 : Int) (a5 : Mp) (K : TV → List Blk → Option β) : evFnG lay (E21 N G) Tryd.f21 [.v (.one (.ptr 0 0)), .v (.agg [.int .i64 a0, .int .i64 a1])] [.pcells 0 62 [.int .i64 a2, .int .i64 a3, .int .i64 a4, .mp 1], .pmp 1 ⟨true, false⟩ a5] K = impl_talk_text_g0_f N (G + 1) a0 a1 a2 a3 a4 a5 (fun y0 y1 y2 y3 y4 => K (.v (.one (.str y0))) [.pcells 0 62 [.int .i64 y1, .int .i64 y2, .int .i64 y3, .mp 1], .pmp 1 ⟨true, false⟩ y4]) := (ve21_0 N (impl_FormatInt N) (impl_sides_parted N) (impl_talk_text_l0 N) (impl_talk_text_g0_f N) (impl_talk_text_l2 N) (impl_talk_value_g0 N) (impl_talk_need_g0_f N) G a0 a1 a2 a3 a4 a5 K).trans (t_impl_talk_text_g0_b N (impl_talk_text_g0_f N G) a0 a1 a2 a3 a4 a5 (fun y0 y1 y2 y3 y4 => K (.v (.one (.str y0))) [.pcells 0 62 [.int .i64 y1, .int .i64 y2, .int .i64 y3, .mp 1], .pmp 1 ⟨true, false⟩ y4])).symm
theorem z21 {β : Type} (N : Nat) : ∀ args bl K r, SF21 (β := β) N 0 args bl K = some r → (none : Option β) = some r := by
  intro args bl K r h
  unfold SF21 VSF21 at h
  split at h <;> exact h
theorem of21 {β : Type} (N : Nat) : ∀ G, GOK (β := β) Tryd.prog 21 (SF21 N G) := by
  intro G
  induction G with
  | zero => exact g_zero Tryd.func21 (by kernel_rfl) (z21 N)
  | succ G ih =>
    refine g_of lay_ok mixed (E := E21 N G) (specs_loops (specs_cons (o38 N) (specs_cons (o39 N) specs_nil))) muts_nil (gs_cons (o37 N) (gs_cons (o40 N) (gs_cons ih gs_nil))) Tryd.func21 (by kernel_rfl) 2 (by kernel_rfl) ⟨⟨trivial, rk21_0 N G⟩, rk21_2 N G⟩ fun args bl K r h => ?_
    unfold SF21 VSF21 at h
    split at h
    · exact (e21_0 N G _ _ _ _ _ _ _).trans h
    · cases h
theorem o21 {β : Type} (N : Nat) : GOK (β := β) Tryd.prog 21 (S21 N) := of21 N N
def VS8 {β : Type} (N : Nat) (q_impl_ProtocolOf : (a0 : Int) → (a1 : Int) → (a2 : Int) → (k : ByteArray → Bool → Option β) → Option β) : Rv.Spec β := fun args K => match args with
  | [.v (.agg [.int .i64 a0, .int .i64 a1]), .v (.one (.int .i64 a2))] => q_impl_ProtocolOf a0 a1 a2 (fun z3 z4 => K (.tup [.one (.str z3), .one (.bool z4)]))
  | _ => none
def S8 {β : Type} (N : Nat) : Rv.Spec β := VS8 N (impl_ProtocolOf N)
def VE8 {β : Type} (N : Nat) (q_impl_Table_talking_g0 : (a0 : Int) → (a1 : Int) → (a2 : Int) → (k0 : Int → Int → Option β) → (k1 : Int → Int → Int → Int → Int → Mp → Option β) → Option β) (q_impl_talk_text_g0_f : Nat → Int → Int → Int → Int → Int → Mp → (ByteArray → Int → Int → Int → Mp → Option β) → Option β) : Env β := ⟨[], [], [], [(20, VS20 N q_impl_Table_talking_g0), (21, VS21 N q_impl_talk_text_g0_f)]⟩
def E8 {β : Type} (N : Nat) : Env β := VE8 N (impl_Table_talking_g0 N) (impl_talk_text_g0_f N)
def BV_impl_ProtocolOf {β : Type} (N : Nat) (q_impl_Table_talking_g0 : (a0 : Int) → (a1 : Int) → (a2 : Int) → (k0 : Int → Int → Option β) → (k1 : Int → Int → Int → Int → Int → Mp → Option β) → Option β) (q_impl_talk_text_g0_f : Nat → Int → Int → Int → Int → Int → Mp → (ByteArray → Int → Int → Int → Mp → Option β) → Option β) (a0 : Int) (a1 : Int) (a2 : Int) (k : ByteArray → Bool → Option β) : Option β :=
q_impl_Table_talking_g0 a0 a1 a2 (fun r5_0 r5_1 =>
k ByteArray.empty false) (fun r6_0 r6_1 r6_3 r6_4 r6_5 r6_6 =>
q_impl_talk_text_g0_f N r6_0 r6_1 r6_3 r6_4 r6_5 r6_6 (fun r7_0 r7_1 r7_2 r7_3 r7_4 =>
k r7_0 true))
theorem t_impl_ProtocolOf {β : Type} (N : Nat) (a0 : Int) (a1 : Int) (a2 : Int) (k : ByteArray → Bool → Option β) : impl_ProtocolOf N a0 a1 a2 k = BV_impl_ProtocolOf N (impl_Table_talking_g0 N) (impl_talk_text_g0_f N) a0 a1 a2 k := by
  unfold impl_ProtocolOf BV_impl_ProtocolOf
  rfl
theorem ve8_0 {β : Type} (N : Nat) (q_impl_Table_talking_g0 : (a0 : Int) → (a1 : Int) → (a2 : Int) → (k0 : Int → Int → Option β) → (k1 : Int → Int → Int → Int → Int → Mp → Option β) → Option β) (q_impl_talk_text_g0_f : Nat → Int → Int → Int → Int → Int → Mp → (ByteArray → Int → Int → Int → Mp → Option β) → Option β)  (a0 : Int) (a1 : Int) (a2 : Int) (K : TV → Option β) : evFn lay (VE8 N q_impl_Table_talking_g0 q_impl_talk_text_g0_f) Tryd.f8 [.v (.agg [.int .i64 a0, .int .i64 a1]), .v (.one (.int .i64 a2))] K = BV_impl_ProtocolOf N q_impl_Table_talking_g0 q_impl_talk_text_g0_f a0 a1 a2 (fun z3 z4 => K (.tup [.one (.str z3), .one (.bool z4)])) := by kernel_rfl
theorem e8_0 {β : Type} (N : Nat)  (a0 : Int) (a1 : Int) (a2 : Int) (K : TV → Option β) : evFn lay (E8 N) Tryd.f8 [.v (.agg [.int .i64 a0, .int .i64 a1]), .v (.one (.int .i64 a2))] K = impl_ProtocolOf N a0 a1 a2 (fun z3 z4 => K (.tup [.one (.str z3), .one (.bool z4)])) := (ve8_0 N (impl_Table_talking_g0 N) (impl_talk_text_g0_f N) a0 a1 a2 K).trans (t_impl_ProtocolOf N a0 a1 a2 (fun z3 z4 => K (.tup [.one (.str z3), .one (.bool z4)]))).symm
theorem o8 {β : Type} (N : Nat) : SpecOK (β := β) Tryd.prog 8 (S8 N) := by
  refine spec_of lay_ok mixed (E := E8 N) (specs_loops specs_nil) muts_nil (gs_cons (o20 N) (gs_cons (o21 N) gs_nil)) Tryd.func8 (by kernel_rfl) 0 (by kernel_rfl) trivial fun args K r h => ?_
  unfold S8 VS8 at h
  split at h
  · exact (e8_0 N _ _ _ _).trans h
  · cases h
def VS3 {β : Type} (N : Nat) (q_laws_FnExactProtocolOf : (a0 : Int) → (a1 : Int) → (a2 : Int) → (k : Bool → Option β) → Option β) : Rv.Spec β := fun args K => match args with
  | [.v (.agg [.int .i64 a0, .int .i64 a1]), .v (.one (.int .i64 a2))] => q_laws_FnExactProtocolOf a0 a1 a2 (fun z3 => K (.v (.one (.bool z3))))
  | _ => none
def S3 {β : Type} (N : Nat) : Rv.Spec β := VS3 N (laws_FnExactProtocolOf N)
def VE3 {β : Type} (N : Nat) (q_laws_toTable : (a0 : Int) → (a1 : Int) → (k : Int → Int → Option β) → Option β) (q_spec_ProtocolOf : (a0 : Int) → (a1 : Int) → (a2 : Int) → (k : ByteArray → Bool → Option β) → Option β) (q_impl_ProtocolOf : (a0 : Int) → (a1 : Int) → (a2 : Int) → (k : ByteArray → Bool → Option β) → Option β) : Env β := ⟨[(7, VS7 N q_laws_toTable), (6, VS6 N q_spec_ProtocolOf), (8, VS8 N q_impl_ProtocolOf)], [], [], []⟩
def E3 {β : Type} (N : Nat) : Env β := VE3 N (laws_toTable N) (spec_ProtocolOf N) (impl_ProtocolOf N)
def BV_laws_FnExactProtocolOf {β : Type} (N : Nat) (q_laws_toTable : (a0 : Int) → (a1 : Int) → (k : Int → Int → Option β) → Option β) (q_spec_ProtocolOf : (a0 : Int) → (a1 : Int) → (a2 : Int) → (k : ByteArray → Bool → Option β) → Option β) (q_impl_ProtocolOf : (a0 : Int) → (a1 : Int) → (a2 : Int) → (k : ByteArray → Bool → Option β) → Option β) (a0 : Int) (a1 : Int) (a2 : Int) (k : Bool → Option β) : Option β :=
q_laws_toTable a0 a1 fun r4 r5 =>
q_spec_ProtocolOf r4 r5 a2 fun r6 r7 =>
q_laws_toTable a0 a1 fun r8 r9 =>
q_impl_ProtocolOf r8 r9 a2 fun r10 r11 =>
(cond ((!(r10.toList == r6.toList)))
(k false)
((cond ((!(r11 == r7)))
(k false)
(k true))))
theorem t_laws_FnExactProtocolOf {β : Type} (N : Nat) (a0 : Int) (a1 : Int) (a2 : Int) (k : Bool → Option β) : laws_FnExactProtocolOf N a0 a1 a2 k = BV_laws_FnExactProtocolOf N (laws_toTable N) (spec_ProtocolOf N) (impl_ProtocolOf N) a0 a1 a2 k := by
  unfold laws_FnExactProtocolOf BV_laws_FnExactProtocolOf
  rfl
theorem ve3_0 {β : Type} (N : Nat) (q_laws_toTable : (a0 : Int) → (a1 : Int) → (k : Int → Int → Option β) → Option β) (q_spec_ProtocolOf : (a0 : Int) → (a1 : Int) → (a2 : Int) → (k : ByteArray → Bool → Option β) → Option β) (q_impl_ProtocolOf : (a0 : Int) → (a1 : Int) → (a2 : Int) → (k : ByteArray → Bool → Option β) → Option β)  (a0 : Int) (a1 : Int) (a2 : Int) (K : TV → Option β) : evFn lay (VE3 N q_laws_toTable q_spec_ProtocolOf q_impl_ProtocolOf) Tryd.f3 [.v (.agg [.int .i64 a0, .int .i64 a1]), .v (.one (.int .i64 a2))] K = BV_laws_FnExactProtocolOf N q_laws_toTable q_spec_ProtocolOf q_impl_ProtocolOf a0 a1 a2 (fun z3 => K (.v (.one (.bool z3)))) := by kernel_rfl
theorem e3_0 {β : Type} (N : Nat)  (a0 : Int) (a1 : Int) (a2 : Int) (K : TV → Option β) : evFn lay (E3 N) Tryd.f3 [.v (.agg [.int .i64 a0, .int .i64 a1]), .v (.one (.int .i64 a2))] K = laws_FnExactProtocolOf N a0 a1 a2 (fun z3 => K (.v (.one (.bool z3)))) := (ve3_0 N (laws_toTable N) (spec_ProtocolOf N) (impl_ProtocolOf N) a0 a1 a2 K).trans (t_laws_FnExactProtocolOf N a0 a1 a2 (fun z3 => K (.v (.one (.bool z3))))).symm
theorem o3 {β : Type} (N : Nat) : SpecOK (β := β) Tryd.prog 3 (S3 N) := by
  refine spec_of lay_ok mixed (E := E3 N) (specs_loops (specs_cons (o7 N) (specs_cons (o6 N) (specs_cons (o8 N) specs_nil)))) muts_nil gs_nil Tryd.func3 (by kernel_rfl) 0 (by kernel_rfl) trivial fun args K r h => ?_
  unfold S3 VS3 at h
  split at h
  · exact (e3_0 N _ _ _ _).trans h
  · cases h
def VS9 {β : Type} (N : Nat) (q_spec_ClaimOfProtocol : (a0 : Int) → (a1 : Int) → (a2 : Int) → (k : Int → Int → Int → Int → Int → ByteArray → List Int → Bool → Option β) → Option β) : Rv.Spec β := fun args K => match args with
  | [.v (.agg [.int .i64 a0, .int .i64 a1]), .v (.one (.int .i64 a2))] => q_spec_ClaimOfProtocol a0 a1 a2 (fun z3 z4 z5 z6 z7 z8 z9 z10 => K (.tup [.agg [.int .i64 z3, .int .i64 z4, .int .i64 z5, .int .i64 z6, .int .i64 z7, .str z8, .sl 3 (.ints .i64 z9)], .one (.bool z10)]))
  | _ => none
def S9 {β : Type} (N : Nat) : Rv.Spec β := VS9 N (spec_ClaimOfProtocol N)
def VE9 {β : Type} (N : Nat) (q_spec_ProtocolOf : (a0 : Int) → (a1 : Int) → (a2 : Int) → (k : ByteArray → Bool → Option β) → Option β) (q_spec_LeastBits : (a0 : Int) → (a1 : Int) → (a2 : Int) → (k : Int → Option β) → Option β) : Env β := ⟨[(6, VS6 N q_spec_ProtocolOf), (19, VS19 N q_spec_LeastBits)], [], [], []⟩
def E9 {β : Type} (N : Nat) : Env β := VE9 N (spec_ProtocolOf N) (spec_LeastBits N)
def BV_spec_ClaimOfProtocol {β : Type} (N : Nat) (q_spec_ProtocolOf : (a0 : Int) → (a1 : Int) → (a2 : Int) → (k : ByteArray → Bool → Option β) → Option β) (q_spec_LeastBits : (a0 : Int) → (a1 : Int) → (a2 : Int) → (k : Int → Option β) → Option β) (a0 : Int) (a1 : Int) (a2 : Int) (k : Int → Int → Int → Int → Int → ByteArray → List Int → Bool → Option β) : Option β :=
q_spec_ProtocolOf a0 a1 a2 fun r11 r12 =>
(cond (!r12)
(k 0 0 0 0 0 ByteArray.empty (([] : List Int)) false)
(q_spec_LeastBits a0 a1 a2 fun r13 =>
k 5 a0 a1 r13 a2 r11 (([] : List Int)) true))
theorem t_spec_ClaimOfProtocol {β : Type} (N : Nat) (a0 : Int) (a1 : Int) (a2 : Int) (k : Int → Int → Int → Int → Int → ByteArray → List Int → Bool → Option β) : spec_ClaimOfProtocol N a0 a1 a2 k = BV_spec_ClaimOfProtocol N (spec_ProtocolOf N) (spec_LeastBits N) a0 a1 a2 k := by
  unfold spec_ClaimOfProtocol BV_spec_ClaimOfProtocol
  rfl
theorem ve9_0 {β : Type} (N : Nat) (q_spec_ProtocolOf : (a0 : Int) → (a1 : Int) → (a2 : Int) → (k : ByteArray → Bool → Option β) → Option β) (q_spec_LeastBits : (a0 : Int) → (a1 : Int) → (a2 : Int) → (k : Int → Option β) → Option β)  (a0 : Int) (a1 : Int) (a2 : Int) (K : TV → Option β) : evFn lay (VE9 N q_spec_ProtocolOf q_spec_LeastBits) Tryd.f9 [.v (.agg [.int .i64 a0, .int .i64 a1]), .v (.one (.int .i64 a2))] K = BV_spec_ClaimOfProtocol N q_spec_ProtocolOf q_spec_LeastBits a0 a1 a2 (fun z3 z4 z5 z6 z7 z8 z9 z10 => K (.tup [.agg [.int .i64 z3, .int .i64 z4, .int .i64 z5, .int .i64 z6, .int .i64 z7, .str z8, .sl 3 (.ints .i64 z9)], .one (.bool z10)])) := by kernel_rfl
theorem e9_0 {β : Type} (N : Nat)  (a0 : Int) (a1 : Int) (a2 : Int) (K : TV → Option β) : evFn lay (E9 N) Tryd.f9 [.v (.agg [.int .i64 a0, .int .i64 a1]), .v (.one (.int .i64 a2))] K = spec_ClaimOfProtocol N a0 a1 a2 (fun z3 z4 z5 z6 z7 z8 z9 z10 => K (.tup [.agg [.int .i64 z3, .int .i64 z4, .int .i64 z5, .int .i64 z6, .int .i64 z7, .str z8, .sl 3 (.ints .i64 z9)], .one (.bool z10)])) := (ve9_0 N (spec_ProtocolOf N) (spec_LeastBits N) a0 a1 a2 K).trans (t_spec_ClaimOfProtocol N a0 a1 a2 (fun z3 z4 z5 z6 z7 z8 z9 z10 => K (.tup [.agg [.int .i64 z3, .int .i64 z4, .int .i64 z5, .int .i64 z6, .int .i64 z7, .str z8, .sl 3 (.ints .i64 z9)], .one (.bool z10)]))).symm
theorem o9 {β : Type} (N : Nat) : SpecOK (β := β) Tryd.prog 9 (S9 N) := by
  refine spec_of lay_ok mixed (E := E9 N) (specs_loops (specs_cons (o6 N) (specs_cons (o19 N) specs_nil))) muts_nil gs_nil Tryd.func9 (by kernel_rfl) 0 (by kernel_rfl) trivial fun args K r h => ?_
  unfold S9 VS9 at h
  split at h
  · exact (e9_0 N _ _ _ _).trans h
  · cases h
def VS22 {β : Type} (N : Nat) (q_impl_LeastBits : (a0 : Int) → (a1 : Int) → (a2 : Int) → (k : Int → Option β) → Option β) : Rv.Spec β := fun args K => match args with
  | [.v (.agg [.int .i64 a0, .int .i64 a1]), .v (.one (.int .i64 a2))] => q_impl_LeastBits a0 a1 a2 (fun z3 => K (.v (.one (.int .i64 z3))))
  | _ => none
def S22 {β : Type} (N : Nat) : Rv.Spec β := VS22 N (impl_LeastBits N)
def VE22 {β : Type} (N : Nat) (q_impl_Table_talking_g0 : (a0 : Int) → (a1 : Int) → (a2 : Int) → (k0 : Int → Int → Option β) → (k1 : Int → Int → Int → Int → Int → Mp → Option β) → Option β) (q_impl_talk_need_g0_f : Nat → Int → Int → Int → Int → Int → Mp → (Int → Int → Int → Int → Mp → Option β) → Option β) : Env β := ⟨[], [], [], [(20, VS20 N q_impl_Table_talking_g0), (40, VS40 N q_impl_talk_need_g0_f)]⟩
def E22 {β : Type} (N : Nat) : Env β := VE22 N (impl_Table_talking_g0 N) (impl_talk_need_g0_f N)
def BV_impl_LeastBits {β : Type} (N : Nat) (q_impl_Table_talking_g0 : (a0 : Int) → (a1 : Int) → (a2 : Int) → (k0 : Int → Int → Option β) → (k1 : Int → Int → Int → Int → Int → Mp → Option β) → Option β) (q_impl_talk_need_g0_f : Nat → Int → Int → Int → Int → Int → Mp → (Int → Int → Int → Int → Mp → Option β) → Option β) (a0 : Int) (a1 : Int) (a2 : Int) (k : Int → Option β) : Option β :=
q_impl_Table_talking_g0 a0 a1 a2 (fun r4_0 r4_1 =>
k (-1)) (fun r5_0 r5_1 r5_3 r5_4 r5_5 r5_6 =>
q_impl_talk_need_g0_f N r5_0 r5_1 r5_3 r5_4 r5_5 r5_6 (fun r6_0 r6_1 r6_2 r6_3 r6_4 =>
k r6_0))
theorem t_impl_LeastBits {β : Type} (N : Nat) (a0 : Int) (a1 : Int) (a2 : Int) (k : Int → Option β) : impl_LeastBits N a0 a1 a2 k = BV_impl_LeastBits N (impl_Table_talking_g0 N) (impl_talk_need_g0_f N) a0 a1 a2 k := by
  unfold impl_LeastBits BV_impl_LeastBits
  rfl
theorem ve22_0 {β : Type} (N : Nat) (q_impl_Table_talking_g0 : (a0 : Int) → (a1 : Int) → (a2 : Int) → (k0 : Int → Int → Option β) → (k1 : Int → Int → Int → Int → Int → Mp → Option β) → Option β) (q_impl_talk_need_g0_f : Nat → Int → Int → Int → Int → Int → Mp → (Int → Int → Int → Int → Mp → Option β) → Option β)  (a0 : Int) (a1 : Int) (a2 : Int) (K : TV → Option β) : evFn lay (VE22 N q_impl_Table_talking_g0 q_impl_talk_need_g0_f) Tryd.f22 [.v (.agg [.int .i64 a0, .int .i64 a1]), .v (.one (.int .i64 a2))] K = BV_impl_LeastBits N q_impl_Table_talking_g0 q_impl_talk_need_g0_f a0 a1 a2 (fun z3 => K (.v (.one (.int .i64 z3)))) := by kernel_rfl
theorem e22_0 {β : Type} (N : Nat)  (a0 : Int) (a1 : Int) (a2 : Int) (K : TV → Option β) : evFn lay (E22 N) Tryd.f22 [.v (.agg [.int .i64 a0, .int .i64 a1]), .v (.one (.int .i64 a2))] K = impl_LeastBits N a0 a1 a2 (fun z3 => K (.v (.one (.int .i64 z3)))) := (ve22_0 N (impl_Table_talking_g0 N) (impl_talk_need_g0_f N) a0 a1 a2 K).trans (t_impl_LeastBits N a0 a1 a2 (fun z3 => K (.v (.one (.int .i64 z3))))).symm
theorem o22 {β : Type} (N : Nat) : SpecOK (β := β) Tryd.prog 22 (S22 N) := by
  refine spec_of lay_ok mixed (E := E22 N) (specs_loops specs_nil) muts_nil (gs_cons (o20 N) (gs_cons (o40 N) gs_nil)) Tryd.func22 (by kernel_rfl) 0 (by kernel_rfl) trivial fun args K r h => ?_
  unfold S22 VS22 at h
  split at h
  · exact (e22_0 N _ _ _ _).trans h
  · cases h
def VS10 {β : Type} (N : Nat) (q_impl_ClaimOfProtocol : (a0 : Int) → (a1 : Int) → (a2 : Int) → (k : Int → Int → Int → Int → Int → ByteArray → List Int → Bool → Option β) → Option β) : Rv.Spec β := fun args K => match args with
  | [.v (.agg [.int .i64 a0, .int .i64 a1]), .v (.one (.int .i64 a2))] => q_impl_ClaimOfProtocol a0 a1 a2 (fun z3 z4 z5 z6 z7 z8 z9 z10 => K (.tup [.agg [.int .i64 z3, .int .i64 z4, .int .i64 z5, .int .i64 z6, .int .i64 z7, .str z8, .sl 3 (.ints .i64 z9)], .one (.bool z10)]))
  | _ => none
def S10 {β : Type} (N : Nat) : Rv.Spec β := VS10 N (impl_ClaimOfProtocol N)
def VE10 {β : Type} (N : Nat) (q_impl_ProtocolOf : (a0 : Int) → (a1 : Int) → (a2 : Int) → (k : ByteArray → Bool → Option β) → Option β) (q_impl_LeastBits : (a0 : Int) → (a1 : Int) → (a2 : Int) → (k : Int → Option β) → Option β) : Env β := ⟨[(8, VS8 N q_impl_ProtocolOf), (22, VS22 N q_impl_LeastBits)], [], [], []⟩
def E10 {β : Type} (N : Nat) : Env β := VE10 N (impl_ProtocolOf N) (impl_LeastBits N)
def BV_impl_ClaimOfProtocol {β : Type} (N : Nat) (q_impl_ProtocolOf : (a0 : Int) → (a1 : Int) → (a2 : Int) → (k : ByteArray → Bool → Option β) → Option β) (q_impl_LeastBits : (a0 : Int) → (a1 : Int) → (a2 : Int) → (k : Int → Option β) → Option β) (a0 : Int) (a1 : Int) (a2 : Int) (k : Int → Int → Int → Int → Int → ByteArray → List Int → Bool → Option β) : Option β :=
q_impl_ProtocolOf a0 a1 a2 fun r11 r12 =>
(cond (!r12)
(k 0 0 0 0 0 ByteArray.empty (([] : List Int)) false)
(q_impl_LeastBits a0 a1 a2 fun r13 =>
k 5 a0 a1 r13 a2 r11 (([] : List Int)) true))
theorem t_impl_ClaimOfProtocol {β : Type} (N : Nat) (a0 : Int) (a1 : Int) (a2 : Int) (k : Int → Int → Int → Int → Int → ByteArray → List Int → Bool → Option β) : impl_ClaimOfProtocol N a0 a1 a2 k = BV_impl_ClaimOfProtocol N (impl_ProtocolOf N) (impl_LeastBits N) a0 a1 a2 k := by
  unfold impl_ClaimOfProtocol BV_impl_ClaimOfProtocol
  rfl
theorem ve10_0 {β : Type} (N : Nat) (q_impl_ProtocolOf : (a0 : Int) → (a1 : Int) → (a2 : Int) → (k : ByteArray → Bool → Option β) → Option β) (q_impl_LeastBits : (a0 : Int) → (a1 : Int) → (a2 : Int) → (k : Int → Option β) → Option β)  (a0 : Int) (a1 : Int) (a2 : Int) (K : TV → Option β) : evFn lay (VE10 N q_impl_ProtocolOf q_impl_LeastBits) Tryd.f10 [.v (.agg [.int .i64 a0, .int .i64 a1]), .v (.one (.int .i64 a2))] K = BV_impl_ClaimOfProtocol N q_impl_ProtocolOf q_impl_LeastBits a0 a1 a2 (fun z3 z4 z5 z6 z7 z8 z9 z10 => K (.tup [.agg [.int .i64 z3, .int .i64 z4, .int .i64 z5, .int .i64 z6, .int .i64 z7, .str z8, .sl 3 (.ints .i64 z9)], .one (.bool z10)])) := by kernel_rfl
theorem e10_0 {β : Type} (N : Nat)  (a0 : Int) (a1 : Int) (a2 : Int) (K : TV → Option β) : evFn lay (E10 N) Tryd.f10 [.v (.agg [.int .i64 a0, .int .i64 a1]), .v (.one (.int .i64 a2))] K = impl_ClaimOfProtocol N a0 a1 a2 (fun z3 z4 z5 z6 z7 z8 z9 z10 => K (.tup [.agg [.int .i64 z3, .int .i64 z4, .int .i64 z5, .int .i64 z6, .int .i64 z7, .str z8, .sl 3 (.ints .i64 z9)], .one (.bool z10)])) := (ve10_0 N (impl_ProtocolOf N) (impl_LeastBits N) a0 a1 a2 K).trans (t_impl_ClaimOfProtocol N a0 a1 a2 (fun z3 z4 z5 z6 z7 z8 z9 z10 => K (.tup [.agg [.int .i64 z3, .int .i64 z4, .int .i64 z5, .int .i64 z6, .int .i64 z7, .str z8, .sl 3 (.ints .i64 z9)], .one (.bool z10)]))).symm
theorem o10 {β : Type} (N : Nat) : SpecOK (β := β) Tryd.prog 10 (S10 N) := by
  refine spec_of lay_ok mixed (E := E10 N) (specs_loops (specs_cons (o8 N) (specs_cons (o22 N) specs_nil))) muts_nil gs_nil Tryd.func10 (by kernel_rfl) 0 (by kernel_rfl) trivial fun args K r h => ?_
  unfold S10 VS10 at h
  split at h
  · exact (e10_0 N _ _ _ _).trans h
  · cases h
def VS23 {β : Type} (N : Nat) (q_laws_eqTable : (a0 : Int) → (a1 : Int) → (a2 : Int) → (a3 : Int) → (k : Bool → Option β) → Option β) : Rv.Spec β := fun args K => match args with
  | [.v (.agg [.int .i64 a0, .int .i64 a1]), .v (.agg [.int .i64 a2, .int .i64 a3])] => q_laws_eqTable a0 a1 a2 a3 (fun z4 => K (.v (.one (.bool z4))))
  | _ => none
def S23 {β : Type} (N : Nat) : Rv.Spec β := VS23 N (laws_eqTable N)
def VE23 {β : Type} (N : Nat) : Env β := ⟨[], [], [], []⟩
def E23 {β : Type} (N : Nat) : Env β := VE23 N
def BV_laws_eqTable {β : Type} (N : Nat) (a0 : Int) (a1 : Int) (a2 : Int) (a3 : Int) (k : Bool → Option β) : Option β :=
(cond ((a0 != a2))
(k false)
((cond ((a1 != a3))
(k false)
(k true))))
theorem t_laws_eqTable {β : Type} (N : Nat) (a0 : Int) (a1 : Int) (a2 : Int) (a3 : Int) (k : Bool → Option β) : laws_eqTable N a0 a1 a2 a3 k = BV_laws_eqTable N a0 a1 a2 a3 k := by
  unfold laws_eqTable BV_laws_eqTable
  rfl
theorem ve23_0 {β : Type} (N : Nat)  (a0 : Int) (a1 : Int) (a2 : Int) (a3 : Int) (K : TV → Option β) : evFn lay (VE23 N) Tryd.f23 [.v (.agg [.int .i64 a0, .int .i64 a1]), .v (.agg [.int .i64 a2, .int .i64 a3])] K = BV_laws_eqTable N a0 a1 a2 a3 (fun z4 => K (.v (.one (.bool z4)))) := by kernel_rfl
theorem e23_0 {β : Type} (N : Nat)  (a0 : Int) (a1 : Int) (a2 : Int) (a3 : Int) (K : TV → Option β) : evFn lay (E23 N) Tryd.f23 [.v (.agg [.int .i64 a0, .int .i64 a1]), .v (.agg [.int .i64 a2, .int .i64 a3])] K = laws_eqTable N a0 a1 a2 a3 (fun z4 => K (.v (.one (.bool z4)))) := (ve23_0 N a0 a1 a2 a3 K).trans (t_laws_eqTable N a0 a1 a2 a3 (fun z4 => K (.v (.one (.bool z4))))).symm
theorem o23 {β : Type} (N : Nat) : SpecOK (β := β) Tryd.prog 23 (S23 N) := by
  refine spec_of lay_ok mixed (E := E23 N) (specs_loops specs_nil) muts_nil gs_nil Tryd.func23 (by kernel_rfl) 0 (by kernel_rfl) trivial fun args K r h => ?_
  unfold S23 VS23 at h
  split at h
  · exact (e23_0 N _ _ _ _ _).trans h
  · cases h
def VS24 {β : Type} (N : Nat) (q_laws_eqIntS : (a0 : List Int) → (a1 : List Int) → (k : Bool → Option β) → Option β) : Rv.Spec β := fun args K => match args with
  | [.v (.one (.sl 3 (.ints .i64 a0))), .v (.one (.sl 3 (.ints .i64 a1)))] => q_laws_eqIntS a0 a1 (fun z2 => K (.v (.one (.bool z2))))
  | _ => none
def S24 {β : Type} (N : Nat) : Rv.Spec β := VS24 N (laws_eqIntS N)
def h24_0_0  (v0 : List Int) (v1 : List Int) (v2 : Int) : St := ⟨.v (.one (.sl 3 (.ints .i64 v0))) :: .v (.one (.sl 3 (.ints .i64 v1))) :: .v (.one .und) :: .v (.one .und) :: .v (.one .und) :: .v (.one (.int .i64 v2)) :: .v (.one .und) :: .v (.one .und) :: .v (.one .und) :: .v (.one .und) :: .v (.one .und) :: .v (.one .und) :: .v (.one .und) :: .v (.one .und) :: .v (.one .und) :: .v (.one .und) :: .v (.one .und) :: .v (.one .und) :: .v (.one .und) :: .v (.one .und) :: .v (.one .und) :: .v (.one .und) :: .v (.one .und) :: .v (.one .und) :: .v (.one .und) :: .v (.one .und) :: [], []⟩
def x24_0_0_k0  (y0 : Bool) : St := ⟨.v (.one .und) :: .v (.one .und) :: .v (.one .und) :: .v (.one .und) :: .v (.one (.bool y0)) :: .v (.one .und) :: .v (.one .und) :: .v (.one .und) :: .v (.one .und) :: .v (.one .und) :: .v (.one .und) :: .v (.one .und) :: .v (.one .und) :: .v (.one .und) :: .v (.one .und) :: .v (.one .und) :: .v (.one .und) :: .v (.one .und) :: .v (.one .und) :: .v (.one .und) :: .v (.one .und) :: .v (.one .und) :: .v (.one .und) :: .v (.one .und) :: .v (.one .und) :: .v (.one .und) :: [], []⟩
def x24_0_0_k1   : St := ⟨.v (.one .und) :: .v (.one .und) :: .v (.one .und) :: .v (.one .und) :: .v (.one .und) :: .v (.one .und) :: .v (.one .und) :: .v (.one .und) :: .v (.one .und) :: .v (.one .und) :: .v (.one .und) :: .v (.one .und) :: .v (.one .und) :: .v (.one .und) :: .v (.one .und) :: .v (.one .und) :: .v (.one .und) :: .v (.one .und) :: .v (.one .und) :: .v (.one .und) :: .v (.one .und) :: .v (.one .und) :: .v (.one .und) :: .v (.one .und) :: .v (.one .und) :: .v (.one .und) :: [], []⟩
theorem fl24_0_0 (s : St) : refSt (h24_0_0 [] [] 0) s = h24_0_0 (rInts (rowV (oneA (vT (nx tund s.tmps 0))))) (rInts (rowV (oneA (vT (nx tund s.tmps 1))))) (intS (oneA (vT (nx tund s.tmps 5)))) := by kernel_rfl
def VLS24_0 {β : Type} (N : Nat) (q_laws_eqIntS_l0 : Nat → List Int → List Int → Int → (Bool → Option β) → (Option β) → Option β) : LSpec β := fun s K => cond (shpSt (h24_0_0 [] [] 0) s) ((fun (v0 : List Int) (v1 : List Int) (v2 : Int) => q_laws_eqIntS_l0  N v0 v1 v2 (fun y0 => K .ret (x24_0_0_k0  y0)) (K (.exit 0) (x24_0_0_k1  ))) (rInts (rowV (oneA (vT (nx tund s.tmps 0))))) (rInts (rowV (oneA (vT (nx tund s.tmps 1))))) (intS (oneA (vT (nx tund s.tmps 5))))) (none)
def LS24_0 {β : Type} (N : Nat) : LSpec β := VLS24_0 N (laws_eqIntS_l0 N)
def VE24 {β : Type} (N : Nat) (q_laws_eqIntS_l0 : Nat → List Int → List Int → Int → (Bool → Option β) → (Option β) → Option β) : Env β := ⟨[], [], [(0, VLS24_0 N q_laws_eqIntS_l0)], []⟩
def E24 {β : Type} (N : Nat) : Env β := VE24 N (laws_eqIntS_l0 N)
def BV_laws_eqIntS_l0b {β : Type} (N : Nat)  (v0 : List Int) (v1 : List Int) (v2 : Int) (rec_ : List Int → List Int → Int → Option β) (k0 : Bool → Option β) (k1 : Option β) : Option β :=
(cond ((decide (v2 < (v0.length : Int))))
((gd ((decide (0 ≤ v2)))
((gd ((decide (v2 < (v0.length : Int))))
((gd ((decide (0 ≤ v2)))
((gd ((decide (v2 < (v1.length : Int))))
((cond (((rd 0 v0 v2) != (rd 0 v1 v2)))
(k0 false)
(rec_ v0 v1 ((w64 (v2 + 1))))))))))))))
(k1 ))
theorem t_laws_eqIntS_l0b {β : Type} (N : Nat)  (v0 : List Int) (v1 : List Int) (v2 : Int) (rec_ : List Int → List Int → Int → Option β) (k0 : Bool → Option β) (k1 : Option β) : laws_eqIntS_l0b N v0 v1 v2 rec_ k0 k1 = BV_laws_eqIntS_l0b N v0 v1 v2 rec_ k0 k1 := by
  unfold laws_eqIntS_l0b BV_laws_eqIntS_l0b
  rfl
theorem vst24_0_0 {β : Type} (N : Nat) (q_laws_eqIntS_l0 : Nat → List Int → List Int → Int → (Bool → Option β) → (Option β) → Option β)  (v0 : List Int) (v1 : List Int) (v2 : Int) (rec_ : St → Option β) (K : Exit → St → Option β) :
    ev lay (VE24 N q_laws_eqIntS_l0) (retMask Tryd.f24) (lp Tryd.f24 0).body (lp Tryd.f24 0).ex ((lp Tryd.f24 0).lv (retMask Tryd.f24)) (h24_0_0  v0 v1 v2) (nextR (fun s' => rec_ (s'.tidy ((lp Tryd.f24 0).lv (retMask Tryd.f24)))) K) = BV_laws_eqIntS_l0b N  v0 v1 v2 (fun v0 v1 v2 => rec_ (h24_0_0  v0 v1 v2)) (fun y0 => K .ret (x24_0_0_k0  y0)) (K (.exit 0) (x24_0_0_k1  )) := by kernel_rfl
theorem st24_0_0 {β : Type} (N : Nat)  (v0 : List Int) (v1 : List Int) (v2 : Int) (rec_ : St → Option β) (K : Exit → St → Option β) :
    ev lay (E24 N) (retMask Tryd.f24) (lp Tryd.f24 0).body (lp Tryd.f24 0).ex ((lp Tryd.f24 0).lv (retMask Tryd.f24)) (h24_0_0  v0 v1 v2) (nextR (fun s' => rec_ (s'.tidy ((lp Tryd.f24 0).lv (retMask Tryd.f24)))) K) = laws_eqIntS_l0b N  v0 v1 v2 (fun v0 v1 v2 => rec_ (h24_0_0  v0 v1 v2)) (fun y0 => K .ret (x24_0_0_k0  y0)) (K (.exit 0) (x24_0_0_k1  )) := (vst24_0_0 N (laws_eqIntS_l0 N) v0 v1 v2 rec_ K).trans (t_laws_eqIntS_l0b N  v0 v1 v2 (fun v0 v1 v2 => rec_ (h24_0_0  v0 v1 v2)) (fun y0 => K .ret (x24_0_0_k0  y0)) (K (.exit 0) (x24_0_0_k1  ))).symm
theorem ro24_0_0 {β : Type} (N : Nat)  (K : Exit → St → Option β) : ∀ (F : Nat) (v0 : List Int) (v1 : List Int) (v2 : Int), (lp Tryd.f24 0).rounds lay (E24 N) (retMask Tryd.f24) F (h24_0_0  v0 v1 v2) K = laws_eqIntS_l0 N  F v0 v1 v2 (fun y0 => K .ret (x24_0_0_k0  y0)) (K (.exit 0) (x24_0_0_k1  )) := by
  intro F
  induction F with
  | zero => intros; rfl
  | succ F ih =>
    intros
    rw [rounds_next]
    refine (st24_0_0 N  _ _ _ (fun s => (lp Tryd.f24 0).rounds lay (E24 N) (retMask Tryd.f24) F s K) K).trans ?_
    simp only [ih]
    rfl
theorem lk24_0 {β : Type} (N : Nat) : lookL (E24 (β := β) N).loops (lp Tryd.f24 0).id = LS24_0 N := by kernel_rfl
theorem rk24_0 {β : Type} (N : Nat) : RoundsOK lay (E24 (β := β) N) (retMask Tryd.f24) (lp Tryd.f24 0) := by
  intro s K r h
  rw [lk24_0] at h
  unfold LS24_0 VLS24_0 at h
  cases hb : shpSt (h24_0_0 [] [] 0) s with
  | true =>
    rw [hb, cond_true] at h
    exact ⟨N, by rw [← shpSt_ref hb, fl24_0_0 s]; exact (ro24_0_0 N  K N (rInts (rowV (oneA (vT (nx tund s.tmps 0))))) (rInts (rowV (oneA (vT (nx tund s.tmps 1))))) (intS (oneA (vT (nx tund s.tmps 5))))).trans h⟩
  | false =>
  rw [hb, cond_false] at h
  clear hb
  cases h
def BV_laws_eqIntS {β : Type} (N : Nat) (q_laws_eqIntS_l0 : Nat → List Int → List Int → Int → (Bool → Option β) → (Option β) → Option β) (a0 : List Int) (a1 : List Int) (k : Bool → Option β) : Option β :=
(cond (((a0.length : Int) != (a1.length : Int)))
(k false)
(q_laws_eqIntS_l0  N a0 a1 0 (fun e3_0 =>
k e3_0) (k true)))
theorem t_laws_eqIntS {β : Type} (N : Nat) (a0 : List Int) (a1 : List Int) (k : Bool → Option β) : laws_eqIntS N a0 a1 k = BV_laws_eqIntS N (laws_eqIntS_l0 N) a0 a1 k := by
  unfold laws_eqIntS BV_laws_eqIntS
  rfl
theorem ve24_0 {β : Type} (N : Nat) (q_laws_eqIntS_l0 : Nat → List Int → List Int → Int → (Bool → Option β) → (Option β) → Option β)  (a0 : List Int) (a1 : List Int) (K : TV → Option β) : evFn lay (VE24 N q_laws_eqIntS_l0) Tryd.f24 [.v (.one (.sl 3 (.ints .i64 a0))), .v (.one (.sl 3 (.ints .i64 a1)))] K = BV_laws_eqIntS N q_laws_eqIntS_l0 a0 a1 (fun z2 => K (.v (.one (.bool z2)))) := by kernel_rfl
theorem e24_0 {β : Type} (N : Nat)  (a0 : List Int) (a1 : List Int) (K : TV → Option β) : evFn lay (E24 N) Tryd.f24 [.v (.one (.sl 3 (.ints .i64 a0))), .v (.one (.sl 3 (.ints .i64 a1)))] K = laws_eqIntS N a0 a1 (fun z2 => K (.v (.one (.bool z2)))) := (ve24_0 N (laws_eqIntS_l0 N) a0 a1 K).trans (t_laws_eqIntS N a0 a1 (fun z2 => K (.v (.one (.bool z2))))).symm
theorem o24 {β : Type} (N : Nat) : SpecOK (β := β) Tryd.prog 24 (S24 N) := by
  refine spec_of lay_ok mixed (E := E24 N) (specs_loops specs_nil) muts_nil gs_nil Tryd.func24 (by kernel_rfl) 1 (by kernel_rfl) ⟨trivial, rk24_0 N⟩ fun args K r h => ?_
  unfold S24 VS24 at h
  split at h
  · exact (e24_0 N _ _ _).trans h
  · cases h
end Go.Proofs.YtdkjnadhgdneaaaDoor
