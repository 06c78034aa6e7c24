/- The functions that the claims reach answer as their texts do. -/
import Derived.Test.YtignjkbhdaiegaaDoorE1
namespace Go.Proofs.YtignjkbhdaiegaaDoor
open Go.Rv
set_option maxRecDepth 100000
set_option maxHeartbeats 2000000
set_option linter.unusedVariables false
def VS26 {β : Type} (N : Nat) (q_impl_IsFormula : (a0 : ByteArray) → (k : Bool → Option β) → Option β) : Rv.Spec β := fun args K => match args with
  | [.v (.one (.str a0))] => q_impl_IsFormula a0 (fun z1 => K (.v (.one (.bool z1))))
  | _ => none
def S26 {β : Type} (N : Nat) : Rv.Spec β := VS26 N (impl_IsFormula N)
def VE26 {β : Type} (N : Nat) (q_impl_readFormula : (a0 : ByteArray) → (k : Tr → Bool → Option β) → Option β) : Env β := ⟨[(40, VS40 N q_impl_readFormula)], [], [], [], ⟨[], [], []⟩⟩
def E26 {β : Type} (N : Nat) : Env β := VE26 N (impl_readFormula N)
def BV_impl_IsFormula {β : Type} (N : Nat) (q_impl_readFormula : (a0 : ByteArray) → (k : Tr → Bool → Option β) → Option β) (a0 : ByteArray) (k : Bool → Option β) : Option β :=
q_impl_readFormula a0 fun r2 r3 =>
k r3
theorem t_impl_IsFormula {β : Type} (N : Nat) (a0 : ByteArray) (k : Bool → Option β) : impl_IsFormula N a0 k = BV_impl_IsFormula N (impl_readFormula N) a0 k := by
  unfold impl_IsFormula BV_impl_IsFormula
  rfl
theorem ve26_0 {β : Type} (N : Nat) (q_impl_readFormula : (a0 : ByteArray) → (k : Tr → Bool → Option β) → Option β)  (a0 : ByteArray) (K : TV → Option β) : evFn lay (VE26 N q_impl_readFormula) Tryd.f26 [.v (.one (.str a0))] K = BV_impl_IsFormula N q_impl_readFormula a0 (fun z1 => K (.v (.one (.bool z1)))) := by kernel_rfl
theorem e26_0 {β : Type} (N : Nat)  (a0 : ByteArray) (K : TV → Option β) : evFn lay (E26 N) Tryd.f26 [.v (.one (.str a0))] K = impl_IsFormula N a0 (fun z1 => K (.v (.one (.bool z1)))) := (ve26_0 N (impl_readFormula N) a0 K).trans (t_impl_IsFormula N a0 (fun z1 => K (.v (.one (.bool z1))))).symm
theorem o26 {β : Type} (N : Nat) : SpecOK (β := β) inv Tryd.prog 26 (S26 N) := by
  refine spec_of lay_ok mixed (E := E26 N) (specs_loops (specs_cons (o40 N) specs_nil)) muts_nil gs_nil Tryd.func26 (by kernel_rfl) 0 (by kernel_rfl) trivial fun args K r h => ?_
  unfold S26 VS26 at h
  split at h
  · exact (e26_0 N _ _).trans h
  · cases h
def VSF49 {β : Type} (N : Nat) (q_impl_readTurn_f : Nat → ByteArray → (Tr → ByteArray → Option β) → Option β) (G : Nat) : Rv.Spec β := fun args K => match args with
  | [.v (.one (.str a0))] => q_impl_readTurn_f G a0 (fun z1 z2 => K (.tup [.one (.tr true z1), .one (.str z2)]))
  | _ => none
def SF49 {β : Type} (N : Nat) (G : Nat) : Rv.Spec β := VSF49 N (impl_readTurn_f N) G
def VS49 {β : Type} (N : Nat) (q_impl_readTurn_f : Nat → ByteArray → (Tr → ByteArray → Option β) → Option β) : Rv.Spec β := VSF49 N q_impl_readTurn_f N
def S49 {β : Type} (N : Nat) : Rv.Spec β := SF49 N N
def VE49 {β : Type} (N : Nat) (q_impl_readTurn_f : Nat → ByteArray → (Tr → ByteArray → Option β) → Option β) (G : Nat) : Env β := ⟨[(55, S55 N), (49, VSF49 N q_impl_readTurn_f G)], [], [], [], ⟨[], [], []⟩⟩
def E49 {β : Type} (N : Nat) (G : Nat) : Env β := VE49 N (impl_readTurn_f N) G
def BV_impl_readTurn_b {β : Type} (N : Nat) (self : ByteArray → (Tr → ByteArray → Option β) → Option β) (a0 : ByteArray) (k : Tr → ByteArray → Option β) : Option β :=
(cond ((a0.toList == ByteArray.empty.toList))
(k Tr.nil ByteArray.empty)
((gd ((decide (0 < (a0.size : Int))))
((cond (((bt a0 0) == 48))
((gd ((decide (1 ≤ (a0.size : Int))))
(k ((Tr.node ((bt a0 0)) 0 Tr.nil Tr.nil)) ((a0.extract (Int.toNat 1) a0.size)))))
((cond (((bt a0 0) == 49))
((gd ((decide (1 ≤ (a0.size : Int))))
(k ((Tr.node ((bt a0 0)) 0 Tr.nil Tr.nil)) ((a0.extract (Int.toNat 1) a0.size)))))
((cond (((bt a0 0) != 65))
((cond (((bt a0 0) != 66))
(k Tr.nil ByteArray.empty)
((cond ((decide ((a0.size : Int) < 2)))
(k Tr.nil ByteArray.empty)
((gd ((decide (1 < (a0.size : Int))))
(strings_IndexByte N ((strOf [48, 49, 50, 51, 52, 53, 54, 55, 56, 57, 97, 98, 99, 100, 101, 102])) ((bt a0 1)) fun r3 =>
(cond ((decide (r3 < 0)))
(k Tr.nil ByteArray.empty)
((gd ((decide (2 ≤ (a0.size : Int))))
(self ((a0.extract (Int.toNat 2) a0.size)) fun r4 r5 =>
(cond ((Tr.isNil r4))
(k Tr.nil ByteArray.empty)
(self r5 fun r6 r7 =>
(cond ((Tr.isNil r6))
(k Tr.nil ByteArray.empty)
(k ((Tr.node ((bt a0 0)) r3 r4 r6)) r7)))))))))))))))
((cond ((decide ((a0.size : Int) < 2)))
(k Tr.nil ByteArray.empty)
((gd ((decide (1 < (a0.size : Int))))
(strings_IndexByte N ((strOf [48, 49, 50, 51, 52, 53, 54, 55, 56, 57, 97, 98, 99, 100, 101, 102])) ((bt a0 1)) fun r8 =>
(cond ((decide (r8 < 0)))
(k Tr.nil ByteArray.empty)
((gd ((decide (2 ≤ (a0.size : Int))))
(self ((a0.extract (Int.toNat 2) a0.size)) fun r9 r10 =>
(cond ((Tr.isNil r9))
(k Tr.nil ByteArray.empty)
(self r10 fun r11 r12 =>
(cond ((Tr.isNil r11))
(k Tr.nil ByteArray.empty)
(k ((Tr.node ((bt a0 0)) r8 r9 r11)) r12))))))))))))))))))))))
theorem t_impl_readTurn_b {β : Type} (N : Nat) (self : ByteArray → (Tr → ByteArray → Option β) → Option β) (a0 : ByteArray) (k : Tr → ByteArray → Option β) : impl_readTurn_b N self a0 k = BV_impl_readTurn_b N self a0 k := by
  unfold impl_readTurn_b BV_impl_readTurn_b
  rfl
theorem ve49_0 {β : Type} (N : Nat) (q_impl_readTurn_f : Nat → ByteArray → (Tr → ByteArray → Option β) → Option β) (G : Nat)  (a0 : ByteArray) (K : TV → Option β) : evFn lay (VE49 N q_impl_readTurn_f G) Tryd.f49 [.v (.one (.str a0))] K = BV_impl_readTurn_b N (q_impl_readTurn_f G) a0 (fun z1 z2 => K (.tup [.one (.tr true z1), .one (.str z2)])) := by kernel_rfl
theorem e49_0 {β : Type} (N : Nat) (G : Nat)  (a0 : ByteArray) (K : TV → Option β) : evFn lay (E49 N G) Tryd.f49 [.v (.one (.str a0))] K = impl_readTurn_f N (G + 1) a0 (fun z1 z2 => K (.tup [.one (.tr true z1), .one (.str z2)])) := (ve49_0 N (impl_readTurn_f N) G a0 K).trans (t_impl_readTurn_b N (impl_readTurn_f N G) a0 (fun z1 z2 => K (.tup [.one (.tr true z1), .one (.str z2)]))).symm
theorem z49 {β : Type} (N : Nat) : ∀ args K r, SF49 (β := β) N 0 args K = some r → (none : Option β) = some r := by
  intro args K r h
  unfold SF49 VSF49 at h
  split at h <;> exact h
theorem of49 {β : Type} (N : Nat) : ∀ G, SpecOK (β := β) inv Tryd.prog 49 (SF49 N G) := by
  intro G
  induction G with
  | zero => exact s_zero Tryd.func49 (by kernel_rfl) (z49 N)
  | succ G ih =>
    refine spec_of lay_ok mixed (E := E49 N G) (specs_loops (specs_cons (o55 N) (specs_cons ih specs_nil))) muts_nil gs_nil Tryd.func49 (by kernel_rfl) 0 (by kernel_rfl) trivial fun args K r h => ?_
    unfold SF49 VSF49 at h
    split at h
    · exact (e49_0 N G _ _).trans h
    · cases h
theorem o49 {β : Type} (N : Nat) : SpecOK (β := β) inv Tryd.prog 49 (S49 N) := of49 N N
def VS41 {β : Type} (N : Nat) (q_impl_wholeTurn : (a0 : ByteArray) → (k : Tr → Bool → Option β) → Option β) : Rv.Spec β := fun args K => match args with
  | [.v (.one (.str a0))] => q_impl_wholeTurn a0 (fun z1 z2 => K (.tup [.one (.tr true z1), .one (.bool z2)]))
  | _ => none
def S41 {β : Type} (N : Nat) : Rv.Spec β := VS41 N (impl_wholeTurn N)
def VE41 {β : Type} (N : Nat) (q_impl_readTurn_f : Nat → ByteArray → (Tr → ByteArray → Option β) → Option β) : Env β := ⟨[(49, VS49 N q_impl_readTurn_f)], [], [], [], ⟨[], [], []⟩⟩
def E41 {β : Type} (N : Nat) : Env β := VE41 N (impl_readTurn_f N)
def BV_impl_wholeTurn {β : Type} (N : Nat) (q_impl_readTurn_f : Nat → ByteArray → (Tr → ByteArray → Option β) → Option β) (a0 : ByteArray) (k : Tr → Bool → Option β) : Option β :=
(cond ((decide ((a0.size : Int) > 100)))
(k Tr.nil false)
(q_impl_readTurn_f N a0 fun r3 r4 =>
(cond ((!(Tr.isNil r3)))
(k r3 ((r4.toList == ByteArray.empty.toList)))
(k r3 false))))
theorem t_impl_wholeTurn {β : Type} (N : Nat) (a0 : ByteArray) (k : Tr → Bool → Option β) : impl_wholeTurn N a0 k = BV_impl_wholeTurn N (impl_readTurn_f N) a0 k := by
  unfold impl_wholeTurn BV_impl_wholeTurn
  rfl
theorem ve41_0 {β : Type} (N : Nat) (q_impl_readTurn_f : Nat → ByteArray → (Tr → ByteArray → Option β) → Option β)  (a0 : ByteArray) (K : TV → Option β) : evFn lay (VE41 N q_impl_readTurn_f) Tryd.f41 [.v (.one (.str a0))] K = BV_impl_wholeTurn N q_impl_readTurn_f a0 (fun z1 z2 => K (.tup [.one (.tr true z1), .one (.bool z2)])) := by kernel_rfl
theorem e41_0 {β : Type} (N : Nat)  (a0 : ByteArray) (K : TV → Option β) : evFn lay (E41 N) Tryd.f41 [.v (.one (.str a0))] K = impl_wholeTurn N a0 (fun z1 z2 => K (.tup [.one (.tr true z1), .one (.bool z2)])) := (ve41_0 N (impl_readTurn_f N) a0 K).trans (t_impl_wholeTurn N a0 (fun z1 z2 => K (.tup [.one (.tr true z1), .one (.bool z2)]))).symm
theorem o41 {β : Type} (N : Nat) : SpecOK (β := β) inv Tryd.prog 41 (S41 N) := by
  refine spec_of lay_ok mixed (E := E41 N) (specs_loops (specs_cons (o49 N) specs_nil)) muts_nil gs_nil Tryd.func41 (by kernel_rfl) 0 (by kernel_rfl) trivial fun args K r h => ?_
  unfold S41 VS41 at h
  split at h
  · exact (e41_0 N _ _).trans h
  · cases h
def VS27 {β : Type} (N : Nat) (q_impl_IsProtocol : (a0 : ByteArray) → (k : Bool → Option β) → Option β) : Rv.Spec β := fun args K => match args with
  | [.v (.one (.str a0))] => q_impl_IsProtocol a0 (fun z1 => K (.v (.one (.bool z1))))
  | _ => none
def S27 {β : Type} (N : Nat) : Rv.Spec β := VS27 N (impl_IsProtocol N)
def VE27 {β : Type} (N : Nat) (q_impl_wholeTurn : (a0 : ByteArray) → (k : Tr → Bool → Option β) → Option β) : Env β := ⟨[(41, VS41 N q_impl_wholeTurn)], [], [], [], ⟨[], [], []⟩⟩
def E27 {β : Type} (N : Nat) : Env β := VE27 N (impl_wholeTurn N)
def BV_impl_IsProtocol {β : Type} (N : Nat) (q_impl_wholeTurn : (a0 : ByteArray) → (k : Tr → Bool → Option β) → Option β) (a0 : ByteArray) (k : Bool → Option β) : Option β :=
q_impl_wholeTurn a0 fun r2 r3 =>
k r3
theorem t_impl_IsProtocol {β : Type} (N : Nat) (a0 : ByteArray) (k : Bool → Option β) : impl_IsProtocol N a0 k = BV_impl_IsProtocol N (impl_wholeTurn N) a0 k := by
  unfold impl_IsProtocol BV_impl_IsProtocol
  rfl
theorem ve27_0 {β : Type} (N : Nat) (q_impl_wholeTurn : (a0 : ByteArray) → (k : Tr → Bool → Option β) → Option β)  (a0 : ByteArray) (K : TV → Option β) : evFn lay (VE27 N q_impl_wholeTurn) Tryd.f27 [.v (.one (.str a0))] K = BV_impl_IsProtocol N q_impl_wholeTurn a0 (fun z1 => K (.v (.one (.bool z1)))) := by kernel_rfl
theorem e27_0 {β : Type} (N : Nat)  (a0 : ByteArray) (K : TV → Option β) : evFn lay (E27 N) Tryd.f27 [.v (.one (.str a0))] K = impl_IsProtocol N a0 (fun z1 => K (.v (.one (.bool z1)))) := (ve27_0 N (impl_wholeTurn N) a0 K).trans (t_impl_IsProtocol N a0 (fun z1 => K (.v (.one (.bool z1))))).symm
theorem o27 {β : Type} (N : Nat) : SpecOK (β := β) inv Tryd.prog 27 (S27 N) := by
  refine spec_of lay_ok mixed (E := E27 N) (specs_loops (specs_cons (o41 N) specs_nil)) muts_nil gs_nil Tryd.func27 (by kernel_rfl) 0 (by kernel_rfl) trivial fun args K r h => ?_
  unfold S27 VS27 at h
  split at h
  · exact (e27_0 N _ _).trans h
  · cases h
def VS7 {β : Type} (N : Nat) (q_impl_FormatClaim : (a0 : Int) → (a1 : Int) → (a2 : Int) → (a3 : Int) → (a4 : Int) → (a5 : ByteArray) → (a6 : List Int) → (k : ByteArray → Option β) → Option β) : Rv.Spec β := fun args K => match args with
  | [.v (.agg [.int .i64 a0, .int .i64 a1, .int .i64 a2, .int .i64 a3, .int .i64 a4, .str a5, .sl 3 (.ints .i64 a6)])] => q_impl_FormatClaim a0 a1 a2 a3 a4 a5 a6 (fun z7 => K (.v (.one (.str z7))))
  | _ => none
def S7 {β : Type} (N : Nat) : Rv.Spec β := VS7 N (impl_FormatClaim N)
def VE7 {β : Type} (N : Nat) (q_impl_ClaimWord : (a0 : Int) → (k : ByteArray → Option β) → Option β) (q_impl_IsTable : (a0 : Int) → (a1 : Int) → (k : Bool → Option β) → Option β) (q_impl_FormatTable : (a0 : Int) → (a1 : Int) → (k : ByteArray → Option β) → Option β) (q_impl_written : (a0 : Int) → (k : ByteArray → Option β) → Option β) (q_impl_writtenList : (a0 : List Int) → (k : ByteArray → Option β) → Option β) (q_impl_IsTree : (a0 : ByteArray) → (k : Bool → Option β) → Option β) (q_impl_IsFormula : (a0 : ByteArray) → (k : Bool → Option β) → Option β) (q_impl_IsProtocol : (a0 : ByteArray) → (k : Bool → Option β) → Option β) : Env β := ⟨[(20, VS20 N q_impl_ClaimWord), (21, VS21 N q_impl_IsTable), (22, VS22 N q_impl_FormatTable), (23, VS23 N q_impl_written), (24, VS24 N q_impl_writtenList), (25, VS25 N q_impl_IsTree), (28, S28 N), (26, VS26 N q_impl_IsFormula), (27, VS27 N q_impl_IsProtocol)], [], [], [], ⟨[], [], []⟩⟩
def E7 {β : Type} (N : Nat) : Env β := VE7 N (impl_ClaimWord N) (impl_IsTable N) (impl_FormatTable N) (impl_written N) (impl_writtenList N) (impl_IsTree N) (impl_IsFormula N) (impl_IsProtocol N)
def BV_impl_FormatClaim {β : Type} (N : Nat) (q_impl_ClaimWord : (a0 : Int) → (k : ByteArray → Option β) → Option β) (q_impl_IsTable : (a0 : Int) → (a1 : Int) → (k : Bool → Option β) → Option β) (q_impl_FormatTable : (a0 : Int) → (a1 : Int) → (k : ByteArray → Option β) → Option β) (q_impl_written : (a0 : Int) → (k : ByteArray → Option β) → Option β) (q_impl_writtenList : (a0 : List Int) → (k : ByteArray → Option β) → Option β) (q_impl_IsTree : (a0 : ByteArray) → (k : Bool → Option β) → Option β) (q_impl_IsFormula : (a0 : ByteArray) → (k : Bool → Option β) → Option β) (q_impl_IsProtocol : (a0 : ByteArray) → (k : Bool → Option β) → Option β) (a0 : Int) (a1 : Int) (a2 : Int) (a3 : Int) (a4 : Int) (a5 : ByteArray) (a6 : List Int) (k : ByteArray → Option β) : Option β :=
q_impl_ClaimWord a0 fun r8 =>
(cond ((r8.toList == ByteArray.empty.toList))
(k ByteArray.empty)
(q_impl_IsTable a1 a2 fun r9 =>
(cond (!r9)
(k ByteArray.empty)
(q_impl_ClaimWord a0 fun r10 =>
q_impl_FormatTable a1 a2 fun r11 =>
q_impl_written a3 fun r12 =>
q_impl_writtenList a6 fun r13 =>
(cond ((a0 == 1))
(q_impl_IsTree a5 fun r14 =>
(cond (!r14)
(k ByteArray.empty)
((gd ((decide ((((((([] : List ByteArray) ++ [r10]) ++ [r11]) ++ [r12])).length + (((([] : List ByteArray) ++ [(strOf [98, 121])]) ++ [a5])).length) * 16 ≤ 140737488355328)))
(strings_Join N (((((([] : List ByteArray) ++ [r10]) ++ [r11]) ++ [r12]) ++ ((([] : List ByteArray) ++ [(strOf [98, 121])]) ++ [a5]))) ((strOf [32])) fun r15 =>
k r15)))))
((cond ((a0 == 4))
(q_impl_IsFormula a5 fun r16 =>
(cond (!r16)
(k ByteArray.empty)
((gd ((decide ((((((([] : List ByteArray) ++ [r10]) ++ [r11]) ++ [r12])).length + (((([] : List ByteArray) ++ [(strOf [98, 121])]) ++ [a5])).length) * 16 ≤ 140737488355328)))
(strings_Join N (((((([] : List ByteArray) ++ [r10]) ++ [r11]) ++ [r12]) ++ ((([] : List ByteArray) ++ [(strOf [98, 121])]) ++ [a5]))) ((strOf [32])) fun r17 =>
k r17)))))
((cond ((a0 == 5))
(q_impl_IsProtocol a5 fun r18 =>
q_impl_written a4 fun r19 =>
(gd ((decide ((((((([] : List ByteArray) ++ [r10]) ++ [r11]) ++ [r12])).length + (((([] : List ByteArray) ++ [(strOf [115, 105, 100, 101])]) ++ [r19])).length) * 16 ≤ 140737488355328)))
((cond (!r18)
(k ByteArray.empty)
((gd ((decide (((((((([] : List ByteArray) ++ [r10]) ++ [r11]) ++ [r12]) ++ ((([] : List ByteArray) ++ [(strOf [115, 105, 100, 101])]) ++ [r19]))).length + (((([] : List ByteArray) ++ [(strOf [98, 121])]) ++ [a5])).length) * 16 ≤ 140737488355328)))
(strings_Join N ((((((([] : List ByteArray) ++ [r10]) ++ [r11]) ++ [r12]) ++ ((([] : List ByteArray) ++ [(strOf [115, 105, 100, 101])]) ++ [r19])) ++ ((([] : List ByteArray) ++ [(strOf [98, 121])]) ++ [a5]))) ((strOf [32])) fun r20 =>
k r20)))))))
((gd ((decide ((((((([] : List ByteArray) ++ [r10]) ++ [r11]) ++ [r12])).length + (((([] : List ByteArray) ++ [(strOf [98, 121])]) ++ [r13])).length) * 16 ≤ 140737488355328)))
(strings_Join N (((((([] : List ByteArray) ++ [r10]) ++ [r11]) ++ [r12]) ++ ((([] : List ByteArray) ++ [(strOf [98, 121])]) ++ [r13]))) ((strOf [32])) fun r21 =>
k r21))))))))))))
theorem t_impl_FormatClaim {β : Type} (N : Nat) (a0 : Int) (a1 : Int) (a2 : Int) (a3 : Int) (a4 : Int) (a5 : ByteArray) (a6 : List Int) (k : ByteArray → Option β) : impl_FormatClaim N a0 a1 a2 a3 a4 a5 a6 k = BV_impl_FormatClaim N (impl_ClaimWord N) (impl_IsTable N) (impl_FormatTable N) (impl_written N) (impl_writtenList N) (impl_IsTree N) (impl_IsFormula N) (impl_IsProtocol N) a0 a1 a2 a3 a4 a5 a6 k := by
  unfold impl_FormatClaim BV_impl_FormatClaim
  rfl
theorem ve7_0 {β : Type} (N : Nat) (q_impl_ClaimWord : (a0 : Int) → (k : ByteArray → Option β) → Option β) (q_impl_IsTable : (a0 : Int) → (a1 : Int) → (k : Bool → Option β) → Option β) (q_impl_FormatTable : (a0 : Int) → (a1 : Int) → (k : ByteArray → Option β) → Option β) (q_impl_written : (a0 : Int) → (k : ByteArray → Option β) → Option β) (q_impl_writtenList : (a0 : List Int) → (k : ByteArray → Option β) → Option β) (q_impl_IsTree : (a0 : ByteArray) → (k : Bool → Option β) → Option β) (q_impl_IsFormula : (a0 : ByteArray) → (k : Bool → Option β) → Option β) (q_impl_IsProtocol : (a0 : ByteArray) → (k : Bool → Option β) → Option β)  (a0 : Int) (a1 : Int) (a2 : Int) (a3 : Int) (a4 : Int) (a5 : ByteArray) (a6 : List Int) (K : TV → Option β) : evFn lay (VE7 N q_impl_ClaimWord q_impl_IsTable q_impl_FormatTable q_impl_written q_impl_writtenList q_impl_IsTree q_impl_IsFormula q_impl_IsProtocol) Tryd.f7 [.v (.agg [.int .i64 a0, .int .i64 a1, .int .i64 a2, .int .i64 a3, .int .i64 a4, .str a5, .sl 3 (.ints .i64 a6)])] K = BV_impl_FormatClaim N q_impl_ClaimWord q_impl_IsTable q_impl_FormatTable q_impl_written q_impl_writtenList q_impl_IsTree q_impl_IsFormula q_impl_IsProtocol a0 a1 a2 a3 a4 a5 a6 (fun z7 => K (.v (.one (.str z7)))) := by kernel_rfl
theorem e7_0 {β : Type} (N : Nat)  (a0 : Int) (a1 : Int) (a2 : Int) (a3 : Int) (a4 : Int) (a5 : ByteArray) (a6 : List Int) (K : TV → Option β) : evFn lay (E7 N) Tryd.f7 [.v (.agg [.int .i64 a0, .int .i64 a1, .int .i64 a2, .int .i64 a3, .int .i64 a4, .str a5, .sl 3 (.ints .i64 a6)])] K = impl_FormatClaim N a0 a1 a2 a3 a4 a5 a6 (fun z7 => K (.v (.one (.str z7)))) := (ve7_0 N (impl_ClaimWord N) (impl_IsTable N) (impl_FormatTable N) (impl_written N) (impl_writtenList N) (impl_IsTree N) (impl_IsFormula N) (impl_IsProtocol N) a0 a1 a2 a3 a4 a5 a6 K).trans (t_impl_FormatClaim N a0 a1 a2 a3 a4 a5 a6 (fun z7 => K (.v (.one (.str z7))))).symm
theorem o7 {β : Type} (N : Nat) : SpecOK (β := β) inv Tryd.prog 7 (S7 N) := by
  refine spec_of lay_ok mixed (E := E7 N) (specs_loops (specs_cons (o20 N) (specs_cons (o21 N) (specs_cons (o22 N) (specs_cons (o23 N) (specs_cons (o24 N) (specs_cons (o25 N) (specs_cons (o28 N) (specs_cons (o26 N) (specs_cons (o27 N) specs_nil)))))))))) muts_nil gs_nil Tryd.func7 (by kernel_rfl) 0 (by kernel_rfl) trivial fun args K r h => ?_
  unfold S7 VS7 at h
  split at h
  · exact (e7_0 N _ _ _ _ _ _ _ _).trans h
  · cases h
def VS29 {β : Type} (N : Nat) (q_laws_eqTable : (a0 : Int) → (a1 : Int) → (a2 : Int) → (a3 : Int) → (k : Bool → Option β) → Option β) : Rv.Spec β := fun args K => match args with
  | [.v (.agg [.int .i64 a0, .int .i64 a1]), .v (.agg [.int .i64 a2, .int .i64 a3])] => q_laws_eqTable a0 a1 a2 a3 (fun z4 => K (.v (.one (.bool z4))))
  | _ => none
def S29 {β : Type} (N : Nat) : Rv.Spec β := VS29 N (laws_eqTable N)
def VE29 {β : Type} (N : Nat) : Env β := ⟨[], [], [], [], ⟨[], [], []⟩⟩
def E29 {β : Type} (N : Nat) : Env β := VE29 N
def BV_laws_eqTable {β : Type} (N : Nat) (a0 : Int) (a1 : Int) (a2 : Int) (a3 : Int) (k : Bool → Option β) : Option β :=
(cond ((a0 != a2))
(k false)
((cond ((a1 != a3))
(k false)
(k true))))
theorem t_laws_eqTable {β : Type} (N : Nat) (a0 : Int) (a1 : Int) (a2 : Int) (a3 : Int) (k : Bool → Option β) : laws_eqTable N a0 a1 a2 a3 k = BV_laws_eqTable N a0 a1 a2 a3 k := by
  unfold laws_eqTable BV_laws_eqTable
  rfl
theorem ve29_0 {β : Type} (N : Nat)  (a0 : Int) (a1 : Int) (a2 : Int) (a3 : Int) (K : TV → Option β) : evFn lay (VE29 N) Tryd.f29 [.v (.agg [.int .i64 a0, .int .i64 a1]), .v (.agg [.int .i64 a2, .int .i64 a3])] K = BV_laws_eqTable N a0 a1 a2 a3 (fun z4 => K (.v (.one (.bool z4)))) := by kernel_rfl
theorem e29_0 {β : Type} (N : Nat)  (a0 : Int) (a1 : Int) (a2 : Int) (a3 : Int) (K : TV → Option β) : evFn lay (E29 N) Tryd.f29 [.v (.agg [.int .i64 a0, .int .i64 a1]), .v (.agg [.int .i64 a2, .int .i64 a3])] K = laws_eqTable N a0 a1 a2 a3 (fun z4 => K (.v (.one (.bool z4)))) := (ve29_0 N a0 a1 a2 a3 K).trans (t_laws_eqTable N a0 a1 a2 a3 (fun z4 => K (.v (.one (.bool z4))))).symm
theorem o29 {β : Type} (N : Nat) : SpecOK (β := β) inv Tryd.prog 29 (S29 N) := by
  refine spec_of lay_ok mixed (E := E29 N) (specs_loops specs_nil) muts_nil gs_nil Tryd.func29 (by kernel_rfl) 0 (by kernel_rfl) trivial fun args K r h => ?_
  unfold S29 VS29 at h
  split at h
  · exact (e29_0 N _ _ _ _ _).trans h
  · cases h
def VS30 {β : Type} (N : Nat) (q_laws_eqIntS : (a0 : List Int) → (a1 : List Int) → (k : Bool → Option β) → Option β) : Rv.Spec β := fun args K => match args with
  | [.v (.one (.sl 3 (.ints .i64 a0))), .v (.one (.sl 3 (.ints .i64 a1)))] => q_laws_eqIntS a0 a1 (fun z2 => K (.v (.one (.bool z2))))
  | _ => none
def S30 {β : Type} (N : Nat) : Rv.Spec β := VS30 N (laws_eqIntS N)
def h30_0_0  (v0 : List Int) (v1 : List Int) (v2 : Int) : St := ⟨.v (.one (.sl 3 (.ints .i64 v0))) :: .v (.one (.sl 3 (.ints .i64 v1))) :: .v (.one .und) :: .v (.one .und) :: .v (.one .und) :: .v (.one (.int .i64 v2)) :: .v (.one .und) :: .v (.one .und) :: .v (.one .und) :: .v (.one .und) :: .v (.one .und) :: .v (.one .und) :: .v (.one .und) :: .v (.one .und) :: .v (.one .und) :: .v (.one .und) :: .v (.one .und) :: .v (.one .und) :: .v (.one .und) :: .v (.one .und) :: .v (.one .und) :: .v (.one .und) :: .v (.one .und) :: .v (.one .und) :: .v (.one .und) :: .v (.one .und) :: [], []⟩
def x30_0_0_k0  (y0 : Bool) : St := ⟨.v (.one .und) :: .v (.one .und) :: .v (.one .und) :: .v (.one .und) :: .v (.one (.bool y0)) :: .v (.one .und) :: .v (.one .und) :: .v (.one .und) :: .v (.one .und) :: .v (.one .und) :: .v (.one .und) :: .v (.one .und) :: .v (.one .und) :: .v (.one .und) :: .v (.one .und) :: .v (.one .und) :: .v (.one .und) :: .v (.one .und) :: .v (.one .und) :: .v (.one .und) :: .v (.one .und) :: .v (.one .und) :: .v (.one .und) :: .v (.one .und) :: .v (.one .und) :: .v (.one .und) :: [], []⟩
def x30_0_0_k1   : St := ⟨.v (.one .und) :: .v (.one .und) :: .v (.one .und) :: .v (.one .und) :: .v (.one .und) :: .v (.one .und) :: .v (.one .und) :: .v (.one .und) :: .v (.one .und) :: .v (.one .und) :: .v (.one .und) :: .v (.one .und) :: .v (.one .und) :: .v (.one .und) :: .v (.one .und) :: .v (.one .und) :: .v (.one .und) :: .v (.one .und) :: .v (.one .und) :: .v (.one .und) :: .v (.one .und) :: .v (.one .und) :: .v (.one .und) :: .v (.one .und) :: .v (.one .und) :: .v (.one .und) :: [], []⟩
theorem fl30_0_0 (s : St) : refSt (h30_0_0 [] [] 0) s = h30_0_0 (rInts (rowV (oneA (vT (nx tund s.tmps 0))))) (rInts (rowV (oneA (vT (nx tund s.tmps 1))))) (intS (oneA (vT (nx tund s.tmps 5)))) := by kernel_rfl
def VLS30_0 {β : Type} (N : Nat) (q_laws_eqIntS_l0 : Nat → List Int → List Int → Int → (Bool → Option β) → (Option β) → Option β) : LSpec β := fun s K => cond (shpSt (h30_0_0 [] [] 0) s) ((fun (v0 : List Int) (v1 : List Int) (v2 : Int) => q_laws_eqIntS_l0  N v0 v1 v2 (fun y0 => K .ret (x30_0_0_k0  y0)) (K (.exit 0) (x30_0_0_k1  ))) (rInts (rowV (oneA (vT (nx tund s.tmps 0))))) (rInts (rowV (oneA (vT (nx tund s.tmps 1))))) (intS (oneA (vT (nx tund s.tmps 5))))) (none)
def LS30_0 {β : Type} (N : Nat) : LSpec β := VLS30_0 N (laws_eqIntS_l0 N)
def VE30 {β : Type} (N : Nat) (q_laws_eqIntS_l0 : Nat → List Int → List Int → Int → (Bool → Option β) → (Option β) → Option β) : Env β := ⟨[], [], [(0, VLS30_0 N q_laws_eqIntS_l0)], [], ⟨[], [], []⟩⟩
def E30 {β : Type} (N : Nat) : Env β := VE30 N (laws_eqIntS_l0 N)
def BV_laws_eqIntS_l0b {β : Type} (N : Nat)  (v0 : List Int) (v1 : List Int) (v2 : Int) (rec_ : List Int → List Int → Int → Option β) (k0 : Bool → Option β) (k1 : Option β) : Option β :=
(cond ((decide (v2 < (v0.length : Int))))
((gd ((decide (0 ≤ v2)))
((gd ((decide (v2 < (v0.length : Int))))
((gd ((decide (0 ≤ v2)))
((gd ((decide (v2 < (v1.length : Int))))
((cond (((rd 0 v0 v2) != (rd 0 v1 v2)))
(k0 false)
(rec_ v0 v1 ((w64 (v2 + 1))))))))))))))
(k1 ))
theorem t_laws_eqIntS_l0b {β : Type} (N : Nat)  (v0 : List Int) (v1 : List Int) (v2 : Int) (rec_ : List Int → List Int → Int → Option β) (k0 : Bool → Option β) (k1 : Option β) : laws_eqIntS_l0b N v0 v1 v2 rec_ k0 k1 = BV_laws_eqIntS_l0b N v0 v1 v2 rec_ k0 k1 := by
  unfold laws_eqIntS_l0b BV_laws_eqIntS_l0b
  rfl
theorem vst30_0_0 {β : Type} (N : Nat) (q_laws_eqIntS_l0 : Nat → List Int → List Int → Int → (Bool → Option β) → (Option β) → Option β)  (v0 : List Int) (v1 : List Int) (v2 : Int) (rec_ : St → Option β) (K : Exit → St → Option β) :
    ev lay (VE30 N q_laws_eqIntS_l0) (retMask Tryd.f30) (lp Tryd.f30 0).body (lp Tryd.f30 0).ex ((lp Tryd.f30 0).lv (retMask Tryd.f30)) (h30_0_0  v0 v1 v2) (nextR (fun s' => rec_ (s'.tidy ((lp Tryd.f30 0).lv (retMask Tryd.f30)))) K) = BV_laws_eqIntS_l0b N  v0 v1 v2 (fun v0 v1 v2 => rec_ (h30_0_0  v0 v1 v2)) (fun y0 => K .ret (x30_0_0_k0  y0)) (K (.exit 0) (x30_0_0_k1  )) := by kernel_rfl
theorem st30_0_0 {β : Type} (N : Nat)  (v0 : List Int) (v1 : List Int) (v2 : Int) (rec_ : St → Option β) (K : Exit → St → Option β) :
    ev lay (E30 N) (retMask Tryd.f30) (lp Tryd.f30 0).body (lp Tryd.f30 0).ex ((lp Tryd.f30 0).lv (retMask Tryd.f30)) (h30_0_0  v0 v1 v2) (nextR (fun s' => rec_ (s'.tidy ((lp Tryd.f30 0).lv (retMask Tryd.f30)))) K) = laws_eqIntS_l0b N  v0 v1 v2 (fun v0 v1 v2 => rec_ (h30_0_0  v0 v1 v2)) (fun y0 => K .ret (x30_0_0_k0  y0)) (K (.exit 0) (x30_0_0_k1  )) := (vst30_0_0 N (laws_eqIntS_l0 N) v0 v1 v2 rec_ K).trans (t_laws_eqIntS_l0b N  v0 v1 v2 (fun v0 v1 v2 => rec_ (h30_0_0  v0 v1 v2)) (fun y0 => K .ret (x30_0_0_k0  y0)) (K (.exit 0) (x30_0_0_k1  ))).symm
theorem ro30_0_0 {β : Type} (N : Nat)  (K : Exit → St → Option β) : ∀ (F : Nat) (v0 : List Int) (v1 : List Int) (v2 : Int), (lp Tryd.f30 0).rounds lay (E30 N) (retMask Tryd.f30) F (h30_0_0  v0 v1 v2) K = laws_eqIntS_l0 N  F v0 v1 v2 (fun y0 => K .ret (x30_0_0_k0  y0)) (K (.exit 0) (x30_0_0_k1  )) := by
  intro F
  induction F with
  | zero => intros; rfl
  | succ F ih =>
    intros
    rw [rounds_next]
    refine (st30_0_0 N  _ _ _ (fun s => (lp Tryd.f30 0).rounds lay (E30 N) (retMask Tryd.f30) F s K) K).trans ?_
    simp only [ih]
    rfl
theorem lk30_0 {β : Type} (N : Nat) : lookL (E30 (β := β) N).loops (lp Tryd.f30 0).id = LS30_0 N := by kernel_rfl
theorem rk30_0 {β : Type} (N : Nat) : RoundsOK lay (E30 (β := β) N) (retMask Tryd.f30) (lp Tryd.f30 0) := by
  intro s K r h
  rw [lk30_0] at h
  unfold LS30_0 VLS30_0 at h
  cases hb : shpSt (h30_0_0 [] [] 0) s with
  | true =>
    rw [hb, cond_true] at h
    exact ⟨N, by rw [← shpSt_ref hb, fl30_0_0 s]; exact (ro30_0_0 N  K N (rInts (rowV (oneA (vT (nx tund s.tmps 0))))) (rInts (rowV (oneA (vT (nx tund s.tmps 1))))) (intS (oneA (vT (nx tund s.tmps 5))))).trans h⟩
  | false =>
  rw [hb, cond_false] at h
  clear hb
  cases h
def BV_laws_eqIntS {β : Type} (N : Nat) (q_laws_eqIntS_l0 : Nat → List Int → List Int → Int → (Bool → Option β) → (Option β) → Option β) (a0 : List Int) (a1 : List Int) (k : Bool → Option β) : Option β :=
(cond (((a0.length : Int) != (a1.length : Int)))
(k false)
(q_laws_eqIntS_l0  N a0 a1 0 (fun e3_0 =>
k e3_0) (k true)))
theorem t_laws_eqIntS {β : Type} (N : Nat) (a0 : List Int) (a1 : List Int) (k : Bool → Option β) : laws_eqIntS N a0 a1 k = BV_laws_eqIntS N (laws_eqIntS_l0 N) a0 a1 k := by
  unfold laws_eqIntS BV_laws_eqIntS
  rfl
theorem ve30_0 {β : Type} (N : Nat) (q_laws_eqIntS_l0 : Nat → List Int → List Int → Int → (Bool → Option β) → (Option β) → Option β)  (a0 : List Int) (a1 : List Int) (K : TV → Option β) : evFn lay (VE30 N q_laws_eqIntS_l0) Tryd.f30 [.v (.one (.sl 3 (.ints .i64 a0))), .v (.one (.sl 3 (.ints .i64 a1)))] K = BV_laws_eqIntS N q_laws_eqIntS_l0 a0 a1 (fun z2 => K (.v (.one (.bool z2)))) := by kernel_rfl
theorem e30_0 {β : Type} (N : Nat)  (a0 : List Int) (a1 : List Int) (K : TV → Option β) : evFn lay (E30 N) Tryd.f30 [.v (.one (.sl 3 (.ints .i64 a0))), .v (.one (.sl 3 (.ints .i64 a1)))] K = laws_eqIntS N a0 a1 (fun z2 => K (.v (.one (.bool z2)))) := (ve30_0 N (laws_eqIntS_l0 N) a0 a1 K).trans (t_laws_eqIntS N a0 a1 (fun z2 => K (.v (.one (.bool z2))))).symm
theorem o30 {β : Type} (N : Nat) : SpecOK (β := β) inv Tryd.prog 30 (S30 N) := by
  refine spec_of lay_ok mixed (E := E30 N) (specs_loops specs_nil) muts_nil gs_nil Tryd.func30 (by kernel_rfl) 1 (by kernel_rfl) ⟨trivial, rk30_0 N⟩ fun args K r h => ?_
  unfold S30 VS30 at h
  split at h
  · exact (e30_0 N _ _ _).trans h
  · cases h
def VS8 {β : Type} (N : Nat) (q_laws_eqClaim : (a0 : Int) → (a1 : Int) → (a2 : Int) → (a3 : Int) → (a4 : Int) → (a5 : ByteArray) → (a6 : List Int) → (a7 : Int) → (a8 : Int) → (a9 : Int) → (a10 : Int) → (a11 : Int) → (a12 : ByteArray) → (a13 : List Int) → (k : Bool → Option β) → Option β) : Rv.Spec β := fun args K => match args with
  | [.v (.agg [.int .i64 a0, .int .i64 a1, .int .i64 a2, .int .i64 a3, .int .i64 a4, .str a5, .sl 3 (.ints .i64 a6)]), .v (.agg [.int .i64 a7, .int .i64 a8, .int .i64 a9, .int .i64 a10, .int .i64 a11, .str a12, .sl 3 (.ints .i64 a13)])] => q_laws_eqClaim a0 a1 a2 a3 a4 a5 a6 a7 a8 a9 a10 a11 a12 a13 (fun z14 => K (.v (.one (.bool z14))))
  | _ => none
def S8 {β : Type} (N : Nat) : Rv.Spec β := VS8 N (laws_eqClaim N)
def VE8 {β : Type} (N : Nat) (q_laws_eqTable : (a0 : Int) → (a1 : Int) → (a2 : Int) → (a3 : Int) → (k : Bool → Option β) → Option β) (q_laws_eqIntS : (a0 : List Int) → (a1 : List Int) → (k : Bool → Option β) → Option β) : Env β := ⟨[(29, VS29 N q_laws_eqTable), (30, VS30 N q_laws_eqIntS)], [], [], [], ⟨[], [], []⟩⟩
def E8 {β : Type} (N : Nat) : Env β := VE8 N (laws_eqTable N) (laws_eqIntS N)
def BV_laws_eqClaim {β : Type} (N : Nat) (q_laws_eqTable : (a0 : Int) → (a1 : Int) → (a2 : Int) → (a3 : Int) → (k : Bool → Option β) → Option β) (q_laws_eqIntS : (a0 : List Int) → (a1 : List Int) → (k : Bool → Option β) → Option β) (a0 : Int) (a1 : Int) (a2 : Int) (a3 : Int) (a4 : Int) (a5 : ByteArray) (a6 : List Int) (a7 : Int) (a8 : Int) (a9 : Int) (a10 : Int) (a11 : Int) (a12 : ByteArray) (a13 : List Int) (k : Bool → Option β) : Option β :=
(cond ((a0 != a7))
(k false)
(q_laws_eqTable a1 a2 a8 a9 fun r15 =>
(cond (!r15)
(k false)
((cond ((a3 != a10))
(k false)
((cond ((a4 != a11))
(k false)
((cond ((!(a5.toList == a12.toList)))
(k false)
(q_laws_eqIntS a6 a13 fun r16 =>
(cond (!r16)
(k false)
(k true))))))))))))
theorem t_laws_eqClaim {β : Type} (N : Nat) (a0 : Int) (a1 : Int) (a2 : Int) (a3 : Int) (a4 : Int) (a5 : ByteArray) (a6 : List Int) (a7 : Int) (a8 : Int) (a9 : Int) (a10 : Int) (a11 : Int) (a12 : ByteArray) (a13 : List Int) (k : Bool → Option β) : laws_eqClaim N a0 a1 a2 a3 a4 a5 a6 a7 a8 a9 a10 a11 a12 a13 k = BV_laws_eqClaim N (laws_eqTable N) (laws_eqIntS N) a0 a1 a2 a3 a4 a5 a6 a7 a8 a9 a10 a11 a12 a13 k := by
  unfold laws_eqClaim BV_laws_eqClaim
  rfl
theorem ve8_0 {β : Type} (N : Nat) (q_laws_eqTable : (a0 : Int) → (a1 : Int) → (a2 : Int) → (a3 : Int) → (k : Bool → Option β) → Option β) (q_laws_eqIntS : (a0 : List Int) → (a1 : List Int) → (k : Bool → Option β) → Option β)  (a0 : Int) (a1 : Int) (a2 : Int) (a3 : Int) (a4 : Int) (a5 : ByteArray) (a6 : List Int) (a7 : Int) (a8 : Int) (a9 : Int) (a10 : Int) (a11 : Int) (a12 : ByteArray) (a13 : List Int) (K : TV → Option β) : evFn lay (VE8 N q_laws_eqTable q_laws_eqIntS) Tryd.f8 [.v (.agg [.int .i64 a0, .int .i64 a1, .int .i64 a2, .int .i64 a3, .int .i64 a4, .str a5, .sl 3 (.ints .i64 a6)]), .v (.agg [.int .i64 a7, .int .i64 a8, .int .i64 a9, .int .i64 a10, .int .i64 a11, .str a12, .sl 3 (.ints .i64 a13)])] K = BV_laws_eqClaim N q_laws_eqTable q_laws_eqIntS a0 a1 a2 a3 a4 a5 a6 a7 a8 a9 a10 a11 a12 a13 (fun z14 => K (.v (.one (.bool z14)))) := by kernel_rfl
theorem e8_0 {β : Type} (N : Nat)  (a0 : Int) (a1 : Int) (a2 : Int) (a3 : Int) (a4 : Int) (a5 : ByteArray) (a6 : List Int) (a7 : Int) (a8 : Int) (a9 : Int) (a10 : Int) (a11 : Int) (a12 : ByteArray) (a13 : List Int) (K : TV → Option β) : evFn lay (E8 N) Tryd.f8 [.v (.agg [.int .i64 a0, .int .i64 a1, .int .i64 a2, .int .i64 a3, .int .i64 a4, .str a5, .sl 3 (.ints .i64 a6)]), .v (.agg [.int .i64 a7, .int .i64 a8, .int .i64 a9, .int .i64 a10, .int .i64 a11, .str a12, .sl 3 (.ints .i64 a13)])] K = laws_eqClaim N a0 a1 a2 a3 a4 a5 a6 a7 a8 a9 a10 a11 a12 a13 (fun z14 => K (.v (.one (.bool z14)))) := (ve8_0 N (laws_eqTable N) (laws_eqIntS N) a0 a1 a2 a3 a4 a5 a6 a7 a8 a9 a10 a11 a12 a13 K).trans (t_laws_eqClaim N a0 a1 a2 a3 a4 a5 a6 a7 a8 a9 a10 a11 a12 a13 (fun z14 => K (.v (.one (.bool z14))))).symm
theorem o8 {β : Type} (N : Nat) : SpecOK (β := β) inv Tryd.prog 8 (S8 N) := by
  refine spec_of lay_ok mixed (E := E8 N) (specs_loops (specs_cons (o29 N) (specs_cons (o30 N) specs_nil))) muts_nil gs_nil Tryd.func8 (by kernel_rfl) 0 (by kernel_rfl) trivial fun args K r h => ?_
  unfold S8 VS8 at h
  split at h
  · exact (e8_0 N _ _ _ _ _ _ _ _ _ _ _ _ _ _ _).trans h
  · cases h
def VS3 {β : Type} (N : Nat) (q_laws_FnExactFormatClaim : (a0 : Int) → (a1 : Int) → (a2 : Int) → (a3 : Int) → (a4 : Int) → (a5 : ByteArray) → (a6 : List Int) → (k : Bool → Option β) → Option β) : Rv.Spec β := fun args K => match args with
  | [.v (.agg [.int .i64 a0, .int .i64 a1, .int .i64 a2, .int .i64 a3, .int .i64 a4, .str a5, .sl 3 (.ints .i64 a6)])] => q_laws_FnExactFormatClaim a0 a1 a2 a3 a4 a5 a6 (fun z7 => K (.v (.one (.bool z7))))
  | _ => none
def S3 {β : Type} (N : Nat) : Rv.Spec β := VS3 N (laws_FnExactFormatClaim N)
def VE3 {β : Type} (N : Nat) (q_laws_szClaim : (a0 : Int) → (a1 : Int) → (a2 : Int) → (a3 : Int) → (a4 : Int) → (a5 : ByteArray) → (a6 : List Int) → (a7 : Int) → (k : Int → Option β) → Option β) (q_laws_toClaim : (a0 : Int) → (a1 : Int) → (a2 : Int) → (a3 : Int) → (a4 : Int) → (a5 : ByteArray) → (a6 : List Int) → (k : Int → Int → Int → Int → Int → ByteArray → List Int → Option β) → Option β) (q_spec_FormatClaim : (a0 : Int) → (a1 : Int) → (a2 : Int) → (a3 : Int) → (a4 : Int) → (a5 : ByteArray) → (a6 : List Int) → (k : ByteArray → Option β) → Option β) (q_impl_FormatClaim : (a0 : Int) → (a1 : Int) → (a2 : Int) → (a3 : Int) → (a4 : Int) → (a5 : ByteArray) → (a6 : List Int) → (k : ByteArray → Option β) → Option β) (q_laws_eqClaim : (a0 : Int) → (a1 : Int) → (a2 : Int) → (a3 : Int) → (a4 : Int) → (a5 : ByteArray) → (a6 : List Int) → (a7 : Int) → (a8 : Int) → (a9 : Int) → (a10 : Int) → (a11 : Int) → (a12 : ByteArray) → (a13 : List Int) → (k : Bool → Option β) → Option β) : Env β := ⟨[(4, VS4 N q_laws_szClaim), (6, VS6 N q_laws_toClaim), (5, VS5 N q_spec_FormatClaim), (7, VS7 N q_impl_FormatClaim), (8, VS8 N q_laws_eqClaim)], [], [], [], ⟨[], [], []⟩⟩
def E3 {β : Type} (N : Nat) : Env β := VE3 N (laws_szClaim N) (laws_toClaim N) (spec_FormatClaim N) (impl_FormatClaim N) (laws_eqClaim N)
def BV_laws_FnExactFormatClaim {β : Type} (N : Nat) (q_laws_szClaim : (a0 : Int) → (a1 : Int) → (a2 : Int) → (a3 : Int) → (a4 : Int) → (a5 : ByteArray) → (a6 : List Int) → (a7 : Int) → (k : Int → Option β) → Option β) (q_laws_toClaim : (a0 : Int) → (a1 : Int) → (a2 : Int) → (a3 : Int) → (a4 : Int) → (a5 : ByteArray) → (a6 : List Int) → (k : Int → Int → Int → Int → Int → ByteArray → List Int → Option β) → Option β) (q_spec_FormatClaim : (a0 : Int) → (a1 : Int) → (a2 : Int) → (a3 : Int) → (a4 : Int) → (a5 : ByteArray) → (a6 : List Int) → (k : ByteArray → Option β) → Option β) (q_impl_FormatClaim : (a0 : Int) → (a1 : Int) → (a2 : Int) → (a3 : Int) → (a4 : Int) → (a5 : ByteArray) → (a6 : List Int) → (k : ByteArray → Option β) → Option β) (q_laws_eqClaim : (a0 : Int) → (a1 : Int) → (a2 : Int) → (a3 : Int) → (a4 : Int) → (a5 : ByteArray) → (a6 : List Int) → (a7 : Int) → (a8 : Int) → (a9 : Int) → (a10 : Int) → (a11 : Int) → (a12 : ByteArray) → (a13 : List Int) → (k : Bool → Option β) → Option β) (a0 : Int) (a1 : Int) (a2 : Int) (a3 : Int) (a4 : Int) (a5 : ByteArray) (a6 : List Int) (k : Bool → Option β) : Option β :=
q_laws_szClaim a0 a1 a2 a3 a4 a5 a6 1048576 fun r8 =>
(cond ((decide (r8 < 0)))
(k true)
(q_laws_toClaim a0 a1 a2 a3 a4 a5 a6 fun r9 r10 r11 r12 r13 r14 r15 =>
q_spec_FormatClaim r9 r10 r11 r12 r13 r14 r15 fun r16 =>
q_laws_toClaim a0 a1 a2 a3 a4 a5 a6 fun r17 r18 r19 r20 r21 r22 r23 =>
q_impl_FormatClaim r17 r18 r19 r20 r21 r22 r23 fun r24 =>
(cond ((!(r24.toList == r16.toList)))
(k false)
(q_laws_toClaim a0 a1 a2 a3 a4 a5 a6 fun r25 r26 r27 r28 r29 r30 r31 =>
q_laws_eqClaim r17 r18 r19 r20 r21 r22 r23 r25 r26 r27 r28 r29 r30 r31 fun r32 =>
(cond (!r32)
(k false)
(k true))))))
theorem t_laws_FnExactFormatClaim {β : Type} (N : Nat) (a0 : Int) (a1 : Int) (a2 : Int) (a3 : Int) (a4 : Int) (a5 : ByteArray) (a6 : List Int) (k : Bool → Option β) : laws_FnExactFormatClaim N a0 a1 a2 a3 a4 a5 a6 k = BV_laws_FnExactFormatClaim N (laws_szClaim N) (laws_toClaim N) (spec_FormatClaim N) (impl_FormatClaim N) (laws_eqClaim N) a0 a1 a2 a3 a4 a5 a6 k := by
  unfold laws_FnExactFormatClaim BV_laws_FnExactFormatClaim
  rfl
theorem ve3_0 {β : Type} (N : Nat) (q_laws_szClaim : (a0 : Int) → (a1 : Int) → (a2 : Int) → (a3 : Int) → (a4 : Int) → (a5 : ByteArray) → (a6 : List Int) → (a7 : Int) → (k : Int → Option β) → Option β) (q_laws_toClaim : (a0 : Int) → (a1 : Int) → (a2 : Int) → (a3 : Int) → (a4 : Int) → (a5 : ByteArray) → (a6 : List Int) → (k : Int → Int → Int → Int → Int → ByteArray → List Int → Option β) → Option β) (q_spec_FormatClaim : (a0 : Int) → (a1 : Int) → (a2 : Int) → (a3 : Int) → (a4 : Int) → (a5 : ByteArray) → (a6 : List Int) → (k : ByteArray → Option β) → Option β) (q_impl_FormatClaim : (a0 : Int) → (a1 : Int) → (a2 : Int) → (a3 : Int) → (a4 : Int) → (a5 : ByteArray) → (a6 : List Int) → (k : ByteArray → Option β) → Option β) (q_laws_eqClaim : (a0 : Int) → (a1 : Int) → (a2 : Int) → (a3 : Int) → (a4 : Int) → (a5 : ByteArray) → (a6 : List Int) → (a7 : Int) → (a8 : Int) → (a9 : Int) → (a10 : Int) → (a11 : Int) → (a12 : ByteArray) → (a13 : List Int) → (k : Bool → Option β) → Option β)  (a0 : Int) (a1 : Int) (a2 : Int) (a3 : Int) (a4 : Int) (a5 : ByteArray) (a6 : List Int) (K : TV → Option β) : evFn lay (VE3 N q_laws_szClaim q_laws_toClaim q_spec_FormatClaim q_impl_FormatClaim q_laws_eqClaim) Tryd.f3 [.v (.agg [.int .i64 a0, .int .i64 a1, .int .i64 a2, .int .i64 a3, .int .i64 a4, .str a5, .sl 3 (.ints .i64 a6)])] K = BV_laws_FnExactFormatClaim N q_laws_szClaim q_laws_toClaim q_spec_FormatClaim q_impl_FormatClaim q_laws_eqClaim a0 a1 a2 a3 a4 a5 a6 (fun z7 => K (.v (.one (.bool z7)))) := by kernel_rfl
theorem e3_0 {β : Type} (N : Nat)  (a0 : Int) (a1 : Int) (a2 : Int) (a3 : Int) (a4 : Int) (a5 : ByteArray) (a6 : List Int) (K : TV → Option β) : evFn lay (E3 N) Tryd.f3 [.v (.agg [.int .i64 a0, .int .i64 a1, .int .i64 a2, .int .i64 a3, .int .i64 a4, .str a5, .sl 3 (.ints .i64 a6)])] K = laws_FnExactFormatClaim N a0 a1 a2 a3 a4 a5 a6 (fun z7 => K (.v (.one (.bool z7)))) := (ve3_0 N (laws_szClaim N) (laws_toClaim N) (spec_FormatClaim N) (impl_FormatClaim N) (laws_eqClaim N) a0 a1 a2 a3 a4 a5 a6 K).trans (t_laws_FnExactFormatClaim N a0 a1 a2 a3 a4 a5 a6 (fun z7 => K (.v (.one (.bool z7))))).symm
theorem o3 {β : Type} (N : Nat) : SpecOK (β := β) inv Tryd.prog 3 (S3 N) := by
  refine spec_of lay_ok mixed (E := E3 N) (specs_loops (specs_cons (o4 N) (specs_cons (o6 N) (specs_cons (o5 N) (specs_cons (o7 N) (specs_cons (o8 N) specs_nil)))))) muts_nil gs_nil Tryd.func3 (by kernel_rfl) 0 (by kernel_rfl) trivial fun args K r h => ?_
  unfold S3 VS3 at h
  split at h
  · exact (e3_0 N _ _ _ _ _ _ _ _).trans h
  · cases h
end Go.Proofs.YtignjkbhdaiegaaDoor
