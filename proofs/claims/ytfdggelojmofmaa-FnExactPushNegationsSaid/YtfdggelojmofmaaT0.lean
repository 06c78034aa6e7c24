/- The texts of the functions that the claims reach: plain Lean, no program. -/
import Derived.Test.YtfdggelojmofmaaRvShape
namespace Go.Proofs.Ytfdggelojmofmaa
open Go.Rv
set_option linter.unusedVariables false
set_option maxRecDepth 100000
/-! loop.example/g03403/spec.l5End -/
def spec_l5End_b {β : Type} (N : Nat) (self : ByteArray → Int → (Int → Option β) → Option β) (a0 : ByteArray) (a1 : Int) (k : Int → Option β) : Option β :=
(cond ((decide (a1 ≥ (a0.size : Int))))
(k (-1))
((gd ((decide (0 ≤ a1)))
((gd ((decide (a1 < (a0.size : Int))))
((cond (((bt a0 a1) == 97))
((cond (((bt a0 a1) == 97))
(k ((w64 (a1 + 1))))
((cond (((bt a0 a1) == 33))
(self a0 ((w64 (a1 + 1))) fun r3 =>
k r3)
((cond (((bt a0 a1) == 38))
((cond (((bt a0 a1) == 38))
(self a0 ((w64 (a1 + 1))) fun r4 =>
(cond ((decide (r4 < 0)))
(k (-1))
(self a0 r4 fun r5 =>
k r5)))
(k (-1))))
((cond (((bt a0 a1) == 124))
((cond (((bt a0 a1) == 124))
(self a0 ((w64 (a1 + 1))) fun r6 =>
(cond ((decide (r6 < 0)))
(k (-1))
(self a0 r6 fun r7 =>
k r7)))
(k (-1))))
((cond (((bt a0 a1) == 94))
(self a0 ((w64 (a1 + 1))) fun r8 =>
(cond ((decide (r8 < 0)))
(k (-1))
(self a0 r8 fun r9 =>
k r9)))
(k (-1))))))))))))
((cond (((bt a0 a1) == 98))
((cond (((bt a0 a1) == 98))
(k ((w64 (a1 + 1))))
((cond (((bt a0 a1) == 33))
(self a0 ((w64 (a1 + 1))) fun r10 =>
k r10)
((cond (((bt a0 a1) == 38))
((cond (((bt a0 a1) == 38))
(self a0 ((w64 (a1 + 1))) fun r11 =>
(cond ((decide (r11 < 0)))
(k (-1))
(self a0 r11 fun r12 =>
k r12)))
(k (-1))))
((cond (((bt a0 a1) == 124))
((cond (((bt a0 a1) == 124))
(self a0 ((w64 (a1 + 1))) fun r13 =>
(cond ((decide (r13 < 0)))
(k (-1))
(self a0 r13 fun r14 =>
k r14)))
(k (-1))))
((cond (((bt a0 a1) == 94))
(self a0 ((w64 (a1 + 1))) fun r15 =>
(cond ((decide (r15 < 0)))
(k (-1))
(self a0 r15 fun r16 =>
k r16)))
(k (-1))))))))))))
((cond (((bt a0 a1) == 99))
((cond (((bt a0 a1) == 99))
(k ((w64 (a1 + 1))))
((cond (((bt a0 a1) == 33))
(self a0 ((w64 (a1 + 1))) fun r17 =>
k r17)
((cond (((bt a0 a1) == 38))
((cond (((bt a0 a1) == 38))
(self a0 ((w64 (a1 + 1))) fun r18 =>
(cond ((decide (r18 < 0)))
(k (-1))
(self a0 r18 fun r19 =>
k r19)))
(k (-1))))
((cond (((bt a0 a1) == 124))
((cond (((bt a0 a1) == 124))
(self a0 ((w64 (a1 + 1))) fun r20 =>
(cond ((decide (r20 < 0)))
(k (-1))
(self a0 r20 fun r21 =>
k r21)))
(k (-1))))
((cond (((bt a0 a1) == 94))
(self a0 ((w64 (a1 + 1))) fun r22 =>
(cond ((decide (r22 < 0)))
(k (-1))
(self a0 r22 fun r23 =>
k r23)))
(k (-1))))))))))))
((cond (((bt a0 a1) == 100))
((cond (((bt a0 a1) == 100))
(k ((w64 (a1 + 1))))
((cond (((bt a0 a1) == 33))
(self a0 ((w64 (a1 + 1))) fun r24 =>
k r24)
((cond (((bt a0 a1) == 38))
((cond (((bt a0 a1) == 38))
(self a0 ((w64 (a1 + 1))) fun r25 =>
(cond ((decide (r25 < 0)))
(k (-1))
(self a0 r25 fun r26 =>
k r26)))
(k (-1))))
((cond (((bt a0 a1) == 124))
((cond (((bt a0 a1) == 124))
(self a0 ((w64 (a1 + 1))) fun r27 =>
(cond ((decide (r27 < 0)))
(k (-1))
(self a0 r27 fun r28 =>
k r28)))
(k (-1))))
((cond (((bt a0 a1) == 94))
(self a0 ((w64 (a1 + 1))) fun r29 =>
(cond ((decide (r29 < 0)))
(k (-1))
(self a0 r29 fun r30 =>
k r30)))
(k (-1))))))))))))
((cond (((bt a0 a1) == 101))
((cond (((bt a0 a1) == 101))
(k ((w64 (a1 + 1))))
((cond (((bt a0 a1) == 33))
(self a0 ((w64 (a1 + 1))) fun r31 =>
k r31)
((cond (((bt a0 a1) == 38))
((cond (((bt a0 a1) == 38))
(self a0 ((w64 (a1 + 1))) fun r32 =>
(cond ((decide (r32 < 0)))
(k (-1))
(self a0 r32 fun r33 =>
k r33)))
(k (-1))))
((cond (((bt a0 a1) == 124))
((cond (((bt a0 a1) == 124))
(self a0 ((w64 (a1 + 1))) fun r34 =>
(cond ((decide (r34 < 0)))
(k (-1))
(self a0 r34 fun r35 =>
k r35)))
(k (-1))))
((cond (((bt a0 a1) == 94))
(self a0 ((w64 (a1 + 1))) fun r36 =>
(cond ((decide (r36 < 0)))
(k (-1))
(self a0 r36 fun r37 =>
k r37)))
(k (-1))))))))))))
((cond (((bt a0 a1) == 48))
((cond (((bt a0 a1) == 48))
(k ((w64 (a1 + 1))))
((cond (((bt a0 a1) == 33))
(self a0 ((w64 (a1 + 1))) fun r38 =>
k r38)
((cond (((bt a0 a1) == 38))
((cond (((bt a0 a1) == 38))
(self a0 ((w64 (a1 + 1))) fun r39 =>
(cond ((decide (r39 < 0)))
(k (-1))
(self a0 r39 fun r40 =>
k r40)))
(k (-1))))
((cond (((bt a0 a1) == 124))
((cond (((bt a0 a1) == 124))
(self a0 ((w64 (a1 + 1))) fun r41 =>
(cond ((decide (r41 < 0)))
(k (-1))
(self a0 r41 fun r42 =>
k r42)))
(k (-1))))
((cond (((bt a0 a1) == 94))
(self a0 ((w64 (a1 + 1))) fun r43 =>
(cond ((decide (r43 < 0)))
(k (-1))
(self a0 r43 fun r44 =>
k r44)))
(k (-1))))))))))))
((cond (((bt a0 a1) == 49))
(k ((w64 (a1 + 1))))
((cond (((bt a0 a1) == 33))
(self a0 ((w64 (a1 + 1))) fun r45 =>
k r45)
((cond (((bt a0 a1) == 38))
((cond (((bt a0 a1) == 38))
(self a0 ((w64 (a1 + 1))) fun r46 =>
(cond ((decide (r46 < 0)))
(k (-1))
(self a0 r46 fun r47 =>
k r47)))
(k (-1))))
((cond (((bt a0 a1) == 124))
((cond (((bt a0 a1) == 124))
(self a0 ((w64 (a1 + 1))) fun r48 =>
(cond ((decide (r48 < 0)))
(k (-1))
(self a0 r48 fun r49 =>
k r49)))
(k (-1))))
((cond (((bt a0 a1) == 94))
(self a0 ((w64 (a1 + 1))) fun r50 =>
(cond ((decide (r50 < 0)))
(k (-1))
(self a0 r50 fun r51 =>
k r51)))
(k (-1)))))))))))))))))))))))))))))
def spec_l5End_f {β : Type} (N : Nat) : Nat → ByteArray → Int → (Int → Option β) → Option β
  | 0, _, _, _ => none
  | F + 1, a0, a1, k => spec_l5End_b N (spec_l5End_f N F) a0 a1 k
def spec_l5End {β : Type} (N : Nat) (a0 : ByteArray) (a1 : Int) (k : Int → Option β) : Option β := spec_l5End_f N N a0 a1 k
/-! loop.example/g03403/spec.IsFormula -/
def spec_IsFormula {β : Type} (N : Nat) (a0 : ByteArray) (k : Bool → Option β) : Option β :=
(cond ((decide ((a0.size : Int) ≤ 60)))
((cond ((decide ((a0.size : Int) > 0)))
(spec_l5End N a0 0 fun r2 =>
k ((r2 == (a0.size : Int))))
(k false)))
(k false))
/-! loop.example/g03403/spec.l5Push -/
def spec_l5Push_b {β : Type} (N : Nat) (self : ByteArray → Int → Bool → (ByteArray → Option β) → Option β) (a0 : ByteArray) (a1 : Int) (a2 : Bool) (k : ByteArray → Option β) : Option β :=
(gd ((decide (0 ≤ a1)))
((gd ((decide (a1 < (a0.size : Int))))
((cond (((bt a0 a1) == 33))
(self a0 ((w64 (a1 + 1))) (!a2) fun r4 =>
k r4)
((cond (((bt a0 a1) == 38))
((cond a2
(self a0 ((w64 (a1 + 1))) true fun r5 =>
(gd ((decide (((strOf [124])).size + r5.size ≤ 9223372036854775807)))
(spec_l5End N a0 ((w64 (a1 + 1))) fun r6 =>
self a0 r6 true fun r7 =>
(gd ((decide ((((strOf [124]) ++ r5)).size + r7.size ≤ 9223372036854775807)))
(k ((((strOf [124]) ++ r5) ++ r7)))))))
(self a0 ((w64 (a1 + 1))) false fun r8 =>
(gd ((decide (((strOf [38])).size + r8.size ≤ 9223372036854775807)))
(spec_l5End N a0 ((w64 (a1 + 1))) fun r9 =>
self a0 r9 false fun r10 =>
(gd ((decide ((((strOf [38]) ++ r8)).size + r10.size ≤ 9223372036854775807)))
(k ((((strOf [38]) ++ r8) ++ r10)))))))))
((cond (((bt a0 a1) == 124))
((cond a2
(self a0 ((w64 (a1 + 1))) true fun r11 =>
(gd ((decide (((strOf [38])).size + r11.size ≤ 9223372036854775807)))
(spec_l5End N a0 ((w64 (a1 + 1))) fun r12 =>
self a0 r12 true fun r13 =>
(gd ((decide ((((strOf [38]) ++ r11)).size + r13.size ≤ 9223372036854775807)))
(k ((((strOf [38]) ++ r11) ++ r13)))))))
(self a0 ((w64 (a1 + 1))) false fun r14 =>
(gd ((decide (((strOf [124])).size + r14.size ≤ 9223372036854775807)))
(spec_l5End N a0 ((w64 (a1 + 1))) fun r15 =>
self a0 r15 false fun r16 =>
(gd ((decide ((((strOf [124]) ++ r14)).size + r16.size ≤ 9223372036854775807)))
(k ((((strOf [124]) ++ r14) ++ r16)))))))))
((cond (((bt a0 a1) == 94))
(self a0 ((w64 (a1 + 1))) a2 fun r17 =>
(gd ((decide (((strOf [94])).size + r17.size ≤ 9223372036854775807)))
(spec_l5End N a0 ((w64 (a1 + 1))) fun r18 =>
self a0 r18 false fun r19 =>
(gd ((decide ((((strOf [94]) ++ r17)).size + r19.size ≤ 9223372036854775807)))
(k ((((strOf [94]) ++ r17) ++ r19)))))))
((cond (((bt a0 a1) == 48))
((cond a2
(k ((strOf [49])))
(k ((strOf [48])))))
((cond (((bt a0 a1) == 49))
((cond a2
(k ((strOf [48])))
(k ((strOf [49])))))
((cond a2
((gd ((decide (0 ≤ (w64 (a1 + 1)))))
((gd ((decide ((w64 (a1 + 1)) ≤ (a0.size : Int))))
((gd ((decide (0 ≤ a1)))
((gd ((decide (a1 ≤ (w64 (a1 + 1)))))
((gd ((decide (((strOf [33])).size + ((a0.extract (Int.toNat a1) (Int.toNat (w64 (a1 + 1))))).size ≤ 9223372036854775807)))
(k (((strOf [33]) ++ (a0.extract (Int.toNat a1) (Int.toNat (w64 (a1 + 1)))))))))))))))))
((gd ((decide (0 ≤ (w64 (a1 + 1)))))
((gd ((decide ((w64 (a1 + 1)) ≤ (a0.size : Int))))
((gd ((decide (0 ≤ a1)))
((gd ((decide (a1 ≤ (w64 (a1 + 1)))))
(k ((a0.extract (Int.toNat a1) (Int.toNat (w64 (a1 + 1)))))))))))))))))))))))))))))))
def spec_l5Push_f {β : Type} (N : Nat) : Nat → ByteArray → Int → Bool → (ByteArray → Option β) → Option β
  | 0, _, _, _, _ => none
  | F + 1, a0, a1, a2, k => spec_l5Push_b N (spec_l5Push_f N F) a0 a1 a2 k
def spec_l5Push {β : Type} (N : Nat) (a0 : ByteArray) (a1 : Int) (a2 : Bool) (k : ByteArray → Option β) : Option β := spec_l5Push_f N N a0 a1 a2 k
/-! loop.example/g03403/spec.PushNegations -/
def spec_PushNegations {β : Type} (N : Nat) (a0 : ByteArray) (k : ByteArray → Bool → Option β) : Option β :=
spec_IsFormula N a0 fun r3 =>
(cond (!r3)
(k ByteArray.empty false)
(spec_l5Push N a0 0 false fun r4 =>
spec_IsFormula N r4 fun r5 =>
(cond (!r5)
(k ByteArray.empty false)
(k r4 true))))
/-! loop.example/g03403/impl.isLetter -/
def impl_isLetter {β : Type} (N : Nat) (a0 : Int) (k : Bool → Option β) : Option β :=
(cond ((decide (a0 ≥ 97)))
(k ((decide (a0 < 102))))
(k false))
/-! loop.example/g03403/impl.readPart -/
def impl_readPart_b {β : Type} (N : Nat) (self : ByteArray → (Tr → ByteArray → Option β) → Option β) (a0 : ByteArray) (k : Tr → ByteArray → Option β) : Option β :=
(cond ((a0.toList == ByteArray.empty.toList))
(k Tr.nil ByteArray.empty)
((gd ((decide (0 < (a0.size : Int))))
((gd ((decide (1 ≤ (a0.size : Int))))
(impl_isLetter N ((bt a0 0)) fun r3 =>
(cond r3
(k ((Tr.node ((bt a0 0)) 0 Tr.nil Tr.nil)) ((a0.extract (Int.toNat 1) a0.size)))
((cond (((bt a0 0) == 48))
(k ((Tr.node ((bt a0 0)) 0 Tr.nil Tr.nil)) ((a0.extract (Int.toNat 1) a0.size)))
((cond (((bt a0 0) == 49))
(k ((Tr.node ((bt a0 0)) 0 Tr.nil Tr.nil)) ((a0.extract (Int.toNat 1) a0.size)))
((cond (((bt a0 0) == 33))
(self ((a0.extract (Int.toNat 1) a0.size)) fun r4 r5 =>
(cond ((Tr.isNil r4))
(k Tr.nil ByteArray.empty)
(k ((Tr.node ((bt a0 0)) 0 r4 Tr.nil)) r5)))
((cond (((bt a0 0) == 38))
(self ((a0.extract (Int.toNat 1) a0.size)) fun r6 r7 =>
(cond ((Tr.isNil r6))
(k Tr.nil ByteArray.empty)
(self r7 fun r8 r9 =>
(cond ((Tr.isNil r8))
(k Tr.nil ByteArray.empty)
(k ((Tr.node ((bt a0 0)) 0 r6 r8)) r9)))))
((cond (((bt a0 0) == 124))
(self ((a0.extract (Int.toNat 1) a0.size)) fun r10 r11 =>
(cond ((Tr.isNil r10))
(k Tr.nil ByteArray.empty)
(self r11 fun r12 r13 =>
(cond ((Tr.isNil r12))
(k Tr.nil ByteArray.empty)
(k ((Tr.node ((bt a0 0)) 0 r10 r12)) r13)))))
((cond (((bt a0 0) == 94))
(self ((a0.extract (Int.toNat 1) a0.size)) fun r14 r15 =>
(cond ((Tr.isNil r14))
(k Tr.nil ByteArray.empty)
(self r15 fun r16 r17 =>
(cond ((Tr.isNil r16))
(k Tr.nil ByteArray.empty)
(k ((Tr.node ((bt a0 0)) 0 r14 r16)) r17)))))
(k Tr.nil ByteArray.empty))))))))))))))))))))
def impl_readPart_f {β : Type} (N : Nat) : Nat → ByteArray → (Tr → ByteArray → Option β) → Option β
  | 0, _, _ => none
  | F + 1, a0, k => impl_readPart_b N (impl_readPart_f N F) a0 k
def impl_readPart {β : Type} (N : Nat) (a0 : ByteArray) (k : Tr → ByteArray → Option β) : Option β := impl_readPart_f N N a0 k
/-! loop.example/g03403/impl.readFormula -/
def impl_readFormula {β : Type} (N : Nat) (a0 : ByteArray) (k : Tr → Bool → Option β) : Option β :=
(cond ((decide ((a0.size : Int) > 60)))
(k Tr.nil false)
(impl_readPart N a0 fun r3 r4 =>
(cond ((!(Tr.isNil r3)))
(k r3 ((r4.toList == ByteArray.empty.toList)))
(k r3 false))))
/-! (*loop.example/g03403/impl.part).isLeaf -/
def impl_part_isLeaf {β : Type} (N : Nat) (a0 : Tr) (k : Bool → Option β) : Option β :=
(gd ((!(Tr.isNil a0)))
((gd ((!(Tr.isNil a0)))
((gd ((!(Tr.isNil a0)))
(k ((Tr.isNil ((Tr.l a0))))))))))
/-! loop.example/g03403/impl.other -/
def impl_other {β : Type} (N : Nat) (a0 : Int) (k : Int → Option β) : Option β :=
(cond ((a0 == 38))
(k 124)
((cond ((a0 == 124))
(k 38)
((cond ((a0 == 48))
(k 49)
((cond ((a0 == 49))
(k 48)
(k a0))))))))
/-! (*loop.example/g03403/impl.part).push -/
def impl_part_push_b {β : Type} (N : Nat) (self : Tr → Bool → (Tr → Option β) → Option β) (a0 : Tr) (a1 : Bool) (k : Tr → Option β) : Option β :=
(gd ((!(Tr.isNil a0)))
((gd ((!(Tr.isNil a0)))
((gd ((!(Tr.isNil a0)))
((cond (((Tr.a a0) == 33))
((gd ((!(Tr.isNil a0)))
((gd ((!(Tr.isNil a0)))
((gd ((!(Tr.isNil a0)))
(self ((Tr.l a0)) (!a1) fun r3 =>
k r3)))))))
((gd ((!(Tr.isNil a0)))
((gd ((!(Tr.isNil a0)))
((gd ((!(Tr.isNil a0)))
(impl_isLetter N ((Tr.a a0)) fun r4 =>
(cond r4
((cond a1
(k ((Tr.node 33 0 a0 Tr.nil)))
(impl_part_isLeaf N a0 fun r5 =>
(cond r5
((cond a1
((gd ((!(Tr.isNil a0)))
((gd ((!(Tr.isNil a0)))
((gd ((!(Tr.isNil a0)))
(impl_other N ((Tr.a a0)) fun r6 =>
k ((Tr.node r6 0 Tr.nil Tr.nil)))))))))
(k a0)))
((gd ((!(Tr.isNil a0)))
((gd ((!(Tr.isNil a0)))
((gd ((!(Tr.isNil a0)))
((cond (((Tr.a a0) == 94))
((gd ((!(Tr.isNil a0)))
((gd ((!(Tr.isNil a0)))
((gd ((!(Tr.isNil a0)))
((gd ((!(Tr.isNil a0)))
((gd ((!(Tr.isNil a0)))
((gd ((!(Tr.isNil a0)))
(self ((Tr.l a0)) a1 fun r7 =>
self ((Tr.r a0)) false fun r8 =>
k ((Tr.node 94 0 r7 r8)))))))))))))))
((gd ((!(Tr.isNil a0)))
((gd ((!(Tr.isNil a0)))
((gd ((!(Tr.isNil a0)))
((cond a1
(impl_other N ((Tr.a a0)) fun r9 =>
(gd ((!(Tr.isNil a0)))
((gd ((!(Tr.isNil a0)))
((gd ((!(Tr.isNil a0)))
((gd ((!(Tr.isNil a0)))
((gd ((!(Tr.isNil a0)))
((gd ((!(Tr.isNil a0)))
(self ((Tr.l a0)) a1 fun r10 =>
self ((Tr.r a0)) a1 fun r11 =>
k ((Tr.node r9 0 r10 r11)))))))))))))))
((gd ((!(Tr.isNil a0)))
((gd ((!(Tr.isNil a0)))
((gd ((!(Tr.isNil a0)))
((gd ((!(Tr.isNil a0)))
((gd ((!(Tr.isNil a0)))
((gd ((!(Tr.isNil a0)))
(self ((Tr.l a0)) a1 fun r12 =>
self ((Tr.r a0)) a1 fun r13 =>
k ((Tr.node ((Tr.a a0)) 0 r12 r13)))))))))))))))))))))))))))))))))))
(impl_part_isLeaf N a0 fun r14 =>
(cond r14
((cond a1
((gd ((!(Tr.isNil a0)))
((gd ((!(Tr.isNil a0)))
((gd ((!(Tr.isNil a0)))
(impl_other N ((Tr.a a0)) fun r15 =>
k ((Tr.node r15 0 Tr.nil Tr.nil)))))))))
(k a0)))
((gd ((!(Tr.isNil a0)))
((gd ((!(Tr.isNil a0)))
((gd ((!(Tr.isNil a0)))
((cond (((Tr.a a0) == 94))
((gd ((!(Tr.isNil a0)))
((gd ((!(Tr.isNil a0)))
((gd ((!(Tr.isNil a0)))
((gd ((!(Tr.isNil a0)))
((gd ((!(Tr.isNil a0)))
((gd ((!(Tr.isNil a0)))
(self ((Tr.l a0)) a1 fun r16 =>
self ((Tr.r a0)) false fun r17 =>
k ((Tr.node 94 0 r16 r17)))))))))))))))
((gd ((!(Tr.isNil a0)))
((gd ((!(Tr.isNil a0)))
((gd ((!(Tr.isNil a0)))
((cond a1
(impl_other N ((Tr.a a0)) fun r18 =>
(gd ((!(Tr.isNil a0)))
((gd ((!(Tr.isNil a0)))
((gd ((!(Tr.isNil a0)))
((gd ((!(Tr.isNil a0)))
((gd ((!(Tr.isNil a0)))
((gd ((!(Tr.isNil a0)))
(self ((Tr.l a0)) a1 fun r19 =>
self ((Tr.r a0)) a1 fun r20 =>
k ((Tr.node r18 0 r19 r20)))))))))))))))
((gd ((!(Tr.isNil a0)))
((gd ((!(Tr.isNil a0)))
((gd ((!(Tr.isNil a0)))
((gd ((!(Tr.isNil a0)))
((gd ((!(Tr.isNil a0)))
((gd ((!(Tr.isNil a0)))
(self ((Tr.l a0)) a1 fun r21 =>
self ((Tr.r a0)) a1 fun r22 =>
k ((Tr.node ((Tr.a a0)) 0 r21 r22))))))))))))))))))))))))))))))))))))))))))))))))
def impl_part_push_f {β : Type} (N : Nat) : Nat → Tr → Bool → (Tr → Option β) → Option β
  | 0, _, _, _ => none
  | F + 1, a0, a1, k => impl_part_push_b N (impl_part_push_f N F) a0 a1 k
def impl_part_push {β : Type} (N : Nat) (a0 : Tr) (a1 : Bool) (k : Tr → Option β) : Option β := impl_part_push_f N N a0 a1 k
/-! (*loop.example/g03403/impl.part).text -/
def impl_part_text_b {β : Type} (N : Nat) (self : Tr → (ByteArray → Option β) → Option β) (a0 : Tr) (k : ByteArray → Option β) : Option β :=
(gd ((!(Tr.isNil a0)))
((gd ((!(Tr.isNil a0)))
((gd ((!(Tr.isNil a0)))
((gd ((!(Tr.isNil a0)))
((gd ((!(Tr.isNil a0)))
((gd ((!(Tr.isNil a0)))
((cond ((!(Tr.isNil ((Tr.l a0)))))
((gd ((!(Tr.isNil a0)))
((gd ((!(Tr.isNil a0)))
((gd ((!(Tr.isNil a0)))
(self ((Tr.l a0)) fun r2 =>
(gd ((decide (((strOf ((([] : List Int) ++ [(Tr.a a0)])))).size + r2.size ≤ 9223372036854775807)))
((gd ((!(Tr.isNil a0)))
((gd ((!(Tr.isNil a0)))
((gd ((!(Tr.isNil a0)))
((cond ((!(Tr.isNil ((Tr.r a0)))))
((gd ((!(Tr.isNil a0)))
((gd ((!(Tr.isNil a0)))
((gd ((!(Tr.isNil a0)))
(self ((Tr.r a0)) fun r3 =>
(gd ((decide ((((strOf ((([] : List Int) ++ [(Tr.a a0)]))) ++ r2)).size + r3.size ≤ 9223372036854775807)))
(k ((((strOf ((([] : List Int) ++ [(Tr.a a0)]))) ++ r2) ++ r3)))))))))))
(k (((strOf ((([] : List Int) ++ [(Tr.a a0)]))) ++ r2)))))))))))))))))))
((gd ((!(Tr.isNil a0)))
((gd ((!(Tr.isNil a0)))
((gd ((!(Tr.isNil a0)))
((cond ((!(Tr.isNil ((Tr.r a0)))))
((gd ((!(Tr.isNil a0)))
((gd ((!(Tr.isNil a0)))
((gd ((!(Tr.isNil a0)))
(self ((Tr.r a0)) fun r4 =>
(gd ((decide (((strOf ((([] : List Int) ++ [(Tr.a a0)])))).size + r4.size ≤ 9223372036854775807)))
(k (((strOf ((([] : List Int) ++ [(Tr.a a0)]))) ++ r4)))))))))))
(k ((strOf ((([] : List Int) ++ [(Tr.a a0)]))))))))))))))))))))))))))
def impl_part_text_f {β : Type} (N : Nat) : Nat → Tr → (ByteArray → Option β) → Option β
  | 0, _, _ => none
  | F + 1, a0, k => impl_part_text_b N (impl_part_text_f N F) a0 k
def impl_part_text {β : Type} (N : Nat) (a0 : Tr) (k : ByteArray → Option β) : Option β := impl_part_text_f N N a0 k
/-! loop.example/g03403/impl.PushNegations -/
def impl_PushNegations {β : Type} (N : Nat) (a0 : ByteArray) (k : ByteArray → Bool → Option β) : Option β :=
impl_readFormula N a0 fun r3 r4 =>
(cond (!r4)
(k ByteArray.empty false)
(impl_part_push N r3 false fun r5 =>
impl_part_text N r5 fun r6 =>
(cond ((decide ((r6.size : Int) > 60)))
(k ByteArray.empty false)
(k r6 true))))
/-! loop.example/g03403/laws.FnExactPushNegations -/
def laws_FnExactPushNegations {β : Type} (N : Nat) (a0 : ByteArray) (k : Bool → Option β) : Option β :=
(cond ((decide ((a0.size : Int) > 1048576)))
(k true)
(spec_PushNegations N a0 fun r2 r3 =>
impl_PushNegations N a0 fun r4 r5 =>
(cond ((!(r4.toList == r2.toList)))
(k false)
((cond ((!(r5 == r3)))
(k false)
(k true))))))
end Go.Proofs.Ytfdggelojmofmaa
