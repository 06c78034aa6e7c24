/- The evaluator's operations do what the machine's do: those that make or turn memory. -/
import Derived.Test.YtemihnclhcobnaaGreatDoorRvQuiet
import Derived.Great.BuildSlice
import Derived.Laws.OwnMore
namespace Go.Rv
set_option linter.unusedSimpArgs false
open Go.RowKit (Below)

theorem cL (w : World) (o : Obj) : Below w.heap.size w (w.alloc o) := (akG _ w).alloc (aj8 _) o

section
variable {I : World -> Prop} {P : Program} {L : Lay} {X : Cx I} {lc : List Loc} {β : Type} {o : Oper} {s : St} {a : Act} {w : World} {K : TV -> St -> Option β} {r : β}

theorem wR {x : SV} {v : Value} (hc : dJ x = true) (h : aD X lc x v) : v.oneCell' = true /\ v.cells = #[v] := by
 cases x <;> simp only [dJ, akN] at hc <;> simp only [aD] at h
 ·subst h; exact ⟨rfl, rfl⟩
 ·subst h; exact ⟨rfl, rfl⟩
 ·subst h; exact ⟨rfl, rfl⟩
 ·obtain ⟨g, _, rfl⟩ := h; exact ⟨rfl, rfl⟩
 ·obtain ⟨_, A, n, c, rfl⟩ := h; exact ⟨rfl, rfl⟩
 ·obtain ⟨A, n, c, rfl, _⟩ := h; exact ⟨rfl, rfl⟩
 ·obtain ⟨vs, rfl, _⟩ := h; exact ⟨rfl, rfl⟩
 ·obtain ⟨vs, rfl, _⟩ := h; exact ⟨rfl, rfl⟩
 ·obtain ⟨g, _, rfl⟩ := h; exact ⟨rfl, rfl⟩
 ·subst h; exact ⟨rfl, rfl⟩
 ·subst h; exact ⟨rfl, rfl⟩
 ·obtain ⟨⟨A, n, c, rfl, _⟩, _⟩ := h; exact ⟨rfl, rfl⟩
 ·rename_i two T
  cases T with
  | nil => obtain rfl : v = .pointer none := h; exact ⟨rfl, rfl⟩
  | node ta tb tl tr => obtain ⟨g, cs, t, z, vl, vr, rfl, _⟩ := h; exact ⟨rfl, rfl⟩
 ·subst h; exact ⟨rfl, rfl⟩

theorem ma {x : TV} {l : List SV} {v : Value} (hx : aC X lc x v) (hl : x.cells = some l) (hc : l.all dJ = true) :
  aB (aD X lc) l v.cells.toList /\ ∀ u ∈ v.cells.toList, u.oneCell' = true := by
 have key : ∀ (l : List SV) (m : List Value), aB (aD X lc) l m -> l.all dJ = true -> ∀ u ∈ m, u.oneCell' = true := by
  intro l m h
  induction h with
  | nil => intro _ u hu; simp at hu
  | cons h1 _ ih =>
   intro hc u hu
   simp only [akd, aj0] at hc
   rcases akf.1 hu with rfl | hu
   ·exact (wR hc.1 h1).1
   ·exact ih hc.2 u hu
 cases x with
 | tup _ => cases hl
 | v x => cases x with
  | one s =>
   simp only [TV.cells, aj1] at hl
   subst hl
   simp only [akd, al6, alA] at hc
   obtain ⟨h1, h2⟩ := wR hc hx
   rw [h2]
   exact ⟨.cons hx .nil, fun u hu => by simp at hu; subst hu; exact h1⟩
  | agg m =>
   simp only [TV.cells, aj1] at hl
   subst hl
   obtain ⟨cs, rfl, h⟩ := hx
   exact ⟨h, key _ _ h hc⟩

theorem bb {e : TypeId} {q : Row} (h : bP L e = some q) : q.len = 0 := by
 unfold bP at h
 split at h <;> try (cases h; rfl)
 ·split at h <;> cases h; rfl
 ·split at h <;> cases h; rfl
 ·split at h <;> cases h; rfl
 ·cases h
theorem rM {q : Row} (h : q.len = 0) {S : Nat -> Prop} {wf : World} : q.cellsIn S wf [] := by
 cases hd : q.deep with
 | false =>
  refine (Row.in_plain hd).2 ?_
  have := Row.cells_len hd
  rw [h, alu] at this
  exact (akw this).symm
 | true =>
  cases q <;> try cases hd
  rename_i e l
  have : l = [] := akw h
  subst this
  exact .nil
theorem eh {q : Row} (h : q.len = 0) {S : Nat -> Prop} {wf : World} : bf S wf q (.slice none 0 0) :=
 ⟨none, 0, 0, rfl, h.symm, aj8 _, [], rM h, fun m u hm => by simp at hm⟩

theorem fP {t : TypeId} {sz n : Nat} (h : n = 0) {S : Nat -> Prop} {wf : World} : oN S wf t sz n (.slice none 0 0) := ⟨[], ⟨by simp [h], .inl ⟨rfl, h⟩⟩, fun g hg => by cases hg⟩

theorem aK.pushNil {bl : List Blk} (h : aK X bl w lc) {e : TypeId} {q : Row} (hq : bP L e = some q) : aK X (bl ++ [.row e q]) w (lc ++ [.r (.slice none 0 0)]) := by
 refine h.push (akG _ _) ?_ (fun g hg => by simp [Loc.blk, Value.ownBlock] at hg)
 refine uU (rM (bb hq)) ?_
 rw [bb hq]
 exact alX _ _ _ _

theorem iK {j : Nat} {A : Option Addr} {n c : Nat} {lc : List Loc} (h : lc[j]? = some (.r (.slice A n c))) : aD X lc (.row j) (.slice A n c) := ⟨h, A, n, c, rfl⟩

theorem ep {ℓ : Loc} {bl : List Blk} {j : Nat} (h : lc.length = bl.length) (hj : j = bl.length) : (lc ++ [ℓ])[j]? = some ℓ := by
 rw [hj, <- h]; simp

theorem WV (_ : aO P L) {H : eN} {d : Option Tmp} {t : TypeId} (ho : o.op = .move (.const (.slice none 0 0)) \/ o.op = .assign (.const (.slice none 0 0))) (hR : Rel X s a w lc)
  (h : (match L.at_ t with
   | .slice e => match bP L e with
    | some q => cond (match d with | some d => qq d H.nils | none => false) (K (one (.fsl e q)) s) (K (one (.row s.blks.length)) (s.add (.row e q)))
    | none => none
   | _ => none) = some r) : mH P X o a w lc s K r := by
 have hrun : (execOp a.eval o).run P w = .ok (.value (.slice none 0 0)) w := by
  unfold execOp
  rcases ho with ho | ho <;> simp [ho, Act.eval]
 split at h
 ·split at h
  ·rename_i q hq
   cases hc : (match d with | some d => qq d H.nils | none => false) with
   | true =>
    rw [hc] at h
    exact ⟨_, s.blks, [], .value (.slice none 0 0), _, w, h, hrun, fun _ => akG _ _, rfl, ⟨eh (bb hq), fP (bb hq)⟩, by simpa using hR.world⟩
   | false =>
    rw [hc] at h
    exact ⟨_, _, [.r (.slice none 0 0)], .value (.slice none 0 0), _, w, h, hrun, fun _ => akG _ _, rfl, iK (X := X) (ep hR.world.len rfl), hR.world.pushNil hq⟩
  ·cases h
 ·cases h

theorem gO {f : Bool} : ∀ (cts : List TypeId) (bl : List Blk) (l : List SV) (b : List Blk) (zs : List Value) (lc : List Loc), be L f cts bl = some (l, b) -> aB (cU L) cts zs -> aK X bl w lc ->
    ∃ more, aK X b w (lc ++ more) /\ aB (aD X (lc ++ more)) l zs /\ l.all dJ = true := by
  intro cts
  induction cts with
  | nil =>
    intro bl l b zs lc h hz hw
    cases hz
    simp only [be, aj1, akp] at h
    obtain ⟨rfl, rfl⟩ := h
    exact ⟨[], by simpa using hw, .nil, rfl⟩
  | cons c cts ih =>
    intro bl l b zs lc h hz hw
    cases hz with
    | @cons _ z _ zs hz1 hz2 =>
    unfold cU at hz1
    simp only [be] at h
    split at h
    · rename_i k hti
      rw [hti] at hz1
      split at h
      · rename_i l' b' hr
        simp only [aj1, akp] at h; obtain ⟨rfl, rfl⟩ := h
        obtain ⟨more, h1, h2, h3⟩ := ih bl l' b' zs lc hr hz2 hw
        exact ⟨more, h1, .cons hz1 h2, by simpa [dJ] using h3⟩
      · cases h
    · rename_i hti
      rw [hti] at hz1
      split at h
      · rename_i l' b' hr
        simp only [aj1, akp] at h; obtain ⟨rfl, rfl⟩ := h
        obtain ⟨more, h1, h2, h3⟩ := ih bl l' b' zs lc hr hz2 hw
        exact ⟨more, h1, .cons hz1 h2, by simpa [dJ] using h3⟩
      · cases h
    · rename_i hti
      rw [hti] at hz1
      split at h
      · rename_i l' b' hr
        simp only [aj1, akp] at h; obtain ⟨rfl, rfl⟩ := h
        obtain ⟨more, h1, h2, h3⟩ := ih bl l' b' zs lc hr hz2 hw
        exact ⟨more, h1, .cons hz1 h2, by simpa [dJ] using h3⟩
      · cases h
    · rename_i e hti
      rw [hti] at hz1
      split at h
      · rename_i q hq
        cases f with
        | true =>
         simp only [ajZ] at h
         split at h
         · rename_i l' b' hr
           simp only [aj1, akp] at h; obtain ⟨rfl, rfl⟩ := h
           obtain ⟨more, h1, h2, h3⟩ := ih bl l' b' zs lc hr hz2 hw
           refine ⟨more, h1, .cons ?_ h2, by simpa [dJ] using h3⟩
           simp only at hz1
           subst hz1
           exact ⟨eh (bb hq), fP (bb hq)⟩
         · cases h
        | false =>
        simp only [ajY] at h
        split at h
        · rename_i l' b' hr
          simp only [aj1, akp] at h; obtain ⟨rfl, rfl⟩ := h
          obtain ⟨more, h1, h2, h3⟩ := ih _ l' b' zs (lc ++ [.r (.slice none 0 0)]) hr hz2 (hw.pushNil hq)
          refine ⟨.r (.slice none 0 0) :: more, by simpa using h1, .cons ?_ (by simpa using h2), by simpa [dJ] using h3⟩
          simp only at hz1
          subst hz1
          refine iK ?_
          have := dA more (ep (ℓ := .r (.slice none 0 0)) hw.len rfl)
          simpa using this
        · cases h
      · cases h
    · rename_i e hti
      rw [hti] at hz1
      split at h
      · rename_i l' b' hr
        simp only [aj1, akp] at h; obtain ⟨rfl, rfl⟩ := h
        obtain ⟨more, h1, h2, h3⟩ := ih bl l' b' zs lc hr hz2 hw
        exact ⟨more, h1, .cons hz1 h2, by simpa [dJ] using h3⟩
      · cases h
    · rename_i k e hti
      rw [hti] at hz1
      split at h
      · rename_i l' b' hr
        simp only [aj1, akp] at h; obtain ⟨rfl, rfl⟩ := h
        obtain ⟨more, h1, h2, h3⟩ := ih bl l' b' zs lc hr hz2 hw
        exact ⟨more, h1, .cons hz1 h2, by simpa [dJ] using h3⟩
      · cases h
    · rename_i hti
      rw [hti] at hz1
      split at h
      · rename_i l' b' hr
        simp only [aj1, akp] at h; obtain ⟨rfl, rfl⟩ := h
        obtain ⟨more, h1, h2, h3⟩ := ih bl l' b' zs lc hr hz2 hw
        exact ⟨more, h1, .cons hz1 h2, by simpa [dJ] using h3⟩
      · cases h
    · cases h

theorem Il (hL : aO P L) (t : TypeId) {f : Bool} {bl b : List Blk} {l : List SV} (h : be L f (cC L t) bl = some (l, b)) :
  ∃ i z, P.info? t = some i /\ i.zero = some z /\ aB (cU L) (cC L t) z.cells.toList := by
 have ht := hL t
 unfold cC at h ⊢
 have single : ∀ z, dP P t z 1 1 -> False -> True := fun _ _ _ => trivial
 cases hti : L.at_ t with
 | struct fs cts b cmp =>
  rw [hti] at ht
  obtain ⟨_, zc, _, _, ⟨i, hi, hz, _, _⟩, hzc, _⟩ := ht
  exact ⟨i, .agg zc, hi, hz, hzc⟩
 | int k =>
  rw [hti] at ht
  obtain ⟨_, i, hi, hz, _, _⟩ := ht
  exact ⟨i, _, hi, hz, .cons (by simp [cU, hti]) .nil⟩
 | bool =>
  rw [hti] at ht
  obtain ⟨_, i, hi, hz, _, _⟩ := ht
  exact ⟨i, _, hi, hz, .cons (by simp [cU, hti]) .nil⟩
 | string =>
  rw [hti] at ht
  obtain ⟨_, i, hi, hz, _, _⟩ := ht
  exact ⟨i, _, hi, hz, .cons (by simp [cU, hti]) .nil⟩
 | slice e =>
  rw [hti] at ht
  obtain ⟨_, i, hi, hz, _, _⟩ := ht
  exact ⟨i, _, hi, hz, .cons (by simp [cU, hti]) .nil⟩
 | pointer e =>
  rw [hti] at ht
  obtain ⟨_, i, hi, hz, _, _⟩ := ht
  exact ⟨i, _, hi, hz, .cons (by simp [cU, hti]) .nil⟩
 | map k e =>
  rw [hti] at ht
  obtain ⟨_, i, hi, hz, _, _⟩ := ht
  exact ⟨i, _, hi, hz, .cons (by simp [cU, hti]) .nil⟩
 | array n e =>
  rw [hti] at ht
  obtain ⟨_, _, he, i, hi, hz, _, _⟩ := ht
  exact ⟨i, _, hi, hz, .cons (by simp [cU, he]) (.cons (by simp [cU, he]) .nil)⟩
 | func =>
  rw [hti] at ht
  obtain ⟨_, i, hi, hz, _, _⟩ := ht
  exact ⟨i, _, hi, hz, .cons (by simp [cU, hti]) .nil⟩
 | other => simp [hti, be] at h

theorem aK.pushCells {bl : List Blk} (h : aK X bl w lc) {t : TypeId} {l : List SV} {cs : Array Value} (hl : aB (aD X lc) l cs.toList) :
  aK X (bl ++ [.cells t l]) (w.alloc (.cells cs t)) (lc ++ [.c w.heap.size]) :=
 h.push (cL w _) ⟨h.base_le, cs, heap_alloc_new w _, hl.mono fun _ _ h => h.more _⟩ (fun g hg => by simp [Loc.blk] at hg; omega)

theorem TU (hL : aO P L) {f : Bool} {t : TypeId} (ho : o.op = .alloc t) (hR : Rel X s a w lc)
  (h : (match be L f (cC L t) s.blks with
   | some (l, b) => K (one (.ptr b.length 0)) ⟨s.tmps, b ++ [.cells t l]⟩
   | none => none) = some r) : mH P X o a w lc s K r := by
 split at h
 ·rename_i l b hz
  obtain ⟨i, z, hi, hzz, hall⟩ := Il hL t hz
  obtain ⟨more, h1, h2, _⟩ := gO _ _ _ _ _ lc hz hall hR.world
  refine ⟨_, _, more ++ [.c w.heap.size], .value (.pointer (some ⟨w.heap.size, 0, none⟩)), _, w.alloc (.cells z.cells t), h, ?_, fun _ => cL w _, rfl, ⟨w.heap.size, ?_, rfl⟩, ?_⟩
  ·unfold execOp
   simp [ho, Instr.alloc, zeroValue, typeInfo, hi, hzz, newVar, newRow]
  ·rw [<- akt]; exact ep h1.len rfl
  ·rw [<- akt]; exact h1.pushCells h2
 ·cases h

theorem aec {t : TypeId} {x : Operand} (ho : o.op = .box t x) (hR : Rel X s a w lc)
  (h : (match (aF s x).cells with
   | some l => cond (l.all dJ) (K (one (.ptr s.blks.length 0)) (s.add (.cells t l))) none
   | none => none) = some r) : mH P X o a w lc s K r := by
 split at h
 ·rename_i l hl
  obtain ⟨hc, h2⟩ := aH h
  obtain ⟨h3, _⟩ := ma (az hR.tmps x) hl hc
  refine ⟨_, _, [.c w.heap.size], .value (.pointer (some ⟨w.heap.size, 0, none⟩)), _, w.alloc (.cells (a.eval x).cells t), h2, ?_, fun _ => cL w _, rfl, ⟨w.heap.size, ep hR.world.len rfl, rfl⟩, hR.world.pushCells h3⟩
  unfold execOp
  simp [ho, Instr.box, newVar, newRow]
 ·cases h


theorem Cl {R : SV -> Value -> Prop} : ∀ (l : List SV) (vs : List Value) (cs : List SV) (ds : Array Value) (off k : Nat), aB R cs ds.toList -> aB R l vs ->
  aB R (over cs (off + k) l) ((vs.zipIdx k).foldl (fun cs (c, j) => cs.setIfInBounds (off + j) c) ds).toList
 | [], vs, cs, ds, off, k, hc, hl => by cases hl; exact hc
 | x :: l, vs, cs, ds, off, k, hc, hl => by
  cases hl with
  | @cons _ v _ vs h1 h2 =>
  simp only [over, List.zipIdx_cons, amo]
  have := Cl l vs (put cs (off + k) x) (ds.setIfInBounds (off + k) v) off (k + 1) (by rw [Array.toList_setIfInBounds]; exact hc.put _ h1) h2
  simpa [ak2] using this

theorem II {fds : List Fd} {places : Array (Nat × Nat)} (hp : aB (fun fd (p : Nat × Nat) => p = (fd.off, fd.size)) fds places.toList) :
  ∀ (parts : List (Nat × TV)) (vs : List (Nat × Value)) (cs : List SV) (ds : Array Value) (out : List SV), aB (fun p q => p.1 = q.1 /\ aC X lc p.2 q.2) parts vs -> aB (aD X lc) cs ds.toList ->
  s6 fds cs parts = some out -> ∃ ds', Instr.fill (places[·]?) ds vs = some ds' /\ aB (aD X lc) out ds'.toList := by
 intro parts
 induction parts with
 | nil =>
  intro vs cs ds out hv hc h
  cases hv
  simp only [s6, aj1] at h
  subst h
  exact ⟨ds, rfl, hc⟩
 | cons p parts ih =>
  intro vs cs ds out hv hc h
  cases hv with
  | @cons _ q _ vs h1 h2 =>
  obtain ⟨i, x⟩ := p
  obtain ⟨i', v⟩ := q
  obtain ⟨rfl, hx⟩ := h1
  simp only [s6] at h
  split at h
  ·rename_i f l hf hl
   obtain ⟨hb, h⟩ := aH h
   simp only [aj0] at hb
   obtain ⟨⟨hb1, hb2⟩, hb3⟩ := hb
   have hb1 := aj3 hb1
   have hb2 := alZ hb2
   obtain ⟨h3, _⟩ := ma hx hl hb3
   obtain ⟨pl, hpl, rfl⟩ := hp.get i f hf
   have hpl' : places[i]? = some (f.off, f.size) := by simpa using hpl
   have e1 := h3.length
   have e2 := hc.length
   have hov := Cl l v.cells.toList cs ds f.off 0 hc h3
   simp only [ak0] at hov
   obtain ⟨ds', h4, h5⟩ := ih vs _ _ out h2 hov h
   refine ⟨ds', ?_, h5⟩
   simp only [Instr.fill, hpl']
   have n1 : v.cells.size = f.size := by rw [<- hb1, e1]; simp
   have n2 : ¬ f.off + v.cells.size > ds.size := by
    rw [n1, <- hb1]
    have : cs.length = ds.size := by rw [e2]; simp
    omega
   have hcond : (decide (v.cells.size ≠ f.size) || decide (f.off + v.cells.size > ds.size)) = false := by rw [aj2 (by simpa using n1), aj2 n2]; rfl
   rw [if_neg (by simpa using hcond)]
   rw [<- h4]
   congr 1
   rw [<- Array.foldl_toList, Array.toList_zipIdx]
  ·cases h

theorem JP {fds : List Fd} {fields : List Field} (h : aB (Xj P) fds fields) :
  ∃ places : List (Nat × Nat), fields.mapM (fun f => (P.info? f.type).map fun i => (f.offset, i.size)) = some places /\ aB (fun fd (p : Nat × Nat) => p = (fd.off, fd.size)) fds places := by
 induction h with
 | nil => exact ⟨[], rfl, .nil⟩
 | @cons fd f _ _ h1 _ ih =>
  obtain ⟨pl, h2, h3⟩ := ih
  obtain ⟨i, hi, hs⟩ := h1.info
  refine ⟨(f.offset, i.size) :: pl, ?_, .cons (by rw [h1.off, hs]) h3⟩
  simp [alT, hi, h2]

theorem ri (hL : aO P L) {f : Bool} {t : TypeId} {parts : Array (Nat × Operand)} (ho : o.op = .build t parts) (hR : Rel X s a w lc)
  (h : (match L.at_ t, be L f (cC L t) s.blks with
   | .struct fs _ _ _, some (l, b) => match s6 fs l (parts.toList.map fun p => (p.1, aF s p.2)) with
    | some l' => K (.v (.agg l')) ⟨s.tmps, b⟩
    | none => none
   | .array _ _, some (l, b) => match parts.toList with
    | [] => K (.v (.agg l)) ⟨s.tmps, b⟩
    | _ => none
   | _, _ => none) = some r) :
  ∃ x bl more v, K x ⟨s.tmps, bl⟩ = some r /\ aC X (lc ++ more) x v /\ aK X bl w (lc ++ more) /\ ∀ w', (execOp a.eval o).run P w' = .ok (.value v) w' := by
 split at h
 ·rename_i fs cts by_ cmp l b hti hz
  have ht := hL t
  rw [hti] at ht
  obtain ⟨fields, zc, hu, hfs, ⟨i, hi, hzz, _⟩, hzc, _⟩ := ht
  have hct : cC L t = cts := by simp [cC, hti]
  rw [hct] at hz
  obtain ⟨more, h1, h2, _⟩ := gO _ _ _ _ _ lc hz hzc hR.world
  obtain ⟨places, hp1, hp2⟩ := JP hfs
  split at h
  ·rename_i l' hl'
   have hparts : aB (fun p q => p.1 = q.1 /\ aC X (lc ++ more) p.2 q.2) (parts.toList.map fun p => (p.1, aF s p.2)) (parts.toList.map fun p => (p.1, a.eval p.2)) := by
    induction parts.toList with
    | nil => exact .nil
    | cons p ps ih => exact .cons ⟨rfl, (az hR.tmps p.2).more _⟩ ih
   obtain ⟨ds', h4, h5⟩ := II (places := places.toArray) hp2 _ _ _ _ _ hparts h2 hl'
   refine ⟨_, _, more, .agg ds', h, ⟨ds', rfl, h5⟩, h1, fun w' => ?_⟩
   have hb : P.built t (parts.map fun (i, x) => (i, a.eval x)).toList = some ds' := by
    unfold Program.built
    simp only [hi, hu, hzz, hp1, akY]
    exact h4
   unfold execOp
   simp only [ho, akk, run_build w' t _ ds' hb, akb, akr]
  ·cases h
 ·rename_i n e l b hti hz
  have ht := hL t
  rw [hti] at ht
  obtain ⟨hu, hn2, he, i, hi, hzz, _, _⟩ := ht
  have hz2 := hz
  obtain ⟨i', z, hi', hzz', hall⟩ := Il hL t hz
  rw [hi] at hi'
  cases hi'
  rw [hzz] at hzz'
  cases hzz'
  obtain ⟨more, h1, h2, _⟩ := gO _ _ _ _ _ lc hz2 hall hR.world
  split at h
  ·rename_i hp
   refine ⟨_, _, more, .agg #[.bool false, .bool false], h, ⟨_, rfl, h2⟩, h1, fun w' => ?_⟩
   have hte := hL e
   rw [he] at hte
   obtain ⟨_, ie, hie, _⟩ := hte
   have hb : P.built t (parts.map fun (i, x) => (i, a.eval x)).toList = some #[.bool false, .bool false] := by
    unfold Program.built
    simp only [hi, hu, hzz, hie, akY, hp, ak8]
    rfl
   unfold execOp
   simp only [ho, akk, run_build w' t _ _ hb, akb, akr]
  ·cases h
 ·cases h

theorem TW (hL : aO P L) {f : Bool} {t : TypeId} {parts : Array (Nat × Operand)} (ho : o.op = .build t parts) (hR : Rel X s a w lc)
  (h : (match L.at_ t, be L f (cC L t) s.blks with
   | .struct fs _ _ _, some (l, b) => match s6 fs l (parts.toList.map fun p => (p.1, aF s p.2)) with
    | some l' => K (.v (.agg l')) ⟨s.tmps, b⟩
    | none => none
   | .array _ _, some (l, b) => match parts.toList with
    | [] => K (.v (.agg l)) ⟨s.tmps, b⟩
    | _ => none
   | _, _ => none) = some r) : mH P X o a w lc s K r := by
 obtain ⟨x, bl, more, v, h1, h2, h3, h4⟩ := ri hL ho hR h
 exact ⟨x, bl, more, .value v, v, w, h1, h4 w, fun _ => akG _ _, rfl, h2, h3⟩


theorem qA {R : SV -> Value -> Prop} : ∀ (l : List SV) (vs : List Value) (cs : List SV) (ds : List Value) (off : Nat), aB R cs ds -> aB R l vs -> off + l.length <= cs.length ->
  aB R (over cs off l) (ds.take off ++ vs ++ ds.drop (off + vs.length))
 | [], vs, cs, ds, off, hc, hl, _ => by cases hl; simpa [over] using hc
 | x :: l, vs, cs, ds, off, hc, hl, hle => by
  cases hl with
  | @cons _ v _ vs h1 h2 =>
  have e := hc.length
  have hle' : off + 1 + l.length <= cs.length := by simpa [ak2, Nat.add_comm 1] using hle
  have := qA l vs (put cs off x) (ds.set off v) (off + 1) (hc.put off h1) h2 (by rw [bS, akA]; exact hle')
  simp only [over]
  have e1 : (ds.set off v).take (off + 1) = ds.take off ++ [v] := by
   rw [amw, List.set_eq_take_append_cons_drop]
   simp
   have : off < ds.length := by omega
   simp [amu]
   omega
  have e2 : (ds.set off v).drop (off + 1 + vs.length) = ds.drop (off + 1 + vs.length) := by
   rw [List.drop_set_of_lt]; omega
  rw [e1, e2] at this
  simpa [ak2, Nat.add_comm 1] using this

theorem zo (w : World) (g : Nat) (cs : Array Value) : w.grownBy (w.setRow g cs) (some g) :=
 ⟨rfl, rfl, rfl, by simp, fun k _ hk => setRow_other w g k _ (fun e => hk (by simp [e]))⟩

theorem mS {w1 w2 w3 : World} {g : Option Nat} (h : w1.grownBy w2 g) (h' : w2.grownBy w3 g) : w1.grownBy w3 g :=
 ⟨h'.os.trans h.os, h'.tape.trans h.tape, h'.output.trans h.output, akz h.size h'.size, fun k hk hn => (h'.block k (aka hk h.size) hn).trans (h.block k hk hn)⟩

theorem j6 {α β : Type} {f : α -> List β} {n : Nat} (hn : ∀ x, (f x).length = n) {y : α} {v : β} {m : Nat} (hm : m < n) :
  ∀ (l : List α) (i : Nat) (x : α), l[i]? = some x -> f y = (f x).set m v -> (l.set i y).flatMap f = (l.flatMap f).set (i * n + m) v
 | [], i, x, h, _ => by simp at h
 | z :: l, 0, x, h, e => by
  simp at h; subst h
  simp only [al9, akR, alu, akE, e]
  rw [List.set_append_left _ _ (by rw [hn]; exact hm)]
 | z :: l, i + 1, x, h, e => by
  simp at h
  simp only [al8, akR]
  rw [j6 hn hm l i x h e, List.set_append_right _ _ (by rw [hn, als]; omega), hn]
  congr 2
  rw [als]; omega

theorem xk {S : Nat -> Prop} {wf : World} {e : TypeId} {l : List Int} {v : Value} : (bf S wf (.ints .i64 l) v /\ oN S wf e 1 l.length v) ↔ ej S wf e l v := by
 constructor
 ·rintro ⟨⟨A, n, c, h1, h2, h3, xs, rfl, h4⟩, h0⟩
  exact ⟨h0, A, n, c, h1, h2, h3, h4⟩
 ·rintro ⟨h0, A, n, c, h1, h2, h3, h4⟩
  exact ⟨⟨A, n, c, h1, h2, h3, _, rfl, h4⟩, h0⟩
theorem EK {q q' : Row} {i : Int} {m : Nat} {x : SV} {v : Value} {xs : List Value} (h : q.setc i m x = some q') (h0 : 0 <= i) (hi : i < (q.len : Int)) (hx : aD X lc x v) (hin : q.cellsIn X.ft X.fw xs) :
  m < q.sz /\ q'.len = q.len /\ q'.sz = q.sz /\ q'.cellsIn X.ft X.fw (xs.set (i.toNat * q.sz + m) v) /\ v.oneCell' = true := by
 have flat : ∀ {α : Type} (f : α -> Value) (l : List α) (y : α), (wr l i y).map f = (l.map f).set i.toNat (f y) := by
  intro α f l y
  simp [wr, al7]
 unfold Row.setc at h
 split at h <;> first | cases h; done | skip
 ·simp only [aj1] at h; subst h
  simp only [aD] at hx; subst hx
  obtain rfl : xs = _ := hin
  exact ⟨by simp [Row.sz], by simp [Row.len, wr], rfl, (by show _ = _; simp only [Row.cells, flat, Row.sz, akV, ak0]), rfl⟩
 ·simp only [aj1] at h; subst h
  simp only [aD] at hx; subst hx
  obtain rfl : xs = _ := hin
  exact ⟨by simp [Row.sz], by simp [Row.len, wr], rfl, (by show _ = _; simp only [Row.cells, flat, Row.sz, akV, ak0]), rfl⟩
 ·simp only [aj1] at h; subst h
  simp only [aD] at hx; subst hx
  obtain rfl : xs = _ := hin
  exact ⟨by simp [Row.sz], by simp [Row.len, wr], rfl, (by show _ = _; simp only [Row.cells, flat, Row.sz, akV, ak0]), rfl⟩
 ·simp only [aj1] at h; subst h
  simp only [aD] at hx; subst hx
  obtain rfl : xs = _ := hin
  exact ⟨by simp [Row.sz], by simp [Row.len, wr], rfl, (by show _ = _; simp only [Row.cells, flat, Row.sz, akV, ak0]), rfl⟩
 ·rename_i l n
  simp only [aj1] at h; subst h
  simp only [aD] at hx; subst hx
  obtain rfl : xs = _ := hin
  exact ⟨by simp [Row.sz], by simp [Row.len, wr], rfl, (by show _ = _; exact (j6 (f := fun p : Int × Int => [Value.int .i64 p.1, Value.int .i64 p.2]) (n := 2) (fun _ => rfl) (y := (n, (rd (0, 0) l i).2)) (v := .int .i64 n) (m := 0) (by omega) l i.toNat _ (kk (d := ((0, 0) : Int × Int)) h0 hi) rfl).symm), rfl⟩
 ·rename_i l n
  simp only [aj1] at h; subst h
  simp only [aD] at hx; subst hx
  obtain rfl : xs = _ := hin
  exact ⟨by simp [Row.sz], by simp [Row.len, wr], rfl, (by show _ = _; exact (j6 (f := fun p : Int × Int => [Value.int .i64 p.1, Value.int .i64 p.2]) (n := 2) (fun _ => rfl) (y := ((rd (0, 0) l i).1, n)) (v := .int .i64 n) (m := 1) (by omega) l i.toNat _ (kk (d := ((0, 0) : Int × Int)) h0 hi) rfl).symm), rfl⟩
 ·rename_i e l e' n
  obtain ⟨hee, h2⟩ := aH h
  clear h
  obtain rfl := aj3 hee
  simp only [aj1] at h2; subst h2
  have hx : bf X.ft X.fw (.ints .i64 n) v /\ oN X.ft X.fw e 1 n.length v := hx
  have hin : aB (ej X.ft X.fw e) l xs := hin
  refine ⟨by simp [Row.sz], by simp [Row.len, wr], rfl, ?_, ?_⟩
  ·show aB (ej X.ft X.fw e) (wr l i n) _
   simp only [Row.sz, akV, ak0]
   have := hin.put i.toNat (xk.1 hx)
   rwa [bS] at this
  ·obtain ⟨⟨A, m, c, rfl, _⟩, _⟩ := hx; rfl

theorem KC {g cap base : Nat} {i : Int} (h0 : 0 <= i) : ∀ (cs : List SV) (vs : List Value) (q q' : Row) (off : Nat) (k : Nat) (w : World) (xs : List Value), CP q i (off + k) cs = some q' -> aB (aD X lc) cs vs -> i < (q.len : Int) -> q.cellsIn X.ft X.fw xs ->
  ∀ {u : TypeId}, w.ownsRow base u q.sz (.slice (some ⟨g, 0, none⟩) q.len cap) q.len xs ->
  ∃ w' xs', (storeCells ⟨g, i.toNat * q.sz + off, none⟩ vs k).run P w = .ok () w' /\ q'.len = q.len /\ q'.cellsIn X.ft X.fw xs' /\ w'.ownsRow base u q'.sz (.slice (some ⟨g, 0, none⟩) q'.len cap) q'.len xs' /\ w.grownBy w' (some g) := by
 intro cs
 induction cs with
 | nil =>
  intro vs q q' off k w xs h hv hi hin u ho
  cases hv
  simp only [CP, aj1] at h
  subst h
  exact ⟨w, xs, rfl, rfl, hin, ho, ⟨rfl, rfl, rfl, aj8 _, fun _ _ _ => rfl⟩⟩
 | cons x cs ih =>
  intro vs q q' off k w xs h hv hi hin u ho
  cases hv with
  | @cons _ v _ vs h1 h2 =>
  simp only [CP] at h
  split at h
  ·rename_i q1 hq1
   obtain ⟨hm, hlen, hsz, hcells, hone⟩ := EK hq1 h0 hi h1 hin
   obtain ⟨h3, h4⟩ := ho.stored (i.toNat * q.sz + (off + k)) v
   rw [<- hlen, <- hsz] at h3
   obtain ⟨w', xs', h5, hl', hin', h6, h7⟩ := ih vs q1 q' off (k + 1) _ _ (by rw [<- ak2]; exact h) h2 (by rw [hlen]; exact hi) (by rw [<- hsz] at hcells; exact hcells) h3
   rw [hsz] at h7
   refine ⟨w', xs', ?_, hl'.trans hlen, hin', h6, mS h4 h7⟩
   have hcell : ∃ c, w.cell? ⟨g, i.toNat * q.sz + (off + k), none⟩ = some c := by
    have hlt : i.toNat * q.sz + (off + k) < q.len * q.sz := by
     have : i.toNat + 1 <= q.len := by omega
     have := ak6 q.sz this
     rw [als] at this
     omega
    rw [ho.cellAt _ hlt]
    exact ⟨_, amF (by rw [q.in_len hin]; exact hlt)⟩
   obtain ⟨c, hc⟩ := hcell
   have hst : (store ((⟨g, i.toNat * q.sz + off, none⟩ : Addr).add k) v).run P w = .ok () (w.setCell ⟨g, i.toNat * q.sz + (off + k), none⟩ v) := by
    rw [akM, ak2, run_store P w _ v _ hone, hc]
    simp [ho.frozenAt]
   rw [hsz] at h5
   simp only [storeCells, akk, hst, akb]
   exact h5
  ·cases h

theorem TY (hL : aO P L) {t : TypeId} {x y : Operand} (ho : o.op = .store t x y) (hR : Rel X s a w lc)
  (h : o0 t L (aF s x).sv (aF s y) s K = some r) : mH P X o a w lc s K r := by
 have hx := az (X := X) hR.tmps x
 have hy := az (X := X) hR.tmps y
 unfold o0 at h
 split at h
 ·cases h
 ·rename_i cs hcs
  obtain ⟨hb, h⟩ := aH h
  simp only [aj0] at hb
  obtain ⟨⟨hb1, hb2⟩, hb3⟩ := hb
  have hb1 := aj3 hb1
  have hb2 : 0 < jM L t := by simpa [Nat.blt_eq] using hb2
  obtain ⟨hrel, hone⟩ := ma hy hcs hb3
  obtain ⟨i, hi, hsz⟩ := fY hL t rfl hb2
  have e1 := hrel.length
  have hvsz : (a.eval y).cells.size = i.size := by rw [hsz, <- hb1, e1]; simp
  have run : ∀ (A : Addr) (w' : World), a.eval x = .pointer (some A) -> (storeCells A (a.eval y).cells.toList 0).run P w = .ok () w' -> (execOp a.eval o).run P w = .ok .skip w' := by
   intro A w' hA hst
   unfold execOp
   simp [ho, Instr.storeAt, Instr.sureAddr, hA, storeVar, bW hi, hvsz, hst]
  split at h
  ·rename_i j off hj
   split at h
   ·rename_i u l hb
    obtain ⟨hle, h⟩ := aH h
    have hle := alZ hle
    have hblk := cV hb
    obtain ⟨g, hg, he⟩ := aN hx hj
    have hB := hR.world.blks j _ _ hblk.1 hg
    obtain ⟨ds, hh, hds⟩ := dl hB hb
    have e2 := hds.length
    have hst := run_storeCells_at P g off u (a.eval y).cells.toList 0 ds w hh (by rw [<- e1]; simp only [Array.length_toList] at e2; omega) hone
    simp only [ak0] at hst
    refine ⟨_, _, [], .skip, undef, _, h, run _ _ he hst, (fun hf => by rw [ho] at hf; cases hf), rfl, trivial, ?_⟩
    rw [akh]
    refine hR.world.turn hblk.1 hg hblk.2 (zo w g _) ?_
    cases hbb : nth Blk.dead s.blks j <;> rw [hbb] at hb hB <;> simp only [Blk.cellsOf, aj1, akp, reduceCtorEq] at hb
    ·obtain ⟨rfl, rfl⟩ := hb
     exact ⟨hB.1, _, setRow_heap w g ds _ _ (0, 0) hh, qA _ _ _ _ _ hds hrel hle⟩
    ·obtain ⟨rfl, rfl⟩ := hb
     exact ⟨hB.1, _, setRow_heap w g ds _ _ (0, 0) hh, qA _ _ _ _ _ hds hrel hle⟩
   ·cases h
  ·rename_i j z n off hj
   split at h
   ·rename_i u q hb
    obtain ⟨hz, h2⟩ := aH h
    clear h
    have hz := aj3 hz
    subst hz
    obtain ⟨hblk, hon⟩ := aR hb
    split at h2
    ·rename_i q' hq'
     have h := h2
     obtain ⟨g, m, c, hg, h0, hn, he⟩ := aN hx hj
     have hB := hR.world.blks j _ _ hblk hg
     obtain ⟨v', hv', xs, hin, hown⟩ := cq hB hb
     simp only [Loc.r.injEq] at hv'
     subst hv'
     have hnl : m = q.len := by
      rcases hown.2 with ⟨h', _⟩ | ⟨g', cap', cur, h', _⟩
      ·simp at h'
      ·simp at h'; omega
     subst hnl
     obtain ⟨w', xs', h5, hl', hin', h6, h7⟩ := KC (lc := lc) h0 cs _ q q' off 0 w xs (by simpa using hq') hrel hn hin hown
     refine ⟨_, _, [], .skip, undef, w', h, run _ _ he h5, (fun hf => by rw [ho] at hf; cases hf), rfl, trivial, ?_⟩
     rw [akh]
     refine hR.world.turn hblk hg hon h7 ?_
     rw [hl'] at h6
     have hm := Loc.lt hB hon rfl
     cases hbb : nth Blk.dead s.blks j with
     | cells _ _ => rw [hbb] at hb; cases hb
     | dead => rw [hbb] at hb; cases hb
     | mp _ _ => rw [hbb] at hb; cases hb
     | pcells _ _ _ => rw [hbb] at hb; cases hb
     | pmp _ _ _ => rw [hbb] at hb; cases hb
     | srow _ _ => rw [hbb] at hb; cases hb
     | row t2 r2 =>
      rw [hbb] at hb hB
      simp only [Blk.rowOf, aj1, akp] at hb
      obtain ⟨rfl, rfl⟩ := hb
      refine ⟨hB.1, xs', hin', ?_⟩
      rw [hl']; exact h6
     | prow k2 t2 r2 =>
      rw [hbb] at hb hB
      simp only [Blk.rowOf, aj1, akp] at hb
      obtain ⟨rfl, rfl⟩ := hb
      refine ⟨hB.1, xs', hin', ?_⟩
      rw [hl']; exact h6
    ·cases h2
   ·cases h
  ·cases h
end
end Go.Rv
