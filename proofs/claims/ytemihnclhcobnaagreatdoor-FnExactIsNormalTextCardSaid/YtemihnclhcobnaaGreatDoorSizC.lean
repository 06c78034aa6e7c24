/- impl.sizes, by a walk. -/
import Derived.Test.YtemihnclhcobnaaGreatDoorSizB
import Derived.Test.YtemihnclhcobnaaGreatDoorRep
import Derived.Test.YtemihnclhcobnaaGreatDoorRvNum
namespace Go.Proofs.YtemihnclhcobnaaGreatDoor
open Go.Rv Go.RowKit Go.Lib
set_option linter.unusedVariables false
set_option linter.unusedSimpArgs false
set_option maxHeartbeats 4000000 in
set_option maxRecDepth 100000 in
theorem EL (n : Nat) (hn : n <= 3) (w : World)
  (hvar : ∀ i, i < n -> ∀ W, Below w.heap.size w W -> Calls Tryz.prog 212 #[.int .i64 n, .int .i64 i] W fun e w' => e = .returned (.agg #[.int .i64 n, .int .i64 (vw n i : Nat)]) /\ Below W.heap.size W w')
  (hcon : ∀ (g c : Nat) (l : List Int) (W : World) (B : Nat), Below w.heap.size w W -> l.length <= 1000 -> W.ownsRow B 3 1 (.slice (some ⟨g, 0, none⟩) l.length c) l.length (vz l) ->
   Calls Tryz.prog 214 #[.slice (some ⟨g, 0, none⟩) l.length c, .int .i64 (-1)] W fun e w' => e = .returned (.bool (l.contains (-1))) /\ Below W.heap.size W w')
  (res : List Int) (hres : qI n = some res) :
  Calls Tryz.prog 151 #[.int .i64 n] w fun e w' => ∃ v', e = .returned v' /\ w'.ownsRow w.heap.size 3 1 v' res.length (vz res) /\ Below w.heap.size w w' := by
 have hfield : ∀ (a b : Value) (W : World), (Instr.field 25 (.agg #[a, b]) 1).run Tryz.prog W = .ok b W := fun a b W => by simp [Instr.field, run_underlying Tryz.underlying25, asAgg, part]
 go_enter Tryz.func151, Tryz.ntmps151
 go_wp2_with (go_at_fn 179)
 have hsh : wrap64 (2 ^ min (IntKind.u64.wrap (2 ^ n)).toNat 64) = ((2 ^ 2 ^ n : Nat) : Int) := by
  obtain rfl | rfl | rfl | rfl : n = 0 \/ n = 1 \/ n = 2 \/ n = 3 := by omega
  all_goals decide +kernel
 rw [hsh]
 have hL2 : 2 <= 2 ^ 2 ^ n /\ 2 ^ 2 ^ n <= 256 := by
  obtain rfl | rfl | rfl | rfl : n = 0 \/ n = 1 \/ n = 2 \/ n = 3 := by omega
  all_goals decide
 obtain ⟨L, hL⟩ : ∃ L, L = 2 ^ 2 ^ n := ⟨_, rfl⟩
 rw [<- hL]
 rw [<- hL] at hL2
 replace hL : Hid (L = 2 ^ 2 ^ n) := hL
 have hw1 : wrap64 ((L : Int) - 1) = ((L - 1 : Nat) : Int) := by unfold wrap64; omega
 refine (CF w.heap.size 0 1 (-1) L _ (by omega) (aj8 _) (by simp)).mono ?_
 rintro e w1 ⟨v1, rfl, hown, hb⟩
 rw [show (w.alloc (.cells #[.int .i64 (-1)] 3)).heap.size = w.heap.size + 1 by simp] at hown hb
 obtain ⟨go, cap, rfl⟩ := eu hown (by omega)
 have hgo := hown.lt go rfl
 have hown1 := hown.alloc (.cells #[.slice (some ⟨go, 0, none⟩) L cap] 40)
 have f0 : ∀ o, (w1.alloc o).frozen? ⟨go, 0, none⟩ = false := fun o => (hown.alloc o).frozenAt 0
 have fa : ∀ o, (w1.alloc o).frozen? ⟨go, L - 1, none⟩ = false := fun o => (hown.alloc o).frozenAt (L - 1)
 have cs : ∀ j, j < L -> w1.cell? ⟨go, j, none⟩ = some (.int .i64 (-1)) := fun j hj => by
  rw [hown.cellAt j (by omega), List.map_replicate, List.getElem?_replicate, if_pos hj]
 have c0 : ∀ o, (w1.alloc o).cell? ⟨go, 0, none⟩ = some (.int .i64 (-1)) := fun o => by
  rw [amR _ _ _ (by show go ≠ w1.heap.size; omega)]; exact cs 0 (by omega)
 have ca : ∀ o, (w1.alloc o).cell? ⟨go, L - 1, none⟩ = some (.int .i64 (-1)) := fun o => by
  rw [amR _ _ _ (by show go ≠ w1.heap.size; omega)]; exact cs (L - 1) (by omega)
 have ca2 : ∀ o v, ((w1.setCell ⟨go, 0, none⟩ v).alloc o).cell? ⟨go, L - 1, none⟩ = some (.int .i64 (-1)) := fun o v => by
  rw [amR _ _ _ (by show go ≠ (w1.setCell _ _).heap.size; simp; omega), World.cell?_setCell_other _ _ _ _ (fun e => by have := congrArg Addr.off e; simp at this; omega)]; exact cs (L - 1) (by omega)
 have fa2 : ∀ o v, ((w1.setCell ⟨go, 0, none⟩ v).alloc o).frozen? ⟨go, L - 1, none⟩ = false := fun o v => ((hown.stored 0 v).1.alloc o).frozenAt (L - 1)
 have h0L : 0 < L := by omega
 have h1L : L - 1 < L := by omega
 have h1z : (1 : Int) <= (L : Int) := by omega
 go_wp2
 go_region
 clear cs c0 ca ca2 fa2 f0 fa
 go_wp2
 have hst : Mem (w.heap.size + 1) 3 40 124 go cap w1.heap.size (w1.heap.size + 2) (cS n).1 (cS n).2 (.slice (some ⟨w1.heap.size + 1, 0, none⟩) 2 2) [.slice none 0 0, .slice none 0 0]
   ((((((w1.setCell ⟨go, 0, none⟩ (.int .i64 0)).setCell ⟨go, L - 1, none⟩ (.int .i64 0)).alloc (.cells #[.slice (some ⟨go, 0, none⟩) L cap] 40)).alloc (.cells #[.slice none 0 0, .slice none 0 0] 40)).alloc (.cells #[.slice (some ⟨w1.heap.size + 1, 0, none⟩) 2 2] 124)).drew) := by
  have h2 := ((hown.stored 0 (.int .i64 0)).1.stored (L - 1) (.int .i64 0)).1
  have e1 : (cS n).1.length = L := by simp [cS, hL.out]
  have e2 : (((List.replicate L (-1 : Int)).map (Value.int .i64)).set 0 (.int .i64 0)).set (L - 1) (.int .i64 0) = vz (cS n).1 := by
   unfold vz cS full
   rw [<- hL.out, al7, al7]
  rw [e2] at h2
  have h3 := JI (B := w.heap.size + 1) (ti := 3) (tr := 40) (trr := 124) (os := (cS n).1) (by decide) (by decide) (by rw [e1]; exact h2) (by simp; omega)
  rw [e1] at h3
  simp only [World.size_setCell] at h3
  exact h3.drew
 go_loopg [31] n (fun gg s31 wr => ∃ (i : Nat) (hs : List Value) (vb : Value), s31 = .int .i64 i /\ i <= n /\ gg = n - i /\ Mem (w.heap.size + 1) 3 40 124 go cap w1.heap.size (w1.heap.size + 2) (dt n i).1 (dt n i).2 vb hs wr /\ Below w.heap.size w wr)
 case atStart =>
  have hb0 : Below w.heap.size w w1 := ((akG w.heap.size w).alloc (aj8 _) _).trans (hb.mono (by omega))
  have hs1 := hb0.size
  refine ⟨0, _, _, rfl, aks _, rfl, hst, ?_⟩
  exact (((((hb0.setCell (by show w.heap.size <= go; omega) _).setCell (by show w.heap.size <= go; omega) _).alloc (by simp; omega) _).alloc (by simp; omega) _).alloc (by simp; omega) _).drew
 case round =>
  obtain ⟨i, hs, vb, rfl, h1, rfl, hM, hB⟩ := hrel
  clear hst
  by_cases hi : i < n
  ·have hiz : (i : Int) < (n : Int) := by omega
   go_wp2_with (go_at_fn 212)
   refine (hvar i hi _ hB).mono ?_
   rintro e w2 ⟨rfl, hb2⟩
   have hM2 := hM.below hb2
   have hk := rO hn i (Nat.le_of_lt hi)
   have hv := HD n hn i hi
   have hlen := hk.good.len
   have k1 := hk.take hv.1 (s := 1)
   have k2 := k1.take hv.2
   have hs1 : 1 < (dt n i).2.length := by rw [hk.len]; simp [cS]
   have hs2 : 1 < (aU (vw n i) 1 (dt n i)).2.length := by rw [k1.len]; simp [cS]
   have hx1 : vw n i < (dt n i).1.length := by rw [hlen]; exact hv.1
   have hx2 : vw n i ^^^ full n < (aU (vw n i) 1 (dt n i)).1.length := by rw [k1.good.len]; exact hv.2
   have hr1 : ((dt n i).2.getD 1 []).length <= 100000 := by have := (hk.good.row 1).1; have := hL.out; omega
   have hr2 : ((aU (vw n i) 1 (dt n i)).2.getD 1 []).length <= 100000 := by have := (k1.good.row 1).1; have := hL.out; omega
   go_wp2_with (go_at_call 213; fail)
   refine (qP w2 hM2 (vw n i) 1 hx1 hs1 hr1).mono ?_
   rintro e w3 ⟨rfl, hb3, hs3, ho3, hM3⟩
   go_wp2_with (go_at_call 213; fail)
   have hxor : bits BinOp.xor IntKind.i64 (vw n i : Nat) ((L : Int) - 1) = ((vw n i ^^^ full n : Nat) : Int) := by
    have e : (L : Int) - 1 = ((full n : Nat) : Int) := by unfold full; rw [<- hL.out]; omega
    have := hL.out
    rw [e, RN _ _ (by have := hv.1; omega) (by unfold full; omega)]
   rw [hxor]
   refine (qP w3 hM3 (vw n i ^^^ full n) 1 hx2 hs2 hr2).mono ?_
   rintro e w4 ⟨rfl, hb4, hs4, ho4, hM4⟩
   go_wp2
   go_roundg (n - (i + 1))
   case measure => omega
   case rel =>
    refine ⟨i + 1, hs4, vb, by go_num, hi, rfl, ?_, ?_⟩
    ·rw [yf]; exact hM4
    ·have := hM.goLt
     exact ((hB.trans (hb2.mono (by omega))).trans (hb3.mono (by omega))).trans (hb4.mono (by omega))
  ·have hiz : ¬ (i : Int) < (n : Int) := by omega
   obtain rfl : i = n := by omega
   go_wp2
   clear hvar
   go_loopg [9] 40 (fun gg s9 wr => ∃ (s : Nat) (st : SS) (hs : List Value) (vb : Value), s9 = .int .i64 s /\ 2 <= s /\ s + gg = 42 /\ fJ gg s st = some res /\ oL L st /\ st.2.length = s /\ Mem (w.heap.size + 1) 3 40 124 go cap w1.heap.size (w1.heap.size + 2) st.1 st.2 vb hs wr /\ Below w.heap.size w wr)
   case atStart =>
    have hk := rO hn i (aj8 _)
    exact ⟨2, _, hs, vb, rfl, aj8 _, rfl, hres, by rw [hL.out]; exact hk.good, by rw [hk.len]; simp [cS], hM, hB⟩
   case round =>
    clear hM hB
    obtain ⟨s, st, hs, vb, rfl, h2s, hsg, hout, hgood, hlen, hM, hB⟩ := hrel
    cases gk with
    | zero => cases hout
    | succ F =>
     have hc1 := cell_of_one hM.co
     go_wp2_with (go_at_fn 214; fail)
     refine (hcon go cap st.1 _ _ hB (by rw [hgood.len]; omega) hM.out).mono ?_
     rintro e w2 ⟨rfl, hb2⟩
     have hM2 := hM.below hb2
     have hB2 := hB.trans (hb2.mono (by have := hB.size; omega))
     unfold fJ at hout
     cases hc : st.1.contains (-1) with
     | false =>
      rw [hc, ajY, aj1] at hout
      subst hout
      have hc2 := cell_of_one hM2.co
      go_wp2
      go_ret
      exact ⟨_, rfl, t8 hM2.out (by omega), hB2⟩
     | true =>
      rw [hc, ajZ] at hout
      have hcb2 := cell_of_one hM2.cb
      have hB2' := hB2.alloc (by have := hB2.size; omega) (.cells #[.slice none 0 0] 40)
      go_wp2_with (at_builtin; refine Pc (w0 := w) (B := w.heap.size + 1) (hM2.alloc _) (.tmp 51) (.tmp 52) (by omega) hB2' (Nat.le_succ _) rfl rfl rfl rfl (by simp) ?_; intro g3 c3 w3 hM3 hB3 hf3 hc3)
      have hg0 := hgood.snoc
      obtain ⟨st0, hst0⟩ : ∃ st0 : SS, st0 = (st.1, st.2 ++ [[]]) := ⟨_, rfl⟩
      have hM3' : Mem (w.heap.size + 1) 3 40 124 go cap w1.heap.size (w1.heap.size + 2) st0.1 st0.2 (.slice (some ⟨g3, 0, none⟩) (st.2.length + 1) c3) (hs ++ [.slice none 0 0]) (w3.setCell ⟨w1.heap.size + 2, 0, none⟩ (.slice (some ⟨g3, 0, none⟩) (st.2.length + 1) c3)) := by rw [hst0]; exact hM3
      have hl0 : st0.2.length = s + 1 := by rw [hst0]; simp [hlen]
      rw [<- hst0] at hout hg0
      clear hst0 hM3
      go_loopg [10] (s / 2) (fun gg s10 wr => ∃ (a : Nat) (hs : List Value) (vb : Value), s10 = .int .i64 ((a + 1 : Nat) : Int) /\ a <= s / 2 /\ gg = s / 2 - a /\ Mem (w.heap.size + 1) 3 40 124 go cap w1.heap.size (w1.heap.size + 2) (ast s st0 a).1 (ast s st0 a).2 vb hs wr /\ Below w.heap.size w wr)
      case atStart => exact ⟨0, hs ++ [.slice none 0 0], .slice (some ⟨g3, 0, none⟩) (s + 1) c3, rfl, aks _, rfl, by rw [hlen] at hM3'; exact hM3', by first | exact hB3 | (rw [hlen] at hB3; exact hB3)⟩
      case round =>
       clear hM3' hB3 hf3 hc3 hM hB hM2 hB2 hB2' hc1 hcb2
       obtain ⟨a, hs, vb, rfl, h1, rfl, hM, hB⟩ := hrel
       by_cases ha : a < s / 2
       ·have hz : 2 * ((a : Int) + 1) <= (s : Int) := by omega
        have hkp := ph hL.out (s := s) hg0 a (by omega)
        obtain ⟨stA, hstA⟩ : ∃ stA, stA = ast s st0 a := ⟨_, rfl⟩
        have hnext : ast s st0 (a + 1) = o8 s (stA.2.getD (a + 1) []) (stA.2.getD (s - (a + 1)) []) stA := by rw [hstA]; exact sR s st0 a
        rw [<- hstA] at hM hkp
        clear hstA
        have hlA : stA.2.length = s + 1 := by rw [hkp.len, hl0]
        obtain ⟨gb, cb, rfl⟩ := eu hM.by_ (by omega)
        have hcb := cell_of_one hM.cb
        obtain ⟨A1, c1, hA1, hA1'⟩ := pC hM.rows (j := a + 1) (by omega)
        obtain ⟨A2, c2, hA2, hA2'⟩ := pC hM.rows (j := s - (a + 1)) (by omega)
        obtain ⟨fs, hfs⟩ : ∃ fs, stA.2.getD (a + 1) [] = fs := ⟨_, rfl⟩
        obtain ⟨gs, hgs⟩ : ∃ gs, stA.2.getD (s - (a + 1)) [] = gs := ⟨_, rfl⟩
        rw [hfs] at hA1 hA1' hnext
        rw [hgs] at hA2 hA2' hnext
        have hfl := hkp.good.row (a + 1)
        have hgl := hkp.good.row (s - (a + 1))
        rw [hfs] at hfl
        rw [hgs] at hgl
        have hcA : wr.cell? ⟨gb, a + 1, none⟩ = some (.slice A1 fs.length c1) := by rw [hM.by_.cellAt (a + 1) (by omega)]; exact hA1
        go_wp2
        have hI0 : Inv (w.heap.size + 1) w.heap.size go cap w1.heap.size (w1.heap.size + 2) s (.slice (some ⟨gb, 0, none⟩) stA.2.length cb) hs w (o8 s (fs.take 0) gs stA) wr := ⟨hs, hM, fun _ _ => rfl, hB⟩
        clear hcb hcA
        go_loopg [65] fs.length (fun gg s65 wr => ∃ j : Nat, s65 = .int .i64 j /\ j <= fs.length /\ gg = fs.length - j /\ Inv (w.heap.size + 1) w.heap.size go cap w1.heap.size (w1.heap.size + 2) s (.slice (some ⟨gb, 0, none⟩) stA.2.length cb) hs w (o8 s (fs.take j) gs stA) wr)
        case atStart => exact ⟨0, rfl, aks _, rfl, hI0⟩
        case round =>
         obtain ⟨j, rfl, hj, rfl, hI⟩ := hrel
         have hkF := zw hL.out hgl.2 (fs.take j) stA stA (du.refl hkp.good) (fun x hx => hfl.2 x (ak5 hx)) (s := s)
         by_cases hjl : j < fs.length
         ·have hjz : (j : Int) < (fs.length : Int) := by omega
          obtain ⟨gA, rfl⟩ := hA1' (by omega)
          obtain ⟨hsF, hMF, hoF, hBF⟩ := hI
          have hcf : wr.cell? ⟨gA, j, none⟩ = some (.int .i64 (fs[j] : Nat)) := pB hMF.rows (j := a + 1) (by rw [hkF.len]; omega) ((hkF.other (a + 1) (by omega)).trans hfs) ((hoF (a + 1) (by omega)).trans hA1) hjl
          have hcbF := cell_of_one hMF.cb
          have hbyF := hMF.by_
          rw [hkF.len] at hbyF
          have hcB : wr.cell? ⟨gb, s - (a + 1), none⟩ = some (.slice A2 gs.length c2) := by rw [hbyF.cellAt (s - (a + 1)) (by omega), hoF _ (by omega)]; exact hA2
          go_wp2
          have hf : fs[j] < L := hfl.2 _ (akn hjl)
          obtain ⟨f, hfj⟩ : ∃ f, f = fs[j] := ⟨_, rfl⟩
          have hnF : o8 s (fs.take (j + 1)) gs stA = gst f s gs (o8 s (fs.take j) gs stA) := by rw [akS hjl, Ng, hfj]
          rw [<- hfj] at hf hcf ⊢
          clear hfj
          obtain ⟨stF, hstF⟩ : ∃ stF, stF = o8 s (fs.take j) gs stA := ⟨_, rfl⟩
          rw [<- hstF] at hkF hMF hnF
          clear hstF
          have hI1 : Inv (w.heap.size + 1) w.heap.size go cap w1.heap.size (w1.heap.size + 2) s (.slice (some ⟨gb, 0, none⟩) stA.2.length cb) hs w (gst f s (gs.take 0) stF) wr := ⟨hsF, hMF, hoF, hBF⟩
          clear hcf hcbF hbyF hcB hMF hoF hBF
          go_loopg [76] gs.length (fun gg s76 wr => ∃ k : Nat, s76 = .int .i64 k /\ k <= gs.length /\ gg = gs.length - k /\ Inv (w.heap.size + 1) w.heap.size go cap w1.heap.size (w1.heap.size + 2) s (.slice (some ⟨gb, 0, none⟩) stA.2.length cb) hs w (gst f s (gs.take k) stF) wr)
          case atStart => exact ⟨0, rfl, aks _, rfl, hI1⟩
          case round =>
           obtain ⟨k, rfl, hk, rfl, hI⟩ := hrel
           have hkG := zx hL.out hf (gs.take k) stF stF (du.refl hkF.good) (fun x hx => hgl.2 x (ak5 hx)) (s := s)
           by_cases hkl : k < gs.length
           ·have hkz : (k : Int) < (gs.length : Int) := by omega
            obtain ⟨gB, rfl⟩ := hA2' (by omega)
            obtain ⟨hsG, hMG, hoG, hBG⟩ := hI
            have hcg : wr.cell? ⟨gB, k, none⟩ = some (.int .i64 (gs[k] : Nat)) := pB hMG.rows (j := s - (a + 1)) (by rw [hkG.len, hkF.len]; omega) ((hkG.other _ (by omega)).trans ((hkF.other _ (by omega)).trans hgs)) ((hoG _ (by omega)).trans hA2) hkl
            have hg : gs[k] < L := hgl.2 _ (akn hkl)
            obtain ⟨g, hgk⟩ : ∃ g, g = gs[k] := ⟨_, rfl⟩
            have hnG : gst f s (gs.take (k + 1)) stF = aU (f ||| g) s (aU (f &&& g) s (gst f s (gs.take k) stF)) := by rw [akS hkl, Np, hgk]
            rw [<- hgk] at hg hcg
            clear hgk
            have a1 : f &&& g < L := by rw [hL.out] at hg ⊢; exact alb _ hg
            have a2 : f ||| g < L := by rw [hL.out] at hg hf ⊢; exact akL hf hg
            have k1 := hkG.take a1
            have hand : bits BinOp.and IntKind.i64 (f : Nat) (g : Nat) = ((f &&& g : Nat) : Int) := Go.Rv.bAnd _ _ (by omega) (by omega)
            have hor : bits BinOp.or IntKind.i64 (f : Nat) (g : Nat) = ((f ||| g : Nat) : Int) := Go.Rv.bOr _ _ (by omega) (by omega)
            go_wp2_with (go_at_call 213; fail)
            refine (C7 (Nat.le_succ _) ⟨hsG, hMG, hoG, hBG⟩ (x := f &&& g) (s := s) (by rw [hkG.good.len]; exact a1) (by rw [hkG.len, hkF.len]; omega) (by have := (hkG.good.row s).1; omega)).mono ?_
            rintro e w5 ⟨rfl, hI5⟩
            go_wp2_with (go_at_call 213; fail)
            refine (C7 (Nat.le_succ _) hI5 (x := f ||| g) (s := s) (by rw [k1.good.len]; exact a2) (by rw [k1.len, hkF.len]; omega) (by have := (k1.good.row s).1; omega)).mono ?_
            rintro e w6 ⟨rfl, hI6⟩
            go_wp2
            go_roundg (gs.length - (k + 1))
            case measure => omega
            case rel => exact ⟨k + 1, by go_num, hkl, rfl, by rw [hnG]; exact hI6⟩
           ·have hkz : ¬ (k : Int) < (gs.length : Int) := by omega
            obtain rfl : k = gs.length := by omega
            go_wp2
            go_roundg (fs.length - (j + 1))
            case measure => omega
            case rel => exact ⟨j + 1, by go_num, hjl, rfl, by rw [hnF]; rw [alr] at hI; exact hI⟩
         ·have hjz : ¬ (j : Int) < (fs.length : Int) := by omega
          obtain rfl : j = fs.length := by omega
          obtain ⟨hsF, hMF, hoF, hBF⟩ := hI
          rw [alr, <- hnext] at hMF
          go_wp2
          go_roundg (s / 2 - (a + 1))
          case measure => omega
          case rel => exact ⟨a + 1, hsF, _, by go_num, ha, rfl, hMF, hBF⟩
       ·have hz : ¬ 2 * ((a : Int) + 1) <= (s : Int) := by omega
        obtain rfl : a = s / 2 := by omega
        have hkp := ph hL.out (s := s) hg0 (s / 2) (aj8 _)
        go_wp2
        go_roundg F
        case measure => omega
        case rel => exact ⟨s + 1, _, hs, vb, by go_num, by omega, by omega, hout, hkp.good, by rw [hkp.len, hl0], hM, hB⟩
end Go.Proofs.YtemihnclhcobnaaGreatDoor
