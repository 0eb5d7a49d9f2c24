/- The graph's machine: a block, whole. Conditions: as stated. -/
import Derived.Test.YtikbdplllopjlaaQ08Zz
import Derived.WalkLawsBesides
import Derived.Deep.RegionWith
import Derived.Deep.RegionHeld3
set_option linter.unusedVariables false
set_option linter.unusedSimpArgs false
namespace Go.Proofs.Ytikbdplllopjlaa
open Go.RowKit

set_option maxRecDepth 100000 in
set_option maxHeartbeats 16000000 in
theorem gblock_any (base cb hb rb fb tb : Nat) (own : Nat → Prop) (P : Value × Value × Value) (gv lv : Value) (fuel : Int) (s : St) (tp : List V) (lo : List Nat) (R : CallR) (p : ProgS) (g : GraphS) (b : BlockS) (SA CA : Option Addr) (n scap cl cc : Nat) (ca cb' : Int) (w : World)
    (h : HCs w base own cb hb fuel s) (hR : GRun w rb cb hb P gv p.globs.length) (hF : GFrame w fb tb tp lv lo) (hO : GOff base own rb fb tb lv gv) (hFr : FrOk (memBase s.mem) tp lo p.globs.length) (hI : GInv fuel s) (hf : fuel ≤ 100000000)
    (hlo : lo.length = g.locs.length) (hb2 : BlockOkG p g tp.length b) (hst : SliceAt w base 5 (StepE w base) b.steps (.slice SA n scap)) (hct : TreeAt w (Under base) b.cond (.int .i64 ca) (.int .i64 cb') (.slice CA cl cc)) (hP : ProgAt w base P p) (hcall : GCallOk p fuel s.calls R) (hRK : ∀ c, RKept p fuel c R) :
    Calls Try.prog 24 #[.pointer (some ⟨rb, 0, none⟩), .pointer (some ⟨fb, 0, none⟩), .agg #[.slice SA n scap, .int .i64 b.fin, .int .i64 ca, .int .i64 cb', .slice CA cl cc, .int .i64 b.next, .int .i64 b.els]] w fun e w' => GBlockSays base cb hb fuel fb tb lv lo own (blockF R fuel lo s tp b) w e w' := by
  have hbk := h.blocks
  have hpos : base ≤ w.heap.size := by have := hbk.2.2 cb hbk.1; omega
  obtain ⟨nt, hnt⟩ : ∃ nt, nt = tp.length := ⟨_, rfl⟩
  rw [← hnt] at hb2
  have hln := hst.len
  have H0 := Lib.hid (show BIn base cb hb rb fb tb own fuel P gv lv lo p.globs.length nt s #[.slice SA n scap, .int .i64 b.fin, .int .i64 ca, .int .i64 cb', .slice CA cl cc, .int .i64 b.next, .int .i64 b.els] w own s tp ((w.alloc (.cells #[.slice SA n scap, .int .i64 b.fin, .int .i64 ca, .int .i64 cb', .slice CA cl cc, .int .i64 b.next, .int .i64 b.els] 65)).alloc (.cells #[.int .i64 0, .int .i64 0] 55)) from
    (by
      have hw2 := below2 w (.cells #[.slice SA n scap, .int .i64 b.fin, .int .i64 ca, .int .i64 cb', .slice CA cl cc, .int .i64 b.next, .int .i64 b.els] 65) (.cells #[.int .i64 0, .int .i64 0] 55)
      have hv := Row.new (w.alloc (.cells #[.slice SA n scap, .int .i64 b.fin, .int .i64 ca, .int .i64 cb', .slice CA cl cc, .int .i64 b.next, .int .i64 b.els] 65)) #[.int .i64 0, .int .i64 0] 55
      rw [World.size_alloc] at hv
      exact ⟨fun _ h => h, fun _ h => Or.inl h, h.below hw2, hR.below hw2, hF.below hw2, hO, hFr, GKept.refl hI, hnt.symm, (Row.new w #[.slice SA n scap, .int .i64 b.fin, .int .i64 ca, .int .i64 cb', .slice CA cl cc, .int .i64 b.next, .int .i64 b.els] 65).alloc _, hv, hbk.1, fun k hk => (hbk.2.2 k hk).2, hF.lt.2, hpos, Wr.of_below hw2⟩))
  have HST := Lib.hid hst
  have HCT := Lib.hid hct
  have HP := Lib.hid hP
  have HC := Lib.hid hcall
  have HRK := Lib.hid hRK
  have HB2 := Lib.hid hb2
  have HLO := Lib.hid hlo
  have HL1 := Lib.hid hln.1
  have hn2 := hln.2
  have hrb0 := hR.row.lt
  have HFL := Lib.hid (show fb < w.heap.size ∧ ∀ g, lv.ownBlock = some g → g < w.heap.size from ⟨hF.lt.1, fun g hg => by obtain ⟨_, cs, hr⟩ := ownsRow_row hF.locs hg; exact hr.lt⟩)
  clear h hR hF hO hFr hI hb2 hst hct hP hcall hRK hbk hln
  go_enter Try.func24, Try.ntmps24
  refine wp_letter (fun Q hQ => ?_)
  have HQ := Lib.hid hQ
  clear hQ
  go_wp2_with fail
  go_loopw [14] (fun i wr => ∃ (j : Nat) (own2 : Nat → Prop) (st : St) (tp2 : List V), i = .int .i64 j ∧ j ≤ n ∧ BIn base cb hb rb fb tb own fuel P gv lv lo p.globs.length nt s #[.slice SA n scap, .int .i64 b.fin, .int .i64 ca, .int .i64 cb', .slice CA cl cc, .int .i64 b.next, .int .i64 b.els] w own2 st tp2 wr ∧ stepsF R fuel lo st tp2 (b.steps.drop j) = stepsF R fuel lo s tp b.steps) (fun i _ => n - (intOf i).toNat)
  case atStart => exact ⟨0, own, s, tp, rfl, by omega, H0.out, rfl⟩
  case round =>
    obtain ⟨j, own2, st, tp2, rfl, hj, hB, hse⟩ := hrel
    have HB := Lib.hid hB
    have HSE := Lib.hid hse
    have hbx := hB.box
    have hbxl := hbx.lt
    have hvll := hB.val.lt
    have b0 := hbx.cell (j := 0) rfl
    have hBr := hB.bas
    by_cases hlt : j < n
    · obtain ⟨xb, xoff, x, rfl, hxb, hxk, x0, x1, x2, x3, ⟨xv, x4, hxa⟩, _⟩ := (HST.out.below hBr (Nat.le_refl _) (fun _ _ h => h.below hBr (Nat.le_refl _))).get hlt
      simp only [Nat.add_zero] at x0 x1 x2 x3 x4
      obtain ⟨XA, xn, xcap, rfl, hxk2⟩ := hxa
      have hxok := HB2.out.steps x (List.mem_of_getElem? hxk)
      have hlen := hB.len
      have hxbl : xb < wr.heap.size := by have := hBr.size; omega
      have hjl : (j : Int) < (n : Int) := by omega
      have hDO := Lib.hid (fun W (hW : Below wr.heap.size wr W) => gstep_any base cb hb rb fb tb own2 P gv lv fuel st tp2 lo R p x XA xn xcap W (hB.hc.below hW) (hB.run.below hW) (hB.fr.below hW) hB.off hB.frok hB.kept.inv hf (by rw [hlen, HLO.out]; exact hxok) (hxk2.below (hW.mono (by have := hBr.size; omega)) (Nat.le_refl _)) (HP.out.below (hBr.trans (hW.mono (by have := hBr.size; omega)))) (by rw [hB.kept.calls]; exact HC.out))
      have HXK := Lib.hid hxk
      have HXO := Lib.hid hxok
      clear hB hse hbx hBr hxk hxk2 hxok
      by_cases hdo : (doesF R fuel lo st tp2 x).1 = true
      · have HC2 := Lib.hid ((hDO.out _ (below1 wr (.cells #[.int .i64 x.op, .int .i64 x.to, .int .i64 x.size, .int .i64 x.fn, .slice XA xn xcap] 71))).mono (R' := fun e w' => e = .returned (.bool true) ∧ GSays base cb hb fuel fb tb lv lo own2 (doesF R fuel lo st tp2 x) (wr.alloc (.cells #[.int .i64 x.op, .int .i64 x.to, .int .i64 x.size, .int .i64 x.fn, .slice XA xn xcap] 71)) e w') (fun e w' h => ⟨hdo ▸ h.1, h⟩))
        have HDO := Lib.hid hdo
        clear hDO hdo
        go_wp2_with fail
        refine HC2.out.mono ?_
        rintro e w5 ⟨rfl, hds⟩
        have HDS := Lib.hid hds
        clear hds
        go_wp2_with fail
        go_roundw
        case rel =>
          have hkd := does_kept HRK.out HB.out.kept.inv HB.out.frok HB.out.len HLO.out HXO.out (s' := (doesF R fuel lo st tp2 x).2.1) (tp' := (doesF R fuel lo st tp2 x).2.2) (x := x) (by rw [← HDO.out])
          obtain ⟨own3, hB3⟩ := (HB.out.below (below1 wr (.cells #[.int .i64 x.op, .int .i64 x.to, .int .i64 x.size, .int .i64 x.fn, .slice XA xn xcap] 71))).step HDS.out HDO.out hkd
          refine ⟨j + 1, own3, _, _, by go_num, by omega, hB3, ?_⟩
          have := HSE.out
          rw [drop_get HXK.out, stepsF_cons_true HDO.out] at this
          exact this
        case measure => simp [intOf]; omega
      · have hdo' : (doesF R fuel lo st tp2 x).1 = false := by simpa using hdo
        have HC2 := Lib.hid ((hDO.out _ (below1 wr (.cells #[.int .i64 x.op, .int .i64 x.to, .int .i64 x.size, .int .i64 x.fn, .slice XA xn xcap] 71))).mono (R' := fun e w' => e = .returned (.bool false) ∧ GSays base cb hb fuel fb tb lv lo own2 (doesF R fuel lo st tp2 x) (wr.alloc (.cells #[.int .i64 x.op, .int .i64 x.to, .int .i64 x.size, .int .i64 x.fn, .slice XA xn xcap] 71)) e w') (fun e w' h => ⟨hdo' ▸ h.1, h⟩))
        have HDO := Lib.hid hdo'
        clear hDO hdo hdo'
        go_wp2_with fail
        refine HC2.out.mono ?_
        rintro e w5 ⟨rfl, hds⟩
        obtain ⟨hn1, hn2', hn3⟩ := (HB.out.below (below1 wr (.cells #[.int .i64 x.op, .int .i64 x.to, .int .i64 x.size, .int .i64 x.fn, .slice XA xn xcap] 71))).stop hds
        have HN1 := Lib.hid hn1
        have HN3 := Lib.hid hn3
        have r0 := hn2'.cell (j := 0) rfl
        have r1 := hn2'.cell (j := 1) rfl
        have r2 := hn2'.free 0
        have r3 := hn2'.free 1
        have r4 := hn2'.lt
        clear hds hn1 hn2' hn3
        go_wp2_with fail
        refine still_tailq 2 (by kernel_rfl) (by kernel_rfl) ?_
        simp only [List.take_succ_cons, List.take_zero, List.drop_succ_cons, List.drop_zero]
        repeat (go_big_quiet_step (fail))
        refine wpQuiet_nil ?_
        go_wp2_with fail
        refine HQ.out _ _ _ ?_
        refine bodyPost_ret (v := .tuple #[.int .i64 0, .agg #[.int .i64 0, .int .i64 0], .bool false]) (by simp [results, Try.results24, go_sem, r0, r1]) rfl ?_
        rw [blockF_steps (show stepsF R fuel lo s tp b.steps = (false, (doesF R fuel lo st tp2 x).2.1, (doesF R fuel lo st tp2 x).2.2) from (by
            have h1 := HSE.out
            rw [drop_get HXK.out, stepsF_cons_false HDO.out] at h1
            exact h1.symm))]
        obtain ⟨own3, m1, m2, m3, m4⟩ := HN1.out
        exact gblock_over own3 m1 m2 m3 m4 HN3.out hpos (setdrew_wr _ _ _ _) 0 0
    · obtain rfl : j = n := by omega
      have hs5 : stepsF R fuel lo s tp b.steps = (true, st, tp2) := by
        rw [← hse, ← HL1.out, List.drop_length]; rfl
      have HS5 := Lib.hid hs5
      have b1 := hbx.cell (j := 1) rfl
      have b2 := hbx.cell (j := 2) rfl
      have b3 := hbx.cell (j := 3) rfl
      have b4 := hbx.cell (j := 4) rfl
      have b5 := hbx.cell (j := 5) rfl
      have b6 := hbx.cell (j := 6) rfl
      have v0 := hB.val.cell (j := 0) rfl
      have v1 := hB.val.cell (j := 1) rfl
      have p0 := hB.run.row.cell (j := 0) rfl
      have hrbl := hB.run.row.lt
      have hncb : ¬ w.heap.size + 1 = cb := fun e => by have := hB.owl cb hB.ocb; omega
      have hI := hB.kept.inv
      have HTK := Lib.hid (tick_hc (w := wr) 1 hB.hc hI.kind hf hI.lo hI.hi (by omega) (by omega))
      have HNO := Lib.hid hB.nown
      by_cases hy : (stepF fuel 1 st).1 = true
      · obtain ⟨e1, hI1⟩ := hI.tick (by omega) hy
        rw [hy, e1] at HTK
        have HY := Lib.hid hy
        have HE1 := Lib.hid e1
        have HI1 := Lib.hid hI1
        clear hB hse hbx hBr hs5 hI hy e1 hI1 b0 b2 b3 b4 b5 b6 v0 v1
        go_wp2_with fail
        refine HTK.out.mono ?_
        rintro e w1 ⟨rfl, hH1, hw1⟩
        have hB1 := HB.out.tick (st' := { st with steps := st.steps + 1 }) hH1 hw1 rfl ⟨HI1.out, rfl, Nat.le_refl _, by show st.steps ≤ st.steps + 1; omega⟩
        have HB1 := Lib.hid hB1
        have c1 := hB1.box.cell (j := 1) rfl
        have c2 := hB1.box.cell (j := 2) rfl
        have c3 := hB1.box.cell (j := 3) rfl
        have c4 := hB1.box.cell (j := 4) rfl
        have c5 := hB1.box.cell (j := 5) rfl
        have c6 := hB1.box.cell (j := 6) rfl
        have u0 := hB1.val.cell (j := 0) rfl
        have u1 := hB1.val.cell (j := 1) rfl
        have u2 := hB1.val.free 0
        have u3 := hB1.val.free 1
        have hul := hB1.val.lt
        have hbl1 := hB1.box.lt
        have q0 := hB1.run.row.cell (j := 0) rfl
        have hrl1 := hB1.run.row.lt
        have hxx : ¬ w.heap.size = w.heap.size + 1 := by omega
        have hx1 : ¬ w.heap.size + 1 = w.heap.size := by omega
        have hx1' : ¬ w.heap.size = w.heap.size + 1 := by omega
        clear hB1 hH1 hw1 p0 b1
        by_cases hfin : b.fin = 1
        · have HFIN := Lib.hid hfin
          rw [hfin] at c1
          clear hfin
          go_wp2_with fail
          refine still_tailq 4 (by kernel_rfl) (by kernel_rfl) ?_
          simp only [List.take_succ_cons, List.take_zero, List.drop_succ_cons, List.drop_zero]
          repeat (go_big_quiet_step (fail))
          refine wpQuiet_nil ?_
          go_wp2_with fail
          refine HQ.out _ _ _ ?_
          refine bodyPost_ret (v := .tuple #[.int .i64 b.next, .agg #[.int .i64 0, .int .i64 0], .bool true]) (by simp [results, Try.results24, go_sem, u0, u1]) rfl ?_
          rw [blockF_jump HS5.out HY.out HFIN.out, HE1.out]
          exact HB1.out.fin (setdrew_wr _ _ _ _) ⟨rfl, rfl⟩ HFL.out.1 HFL.out.2
        · have e0 : (b.fin == 1) = false := by simpa using hfin
          have HFIN := Lib.hid hfin
          obtain ⟨ht1, ht2⟩ := HB2.out.cond hfin
          have HTR := Lib.hid (fun W (hW : Below w1.heap.size w1 W) => tree_hc b.cond _ _ _ (HB1.out.hc.below hW) (HB1.out.run.below hW) (HB1.out.fr.below hW) HB1.out.frok (by rw [HB1.out.len, HLO.out]; exact ht1) (HCT.out.below (HB1.out.bas.trans (hW.mono (by have := HB1.out.bas.size; omega))) (Nat.le_refl _)))
          clear hfin ht1 ht2
          cases hv : evalT st.mem tp2 lo b.cond with
          | none =>
            have HV := Lib.hid hv
            rw [show evalT ({ st with steps := st.steps + 1 } : St).mem tp2 lo b.cond = none from hv] at HTR
            clear hv
            go_wp2_with fail
            refine (HTR.out _ (Below.refl _ _)).mono ?_
            rintro e w2 ⟨⟨y0, y1, rfl⟩, hb2⟩
            have hB2 := HB1.out.below hb2
            have hbz := hb2.size
            have HBB := Lib.hid hB2
            have t0 := hB2.val.cell (j := 0) rfl
            have t1 := hB2.val.cell (j := 1) rfl
            have t2 := hB2.val.free 0
            have t3 := hB2.val.free 1
            have hul2 := hB2.val.lt
            have hbl2 := hB2.box.lt
            clear hB2 hb2 u0 u1 u2 u3 c1 c2 c3 c4 c5 c6 q0
            go_wp2_with fail
            obtain ⟨W3, hW3⟩ : ∃ W3, W3 = (w2.setCell ⟨w.heap.size + 1, 0, none⟩ (.int .i64 y0)).setCell ⟨w.heap.size + 1, 1, none⟩ (.int .i64 y1) := ⟨_, rfl⟩
            rw [← hW3]
            have hs3 := setcells_wr w2 (w.heap.size + 1) (.int .i64 y0) (.int .i64 y1)
            rw [← hW3] at hs3
            have hv3 : Row W3 (w.heap.size + 1) #[.int .i64 y0, .int .i64 y1] 55 := by rw [hW3]; exact ((HBB.out.val.set 0 _).set 1 _)
            have hz3 := hs3.size
            have k0 := hv3.cell (j := 0) rfl
            have k1 := hv3.cell (j := 1) rfl
            have k2 := hv3.free 0
            have k3 := hv3.free 1
            have k4 := hv3.lt
            have hbx3 := HBB.out.box.wr hs3 hx1'
            have l1 := hbx3.cell (j := 1) rfl
            have l5 := hbx3.cell (j := 5) rfl
            have l6 := hbx3.cell (j := 6) rfl
            have l7 := hbx3.lt
            have HS3 := Lib.hid hs3
            have hrn : rb ≠ w.heap.size + 1 := by omega
            have k5 := (HBB.out.run.row.wr hs3 hrn).cell (j := 0) rfl
            have HS3 := Lib.hid hs3
            have HV3 := Lib.hid hv3
            have hncb3 : ¬ w.heap.size + 1 = cb := hncb
            have HSK := Lib.hid (fun W (hW : Wr (fun i => i = w.heap.size + 1) W3 W) (hr : Row W (w.heap.size + 1) #[.int .i64 y0, .int .i64 y1] 55) => (stuck_hc (w := W) (HBB.out.hc.wr (hs3.trans hW (fun _ h => Or.inl h)) (fun k hk => (by subst hk; exact ⟨by omega, HNO.out.2⟩)))).mono (R' := fun e w' => e = .returned (.bool false) ∧ HCs w' base own2 cb hb fuel { { st with steps := st.steps + 1 } with kind := 3 } ∧ Row w' (w.heap.size + 1) #[.int .i64 y0, .int .i64 y1] 55 ∧ Wr (fun i => i = cb ∨ i = w.heap.size + 1) W3 w') (fun e w' h => ⟨h.1, h.2.1, hr.wr h.2.2 hncb3, (hW.mono (G := fun i => i = cb ∨ i = w.heap.size + 1) (fun i hi => Or.inl (Or.inr hi))).trans h.2.2 (fun i hi => Or.inl (Or.inl hi))⟩))
            have HR1 := Lib.hid (hv3.drew)
            have HR2 := Lib.hid ((hv3.set 0 (.int .i64 y0)).set 1 (.int .i64 y1))
            have HSA := Lib.hid (HSK.out _ (Wr.refl _ _).drewR HR1.out)
            have HSB := Lib.hid (HSK.out _ (setcells_wr _ _ (.int .i64 y0) (.int .i64 y1)).drewR HR2.out)
            clear hs3 hW3 hv3 hbx3 l1 l5 l6 t0 t1 t2 t3 HSK
            refine Code.wp_mono (fun e a w h => then_mono (fun e a w h => then_mono HQ.out h) h) ?_
            go_region_with (go_at_call 27; (first | refine HSA.out.mono ?_ | refine HSB.out.mono ?_); rintro e w4 ⟨rfl, hH4, hr4, hw4⟩; have r0 := hr4.cell (j := 0) rfl; have r1 := hr4.cell (j := 1) rfl; have r2 := hr4.free 0; have r3 := hr4.free 1; have r4 := hr4.lt; have HH4 := Lib.hid hH4; have HW4 := Lib.hid hw4; clear hH4 hw4 hr4)
            all_goals (go_wp2_with fail)
            all_goals (refine HQ.out _ _ _ ?_)
            all_goals (refine bodyPost_ret (v := .tuple #[.int .i64 0, .agg #[.int .i64 y0, .int .i64 y1], .bool false]) (by simp [results, Try.results24, go_sem, r0, r1]) rfl ?_)
            all_goals (rw [blockF_fail HS5.out HY.out HFIN.out (by rw [HE1.out]; exact HV.out), HE1.out])
            all_goals (refine gblock_over own2 HB.out.up (fun k hk => (by rcases HB.out.dn k hk with h' | h'; exact Or.inl h'; exact Or.inr (by omega))) (fun k hk e => HNO.out.2 (e ▸ hk)) HH4.out ((HBB.out.wr.trans HS3.out (fun k hk => Or.inr (by omega))).trans HW4.out (fun k hk => (by rcases hk with rfl | rfl; exact Or.inl (Or.inl HB.out.ocb); exact Or.inr (by omega)))) hpos ?_ y0 y1)
            all_goals (first | exact (Wr.refl _ _) | exact setcells_wr _ _ _ _ | exact (setcells_wr _ _ _ _).drewR)
          | some v =>
            have HV := Lib.hid hv
            rw [show evalT ({ st with steps := st.steps + 1 } : St).mem tp2 lo b.cond = some v from hv] at HTR
            clear hv
            go_wp2_with fail
            refine (HTR.out _ (Below.refl _ _)).mono ?_
            rintro e w2 ⟨he, hb2⟩
            simp only [AnsV, ansV] at he
            subst he
            have hB2 := HB1.out.below hb2
            have hbz := hb2.size
            have HBB := Lib.hid hB2
            have d1 := hB2.box.cell (j := 1) rfl
            have d5 := hB2.box.cell (j := 5) rfl
            have d6 := hB2.box.cell (j := 6) rfl
            have t0 := hB2.val.cell (j := 0) rfl
            have t1 := hB2.val.cell (j := 1) rfl
            have t2 := hB2.val.free 0
            have t3 := hB2.val.free 1
            have hul2 := hB2.val.lt
            have hbl2 := hB2.box.lt
            clear hB2 hb2 u0 u1 u2 u3 c1 c2 c3 c4 c5 c6
            by_cases hf3 : b.fin = 3
            · have HF3 := Lib.hid hf3
              rw [hf3] at d1 e0
              clear hf3
              go_wp2_with fail
              obtain ⟨W3, hW3⟩ : ∃ W3, W3 = (w2.setCell ⟨w.heap.size + 1, 0, none⟩ (.int .i64 v.obj)).setCell ⟨w.heap.size + 1, 1, none⟩ (.int .i64 v.n) := ⟨_, rfl⟩
              rw [← hW3]
              have hs3 := setcells_wr w2 (w.heap.size + 1) (.int .i64 v.obj) (.int .i64 v.n)
              rw [← hW3] at hs3
              have hv3 : Row W3 (w.heap.size + 1) #[.int .i64 v.obj, .int .i64 v.n] 55 := by rw [hW3]; exact ((HBB.out.val.set 0 _).set 1 _)
              have hz3 := hs3.size
              have k0 := hv3.cell (j := 0) rfl
              have k1 := hv3.cell (j := 1) rfl
              have k2 := hv3.free 0
              have k3 := hv3.free 1
              have k4 := hv3.lt
              have hbx3 := HBB.out.box.wr hs3 hx1'
              have l1 := hbx3.cell (j := 1) rfl
              have l5 := hbx3.cell (j := 5) rfl
              have l6 := hbx3.cell (j := 6) rfl
              have l7 := hbx3.lt
              have HS3 := Lib.hid hs3
              clear hs3 hW3 hv3 hbx3
              refine still_tailq 2 (by kernel_rfl) (by kernel_rfl) ?_
              simp only [List.take_succ_cons, List.take_zero, List.drop_succ_cons, List.drop_zero]
              repeat (go_big_quiet_step (fail))
              refine wpQuiet_nil ?_
              go_wp2_with fail
              refine HQ.out _ _ _ ?_
              refine bodyPost_ret (v := .tuple #[.int .i64 (-1), .agg #[.int .i64 v.obj, .int .i64 v.n], .bool true]) (by simp [results, Try.results24, go_sem, k0, k1]) rfl ?_
              rw [blockF_ret HS5.out HY.out HF3.out (by rw [HE1.out]; exact HV.out), HE1.out]
              exact HBB.out.fin (HS3.out.trans (setdrew_wr _ _ _ _) (fun _ h => Or.inl h)) ⟨rfl, rfl, rfl, rfl⟩ HFL.out.1 HFL.out.2
            · have hf2 : b.fin = 2 := by rcases HB2.out.fin with h | h | h; exact absurd h HFIN.out; exact h; exact absurd h hf3
              have HF2 := Lib.hid hf2
              rw [hf2] at d1 e0
              clear hf2 hf3
              by_cases hv0 : v.obj = 0
              · by_cases hv1 : v.n = 0
                · have HVZ := Lib.hid (show v = ⟨0, 0⟩ from by cases v; simp only at hv0 hv1; rw [hv0, hv1])
                  have e4 : ¬ (0 : Int) < (v.obj : Int) := by omega
                  have e5 : (v.n == 0) = true := by simpa using hv1
                  go_wp2_with fail
                  obtain ⟨W3, hW3⟩ : ∃ W3, W3 = (w2.setCell ⟨w.heap.size + 1, 0, none⟩ (.int .i64 0)).setCell ⟨w.heap.size + 1, 1, none⟩ (.int .i64 0) := ⟨_, rfl⟩
                  rw [← hW3]
                  have hs3 := setcells_wr w2 (w.heap.size + 1) (.int .i64 0) (.int .i64 0)
                  rw [← hW3] at hs3
                  have hv3 : Row W3 (w.heap.size + 1) #[.int .i64 0, .int .i64 0] 55 := by rw [hW3]; exact ((HBB.out.val.set 0 _).set 1 _)
                  have hz3 := hs3.size
                  have k0 := hv3.cell (j := 0) rfl
                  have k1 := hv3.cell (j := 1) rfl
                  have k2 := hv3.free 0
                  have k3 := hv3.free 1
                  have k4 := hv3.lt
                  have hbx3 := HBB.out.box.wr hs3 hx1'
                  have l1 := hbx3.cell (j := 1) rfl
                  have l5 := hbx3.cell (j := 5) rfl
                  have l6 := hbx3.cell (j := 6) rfl
                  have l7 := hbx3.lt
                  have HS3 := Lib.hid hs3
                  clear hs3 hW3 hv3 hbx3
                  refine still_tailq 4 (by kernel_rfl) (by kernel_rfl) ?_
                  simp only [List.take_succ_cons, List.take_zero, List.drop_succ_cons, List.drop_zero]
                  repeat (go_big_quiet_step (fail))
                  refine wpQuiet_nil ?_
                  go_wp2_with fail
                  refine HQ.out _ _ _ ?_
                  refine bodyPost_ret (v := .tuple #[.int .i64 b.els, .agg #[.int .i64 0, .int .i64 0], .bool true]) (by simp [results, Try.results24, go_sem, k0, k1]) rfl ?_
                  rw [blockF_branch HS5.out HY.out HF2.out (by rw [HE1.out]; exact HV.out), HE1.out, if_pos HVZ.out]
                  exact HBB.out.fin (HS3.out.trans (setdrew_wr _ _ _ _) (fun _ h => Or.inl h)) ⟨rfl, rfl⟩ HFL.out.1 HFL.out.2
                · have HVZ := Lib.hid (show ¬ v = ⟨0, 0⟩ from fun e => hv1 (by rw [e]))
                  have e4 : ¬ (0 : Int) < (v.obj : Int) := by omega
                  have e5 : (v.n == 0) = false := by simpa using hv1
                  go_wp2_with fail
                  obtain ⟨W3, hW3⟩ : ∃ W3, W3 = (w2.setCell ⟨w.heap.size + 1, 0, none⟩ (.int .i64 0)).setCell ⟨w.heap.size + 1, 1, none⟩ (.int .i64 v.n) := ⟨_, rfl⟩
                  rw [← hW3]
                  have hs3 := setcells_wr w2 (w.heap.size + 1) (.int .i64 0) (.int .i64 v.n)
                  rw [← hW3] at hs3
                  have hv3 : Row W3 (w.heap.size + 1) #[.int .i64 0, .int .i64 v.n] 55 := by rw [hW3]; exact ((HBB.out.val.set 0 _).set 1 _)
                  have hz3 := hs3.size
                  have k0 := hv3.cell (j := 0) rfl
                  have k1 := hv3.cell (j := 1) rfl
                  have k2 := hv3.free 0
                  have k3 := hv3.free 1
                  have k4 := hv3.lt
                  have hbx3 := HBB.out.box.wr hs3 hx1'
                  have l1 := hbx3.cell (j := 1) rfl
                  have l5 := hbx3.cell (j := 5) rfl
                  have l6 := hbx3.cell (j := 6) rfl
                  have l7 := hbx3.lt
                  have HS3 := Lib.hid hs3
                  clear hs3 hW3 hv3 hbx3
                  refine still_tailq 4 (by kernel_rfl) (by kernel_rfl) ?_
                  simp only [List.take_succ_cons, List.take_zero, List.drop_succ_cons, List.drop_zero]
                  repeat (go_big_quiet_step (fail))
                  refine wpQuiet_nil ?_
                  go_wp2_with fail
                  refine HQ.out _ _ _ ?_
                  refine bodyPost_ret (v := .tuple #[.int .i64 b.next, .agg #[.int .i64 0, .int .i64 v.n], .bool true]) (by simp [results, Try.results24, go_sem, k0, k1]) rfl ?_
                  rw [blockF_branch HS5.out HY.out HF2.out (by rw [HE1.out]; exact HV.out), HE1.out, if_neg HVZ.out]
                  exact HBB.out.fin (HS3.out.trans (setdrew_wr _ _ _ _) (fun _ h => Or.inl h)) ⟨rfl, rfl⟩ HFL.out.1 HFL.out.2
              · have HVZ := Lib.hid (show ¬ v = ⟨0, 0⟩ from fun e => hv0 (by rw [e]))
                have e4 : (0 : Int) < (v.obj : Int) := by omega
                go_wp2_with fail
                obtain ⟨W3, hW3⟩ : ∃ W3, W3 = (w2.setCell ⟨w.heap.size + 1, 0, none⟩ (.int .i64 v.obj)).setCell ⟨w.heap.size + 1, 1, none⟩ (.int .i64 v.n) := ⟨_, rfl⟩
                rw [← hW3]
                have hs3 := setcells_wr w2 (w.heap.size + 1) (.int .i64 v.obj) (.int .i64 v.n)
                rw [← hW3] at hs3
                have hv3 : Row W3 (w.heap.size + 1) #[.int .i64 v.obj, .int .i64 v.n] 55 := by rw [hW3]; exact ((HBB.out.val.set 0 _).set 1 _)
                have hz3 := hs3.size
                have k0 := hv3.cell (j := 0) rfl
                have k1 := hv3.cell (j := 1) rfl
                have k2 := hv3.free 0
                have k3 := hv3.free 1
                have k4 := hv3.lt
                have hbx3 := HBB.out.box.wr hs3 hx1'
                have l1 := hbx3.cell (j := 1) rfl
                have l5 := hbx3.cell (j := 5) rfl
                have l6 := hbx3.cell (j := 6) rfl
                have l7 := hbx3.lt
                have HS3 := Lib.hid hs3
                clear hs3 hW3 hv3 hbx3
                refine still_tailq 4 (by kernel_rfl) (by kernel_rfl) ?_
                simp only [List.take_succ_cons, List.take_zero, List.drop_succ_cons, List.drop_zero]
                repeat (go_big_quiet_step (fail))
                refine wpQuiet_nil ?_
                go_wp2_with fail
                refine HQ.out _ _ _ ?_
                refine bodyPost_ret (v := .tuple #[.int .i64 b.next, .agg #[.int .i64 v.obj, .int .i64 v.n], .bool true]) (by simp [results, Try.results24, go_sem, k0, k1]) rfl ?_
                rw [blockF_branch HS5.out HY.out HF2.out (by rw [HE1.out]; exact HV.out), HE1.out, if_neg HVZ.out]
                exact HBB.out.fin (HS3.out.trans (setdrew_wr _ _ _ _) (fun _ h => Or.inl h)) ⟨rfl, rfl⟩ HFL.out.1 HFL.out.2
      · have hy' : (stepF fuel 1 st).1 = false := by simpa using hy
        rw [hy'] at HTK
        have HY := Lib.hid hy'
        clear hB hse hbx hBr hs5 hI hy hy' b0 b1 b2 b3 b4 b5 b6
        go_wp2_with fail
        refine HTK.out.mono ?_
        rintro e w1 ⟨rfl, hH1, hw1⟩
        have hv1 := HB.out.val.wr hw1 hncb
        have r0 := hv1.cell (j := 0) rfl
        have r1 := hv1.cell (j := 1) rfl
        have r2 := hv1.free 0
        have r3 := hv1.free 1
        have r4 := hv1.lt
        have HH1 := Lib.hid hH1
        have HW1 := Lib.hid hw1
        clear hH1 hw1 hv1 v0 v1
        go_wp2_with fail
        refine still_tailq 2 (by kernel_rfl) (by kernel_rfl) ?_
        simp only [List.take_succ_cons, List.take_zero, List.drop_succ_cons, List.drop_zero]
        repeat (go_big_quiet_step (fail))
        refine wpQuiet_nil ?_
        go_wp2_with fail
        refine HQ.out _ _ _ ?_
        refine bodyPost_ret (v := .tuple #[.int .i64 0, .agg #[.int .i64 0, .int .i64 0], .bool false]) (by simp [results, Try.results24, go_sem, r0, r1]) rfl ?_
        rw [blockF_dry2 HS5.out HY.out]
        exact gblock_over own2 HB.out.up (fun k hk => (by rcases HB.out.dn k hk with h' | h'; exact Or.inl h'; exact Or.inr (by omega))) (fun k hk e => HNO.out.2 (e ▸ hk)) HH1.out (HB.out.wr.trans HW1.out (fun k hk => (by subst hk; exact Or.inl (Or.inl HB.out.ocb)))) hpos (setdrew_wr _ _ _ _) 0 0
end Go.Proofs.Ytikbdplllopjlaa
