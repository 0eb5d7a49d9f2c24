/- Prog: whether a program may be. Conditions: as stated. -/
import Derived.Test.YtjkgpolikpochaaFnZz
set_option linter.unusedVariables false
set_option linter.unusedSimpArgs false
namespace Go.Proofs.Ytjkgpolikpochaa
open Go.RowKit

noncomputable def fnsB (p : ProgS) : List GraphS → Bool
  | [] => true
  | g :: l => fnB p g && fnsB p l
noncomputable def progB (p : ProgS) : Bool := objsB p.globs 16 && (betwB p.funcs.length 1 8 && (numB p.main ((p.funcs.length : Int) - 1) && (yes ((p.funcs.getD p.main.toNat noGraph).params = 0) && fnsB p p.funcs)))

structure PBox (w : World) (N : Nat) (P0 P1 P2 : Value) : Prop where
  p0 : w.cell? ⟨N, 0, none⟩ = some P0
  p1 : w.cell? ⟨N, 1, none⟩ = some P1
  p2 : w.cell? ⟨N, 2, none⟩ = some P2
  lt : N < w.heap.size
theorem PBox.below {w w' : World} {N : Nat} {P0 P1 P2 : Value} (h : PBox w N P0 P1 P2) (hb : Below w.heap.size w w') : PBox w' N P0 P1 P2 := by
  obtain ⟨a, b, c, l⟩ := h
  have := hb.size
  exact ⟨cell_below a hb l, cell_below b hb l, cell_below c hb l, by omega⟩

set_option maxRecDepth 100000 in
set_option maxHeartbeats 16000000 in
theorem prog_any (p : ProgS) (hfn : ∀ g, g ∈ p.funcs → FnSaid p g) (P : Value × Value × Value) (B : Nat) (w : World) (hB : B ≤ w.heap.size) (hP : ProgV w B P p) :
    Calls Try.prog 31 #[.agg #[P.1, P.2.1, P.2.2]] w fun e w' => e = .returned (.bool (progB p)) ∧ Below w.heap.size w w' := by
  obtain ⟨GA, gc, FA, fc, rfl⟩ := hP.shape
  have hfl := hP.2.1.len.2
  have HB2 := Lib.hid (below1 w (.cells #[.slice GA p.globs.length gc, .slice FA p.funcs.length fc, .int .i64 p.main] 54))
  have HO := Lib.hid (fun W (hb : Below w.heap.size w W) => objs_any p.globs GA p.globs.length gc 16 B W (by have := hb.size; omega) (hP.1.below (hb.mono hB) (Nat.le_refl _) (fun _ _ h => h.below (hb.mono hB) (Nat.le_refl _))))
  have HT := Lib.hid (fun W => between_any (p.funcs.length : Int) 1 8 W)
  have HN := Lib.hid (fun W => num_any p.main ((p.funcs.length : Int) - 1) W)
  have HP := Lib.hid hP
  have HFN := Lib.hid hfn
  obtain ⟨q1, hq1⟩ : ∃ q, q = objsB p.globs 16 := ⟨_, rfl⟩
  obtain ⟨q2, hq2⟩ : ∃ q, q = betwB (p.funcs.length : Int) 1 8 := ⟨_, rfl⟩
  obtain ⟨q3, hq3⟩ : ∃ q, q = numB p.main ((p.funcs.length : Int) - 1) := ⟨_, rfl⟩
  have hpg : progB p = (q1 && (q2 && (q3 && (yes ((p.funcs.getD p.main.toNat noGraph).params = 0) && fnsB p p.funcs)))) := by rw [hq1, hq2, hq3]; rfl
  rw [← hq1] at HO
  rw [← hq2] at HT
  rw [← hq3] at HN
  have HQ3 := Lib.hid hq3
  have HQ2 := Lib.hid hq2
  have HPG := Lib.hid hpg
  clear hP hfn hq1 hq2 hq3 hpg
  cases q1 with
  | false =>
    have HE := Lib.hid (show progB p = false by rw [HPG.out]; rfl)
    clear HQ3 HQ2
    go_enter Try.func31, Try.ntmps31
    refine wp_letter (fun Q hQ => ?_)
    have HQ := Lib.hid hQ
    clear hQ
    go_wp2_with (first | (go_at_call 45; refine (HO.out _ (by exact HB2.out)).mono ?_; rintro e w1 ⟨rfl, hb1⟩; have HX1 := Lib.hid (PBox.below (N := w.heap.size) (w := (w.alloc _)) ⟨by simp [go_sem], by simp [go_sem], by simp [go_sem], by simp⟩ hb1 : PBox w1 w.heap.size (.slice GA p.globs.length gc) (.slice FA p.funcs.length fc) (.int .i64 p.main)); have x1 := HX1.out.p1; have x2 := HX1.out.p2; have HB1 := Lib.hid (HB2.out.trans (hb1.mono (by simp <;> omega))); clear hb1) | (go_at_call 46; refine (HT.out _).mono ?_; rintro e w' ⟨rfl, rfl⟩) | (go_at_call 47; refine (HN.out _).mono ?_; rintro e w' ⟨rfl, rfl⟩))
    refine HQ.out _ _ _ ?_
    exact bodyPost_ret (v := .bool false) (by simp [results, Try.results31, go_sem]) rfl ⟨by rw [HE.out], HB1.out⟩
  | true =>
    cases q2 with
    | false =>
      have HE := Lib.hid (show progB p = false by rw [HPG.out]; rfl)
      clear HQ3 HQ2
      go_enter Try.func31, Try.ntmps31
      refine wp_letter (fun Q hQ => ?_)
      have HQ := Lib.hid hQ
      clear hQ
      go_wp2_with (first | (go_at_call 45; refine (HO.out _ (by exact HB2.out)).mono ?_; rintro e w1 ⟨rfl, hb1⟩; have HX1 := Lib.hid (PBox.below (N := w.heap.size) (w := (w.alloc _)) ⟨by simp [go_sem], by simp [go_sem], by simp [go_sem], by simp⟩ hb1 : PBox w1 w.heap.size (.slice GA p.globs.length gc) (.slice FA p.funcs.length fc) (.int .i64 p.main)); have x1 := HX1.out.p1; have x2 := HX1.out.p2; have HB1 := Lib.hid (HB2.out.trans (hb1.mono (by simp <;> omega))); clear hb1) | (go_at_call 46; refine (HT.out _).mono ?_; rintro e w' ⟨rfl, rfl⟩) | (go_at_call 47; refine (HN.out _).mono ?_; rintro e w' ⟨rfl, rfl⟩))
      refine HQ.out _ _ _ ?_
      exact bodyPost_ret (v := .bool false) (by simp [results, Try.results31, go_sem]) rfl ⟨by rw [HE.out], HB1.out⟩
    | true =>
      cases q3 with
      | false =>
        have HE := Lib.hid (show progB p = false by rw [HPG.out]; rfl)
        clear HQ3 HQ2
        go_enter Try.func31, Try.ntmps31
        refine wp_letter (fun Q hQ => ?_)
        have HQ := Lib.hid hQ
        clear hQ
        go_wp2_with (first | (go_at_call 45; refine (HO.out _ (by exact HB2.out)).mono ?_; rintro e w1 ⟨rfl, hb1⟩; have HX1 := Lib.hid (PBox.below (N := w.heap.size) (w := (w.alloc _)) ⟨by simp [go_sem], by simp [go_sem], by simp [go_sem], by simp⟩ hb1 : PBox w1 w.heap.size (.slice GA p.globs.length gc) (.slice FA p.funcs.length fc) (.int .i64 p.main)); have x1 := HX1.out.p1; have x2 := HX1.out.p2; have HB1 := Lib.hid (HB2.out.trans (hb1.mono (by simp <;> omega))); clear hb1) | (go_at_call 46; refine (HT.out _).mono ?_; rintro e w' ⟨rfl, rfl⟩) | (go_at_call 47; refine (HN.out _).mono ?_; rintro e w' ⟨rfl, rfl⟩))
        refine HQ.out _ _ _ ?_
        exact bodyPost_ret (v := .bool false) (by simp [results, Try.results31, go_sem]) rfl ⟨by rw [HE.out], HB1.out⟩
      | true =>
        have hmn : 0 ≤ p.main ∧ p.main < p.funcs.length := by have := HQ3.out; simp [numB] at this; omega
        obtain ⟨mf, hmf'⟩ := Int.eq_ofNat_of_zero_le hmn.1
        have hmf : mf < p.funcs.length := by omega
        have HMG := Lib.hid (List.getElem?_eq_getElem hmf)
        have hgd : p.funcs.getD p.main.toNat noGraph = p.funcs[mf] := by rw [hmf', Int.toNat_natCast, List.getD_eq_getElem?_getD, HMG.out]; rfl
        have HMF := Lib.hid hmf'
        have hm0 : (0 : Int) ≤ (mf : Int) := by omega
        have hm1 : (mf : Int) < (p.funcs.length : Int) := by omega
        have HPG2 := Lib.hid (HPG.out.trans (by rw [hgd]; rfl) : progB p = (yes (p.funcs[mf].params = 0) && fnsB p p.funcs))
        rw [hmf'] at HN HB2 ⊢
        have HPV := Lib.hid (hmf' ▸ HP.out : ProgV w B (.slice GA p.globs.length gc, .slice FA p.funcs.length fc, .int .i64 (mf : Nat)) p)
        clear hmn hmf' hgd HQ3
        by_cases h4 : p.funcs[mf].params = 0
        · have d4 : (p.funcs[mf].params != 0) = false := by simpa using h4
          have HPG3 := Lib.hid (HPG2.out.trans (by rw [yes_true h4]; rfl) : progB p = fnsB p p.funcs)
          clear h4
          go_enter Try.func31, Try.ntmps31
          refine wp_letter (fun Q hQ => ?_)
          have HQ := Lib.hid hQ
          clear hQ
          go_wp2_with (first | (go_at_call 45; refine (HO.out _ (by exact HB2.out)).mono ?_; rintro e w1 ⟨rfl, hb1⟩; have HX1 := Lib.hid (PBox.below (N := w.heap.size) (w := (w.alloc _)) ⟨by simp [go_sem], by simp [go_sem], by simp [go_sem], by simp⟩ hb1 : PBox w1 w.heap.size (.slice GA p.globs.length gc) (.slice FA p.funcs.length fc) (.int .i64 (mf : Nat))); have x1 := HX1.out.p1; have x2 := HX1.out.p2; have HB1 := Lib.hid (HB2.out.trans (hb1.mono (by simp <;> omega))); obtain ⟨gb, goff, g', hFA, hgb, hg', hGE⟩ := (HPV.out.2.1.below (HB1.out.mono hB) (Nat.le_refl _) (fun _ _ h => h.below (HB1.out.mono hB) (Nat.le_refl _))).get hmf; subst hFA; have y0 := hGE.1; rw [HMG.out] at hg'; injection hg' with hg'; subst hg'; simp only [Nat.add_zero] at y0; have hgbl : gb < w1.heap.size := (by have := HB1.out.size; omega); clear hGE; clear hb1) | (go_at_call 46; refine (HT.out _).mono ?_; rintro e w' ⟨rfl, rfl⟩) | (go_at_call 47; refine (HN.out _).mono ?_; rintro e w' ⟨rfl, rfl⟩))
          have HX := HX1
          go_loopw [3] (fun i wr => ∃ k : Nat, k ≤ p.funcs.length ∧ i = .int .i64 k ∧ fnsB p (p.funcs.drop k) = fnsB p p.funcs ∧ Below w.heap.size w wr ∧ PBox wr w.heap.size (.slice GA p.globs.length gc) (.slice (some ⟨gb, goff, none⟩) p.funcs.length fc) (.int .i64 (mf : Nat))) (fun i _ => p.funcs.length - (intOf i).toNat)
          case atStart => exact ⟨0, by omega, rfl, rfl, HB1.out, HX.out⟩
          case round =>
            obtain ⟨k, hk, rfl, hcs, hbw, hx⟩ := hrel
            have HCS := Lib.hid hcs
            have HBW := Lib.hid hbw
            have HXK := Lib.hid hx
            obtain ⟨p0', p1', p2', hxl⟩ := hx
            have hzw := hbw.size
            clear hcs x1 x2 y0
            by_cases hlt : k < p.funcs.length
            · obtain ⟨fb, foff, g, hFA, hfb, hfk, hGE⟩ := (HPV.out.2.1.below (hbw.mono hB) (Nat.le_refl _) (fun _ _ h => h.below (hbw.mono hB) (Nat.le_refl _))).get hlt
              injection hFA with hFA
              injection hFA with e1 e2
              subst e1 e2
              obtain ⟨z0, z1, ⟨lv, z2, hlv⟩, ⟨bv, z3, hbv⟩, hz5, hz6⟩ := hGE
              simp only [Nat.add_zero] at z0 z1 z2 z3
              have HFS := Lib.hid (fun W (hb : Below wr.heap.size wr W) => HFN.out g (List.mem_of_getElem? hfk) (.slice GA p.globs.length gc, .slice (some ⟨gb, goff, none⟩) p.funcs.length fc, .int .i64 (mf : Nat)) lv bv B W (by have := hb.size; omega) (HPV.out.below ((HBW.out.trans (hb.mono hzw)).mono hB) (Nat.le_refl _)) ⟨hlv.below (hb.mono (by omega)) (Nat.le_refl _) (fun _ _ h => h.below (hb.mono (by omega)) (Nat.le_refl _)), hbv.below (hb.mono (by omega)) (Nat.le_refl _) (fun _ _ h => h.below (hb.mono (by omega)) (Nat.le_refl _)), hz5, hz6⟩)
              have HD := Lib.hid (show fnsB p (p.funcs.drop k) = (fnB p g && fnsB p (p.funcs.drop (k + 1))) from by rw [drop_of hfk]; rfl)
              obtain ⟨⟨A1, c1, hlv0, _⟩, ⟨A2, c2, hbv0, _⟩⟩ := And.intro hlv hbv
              subst hlv0 hbv0
              obtain ⟨q, hq⟩ : ∃ q, q = fnB p g := ⟨_, rfl⟩
              rw [← hq] at HFS HD
              have hkl : (k : Int) < (p.funcs.length : Int) := by omega
              have hfbl : gb < wr.heap.size := by omega
              clear hq hfk hlv hbv hbw
              cases q with
              | false =>
                have HE := Lib.hid (show progB p = false by rw [HPG3.out, ← HCS.out, HD.out]; rfl)
                go_wp2_with fail
                refine region_grow (by kernel_rfl) (by kernel_rfl) (fun hGG => ?_)
                repeat (go_big_quiet_step ((go_at_call 48; exact call_grow (HFS.out _ (grow_below (Below.refl _ _) (Nat.le_refl _) _)))))
                refine wpQuiet_nil ?_
                rintro ⟨w5, hb5⟩
                simp only []
                have HB3 := Lib.hid hb5
                clear hGG hb5
                go_wp2_with fail
                refine HQ.out _ _ _ ?_
                exact bodyPost_ret (v := .bool false) (by simp [results, Try.results31, go_sem]) rfl ⟨by rw [HE.out], HBW.out.trans (HB3.out.mono (by omega))⟩
              | true =>
                go_wp2_with fail
                refine region_grow (by kernel_rfl) (by kernel_rfl) (fun hGG => ?_)
                repeat (go_big_quiet_step ((go_at_call 48; exact call_grow (HFS.out _ (grow_below (Below.refl _ _) (Nat.le_refl _) _)))))
                refine wpQuiet_nil ?_
                rintro ⟨w5, hb5⟩
                simp only []
                have HB3 := Lib.hid hb5
                clear hGG hb5
                go_wp2_with fail
                go_roundw
                case rel => exact ⟨k + 1, by omega, by go_num, by rw [← HCS.out, HD.out]; rfl, HBW.out.trans (HB3.out.mono (by omega)), HXK.out.below HB3.out⟩
                case measure => simp [intOf]; omega
            · obtain rfl : k = p.funcs.length := by omega
              have HE := Lib.hid (show progB p = true by rw [HPG3.out, ← HCS.out, drop_nil_of (Nat.le_refl _)]; rfl)
              go_wp2_with fail
              refine HQ.out _ _ _ ?_
              exact bodyPost_ret (v := .bool true) (by simp [results, Try.results31, go_sem]) rfl ⟨by rw [HE.out], HBW.out⟩
        · have d4 : (p.funcs[mf].params != 0) = true := by simpa using h4
          have HE := Lib.hid (show progB p = false by rw [HPG2.out, yes_false h4]; rfl)
          clear h4
          go_enter Try.func31, Try.ntmps31
          refine wp_letter (fun Q hQ => ?_)
          have HQ := Lib.hid hQ
          clear hQ
          go_wp2_with (first | (go_at_call 45; refine (HO.out _ (by exact HB2.out)).mono ?_; rintro e w1 ⟨rfl, hb1⟩; have HX1 := Lib.hid (PBox.below (N := w.heap.size) (w := (w.alloc _)) ⟨by simp [go_sem], by simp [go_sem], by simp [go_sem], by simp⟩ hb1 : PBox w1 w.heap.size (.slice GA p.globs.length gc) (.slice FA p.funcs.length fc) (.int .i64 (mf : Nat))); have x1 := HX1.out.p1; have x2 := HX1.out.p2; have HB1 := Lib.hid (HB2.out.trans (hb1.mono (by simp <;> omega))); obtain ⟨gb, goff, g', hFA, hgb, hg', hGE⟩ := (HPV.out.2.1.below (HB1.out.mono hB) (Nat.le_refl _) (fun _ _ h => h.below (HB1.out.mono hB) (Nat.le_refl _))).get hmf; subst hFA; have y0 := hGE.1; rw [HMG.out] at hg'; injection hg' with hg'; subst hg'; simp only [Nat.add_zero] at y0; have hgbl : gb < w1.heap.size := (by have := HB1.out.size; omega); clear hGE; clear hb1) | (go_at_call 46; refine (HT.out _).mono ?_; rintro e w' ⟨rfl, rfl⟩) | (go_at_call 47; refine (HN.out _).mono ?_; rintro e w' ⟨rfl, rfl⟩))
          refine HQ.out _ _ _ ?_
          exact bodyPost_ret (v := .bool false) (by simp [results, Try.results31, go_sem]) rfl ⟨by rw [HE.out], HB1.out⟩
end Go.Proofs.Ytjkgpolikpochaa
