/- graph.May. Conditions: as stated. -/
import Derived.Test.YtikbdplllopjlaaGAskGZz
import Derived.Test.YtikbdplllopjlaaQ02Zz
set_option linter.unusedVariables false
set_option linter.unusedSimpArgs false
namespace Go.Proofs.Ytikbdplllopjlaa
open Go.RowKit

def gfnsB (p : ProgS) : List GraphS → Bool
  | [] => true
  | g :: l => gfnB p g && gfnsB p l
def gmayP (p : ProgS) : Prop := objsB p.globs 16 = true ∧ ¬ (p.funcs.length : Int) < 1 ∧ ¬ (p.funcs.length : Int) > 8 ∧ (0 ≤ p.main ∧ p.main < (p.funcs.length : Int)) ∧ (p.funcs.getD p.main.toNat noGraph).params = 0
instance (p : ProgS) : Decidable (gmayP p) := by unfold gmayP; exact inferInstance
def gmayB (p : ProgS) : Bool := if gmayP p then gfnsB p p.funcs else false
theorem ProgAt.shape {w : World} {B : Nat} {P : Value × Value × Value} {p : ProgS} (h : ProgAt w B P p) : ∃ GA gc FA fc, P = (.slice GA p.globs.length gc, .slice FA p.funcs.length fc, .int .i64 p.main) := by
  obtain ⟨P0, P1, P2⟩ := P
  obtain ⟨⟨A, c, h0, _⟩, ⟨A', c', h1, _⟩, h2, _⟩ := h
  simp only at h0 h1 h2
  exact ⟨_, _, _, _, by rw [h0, h1, h2]⟩

set_option maxRecDepth 100000 in
set_option maxHeartbeats 32000000 in
theorem gmay_any (p : ProgS) (P : Value × Value × Value) (B : Nat) (w : World) (hB : B ≤ w.heap.size) (hP : ProgAt w B P p) (hsl : ∀ g, g ∈ p.funcs → ∀ b, b ∈ g.blocks → b.steps.length ≤ 200000000000000) :
    Calls Try.prog 11 #[.agg #[P.1, P.2.1, P.2.2]] w fun e w' => e = .returned (.bool (gmayB p)) ∧ Below w.heap.size w w' := by
  obtain ⟨GA, gc, FA, fc, rfl⟩ := hP.shape
  have hfl := hP.2.1.len.2
  have hgl := hP.1.len.2
  have HO := Lib.hid (fun W (hb : Below w.heap.size w W) => gobjs_any p.globs GA p.globs.length gc 16 B W (by have := hb.size; omega) (hP.1.below (hb.mono hB) (Nat.le_refl _) (fun _ _ h => h.below (hb.mono hB) (Nat.le_refl _))))
  have HWI := Lib.hid (fun W => gwithin_any p.main (p.funcs.length : Int) W)
  have HPB := Lib.hid (Row.new w #[.slice GA p.globs.length gc, .slice FA p.funcs.length fc, .int .i64 p.main] 35)
  have HP := Lib.hid hP
  have HSL := Lib.hid hsl
  clear hP hsl
  cases c1 : objsB p.globs 16 with
  | false =>
    rw [c1] at HO
    have HE := Lib.hid (show gmayB p = false from by unfold gmayB; rw [if_neg (fun h => absurd h.1 (by rw [c1]; decide))])
    clear c1
    go_enter Try.func11, Try.ntmps11
    refine wp_letter (fun Q hQ => ?_)
    have HQ := Lib.hid hQ
    clear hQ
    go_wp2_with fail
    refine (HO.out _ (below1 w _)).mono ?_
    rintro e w1 ⟨rfl, hb1⟩
    have HB1 := Lib.hid ((below1 w (.cells #[.slice GA p.globs.length gc, .slice FA p.funcs.length fc, .int .i64 p.main] 35)).trans (hb1.mono (below1 w (.cells #[.slice GA p.globs.length gc, .slice FA p.funcs.length fc, .int .i64 p.main] 35)).size))
    have hg1 := HPB.out.below hb1 HPB.out.lt
    have HG1 := Lib.hid hg1
    have g0 := hg1.cell (j := 0) rfl
    have g1 := hg1.cell (j := 1) rfl
    have g2 := hg1.cell (j := 2) rfl
    have gl := hg1.lt
    clear hb1 hg1
    go_wp2_with fail
    refine HQ.out _ _ _ ?_
    exact bodyPost_ret (v := .bool false) (by simp [results, Try.results11, go_sem]) rfl ⟨by rw [HE.out], HB1.out⟩
  | true =>
    rw [c1] at HO
    by_cases c2 : (p.funcs.length : Int) < 1
    · have d2 : decide ((p.funcs.length : Int) < 1) = true := by simpa using c2
      have HE := Lib.hid (show gmayB p = false from by unfold gmayB; rw [if_neg (fun h => absurd c2 h.2.1)])
      clear c1 c2
      go_enter Try.func11, Try.ntmps11
      refine wp_letter (fun Q hQ => ?_)
      have HQ := Lib.hid hQ
      clear hQ
      go_wp2_with fail
      refine (HO.out _ (below1 w _)).mono ?_
      rintro e w1 ⟨rfl, hb1⟩
      have HB1 := Lib.hid ((below1 w (.cells #[.slice GA p.globs.length gc, .slice FA p.funcs.length fc, .int .i64 p.main] 35)).trans (hb1.mono (below1 w (.cells #[.slice GA p.globs.length gc, .slice FA p.funcs.length fc, .int .i64 p.main] 35)).size))
      have hg1 := HPB.out.below hb1 HPB.out.lt
      have HG1 := Lib.hid hg1
      have g0 := hg1.cell (j := 0) rfl
      have g1 := hg1.cell (j := 1) rfl
      have g2 := hg1.cell (j := 2) rfl
      have gl := hg1.lt
      clear hb1 hg1
      go_wp2_with fail
      refine HQ.out _ _ _ ?_
      exact bodyPost_ret (v := .bool false) (by simp [results, Try.results11, go_sem]) rfl ⟨by rw [HE.out], HB1.out⟩
    · have d2 : decide ((p.funcs.length : Int) < 1) = false := by simpa using c2
      by_cases c3 : (p.funcs.length : Int) > 8
      · have d3 : decide (8 < (p.funcs.length : Int)) = true := by simpa using c3
        have HE := Lib.hid (show gmayB p = false from by unfold gmayB; rw [if_neg (fun h => absurd c3 h.2.2.1)])
        clear c1 c2 c3
        go_enter Try.func11, Try.ntmps11
        refine wp_letter (fun Q hQ => ?_)
        have HQ := Lib.hid hQ
        clear hQ
        go_wp2_with fail
        refine (HO.out _ (below1 w _)).mono ?_
        rintro e w1 ⟨rfl, hb1⟩
        have HB1 := Lib.hid ((below1 w (.cells #[.slice GA p.globs.length gc, .slice FA p.funcs.length fc, .int .i64 p.main] 35)).trans (hb1.mono (below1 w (.cells #[.slice GA p.globs.length gc, .slice FA p.funcs.length fc, .int .i64 p.main] 35)).size))
        have hg1 := HPB.out.below hb1 HPB.out.lt
        have HG1 := Lib.hid hg1
        have g0 := hg1.cell (j := 0) rfl
        have g1 := hg1.cell (j := 1) rfl
        have g2 := hg1.cell (j := 2) rfl
        have gl := hg1.lt
        clear hb1 hg1
        go_wp2_with fail
        refine HQ.out _ _ _ ?_
        exact bodyPost_ret (v := .bool false) (by simp [results, Try.results11, go_sem]) rfl ⟨by rw [HE.out], HB1.out⟩
      · have d3 : decide (8 < (p.funcs.length : Int)) = false := by simpa using c3
        by_cases c4 : 0 ≤ p.main ∧ p.main < (p.funcs.length : Int)
        · rw [decide_eq_true c4] at HWI
          obtain ⟨mf, hmf'⟩ := Int.eq_ofNat_of_zero_le c4.1
          have hmf : mf < p.funcs.length := by omega
          have HMG := Lib.hid (List.getElem?_eq_getElem hmf)
          have hgd : p.funcs.getD p.main.toNat noGraph = p.funcs[mf] := by rw [hmf', Int.toNat_natCast, List.getD_eq_getElem?_getD, HMG.out]; rfl
          have hm0 : (0 : Int) ≤ (mf : Int) := by omega
          have hm1 : (mf : Int) < (p.funcs.length : Int) := by omega
          have hmay : gmayP p ↔ p.funcs[mf].params = 0 := by unfold gmayP; rw [hgd]; exact ⟨fun h => h.2.2.2.2, fun h => ⟨c1, c2, c3, c4, h⟩⟩
          have HMAY := Lib.hid hmay
          have HMF := Lib.hid hmf'
          rw [hmf'] at HWI HPB ⊢
          have HPV := Lib.hid (hmf' ▸ HP.out : ProgAt w B (.slice GA p.globs.length gc, .slice FA p.funcs.length fc, .int .i64 (mf : Nat)) p)
          clear hmay hgd hmf' c1 c2 c3 c4
          by_cases c5 : p.funcs[mf].params = 0
          · have d5 : (p.funcs[mf].params != 0) = false := by simpa using c5
            have HE := Lib.hid (show gmayB p = gfnsB p p.funcs from by unfold gmayB; rw [if_pos (HMAY.out.2 c5)])
            rw [HE.out]
            clear c5
            go_enter Try.func11, Try.ntmps11
            refine wp_letter (fun Q hQ => ?_)
            have HQ := Lib.hid hQ
            clear hQ
            go_wp2_with fail
            refine (HO.out _ (below1 w _)).mono ?_
            rintro e w1 ⟨rfl, hb1⟩
            have HB1 := Lib.hid ((below1 w (.cells #[.slice GA p.globs.length gc, .slice FA p.funcs.length fc, .int .i64 (mf : Nat)] 35)).trans (hb1.mono (below1 w (.cells #[.slice GA p.globs.length gc, .slice FA p.funcs.length fc, .int .i64 (mf : Nat)] 35)).size))
            have hg1 := HPB.out.below hb1 HPB.out.lt
            have HG1 := Lib.hid hg1
            have g0 := hg1.cell (j := 0) rfl
            have g1 := hg1.cell (j := 1) rfl
            have g2 := hg1.cell (j := 2) rfl
            have gl := hg1.lt
            clear hb1 hg1
            obtain ⟨gb, goff, g', hFA, hgb, hg', hGE⟩ := (HPV.out.2.1.below (HB1.out.mono hB) (Nat.le_refl _) (fun _ _ h => h.below (HB1.out.mono hB) (Nat.le_refl _))).get hmf
            subst hFA
            have y0 := hGE.1
            rw [HMG.out] at hg'
            injection hg' with hg'
            subst hg'
            simp only [Nat.add_zero] at y0
            have hgbl : gb < w1.heap.size := by have := HB1.out.size; omega
            clear hGE
            go_wp2_with fail
            refine (HWI.out _).mono ?_
            rintro e w' ⟨rfl, rfl⟩
            go_wp2_with fail
            go_loopw [44] (fun i wr => ∃ k : Nat, i = .int .i64 k ∧ k ≤ p.funcs.length ∧ gfnsB p (p.funcs.drop k) = gfnsB p p.funcs ∧ Below w.heap.size w wr ∧ Row wr w.heap.size #[.slice GA p.globs.length gc, .slice (some ⟨gb, goff, none⟩) p.funcs.length fc, .int .i64 (mf : Nat)] 35) (fun i _ => p.funcs.length - (intOf i).toNat)
            case atStart => exact ⟨0, rfl, by omega, rfl, HB1.out, HG1.out⟩
            case round =>
              obtain ⟨k, rfl, hk, hcs, hbw, hx⟩ := hrel
              have HCS := Lib.hid hcs
              have HBW := Lib.hid hbw
              have HXK := Lib.hid hx
              have p0 := hx.cell (j := 0) rfl
              have p1 := hx.cell (j := 1) rfl
              have p2 := hx.cell (j := 2) rfl
              have hxl := hx.lt
              have hzw := hbw.size
              clear hcs hx g0 g1 g2 gl y0
              by_cases hlt : k < p.funcs.length
              · obtain ⟨fb, foff, g, hFA, hfb, hfk, hGE⟩ := (HPV.out.2.1.below (hbw.mono hB) (Nat.le_refl _) (fun _ _ h => h.below (hbw.mono hB) (Nat.le_refl _))).get hlt
                injection hFA with hFA
                injection hFA with e1 e2
                subst e1 e2
                obtain ⟨z0, z1, ⟨lv, z2, hlv⟩, ⟨bv, z3, hbv⟩, _, _⟩ := hGE
                simp only [Nat.add_zero] at z0 z1 z2 z3
                obtain ⟨⟨LA, lc, hlv0, _⟩, ⟨BA, bc, hbv0, _⟩⟩ := And.intro hlv hbv
                subst hlv0 hbv0
                have hb2 := below2 wr (.cells #[.int .i64 g.params, .int .i64 g.temps, .slice LA g.locs.length lc, .slice BA g.blocks.length bc] 68) (.cells #[.slice GA p.globs.length gc, .slice (some ⟨gb, goff, none⟩) p.funcs.length fc, .int .i64 (mf : Nat), .int .i64 g.params, .int .i64 g.temps, .slice LA g.locs.length lc, .slice BA g.blocks.length bc, .int .i64 0] 76)
                have hfn2 := HPV.out.2.1.below ((HBW.out.trans (hb2.mono hzw)).mono hB) (Nat.le_refl _) (fun _ _ h => h.below ((HBW.out.trans (hb2.mono hzw)).mono hB) (Nat.le_refl _))
                have HFS := Lib.hid (gfn_any ⟨GA, p.globs.length, gc, some ⟨gb, goff, none⟩, p.funcs.length, fc, (mf : Nat), g.params, g.temps, LA, g.locs.length, lc, BA, g.blocks.length, bc⟩ (wr.heap.size + 1) p g B ((wr.alloc (.cells #[.int .i64 g.params, .int .i64 g.temps, .slice LA g.locs.length lc, .slice BA g.blocks.length bc] 68)).alloc (.cells #[.slice GA p.globs.length gc, .slice (some ⟨gb, goff, none⟩) p.funcs.length fc, .int .i64 (mf : Nat), .int .i64 g.params, .int .i64 g.temps, .slice LA g.locs.length lc, .slice BA g.blocks.length bc, .int .i64 0] 76)) (by simp; omega) (by omega) ⟨rfl, hfn2, rfl, rfl, rfl⟩ rfl
                  (hlv.below (hb2.mono (by omega)) (Nat.le_refl _) (fun _ _ h => h.below (hb2.mono (by omega)) (Nat.le_refl _))) (hbv.below (hb2.mono (by omega)) (Nat.le_refl _) (fun _ _ h => h.below (hb2.mono (by omega)) (Nat.le_refl _))) (Row.new' _ _ (by simp)) (HSL.out g (List.mem_of_getElem? hfk)))
                have HD := Lib.hid (show gfnsB p (p.funcs.drop k) = (gfnB p g && gfnsB p (p.funcs.drop (k + 1))) from by rw [drop_of hfk]; rfl)
                have HB2 := Lib.hid hb2
                have hkl : (k : Int) < (p.funcs.length : Int) := by omega
                have hfbl : gb < wr.heap.size := by omega
                clear hlv hbv hbw hfk hb2 hfn2
                cases hg1 : gfnB p g with
                | true =>
                  rw [hg1] at HFS HD
                  clear hg1
                  go_wp2_with fail
                  refine HFS.out.mono ?_
                  rintro e w9 ⟨rfl, hw9⟩
                  have HW9 := Lib.hid (HB2.out.trans (hw9.below (B := wr.heap.size) (by simp; omega) (fun k hk => by omega)))
                  clear hw9
                  go_wp2_with fail
                  go_roundw
                  case rel => exact ⟨k + 1, by go_num, by omega, by rw [← HCS.out, HD.out]; rfl, HBW.out.trans (HW9.out.mono hzw), HXK.out.below HW9.out HXK.out.lt⟩
                  case measure => simp [intOf]; omega
                | false =>
                  have H9 := Lib.hid (show gfnsB p p.funcs = false by rw [← HCS.out, HD.out, hg1]; rfl)
                  rw [hg1] at HFS
                  clear hg1
                  go_wp2_with fail
                  refine HFS.out.mono ?_
                  rintro e w9 ⟨rfl, hw9⟩
                  have HW9 := Lib.hid (HB2.out.trans (hw9.below (B := wr.heap.size) (by simp; omega) (fun k hk => by omega)))
                  clear hw9
                  go_wp2_with fail
                  refine HQ.out _ _ _ ?_
                  exact bodyPost_ret (v := .bool false) (by simp [results, Try.results11, go_sem]) rfl ⟨by rw [H9.out], HBW.out.trans (HW9.out.mono hzw)⟩
              · obtain rfl : k = p.funcs.length := by omega
                have H9 := Lib.hid (show gfnsB p p.funcs = true by rw [← HCS.out, drop_nil_of (Nat.le_refl _)]; rfl)
                go_wp2_with fail
                refine HQ.out _ _ _ ?_
                exact bodyPost_ret (v := .bool true) (by simp [results, Try.results11, go_sem]) rfl ⟨by rw [H9.out], HBW.out⟩
          · have d5 : (p.funcs[mf].params != 0) = true := by simpa using c5
            have HE := Lib.hid (show gmayB p = false from by unfold gmayB; rw [if_neg (fun h => c5 (HMAY.out.1 h))])
            clear c5
            go_enter Try.func11, Try.ntmps11
            refine wp_letter (fun Q hQ => ?_)
            have HQ := Lib.hid hQ
            clear hQ
            go_wp2_with fail
            refine (HO.out _ (below1 w _)).mono ?_
            rintro e w1 ⟨rfl, hb1⟩
            have HB1 := Lib.hid ((below1 w (.cells #[.slice GA p.globs.length gc, .slice FA p.funcs.length fc, .int .i64 (mf : Nat)] 35)).trans (hb1.mono (below1 w (.cells #[.slice GA p.globs.length gc, .slice FA p.funcs.length fc, .int .i64 (mf : Nat)] 35)).size))
            have hg1 := HPB.out.below hb1 HPB.out.lt
            have HG1 := Lib.hid hg1
            have g0 := hg1.cell (j := 0) rfl
            have g1 := hg1.cell (j := 1) rfl
            have g2 := hg1.cell (j := 2) rfl
            have gl := hg1.lt
            clear hb1 hg1
            obtain ⟨gb, goff, g', hFA, hgb, hg', hGE⟩ := (HPV.out.2.1.below (HB1.out.mono hB) (Nat.le_refl _) (fun _ _ h => h.below (HB1.out.mono hB) (Nat.le_refl _))).get hmf
            subst hFA
            have y0 := hGE.1
            rw [HMG.out] at hg'
            injection hg' with hg'
            subst hg'
            simp only [Nat.add_zero] at y0
            have hgbl : gb < w1.heap.size := by have := HB1.out.size; omega
            clear hGE
            go_wp2_with fail
            refine (HWI.out _).mono ?_
            rintro e w' ⟨rfl, rfl⟩
            go_wp2_with fail
            refine HQ.out _ _ _ ?_
            exact bodyPost_ret (v := .bool false) (by simp [results, Try.results11, go_sem]) rfl ⟨by rw [HE.out], HB1.out⟩
        · rw [decide_eq_false c4] at HWI
          have HE := Lib.hid (show gmayB p = false from by unfold gmayB; rw [if_neg (fun h => absurd h.2.2.2.1 c4)])
          clear c1 c2 c3 c4
          go_enter Try.func11, Try.ntmps11
          refine wp_letter (fun Q hQ => ?_)
          have HQ := Lib.hid hQ
          clear hQ
          go_wp2_with fail
          refine (HO.out _ (below1 w _)).mono ?_
          rintro e w1 ⟨rfl, hb1⟩
          have HB1 := Lib.hid ((below1 w (.cells #[.slice GA p.globs.length gc, .slice FA p.funcs.length fc, .int .i64 p.main] 35)).trans (hb1.mono (below1 w (.cells #[.slice GA p.globs.length gc, .slice FA p.funcs.length fc, .int .i64 p.main] 35)).size))
          have hg1 := HPB.out.below hb1 HPB.out.lt
          have HG1 := Lib.hid hg1
          have g0 := hg1.cell (j := 0) rfl
          have g1 := hg1.cell (j := 1) rfl
          have g2 := hg1.cell (j := 2) rfl
          have gl := hg1.lt
          clear hb1 hg1
          go_wp2_with fail
          refine (HWI.out _).mono ?_
          rintro e w' ⟨rfl, rfl⟩
          go_wp2_with fail
          refine HQ.out _ _ _ ?_
          exact bodyPost_ret (v := .bool false) (by simp [results, Try.results11, go_sem]) rfl ⟨by rw [HE.out], HB1.out⟩
end Go.Proofs.Ytikbdplllopjlaa
