/- The graph's asker: a function. Conditions: as stated. -/
import Derived.Test.YtikbdplllopjlaaGAskFZz
import Derived.Test.YtikbdplllopjlaaGObjsZz
set_option linter.unusedVariables false
set_option linter.unusedSimpArgs false
namespace Go.Proofs.Ytikbdplllopjlaa
open Go.RowKit

def gstepsB (p : ProgS) (g : GraphS) : List StepS → Int → Bool × Int
  | [], n => (true, n)
  | x :: l, n => if (gstepB p g n x).1 = true then gstepsB p g l (gstepB p g n x).2 else (false, (gstepB p g n x).2)
def gblocksB (p : ProgS) (g : GraphS) : List BlockS → Int → Int → Bool × Int
  | [], _, n => (true, n)
  | b :: l, s, n => if (gstepsB p g b.steps n).1 = true then (if s + b.steps.length > 2000 then (false, (gstepsB p g b.steps n).2) else if (gendB p g (gstepsB p g b.steps n).2 b).1 = true then gblocksB p g l (s + b.steps.length) (gendB p g (gstepsB p g b.steps n).2 b).2 else (false, (gendB p g (gstepsB p g b.steps n).2 b).2)) else (false, (gstepsB p g b.steps n).2)
def gheadP (g : GraphS) : Prop := ¬ g.params < 0 ∧ ¬ g.params > 4 ∧ ¬ g.params > g.temps ∧ ¬ g.temps > 1000 ∧ objsB g.locs 24 = true ∧ ¬ (g.blocks.length : Int) < 1 ∧ ¬ (g.blocks.length : Int) > 1000
instance (g : GraphS) : Decidable (gheadP g) := by unfold gheadP; exact inferInstance
def gfnB (p : ProgS) (g : GraphS) : Bool := if gheadP g then (gblocksB p g g.blocks 0 0).1 else false
theorem gtreesB_bd {na nb nc : Int} : ∀ (l : List T) {n : Int}, (gtreesB na nb nc l n).1 = true → 0 ≤ n → n ≤ 8000 → 0 ≤ (gtreesB na nb nc l n).2 ∧ (gtreesB na nb nc l n).2 ≤ 8000
  | [], n, _, h0, h1 => ⟨h0, h1⟩
  | k :: ks, n, h, h0, h1 => by
    rw [gtreesB] at h ⊢
    by_cases hk : (gtreeB na nb nc n k).1 = true
    · rw [if_pos hk] at h ⊢
      have hb := gtreeB_bd hk h0
      exact gtreesB_bd ks h hb.1 hb.2
    · rw [if_neg hk] at h
      cases h
theorem gstepB_bd {p : ProgS} {g : GraphS} {n : Int} {x : StepS} (h : (gstepB p g n x).1 = true) (h0 : 0 ≤ n) (h1 : n ≤ 8000) : 0 ≤ (gstepB p g n x).2 ∧ (gstepB p g n x).2 ≤ 8000 := by
  unfold gstepB at h ⊢
  split
  · exact ⟨h0, h1⟩
  · rename_i hc
    rw [if_neg hc] at h
    split
    · exact ⟨h0, h1⟩
    · rename_i hd
      rw [if_neg hd] at h
      exact gtreesB_bd _ h h0 h1
theorem gendB_bd {p : ProgS} {g : GraphS} {n : Int} {b : BlockS} (h : (gendB p g n b).1 = true) (h0 : 0 ≤ n) (h1 : n ≤ 8000) : 0 ≤ (gendB p g n b).2 ∧ (gendB p g n b).2 ≤ 8000 := by
  unfold gendB at h ⊢
  split
  · rename_i f1
    rw [if_pos f1] at h
    split <;> exact ⟨h0, h1⟩
  · rename_i f1
    rw [if_neg f1] at h
    split
    · rename_i f2
      rw [if_pos f2] at h
      split
      · rename_i f3
        rw [if_pos f3] at h
        exact gtreeB_bd h h0
      · exact ⟨h0, h1⟩
    · rename_i f2
      rw [if_neg f2] at h
      split
      · rename_i f3
        rw [if_pos f3] at h
        split
        · rename_i f4
          rw [if_pos f4] at h
          exact gtreeB_bd h h0
        · exact ⟨h0, h1⟩
      · exact ⟨h0, h1⟩
theorem gblocksB_cons {p : ProgS} {g : GraphS} {b : BlockS} {l : List BlockS} {s n m : Int} (h : gstepsB p g b.steps n = (true, m)) : gblocksB p g (b :: l) s n = if s + b.steps.length > 2000 then (false, m) else if (gendB p g m b).1 = true then gblocksB p g l (s + b.steps.length) (gendB p g m b).2 else (false, (gendB p g m b).2) := by
  rw [gblocksB, h]
  simp only [if_true]

set_option maxRecDepth 100000 in
set_option maxHeartbeats 32000000 in
theorem gfn_any (a : AskAt) (ab : Nat) (p : ProgS) (g : GraphS) (B : Nat) (w : World) (hB : B ≤ w.heap.size) (hab : B ≤ ab) (ha : AskOk w B a p g) (hap : a.params = g.params) (hL : SliceAt w B 3 (ObE w B) g.locs (.slice a.la a.nl a.lc)) (hK : SliceAt w B 7 (BlockE w B) g.blocks (.slice a.ba a.nb a.bc)) (hr : ARow w ab a 0) (hsl : ∀ b, b ∈ g.blocks → b.steps.length ≤ 200000000000000) :
    Calls Try.prog 20 #[.pointer (some ⟨ab, 0, none⟩)] w fun e w' => e = .returned (.bool (gfnB p g)) ∧ Wr (fun k => k = ab) w w' := by
  have HO := Lib.hid (fun W (hW : Below w.heap.size w W) => gobjs_any g.locs a.la a.nl a.lc 24 B W (by have := hW.size; omega) (hL.below (hW.mono hB) (Nat.le_refl _) (fun _ _ h => h.below (hW.mono hB) (Nat.le_refl _))))
  have HR := Lib.hid hr
  have HA := Lib.hid ha
  have HK := Lib.hid hK
  have HSL := Lib.hid hsl
  have hrl := Row.lt hr
  have hrl1 : ab < w.heap.size + 1 := by omega
  have hnbl := hK.len.2
  have hbl := ha.nb
  have htp := ha.temps
  have r3 : w.cell? ⟨ab, 3, none⟩ = some (.int .i64 a.params) := Row.cell hr rfl
  have r4 : w.cell? ⟨ab, 4, none⟩ = some (.int .i64 a.temps) := Row.cell hr rfl
  have r5 : w.cell? ⟨ab, 5, none⟩ = some (.slice a.la a.nl a.lc) := Row.cell hr rfl
  have r6 : w.cell? ⟨ab, 6, none⟩ = some (.slice a.ba a.nb a.bc) := Row.cell hr rfl
  have HGB := Lib.hid (Row.new w #[.int .i64 a.params, .int .i64 a.temps, .slice a.la a.nl a.lc, .slice a.ba a.nb a.bc] 68)
  have hhead : gheadP g ↔ (¬ a.params < 0 ∧ ¬ a.params > 4 ∧ ¬ a.params > a.temps ∧ ¬ a.temps > 1000 ∧ objsB g.locs 24 = true ∧ ¬ (a.nb : Int) < 1 ∧ ¬ (a.nb : Int) > 1000) := by unfold gheadP; rw [hap, htp, hbl]
  have HHEAD := Lib.hid hhead
  have hnbg : g.blocks.length ≤ 9223372036854775807 := by omega
  clear hL hK hr ha hsl hhead hap hbl htp
  by_cases c1 : a.params < 0
  · have d1 : decide (a.params < 0) = true := by simpa using c1
    have HE := Lib.hid (show gfnB p g = false from by unfold gfnB; rw [if_neg (fun h => absurd c1 (HHEAD.out.1 h).1)])
    clear c1
    go_enter Try.func20, Try.ntmps20
    refine wp_letter (fun Q hQ => ?_)
    have HQ := Lib.hid hQ
    clear hQ
    go_wp2_with fail
    refine HQ.out _ _ _ ?_
    exact bodyPost_ret (v := .bool false) (by simp [results, Try.results20, go_sem]) rfl ⟨by rw [HE.out], Wr.of_below (below1 _ _)⟩
  · have d1 : decide (a.params < 0) = false := by simpa using c1
    by_cases c2 : a.params > 4
    · have d2 : decide (4 < a.params) = true := by simpa using c2
      have HE := Lib.hid (show gfnB p g = false from by unfold gfnB; rw [if_neg (fun h => absurd c2 (HHEAD.out.1 h).2.1)])
      clear c1 c2
      go_enter Try.func20, Try.ntmps20
      refine wp_letter (fun Q hQ => ?_)
      have HQ := Lib.hid hQ
      clear hQ
      go_wp2_with fail
      refine HQ.out _ _ _ ?_
      exact bodyPost_ret (v := .bool false) (by simp [results, Try.results20, go_sem]) rfl ⟨by rw [HE.out], Wr.of_below (below1 _ _)⟩
    · have d2 : decide (4 < a.params) = false := by simpa using c2
      by_cases c3 : a.params > a.temps
      · have d3 : decide (a.temps < a.params) = true := by simpa using c3
        have HE := Lib.hid (show gfnB p g = false from by unfold gfnB; rw [if_neg (fun h => absurd c3 (HHEAD.out.1 h).2.2.1)])
        clear c1 c2 c3
        go_enter Try.func20, Try.ntmps20
        refine wp_letter (fun Q hQ => ?_)
        have HQ := Lib.hid hQ
        clear hQ
        go_wp2_with fail
        refine HQ.out _ _ _ ?_
        exact bodyPost_ret (v := .bool false) (by simp [results, Try.results20, go_sem]) rfl ⟨by rw [HE.out], Wr.of_below (below1 _ _)⟩
      · have d3 : decide (a.temps < a.params) = false := by simpa using c3
        by_cases c4 : a.temps > 1000
        · have d4 : decide (1000 < a.temps) = true := by simpa using c4
          have HE := Lib.hid (show gfnB p g = false from by unfold gfnB; rw [if_neg (fun h => absurd c4 (HHEAD.out.1 h).2.2.2.1)])
          clear c1 c2 c3 c4
          go_enter Try.func20, Try.ntmps20
          refine wp_letter (fun Q hQ => ?_)
          have HQ := Lib.hid hQ
          clear hQ
          go_wp2_with fail
          refine HQ.out _ _ _ ?_
          exact bodyPost_ret (v := .bool false) (by simp [results, Try.results20, go_sem]) rfl ⟨by rw [HE.out], Wr.of_below (below1 _ _)⟩
        · have d4 : decide (1000 < a.temps) = false := by simpa using c4
          cases c5 : objsB g.locs 24 with
          | false =>
            rw [c5] at HO
            have HE := Lib.hid (show gfnB p g = false from by unfold gfnB; rw [if_neg (fun h => absurd (HHEAD.out.1 h).2.2.2.2.1 (by rw [c5]; decide))])
            clear c1 c2 c3 c4 c5
            go_enter Try.func20, Try.ntmps20
            refine wp_letter (fun Q hQ => ?_)
            have HQ := Lib.hid hQ
            clear hQ
            go_wp2_with fail
            refine (HO.out _ (below1 w _)).mono ?_
            rintro e w1 ⟨rfl, hb1⟩
            have HB1 := Lib.hid ((below1 w (.cells #[.int .i64 a.params, .int .i64 a.temps, .slice a.la a.nl a.lc, .slice a.ba a.nb a.bc] 68)).trans (hb1.mono (below1 w (.cells #[.int .i64 a.params, .int .i64 a.temps, .slice a.la a.nl a.lc, .slice a.ba a.nb a.bc] 68)).size))
            have hg1 := HGB.out.below hb1 HGB.out.lt
            have HG1 := Lib.hid hg1
            have g0 := hg1.cell (j := 0) rfl
            have g1 := hg1.cell (j := 1) rfl
            have g2 := hg1.cell (j := 2) rfl
            have g3 := hg1.cell (j := 3) rfl
            have gl := hg1.lt
            clear hb1 hg1
            go_wp2_with fail
            refine HQ.out _ _ _ ?_
            exact bodyPost_ret (v := .bool false) (by simp [results, Try.results20, go_sem]) rfl ⟨by rw [HE.out], Wr.of_below HB1.out⟩
          | true =>
            rw [c5] at HO
            by_cases c6 : (a.nb : Int) < 1
            · have d6 : decide ((a.nb : Int) < 1) = true := by simpa using c6
              have HE := Lib.hid (show gfnB p g = false from by unfold gfnB; rw [if_neg (fun h => absurd c6 (HHEAD.out.1 h).2.2.2.2.2.1)])
              clear c1 c2 c3 c4 c5 c6
              go_enter Try.func20, Try.ntmps20
              refine wp_letter (fun Q hQ => ?_)
              have HQ := Lib.hid hQ
              clear hQ
              go_wp2_with fail
              refine (HO.out _ (below1 w _)).mono ?_
              rintro e w1 ⟨rfl, hb1⟩
              have HB1 := Lib.hid ((below1 w (.cells #[.int .i64 a.params, .int .i64 a.temps, .slice a.la a.nl a.lc, .slice a.ba a.nb a.bc] 68)).trans (hb1.mono (below1 w (.cells #[.int .i64 a.params, .int .i64 a.temps, .slice a.la a.nl a.lc, .slice a.ba a.nb a.bc] 68)).size))
              have hg1 := HGB.out.below hb1 HGB.out.lt
              have HG1 := Lib.hid hg1
              have g0 := hg1.cell (j := 0) rfl
              have g1 := hg1.cell (j := 1) rfl
              have g2 := hg1.cell (j := 2) rfl
              have g3 := hg1.cell (j := 3) rfl
              have gl := hg1.lt
              clear hb1 hg1
              go_wp2_with fail
              refine HQ.out _ _ _ ?_
              exact bodyPost_ret (v := .bool false) (by simp [results, Try.results20, go_sem]) rfl ⟨by rw [HE.out], Wr.of_below HB1.out⟩
            · have d6 : decide ((a.nb : Int) < 1) = false := by simpa using c6
              by_cases c7 : (a.nb : Int) > 1000
              · have d7 : decide (1000 < (a.nb : Int)) = true := by simpa using c7
                have HE := Lib.hid (show gfnB p g = false from by unfold gfnB; rw [if_neg (fun h => absurd c7 (HHEAD.out.1 h).2.2.2.2.2.2)])
                clear c1 c2 c3 c4 c5 c6 c7
                go_enter Try.func20, Try.ntmps20
                refine wp_letter (fun Q hQ => ?_)
                have HQ := Lib.hid hQ
                clear hQ
                go_wp2_with fail
                refine (HO.out _ (below1 w _)).mono ?_
                rintro e w1 ⟨rfl, hb1⟩
                have HB1 := Lib.hid ((below1 w (.cells #[.int .i64 a.params, .int .i64 a.temps, .slice a.la a.nl a.lc, .slice a.ba a.nb a.bc] 68)).trans (hb1.mono (below1 w (.cells #[.int .i64 a.params, .int .i64 a.temps, .slice a.la a.nl a.lc, .slice a.ba a.nb a.bc] 68)).size))
                have hg1 := HGB.out.below hb1 HGB.out.lt
                have HG1 := Lib.hid hg1
                have g0 := hg1.cell (j := 0) rfl
                have g1 := hg1.cell (j := 1) rfl
                have g2 := hg1.cell (j := 2) rfl
                have g3 := hg1.cell (j := 3) rfl
                have gl := hg1.lt
                clear hb1 hg1
                go_wp2_with fail
                refine HQ.out _ _ _ ?_
                exact bodyPost_ret (v := .bool false) (by simp [results, Try.results20, go_sem]) rfl ⟨by rw [HE.out], Wr.of_below HB1.out⟩
              · have d7 : decide (1000 < (a.nb : Int)) = false := by simpa using c7
                have HE := Lib.hid (show gfnB p g = (gblocksB p g g.blocks 0 0).1 from by unfold gfnB; rw [if_pos (HHEAD.out.2 ⟨c1, c2, c3, c4, c5, c6, c7⟩)])
                rw [HE.out]
                clear c1 c2 c3 c4 c5 c6
                go_enter Try.func20, Try.ntmps20
                refine wp_letter (fun Q hQ => ?_)
                have HQ := Lib.hid hQ
                clear hQ
                go_wp2_with fail
                refine (HO.out _ (below1 w _)).mono ?_
                rintro e w1 ⟨rfl, hb1⟩
                have HB1 := Lib.hid ((below1 w (.cells #[.int .i64 a.params, .int .i64 a.temps, .slice a.la a.nl a.lc, .slice a.ba a.nb a.bc] 68)).trans (hb1.mono (below1 w (.cells #[.int .i64 a.params, .int .i64 a.temps, .slice a.la a.nl a.lc, .slice a.ba a.nb a.bc] 68)).size))
                have hg1 := HGB.out.below hb1 HGB.out.lt
                have HG1 := Lib.hid hg1
                have g0 := hg1.cell (j := 0) rfl
                have g1 := hg1.cell (j := 1) rfl
                have g2 := hg1.cell (j := 2) rfl
                have g3 := hg1.cell (j := 3) rfl
                have gl := hg1.lt
                clear hb1 hg1
                go_wp2_with fail
                go_loopw [4, 54] (fun s i wr => ∃ (k : Nat) (s' m : Int), s = .int .i64 s' ∧ i = .int .i64 k ∧ k ≤ a.nb ∧ 0 ≤ s' ∧ s' ≤ 2000 ∧ 0 ≤ m ∧ m ≤ 8000 ∧ gblocksB p g (g.blocks.drop k) s' m = gblocksB p g g.blocks 0 0 ∧ ARow wr ab a m ∧ Wr (fun k => k = ab) w wr) (fun _ i _ => a.nb - (intOf i).toNat)
                case atStart => exact ⟨0, 0, 0, rfl, rfl, by omega, by omega, by omega, by omega, by omega, rfl, HR.out.below HB1.out, Wr.of_below HB1.out⟩
                case round =>
                  obtain ⟨k, s, m, rfl, rfl, hk, hs0, hs1, hm0, hm1, hcs, hrm, hwr⟩ := hrel
                  have HCS := Lib.hid hcs
                  have HWR := Lib.hid hwr
                  have HRM := Lib.hid hrm
                  have hzw := hwr.size
                  have hBw : Below B w wr := hwr.below hB (fun k hk => by omega)
                  have HBW := Lib.hid hBw
                  clear hcs g0 g1 g2 g3 gl
                  by_cases hlt : k < a.nb
                  · obtain ⟨bb, boff, b, hba, hbb, hbk, ⟨sv, b0, hsv⟩, b1, ⟨cv0, cv1, cv2, b2, b3, b4, hct⟩, b5, b6, _, _, _⟩ := (HK.out.below hBw (Nat.le_refl _) (fun _ _ h => h.below hBw (Nat.le_refl _))).get hlt
                    simp only [Nat.add_zero] at b0 b1 b2 b3 b4 b5 b6
                    obtain ⟨SA, sl, sc, hsv', hsle⟩ : ∃ SA sl sc, sv = .slice SA sl sc ∧ b.steps.length = sl := (by obtain ⟨A', c', h, _⟩ := hsv; exact ⟨_, _, _, h, rfl⟩)
                    subst hsv'
                    obtain ⟨ca, cb, CA, cl, cc, rfl, rfl, rfl⟩ := hct.shape0
                    have hsl : sl ≤ 200000000000000 := by have := HSL.out b (List.mem_of_getElem? hbk); omega
                    have HSV := Lib.hid hsv
                    have HCT := Lib.hid hct
                    have HBK := Lib.hid hbk
                    have HSLE := Lib.hid hsle
                    have hkb : (k : Int) < (a.nb : Int) := by omega
                    have hbbl : bb < wr.heap.size := by omega
                    have habl : ab < wr.heap.size := Row.lt hrm
                    rw [hba]
                    clear hsv hct hbk hBw hrm hwr hsle
                    go_wp2_with fail
                    obtain ⟨w4, rfl⟩ : ∃ w4 : World, w4 = wr := ⟨_, rfl⟩
                    go_loopw [66] (fun i w5 => ∃ (j : Nat) (m2 : Int), i = .int .i64 j ∧ j ≤ sl ∧ 0 ≤ m2 ∧ m2 ≤ 8000 ∧ gstepsB p g (b.steps.drop j) m2 = gstepsB p g b.steps m ∧ ARow w5 ab a m2 ∧ Wr (fun k => k = ab) w w5 ∧ Row w5 w4.heap.size #[.slice SA sl sc, .int .i64 b.fin, .int .i64 ca, .int .i64 cb, .slice CA cl cc, .int .i64 b.next, .int .i64 b.els] 65 ∧ Below B w4 w5) (fun i _ => sl - (intOf i).toNat)
                    case atStart => exact ⟨0, m, rfl, by omega, hm0, hm1, rfl, HRM.out.alloc _, HWR.out.trans (Wr.of_below (F := fun _ => False) (below1 w4 _)) (fun _ h => h.elim), Row.new w4 _ _, (below1 w4 _).mono (by omega)⟩
                    case round =>
                      obtain ⟨j, m2, rfl, hj, hm20, hm21, hcs2, hrm2, hwr2, hbx2, hw45⟩ := hrel
                      have HCS2 := Lib.hid hcs2
                      have HWR2 := Lib.hid hwr2
                      have HRM2 := Lib.hid hrm2
                      have HBX2 := Lib.hid hbx2
                      have hz5 := hwr2.size
                      have hz6 := hbx2.lt
                      have hB5 : Below B w wr := hwr2.below hB (fun k hk => by omega)
                      have HB5 := Lib.hid hB5
                      have hB45 : Below B w4 wr := hw45
                      have HB45 := Lib.hid hB45
                      clear hcs2 b0 b1 b2 b3 b4 b5 b6
                      by_cases hlt2 : j < sl
                      · obtain ⟨xb, xoff, x, rfl, hxb, hxk, x0, x1, x2, x3, ⟨xv, x4, hxt⟩, _, _, _, hfn⟩ := (HSV.out.below hB45 (Nat.le_refl _) (fun _ _ h => h.below hB45 (Nat.le_refl _))).get hlt2
                        obtain ⟨XA, xn, xc, rfl, hxkv⟩ := hxt
                        simp only [Nat.add_zero] at x0 x1 x2 x3 x4
                        have HXK := Lib.hid hxk
                        have HST := Lib.hid (gstepc_any a ab m2 p g x XA xn xc B (wr.alloc (.cells #[.int .i64 x.op, .int .i64 x.to, .int .i64 x.size, .int .i64 x.fn, .slice XA xn xc] 71)) (by simp; omega) hab (HA.out.below (hB5.trans ((below1 wr _).mono (by omega)))) (hrm2.below (below1 wr _)) hm20 hm21 (hxkv.below ((below1 wr _).mono (by omega)) (Nat.le_refl _)) hfn)
                        simp only [AskSays] at HST
                        have hjl : (j : Int) < (sl : Int) := by omega
                        have hxbl : xb < wr.heap.size := by omega
                        skip
                        clear hxk hxkv hfn hrm2 hwr2 hbx2 hB5
                        cases hg1 : (gstepB p g m2 x).1 with
                        | true =>
                          have HG9 := Lib.hid hg1
                          have hbd := gstepB_bd hg1 hm20 hm21
                          rw [hg1] at HST
                          clear hg1
                          go_wp2_with fail
                          refine HST.out.mono ?_
                          rintro e w9 ⟨rfl, hr9, hw9⟩
                          have HR9 := Lib.hid hr9
                          have HW9' := Lib.hid ((Wr.of_below (F := fun k => k = ab) (below1 wr (.cells #[.int .i64 x.op, .int .i64 x.to, .int .i64 x.size, .int .i64 x.fn, .slice XA xn xc] 71))).trans hw9 (fun _ h => Or.inl h))
                          clear hr9 hw9
                          go_wp2_with fail
                          go_roundw
                          case rel => exact ⟨j + 1, (gstepB p g m2 x).2, by go_num, by omega, hbd.1, hbd.2, by have h9 := HCS2.out; rw [drop_of HXK.out, gstepsB, if_pos HG9.out] at h9; exact h9, HR9.out, HWR2.out.trans HW9'.out (fun _ h => Or.inl h), HBX2.out.wr HW9'.out (fun h => by omega), HB45.out.trans (HW9'.out.below (by omega) (fun k hk => by omega))⟩
                          case measure => simp [intOf]; omega
                        | false =>
                          have HG9 := Lib.hid hg1
                          rw [hg1] at HST
                          clear hg1
                          go_wp2_with fail
                          refine HST.out.mono ?_
                          rintro e w9 ⟨rfl, hr9, hw9⟩
                          have HW9' := Lib.hid ((Wr.of_below (F := fun k => k = ab) (below1 wr (.cells #[.int .i64 x.op, .int .i64 x.to, .int .i64 x.size, .int .i64 x.fn, .slice XA xn xc] 71))).trans hw9 (fun _ h => Or.inl h))
                          clear hr9 hw9
                          go_wp2_with fail
                          have h8 : gstepsB p g b.steps m = (false, (gstepB p g m2 x).2) := by rw [← HCS2.out, drop_of HXK.out, gstepsB, if_neg (by rw [HG9.out]; simp)]
                          have h9 : (gblocksB p g g.blocks 0 0).1 = false := by rw [← HCS.out, drop_of HBK.out, gblocksB, h8]; simp
                          have H9 := Lib.hid h9
                          clear h8 h9
                          refine HQ.out _ _ _ ?_
                          exact bodyPost_ret (v := .bool false) (by simp [results, Try.results20, go_sem]) rfl ⟨by rw [H9.out], HWR2.out.trans HW9'.out (fun _ h => Or.inl h)⟩
                      · obtain rfl : j = sl := by omega
                        have h8 : gstepsB p g b.steps m = (true, m2) := by rw [← HCS2.out, drop_nil_of (by have := HSLE.out; omega), gstepsB]
                        have h7 : gblocksB p g g.blocks 0 0 = if s + b.steps.length > 2000 then (false, m2) else if (gendB p g m2 b).1 = true then gblocksB p g (g.blocks.drop (k + 1)) (s + b.steps.length) (gendB p g m2 b).2 else (false, (gendB p g m2 b).2) := by rw [← HCS.out, drop_of HBK.out, gblocksB_cons h8]
                        rw [HSLE.out] at h7
                        have H7 := Lib.hid h7
                        have HED := Lib.hid (gend_ask a ab m2 p g b (.slice SA j sc) CA cl cc ca cb B wr (by omega) hab (HA.out.below hB5) hrm2 hm20 hm21 ⟨_, _, _, rfl⟩ (HCT.out.below HB45.out (Nat.le_refl _)) hnbg)
                        simp only [AskSays] at HED
                        have y0 := hbx2.cell (j := 0) rfl
                        have y1 := hbx2.cell (j := 1) rfl
                        have y2 := hbx2.cell (j := 2) rfl
                        have y3 := hbx2.cell (j := 3) rfl
                        have y4 := hbx2.cell (j := 4) rfl
                        have y5 := hbx2.cell (j := 5) rfl
                        have y6 := hbx2.cell (j := 6) rfl
                        clear h8 h7 hrm2 hwr2 hbx2 hB5
                        by_cases c8 : s + (j : Int) > 2000
                        · have d8 : decide (2000 < s + (j : Int)) = true := by simpa using c8
                          have H9 := Lib.hid (show (gblocksB p g g.blocks 0 0).1 = false by rw [H7.out, if_pos c8])
                          clear c8
                          go_wp2_with fail
                          refine HQ.out _ _ _ ?_
                          exact bodyPost_ret (v := .bool false) (by simp [results, Try.results20, go_sem]) rfl ⟨by rw [H9.out], HWR2.out⟩
                        · have d8 : decide (2000 < s + (j : Int)) = false := by simpa using c8
                          have H8 := Lib.hid (H7.out.trans (if_neg c8))
                          have hs9 : s + (j : Int) ≤ 2000 := by omega
                          clear c8
                          cases hg1 : (gendB p g m2 b).1 with
                          | true =>
                            have hbd := gendB_bd hg1 hm20 hm21
                            have HG9 := Lib.hid hg1
                            rw [hg1] at HED
                            clear hg1
                            go_wp2_with fail
                            refine HED.out.mono ?_
                            rintro e w9 ⟨rfl, hr9, hw9⟩
                            have HR9 := Lib.hid hr9
                            have HW9' := Lib.hid hw9
                            clear hr9 hw9
                            go_wp2_with fail
                            go_roundw
                            case rel => exact ⟨k + 1, s + (j : Int), (gendB p g m2 b).2, by go_num, by go_num, by omega, by omega, by omega, hbd.1, hbd.2, by have h9 := H8.out; rw [if_pos HG9.out] at h9; exact h9.symm, HR9.out, HWR2.out.trans HW9'.out (fun _ h => Or.inl h)⟩
                            case measure => simp [intOf]; omega
                          | false =>
                            have H9 := Lib.hid (show (gblocksB p g g.blocks 0 0).1 = false by rw [H8.out, if_neg (by rw [hg1]; simp)])
                            rw [hg1] at HED
                            clear hg1
                            go_wp2_with fail
                            refine HED.out.mono ?_
                            rintro e w9 ⟨rfl, hr9, hw9⟩
                            have HW9' := Lib.hid hw9
                            clear hr9 hw9
                            go_wp2_with fail
                            refine HQ.out _ _ _ ?_
                            exact bodyPost_ret (v := .bool false) (by simp [results, Try.results20, go_sem]) rfl ⟨by rw [H9.out], HWR2.out.trans HW9'.out (fun _ h => Or.inl h)⟩
                  · obtain rfl : k = a.nb := by omega
                    have H9 := Lib.hid (show (gblocksB p g g.blocks 0 0).1 = true by rw [← HCS.out, drop_nil_of (by have := HA.out.nb; omega), gblocksB])
                    clear hrm hwr hBw
                    go_wp2_with fail
                    refine HQ.out _ _ _ ?_
                    exact bodyPost_ret (v := .bool true) (by simp [results, Try.results20, go_sem]) rfl ⟨by rw [H9.out], HWR.out⟩
end Go.Proofs.Ytikbdplllopjlaa
