/- ProgWeight: it answers some number. Conditions: as stated. -/
import Derived.Test.YtikbdplllopjlaaQ12Zz
import Derived.Test.YtikbdplllopjlaaQ02Zz
set_option linter.unusedVariables false
set_option linter.unusedSimpArgs false
namespace Go.Proofs.Ytikbdplllopjlaa
open Go.RowKit

theorem ProgAt.shape0 {w : World} {B : Nat} {P : Value × Value × Value} {p : ProgS} (h : ProgAt w B P p) : ∃ GA gc FA fc, P = (.slice GA p.globs.length gc, .slice FA p.funcs.length fc, .int .i64 p.main) := by
  obtain ⟨P0, P1, P2⟩ := P
  obtain ⟨⟨A, c, h0, _⟩, ⟨A', c', h1, _⟩, h2, _⟩ := h
  simp only at h0 h1 h2
  exact ⟨_, _, _, _, by rw [h0, h1, h2]⟩

set_option maxRecDepth 100000 in
set_option maxHeartbeats 32000000 in
theorem pwgt_any (p : ProgS) (P : Value × Value × Value) (B : Nat) (w : World) (hB : B ≤ w.heap.size) (hP : ProgAt w B P p) (hgl : p.globs.length ≤ 200000000000000) (hlo : ∀ g, g ∈ p.funcs → g.locs.length ≤ 200000000000000) :
    Calls Try.prog 10 #[.agg #[P.1, P.2.1, P.2.2]] w fun e w' => ∃ n : Int, e = .returned (.int .i64 n) ∧ 0 ≤ n ∧ n ≤ 1000000000000000 ∧ Below w.heap.size w w' := by
  obtain ⟨GA, gc, FA, fc, rfl⟩ := hP.shape0
  have hfl := hP.2.1.len.2
  have HP := Lib.hid hP
  have HLO := Lib.hid hlo
  clear hP hlo
  go_enter Try.func10, Try.ntmps10
  refine wp_letter (fun Q hQ => ?_)
  have HQ := Lib.hid hQ
  clear hQ
  go_wp2_with fail
  go_loopw [3, 4] (fun nn i wr => ∃ (k : Nat) (n : Int), nn = .int .i64 n ∧ i = .int .i64 k ∧ k ≤ p.funcs.length ∧ 0 ≤ n ∧ n ≤ 1000000000000000 ∧ Below w.heap.size w wr ∧ Row wr w.heap.size #[.slice GA p.globs.length gc, .slice FA p.funcs.length fc, .int .i64 p.main] 35) (fun _ i _ => p.funcs.length - (intOf i).toNat)
  case atStart => exact ⟨0, p.globs.length, rfl, rfl, by omega, by omega, by omega, below1 w _, Row.new w _ _⟩
  case round =>
    obtain ⟨k1, n1, rfl, rfl, hk1, hn01, hn11, hb1, hp1⟩ := hrel
    obtain ⟨w1, rfl⟩ : ∃ w1 : World, w1 = wr := ⟨_, rfl⟩
    have hz1 := hb1.size
    have HB1 := Lib.hid hb1
    clear hb1
    have HP1 := Lib.hid hp1
    clear hp1
    have p1 := HP1.out.cell (j := 1) rfl
    have pl := HP1.out.lt
    by_cases hgo : k1 < p.funcs.length ∧ n1 < 1048576
    · obtain ⟨hlt1, hnl1⟩ := hgo
      have hd3 : decide ((k1 : Int) < (p.funcs.length : Int)) = true := by simpa using hlt1
      have hd4 : decide (n1 < 1048576) = true := by simpa using hnl1
      have hkl1 : (k1 : Int) < (p.funcs.length : Int) := by omega
      obtain ⟨fb, foff, g, hfa, hfb, hfk, z0, z1, ⟨lv, z2, hlv⟩, ⟨bv, z3, hbv⟩, _, _⟩ := HP.out.2.1.get hlt1
      subst hfa
      obtain ⟨⟨LA, lc, hlv0, _⟩, ⟨BA, bc, hbv0, _⟩⟩ := And.intro hlv hbv
      subst hlv0 hbv0
      have hll := HLO.out g (List.mem_of_getElem? hfk)
      have hblen := hbv.len.2
      have HBL := Lib.hid hbv
      have HG := Lib.hid (fun (W : World) (hW : Below w.heap.size w W) => (⟨(hW.cell (p := ⟨fb, _, none⟩) (show fb < w.heap.size by omega)).trans z2, (hW.cell (p := ⟨fb, _, none⟩) (show fb < w.heap.size by omega)).trans z3⟩ : W.cell? ⟨fb, foff + k1 * 4 + 2, none⟩ = some (.slice LA g.locs.length lc) ∧ W.cell? ⟨fb, foff + k1 * 4 + 3, none⟩ = some (.slice BA g.blocks.length bc)))
      have z2' := (HG.out w1 HB1.out).1
      have hfbl : fb < w1.heap.size := by omega
      clear hlv hbv hfk z0 z1 z2 z3
      go_wp2_with fail
      go_loopw [3, 5] (fun nn i wr => ∃ (k : Nat) (n : Int), nn = .int .i64 n ∧ i = .int .i64 k ∧ k ≤ g.blocks.length ∧ 0 ≤ n ∧ n ≤ 1000000000000000 ∧ Below w.heap.size w wr ∧ Row wr w.heap.size #[.slice GA p.globs.length gc, .slice (some ⟨fb, foff, none⟩) p.funcs.length fc, .int .i64 p.main] 35) (fun _ i _ => g.blocks.length - (intOf i).toNat)
      case atStart => exact ⟨0, n1 + 1 + g.locs.length, rfl, rfl, by omega, by omega, by omega, HB1.out, HP1.out⟩
      case round =>
        obtain ⟨k2, n2, rfl, rfl, hk2, hn02, hn12, hb2, hp2⟩ := hrel
        obtain ⟨w2, rfl⟩ : ∃ w2 : World, w2 = wr := ⟨_, rfl⟩
        have hz2 := hb2.size
        have HB2 := Lib.hid hb2
        clear hb2
        have HP2 := Lib.hid hp2
        clear hp2
        have p1 := HP2.out.cell (j := 1) rfl
        have pl := HP2.out.lt
        have z3 := (HG.out w2 HB2.out).2
        have hfbl2 : fb < w2.heap.size := by omega
        have hkl1' : (k1 : Int) < (p.funcs.length : Int) := by omega
        by_cases hgo : k2 < g.blocks.length ∧ n2 < 1048576
        · obtain ⟨hlt2, hnl2⟩ := hgo
          have hd3 : decide ((k2 : Int) < (g.blocks.length : Int)) = true := by simpa using hlt2
          have hd4 : decide (n2 < 1048576) = true := by simpa using hnl2
          have hkl2 : (k2 : Int) < (g.blocks.length : Int) := by omega
          obtain ⟨bb, boff, b, hba, hbb, hbk, ⟨sv, b0, hsv⟩, b1, ⟨cv0, cv1, cv2, b2, b3, b4, hct⟩, b5, b6, _, _, _⟩ := HBL.out.get hlt2
          subst hba
          obtain ⟨SA, sc, hsv'⟩ : ∃ SA sc, sv = .slice SA b.steps.length sc := (by obtain ⟨A', c', h, _⟩ := hsv; exact ⟨_, _, h⟩)
          subst hsv'
          obtain ⟨ca, cb, CA, cl, cc, rfl, rfl, rfl⟩ := hct.shape0
          have hsl := hsv.len.2
          have HS := Lib.hid (fun (W : World) (hW : Below w.heap.size w W) => hsv.below (hW.mono hB) (Nat.le_refl _) (fun _ _ h => h.below (hW.mono hB) (Nat.le_refl _)))
          simp only [Nat.add_zero] at b0 b1 b2 b3 b4 b5 b6
          have KB : ∀ (j : Nat) (v : Value), w.cell? ⟨bb, j, none⟩ = some v → w2.cell? ⟨bb, j, none⟩ = some v := fun j v h => (HB2.out.cell (p := ⟨bb, j, none⟩) (show bb < w.heap.size by omega)).trans h
          replace b0 := KB _ _ b0
          replace b1 := KB _ _ b1
          replace b2 := KB _ _ b2
          replace b3 := KB _ _ b3
          replace b4 := KB _ _ b4
          replace b5 := KB _ _ b5
          replace b6 := KB _ _ b6
          have hbd := wgt_bd b.cond 100 (by omega)
          have hwb := below1 w2 (.cells #[.slice SA b.steps.length sc, .int .i64 b.fin, .int .i64 ca, .int .i64 cb, .slice CA cl cc, .int .i64 b.next, .int .i64 b.els] 65)
          have HWB := Lib.hid (HB2.out.trans (hwb.mono hz2))
          have HC := Lib.hid (wgt_all b.cond.size b.cond 100 B (w2.alloc (.cells #[.slice SA b.steps.length sc, .int .i64 b.fin, .int .i64 ca, .int .i64 cb, .slice CA cl cc, .int .i64 b.next, .int .i64 b.els] 65)) _ _ _ (Nat.le_refl _) (by simp; omega) (hct.below ((HB2.out.trans (hwb.mono hz2)).mono hB) (Nat.le_refl _)) (by omega) (by omega))
          obtain ⟨q2, hq⟩ : ∃ q, q = wgt b.cond 100 := ⟨_, rfl⟩
          rw [← hq] at HC hbd
          obtain ⟨hbd0, hbd1⟩ := hbd
          have hbbl : bb < w2.heap.size := by omega
          clear hq hct hsv hbk hwb KB
          go_wp2_with fail
          refine HC.out.mono ?_
          rintro e w9 ⟨rfl, hb9⟩
          have HB9 := Lib.hid (HWB.out.trans (hb9.mono HWB.out.size))
          have HP9 := Lib.hid ((HP2.out.alloc (.cells #[.slice SA b.steps.length sc, .int .i64 b.fin, .int .i64 ca, .int .i64 cb, .slice CA cl cc, .int .i64 b.next, .int .i64 b.els] 65)).below hb9 (by have := HP2.out.lt; simp; omega))
          have HBB9 := Lib.hid ((Row.new w2 #[.slice SA b.steps.length sc, .int .i64 b.fin, .int .i64 ca, .int .i64 cb, .slice CA cl cc, .int .i64 b.next, .int .i64 b.els] 65).below hb9 (by simp))
          clear hb9
          go_wp2_with fail
          go_loopw [3, 7] (fun nn i wr => ∃ (k : Nat) (n : Int), nn = .int .i64 n ∧ i = .int .i64 k ∧ k ≤ b.steps.length ∧ 0 ≤ n ∧ n ≤ 1000000000000000 ∧ Below w.heap.size w wr ∧ Row wr w.heap.size #[.slice GA p.globs.length gc, .slice (some ⟨fb, foff, none⟩) p.funcs.length fc, .int .i64 p.main] 35 ∧ Row wr w2.heap.size #[.slice SA b.steps.length sc, .int .i64 b.fin, .int .i64 ca, .int .i64 cb, .slice CA cl cc, .int .i64 b.next, .int .i64 b.els] 65) (fun _ i _ => b.steps.length - (intOf i).toNat)
          case atStart => exact ⟨0, n2 + 1 + q2, rfl, rfl, by omega, by omega, by omega, HB9.out, HP9.out, HBB9.out⟩
          case round =>
            obtain ⟨k3, n3, rfl, rfl, hk3, hn03, hn13, hb3, hp3, hbb3⟩ := hrel
            obtain ⟨w3, rfl⟩ : ∃ w3 : World, w3 = wr := ⟨_, rfl⟩
            have hz3 := hb3.size
            have HB3 := Lib.hid hb3
            clear hb3
            have HP3 := Lib.hid hp3
            have HBB3 := Lib.hid hbb3
            clear hp3 hbb3
            have y0 := HBB3.out.cell (j := 0) rfl
            have yl := HBB3.out.lt
            by_cases hgo : k3 < b.steps.length ∧ n3 < 1048576
            · obtain ⟨hlt3, hnl3⟩ := hgo
              have hd3 : decide ((k3 : Int) < (b.steps.length : Int)) = true := by simpa using hlt3
              have hd4 : decide (n3 < 1048576) = true := by simpa using hnl3
              have hkl3 : (k3 : Int) < (b.steps.length : Int) := by omega
              obtain ⟨xb, xoff, x, hsa, hxb, hsk, _, _, _, _, ⟨xv, x4, hxt⟩, _⟩ := (HS.out w (Below.refl _ _)).get hlt3
              obtain ⟨XA, xn, xc, rfl, hxkv⟩ := hxt
              subst hsa
              have hxn := hxkv.2.1
              have HX := Lib.hid (fun (W : World) (hW : Below w.heap.size w W) => (⟨(hW.cell (p := ⟨xb, _, none⟩) (show xb < w.heap.size by omega)).trans x4, hxkv.below (hW.mono hB) (Nat.le_refl _)⟩ : W.cell? ⟨xb, xoff + k3 * 5 + 4, none⟩ = some (.slice XA xn xc) ∧ KidsV W B x.args XA xn))
              have hxbl : xb < w3.heap.size := by omega
              clear hsk hxkv x4
              go_wp2_with fail
              go_loopw [3, 8] (fun nn i wr => ∃ (k : Nat) (n : Int), nn = .int .i64 n ∧ i = .int .i64 k ∧ k ≤ xn ∧ 0 ≤ n ∧ n ≤ 1000000000000000 ∧ Below w.heap.size w wr ∧ Row wr w.heap.size #[.slice GA p.globs.length gc, .slice (some ⟨fb, foff, none⟩) p.funcs.length fc, .int .i64 p.main] 35 ∧ Row wr w2.heap.size #[.slice (some ⟨xb, xoff, none⟩) b.steps.length sc, .int .i64 b.fin, .int .i64 ca, .int .i64 cb, .slice CA cl cc, .int .i64 b.next, .int .i64 b.els] 65) (fun _ i _ => xn - (intOf i).toNat)
              case atStart => exact ⟨0, n3 + 1, rfl, rfl, by omega, by omega, by omega, HB3.out, HP3.out, HBB3.out⟩
              case round =>
                obtain ⟨k4, n4, rfl, rfl, hk4, hn04, hn14, hb4, hp4, hbb4⟩ := hrel
                obtain ⟨w4, rfl⟩ : ∃ w4 : World, w4 = wr := ⟨_, rfl⟩
                have hz4 := hb4.size
                have HB4 := Lib.hid hb4
                clear hb4
                have HP4 := Lib.hid hp4
                have HBB4 := Lib.hid hbb4
                clear hp4 hbb4
                obtain ⟨y4', _⟩ := HX.out w4 HB4.out
                have y0' := HBB4.out.cell (j := 0) rfl
                have yl' := HBB4.out.lt
                have hxbl' : xb < w4.heap.size := by omega
                have hkl3' : (k3 : Int) < (b.steps.length : Int) := by omega
                by_cases hgo : k4 < xn ∧ n4 < 1048576
                · obtain ⟨hlt4, hnl4⟩ := hgo
                  have hd3 : decide ((k4 : Int) < (xn : Int)) = true := by simpa using hlt4
                  have hd4 : decide (n4 < 1048576) = true := by simpa using hnl4
                  have hkl4 : (k4 : Int) < (xn : Int) := by omega
                  obtain ⟨y4, hkx⟩ := HX.out w4 HB4.out
                  obtain ⟨tb, toff, tt, v0, v1, v2, hta, htb, htk, t0, t1, t2, ht⟩ := hkx.get hlt4
                  subst hta
                  have hbd := wgt_bd tt 100 (by omega)
                  have HC := Lib.hid (wgt_all tt.size tt 100 B w4 v0 v1 v2 (Nat.le_refl _) (by omega) ht (by omega) (by omega))
                  obtain ⟨q, hq⟩ : ∃ q, q = wgt tt 100 := ⟨_, rfl⟩
                  rw [← hq] at HC hbd
                  obtain ⟨hbd0, hbd1⟩ := hbd
                  have y0 := HBB4.out.cell (j := 0) rfl
                  have yl := HBB4.out.lt
                  have htbl : tb < w4.heap.size := by omega
                  have hxbl : xb < w4.heap.size := by omega
                  clear hq ht htk hkx
                  go_wp2_with fail
                  refine HC.out.mono ?_
                  rintro e w9 ⟨rfl, hb9⟩
                  have HB9 := Lib.hid hb9
                  clear hb9
                  go_wp2_with fail
                  go_roundw
                  case rel => exact ⟨k4 + 1, n4 + q, by go_num, by go_num, by omega, by omega, by omega, HB4.out.trans (HB9.out.mono hz4), HP4.out.below HB9.out HP4.out.lt, HBB4.out.below HB9.out HBB4.out.lt⟩
                  case measure => simp [intOf]; omega
                · have hor : decide (k4 < xn) = false ∨ (decide (k4 < xn) = true ∧ decide (n4 < 1048576) = false) := by
                    by_cases hlt : k4 < xn
                    · exact Or.inr ⟨by simpa using hlt, by simp; exact Int.not_lt.1 (fun h => hgo ⟨hlt, h⟩)⟩
                    · exact Or.inl (by simp; omega)
                  clear hgo
                  rcases hor with hd | ⟨hd, hd2⟩
                  all_goals
                    go_wp2_with fail
                    go_roundw
                    case rel => exact ⟨k3 + 1, n4, by go_num, by go_num, by omega, by omega, by omega, HB4.out, HP4.out, HBB4.out⟩
                    case measure => simp [intOf]; omega
            · have hor : decide (k3 < b.steps.length) = false ∨ (decide (k3 < b.steps.length) = true ∧ decide (n3 < 1048576) = false) := by
                by_cases hlt : k3 < b.steps.length
                · exact Or.inr ⟨by simpa using hlt, by simp; exact Int.not_lt.1 (fun h => hgo ⟨hlt, h⟩)⟩
                · exact Or.inl (by simp; omega)
              clear hgo
              rcases hor with hd | ⟨hd, hd2⟩
              all_goals
                go_wp2_with fail
                go_roundw
                case rel => exact ⟨k2 + 1, n3, by go_num, by go_num, by omega, by omega, by omega, HB3.out, HP3.out⟩
                case measure => simp [intOf]; omega
        · have hor : decide (k2 < g.blocks.length) = false ∨ (decide (k2 < g.blocks.length) = true ∧ decide (n2 < 1048576) = false) := by
            by_cases hlt : k2 < g.blocks.length
            · exact Or.inr ⟨by simpa using hlt, by simp; exact Int.not_lt.1 (fun h => hgo ⟨hlt, h⟩)⟩
            · exact Or.inl (by simp; omega)
          clear hgo
          rcases hor with hd | ⟨hd, hd2⟩
          all_goals
            go_wp2_with fail
            go_roundw
            case rel => exact ⟨k1 + 1, n2, by go_num, by go_num, by omega, by omega, by omega, HB2.out, HP2.out⟩
            case measure => simp [intOf]; omega
    · have hor : decide (k1 < p.funcs.length) = false ∨ (decide (k1 < p.funcs.length) = true ∧ decide (n1 < 1048576) = false) := by
        by_cases hlt : k1 < p.funcs.length
        · exact Or.inr ⟨by simpa using hlt, by simp; exact Int.not_lt.1 (fun h => hgo ⟨hlt, h⟩)⟩
        · exact Or.inl (by simp; omega)
      clear hgo
      rcases hor with hd | ⟨hd, hd2⟩
      all_goals
        go_wp2_with fail
        refine HQ.out _ _ _ ?_
        exact bodyPost_ret (v := .int .i64 n1) (by simp [results, Try.results10, go_sem]) rfl ⟨n1, rfl, by omega, by omega, HB1.out⟩
end Go.Proofs.Ytikbdplllopjlaa
