/- The page's Live. Conditions: as stated. -/
import Derived.Test.YtlenilbkifofjaaDoorQ04Zz
set_option linter.unusedVariables false
set_option linter.unusedSimpArgs false
namespace Go.Proofs.YtlenilbkifofjaaDoor
open Go.RowKit

/-- What the page's Live answers. -/
def LiveSaysR (l : List InsS) (w : World) (e : Ending) (w' : World) : Prop := ∃ rows rb, IsLive l rows ∧ e = .returned (.slice (some ⟨rb, 0, none⟩) rows.length rows.length) ∧ SliceAt w' w'.heap.size 1 (RowsE w' w'.heap.size) rows (.slice (some ⟨rb, 0, none⟩) rows.length rows.length) ∧ Below w.heap.size w w'
set_option maxRecDepth 100000 in
set_option maxHeartbeats 32000000 in
theorem rlive_any (c : CodeS) (LA : Option Addr) (lc : Nat) (BA : Option Addr) (bc R B : Nat) (w : World) (hB : B ≤ w.heap.size) (hK : SliceAt w B 6 (InsE w B) c.ins (.slice BA c.ins.length bc)) (hN : Named c.ins) (hRg : ∀ x, x ∈ c.ins → RegsIn R x)
    (hR8 : R ≤ 8000) (h8 : c.ins.length ≤ 8000) (hlay : layB [] c.ins = true) (hal : ∀ x, x ∈ c.ins → x.arg.length * 8 ≤ 140737488351232) :
    Calls Tryd.prog 15 #[.agg #[.int .i64 c.params, .int .i64 c.regs, .slice LA c.locs.length lc, .slice BA c.ins.length bc]] w fun e w' => LiveSaysR c.ins w e w' := by
  obtain ⟨m, hm⟩ : ∃ m, m = c.ins.length + 1 := ⟨_, rfl⟩
  obtain ⟨Z, hZ, hZ0, hmk⟩ := make_lists m (by omega)
  have HBX := Lib.hid (Row.new w #[.int .i64 c.params, .int .i64 c.regs, .slice LA c.locs.length lc, .slice BA c.ins.length bc] 33)
  have HB0 := Lib.hid (below1 w (.cells #[.int .i64 c.params, .int .i64 c.regs, .slice LA c.locs.length lc, .slice BA c.ins.length bc] 33))
  have HKW := Lib.hid (fun W (hW : Below w.heap.size w W) => (hK.below (hW.mono hB) (Nat.le_refl _) (fun _ _ h => h.below (hW.mono hB) (Nat.le_refl _)) : SliceAt W B 6 (InsE W B) c.ins (.slice BA c.ins.length bc)))
  have HLB := Lib.hid (fun W (hW : Below w.heap.size w W) => rlabels_any c LA lc BA bc B W (by have := hW.size; omega) (HKW.out W hW) h8)
  have HU := Lib.hid (show ∀ n : Int, labI c.ins n = true → ∃ m : Nat, n = (m : Int) ∧ m < 8000 ∧ labK c.ins c.ins.length m = (labN c.ins n : Nat) from fun n hn => by
    obtain ⟨h1, h2⟩ := layB_range hlay hn
    obtain ⟨m, rfl⟩ : ∃ m : Nat, n = (m : Int) := ⟨n.toNat, by omega⟩
    exact ⟨m, rfl, by omega, labK_N hlay _ (Nat.le_refl _) m (by rw [List.take_length]; exact hn)⟩)
  have HN := Lib.hid hN
  have HRG := Lib.hid hRg
  have HAL := Lib.hid hal
  have HMN := Lib.hid hm
  have hadd : (c.ins.length : Int) + 1 = (m : Int) := by omega
  have hm8 : m ≤ 8001 := by omega
  clear hK hN hRg hlay hal hm
  go_enter Tryd.func15, Tryd.ntmps15
  refine wp_letter (fun Q hQ => ?_)
  have HQ := Lib.hid hQ
  clear hQ
  go_wp2_with fail
  refine (HLB.out _ HB0.out).mono ?_
  rintro e W ⟨tb, rfl, htb, hti, hbW⟩
  have HB1 := Lib.hid (HB0.out.trans (hbW.mono HB0.out.size))
  have HBX1 := Lib.hid (HBX.out.below hbW HBX.out.lt)
  have HTI := Lib.hid hti
  have HRF := Lib.hid (show w.heap.size ≤ W.heap.size from HB1.out.size)
  have x3 := HBX1.out.cell (j := 3) rfl
  have xl := HBX1.out.lt
  clear htb hti hbW
  go_wp2_with fail
  obtain ⟨rb, hrb⟩ : ∃ rb, rb = W.heap.size := ⟨_, rfl⟩
  obtain ⟨W1, hW1⟩ : ∃ W1, W1 = W.alloc (.cells Z 35) := ⟨_, rfl⟩
  have hb1 : Below W.heap.size W W1 := by rw [hW1]; exact below1 W _
  have hrr : Row W1 rb Z 35 := by rw [hW1, hrb]; exact Row.new W _ _
  rw [← hrb, ← hW1]
  have HSK := Lib.hid (show SeekR w W1 w.heap.size tb rb R c LA lc BA bc (List.replicate m []) from
    ⟨HBX1.out.below hb1 HBX1.out.lt, HTI.out.wr (F := fun _ => False) (Wr.of_below hb1) (fun h => h), ⟨Z, hrr, by simp [hZ], fun k hk => by
      rw [List.length_replicate] at hk
      refine ⟨_, hZ0 k hk, ?_⟩
      rw [List.getD_eq_getElem?_getD, List.getElem?_replicate, if_pos hk]
      exact ⟨none, 0, rfl, ⟨none, 0, rfl, by simp, fun h => by simp at h⟩, fun _ => ⟨rfl, rfl⟩, by simp⟩⟩, HB1.out.trans (hb1.mono HB1.out.size), by rw [hrb]; exact HRF.out, by rw [List.length_replicate, HMN.out], by rw [HMN.out]; exact Flow.start _ _⟩)
  obtain ⟨rows0, hr0⟩ : ∃ rows0 : List (List Int), rows0 = List.replicate m [] := ⟨_, rfl⟩
  rw [← hr0] at HSK
  clear x3 xl hrb hW1 hb1 hrr hZ hZ0 hmk hr0
  go_loopw [5] (fun ch wr => ∃ (rows : List (List Int)) (b : Bool), ch = .bool b ∧ SeekR w wr w.heap.size tb rb R c LA lc BA bc rows ∧ (b = false → StillR c.ins rows 0)) (fun ch wr => roomN R (lensW wr rb (c.ins.length + 1)) + flagN ch)
  case atStart => exact ⟨rows0, true, rfl, HSK.out, fun h => by cases h⟩
  case round =>
    obtain ⟨rows, b, rfl, hsk, hst⟩ := hrel
    have HSK2 := Lib.hid hsk
    have HRO := Lib.hid hsk.room
    obtain ⟨w6, rfl⟩ : ∃ w6 : World, w6 = wr := ⟨_, rfl⟩
    cases b with
    | false =>
      have HIS := Lib.hid (hsk.plain.done (fun k hk r hr => hst rfl k (Nat.zero_le _) hk r hr))
      have HLEN := Lib.hid (show m = rows.length from by rw [hsk.len]; exact HMN.out)
      have HSL := Lib.hid (hsk.lists.slice (by rw [hsk.len]; omega))
      have HBL := Lib.hid hsk.below
      clear hsk hst
      go_wp2_with fail
      refine HQ.out _ _ _ ?_
      exact bodyPost_ret (v := .slice (some ⟨rb, 0, none⟩) m m) (by simp [results, Tryd.results15, go_sem]) rfl ⟨rows, rb, HIS.out, by rw [HLEN.out], HSL.out, HBL.out⟩
    | true =>
      have x3 := hsk.box.cell (j := 3) rfl
      have xl := hsk.box.lt
      clear hsk hst
      go_wp2_with fail
      go_loopw [5, 6] (fun ch a wr => ∃ (k : Nat) (rows' : List (List Int)) (b : Bool), a = .int .i64 ((k : Int) - 1) ∧ k ≤ c.ins.length ∧ ch = .bool b ∧ SeekR w wr w.heap.size tb rb R c LA lc BA bc rows' ∧ (b = false → rows' = rows ∧ StillR c.ins rows k) ∧ (b = true → roomL R rows' < roomL R rows)) (fun _ a _ => (intOf a + 1).toNat)
      case atStart => exact ⟨c.ins.length, rows, false, by go_num, Nat.le_refl _, rfl, HSK2.out, fun _ => ⟨rfl, fun j h1 h2 => by omega⟩, fun h => by cases h⟩
      case round =>
        obtain ⟨k, rows', b, rfl, hk, rfl, hsk, hf, ht⟩ := hrel
        have HF := Lib.hid hf
        have HTT := Lib.hid ht
        have HSK3 := Lib.hid hsk
        cases k with
        | zero =>
          have hkk : ((0 : Nat) : Int) - 1 = -1 := rfl
          rw [hkk]
          clear hsk hf ht hkk x3 xl
          go_wp2_with fail
          go_roundw
          case rel => exact ⟨rows', b, rfl, HSK3.out, fun h => by obtain ⟨h1, h2⟩ := HF.out h; rw [h1]; exact h2⟩
          case measure =>
            rw [HSK3.out.room, HRO.out]
            cases b with
            | false => rw [(HF.out rfl).1]; simp [flagN]
            | true => have := HTT.out rfl; simp [flagN]; omega
        | succ j =>
          have hkk : ((j + 1 : Nat) : Int) - 1 = (j : Int) := by omega
          rw [hkk]
          have hjn : j < c.ins.length := by omega
          obtain ⟨x, hx⟩ : ∃ x, c.ins[j]? = some x := ⟨_, List.getElem?_eq_getElem hjn⟩
          have hxm := List.mem_of_getElem? hx
          have hjw : j < rows'.length := by rw [hsk.len]; omega
          have HX := Lib.hid hx
          have HRX := Lib.hid (HRG.out x hxm)
          have HNL := Lib.hid (fun n hn => (show n < rows'.length from by rw [hsk.len]; exact next_lt HN.out hjn n hn))
          obtain ⟨bb, boff, x', hBA, hbb, hbk, b0, b1, b2, b3, b4, ⟨sv, b5, hst⟩, hx0, hx1, hx2, hx3, hx4⟩ := SliceAt.get (HKW.out wr hsk.below) hjn
          subst hBA
          rw [hx] at hbk
          injection hbk with hbk
          subst hbk
          simp only [Nat.add_zero] at b0 b1 b2 b3 b4 b5
          obtain ⟨SA, scap, hsv⟩ : ∃ SA scap, sv = .slice SA x.arg.length scap := (by obtain ⟨A', c', h, _⟩ := hst; exact ⟨_, _, h⟩)
          subst hsv
          have hBw : B ≤ wr.heap.size := by have := hsk.below.size; omega
          have HINS := Lib.hid (show ∀ W, Below wr.heap.size wr W → W.cell? ⟨bb, boff + j * 6, none⟩ = some (.int .i64 x.op) ∧ W.cell? ⟨bb, boff + j * 6 + 1, none⟩ = some (.int .i64 x.dst) ∧ W.cell? ⟨bb, boff + j * 6 + 2, none⟩ = some (.int .i64 x.a) ∧ W.cell? ⟨bb, boff + j * 6 + 3, none⟩ = some (.int .i64 x.b) ∧ W.cell? ⟨bb, boff + j * 6 + 4, none⟩ = some (.int .i64 x.n) ∧ W.cell? ⟨bb, boff + j * 6 + 5, none⟩ = some (.slice SA x.arg.length scap) ∧ bb < W.heap.size from fun W hW =>
            have hl : bb < wr.heap.size := by omega
            ⟨cell_below b0 hW hl, cell_below b1 hW hl, cell_below b2 hW hl, cell_below b3 hW hl, cell_below b4 hW hl, cell_below b5 hW hl, by have := hW.size; omega⟩)
          have HUS := ruses_any x SA scap B wr hBw hst hx2 hx3 hx1 (HAL.out x hxm)
          unfold insV at HUS
          have HUS := Lib.hid HUS
          have HAF := Lib.hid (fun W (hW : Below wr.heap.size wr W) => rafter_any c LA lc (some ⟨bb, boff, none⟩) bc tb j B W (by have := hW.size; omega) (HKW.out W (hsk.below.trans (hW.mono hsk.below.size))) ((hsk.next hW).tab) HU.out HN.out hjn h8)
          have HDF := Lib.hid (fun W => rdefs_any x SA scap W)
          obtain ⟨i0, i1, i2, i3, i4, i5, il⟩ := HINS.out wr (Below.refl _ _)
          have x3 := hsk.box.cell (j := 3) rfl
          have xl := hsk.box.lt
          have hj0 : (0 : Int) ≤ (j : Int) := by omega
          have hj1 : (j : Int) < (c.ins.length : Int) := by omega
          have hjw2 : (j : Int) < (rows'.length : Int) := by omega
          have HLEN := Lib.hid (show m = rows'.length from by rw [hsk.len]; exact HMN.out)
          obtain ⟨dd, hdd⟩ : ∃ dd, dd = defL x := ⟨_, rfl⟩
          have HDD := Lib.hid hdd
          clear hsk hf ht hkk hx hxm hst hx0 hx1 hx2 hx3 hx4 b0 b1 b2 b3 b4 b5 hdd
          go_wp2_with fail
          refine HUS.out.mono ?_
          rintro e w7 ⟨UA, uc, rfl, hul, hun, huc, hb7⟩
          have HU7 := Lib.hid (show IntsV w7 (usesL x) (.slice UA (usesL x).length uc) from ⟨UA, uc, rfl, hul, hun, huc⟩)
          have HB7 := Lib.hid hb7
          have hbx := (HSK3.out.next hb7).box
          have y0 := hbx.cell (j := 0) rfl
          have y1 := hbx.cell (j := 1) rfl
          have y2 := hbx.cell (j := 2) rfl
          have y3 := hbx.cell (j := 3) rfl
          have yl := hbx.lt
          clear hul hun huc hb7 hbx x3 xl i0 i1 i2 i3 i4 i5 il
          go_wp2_with fail
          refine (HAF.out _ HB7.out).mono ?_
          rintro e w8 ⟨NA, nc, rfl, hnl, _, _, hb8⟩
          have HB8 := Lib.hid (HB7.out.trans (hb8.mono HB7.out.size))
          have HU8 := Lib.hid (HU7.out.below hb8)
          have HNX := Lib.hid hnl
          have hnnl := (SliceAt.len hnl).2
          have HSK8 := Lib.hid (HSK3.out.next HB8.out)
          clear hnl hb8 y0 y1 y2 y3 yl
          go_wp2_with fail
          obtain ⟨w8', rfl⟩ : ∃ w8' : World, w8' = w8 := ⟨_, rfl⟩
          go_loopw [7, 9] (fun u a wr => ∃ i : Nat, a = .int .i64 (i : Nat) ∧ i ≤ (nextI c.ins j).length ∧ IntsV wr (outerL rows' dd (usesL x) ((nextL c.ins j).take i)) u ∧ Below w8'.heap.size w8' wr) (fun _ a _ => (nextI c.ins j).length - (intOf a).toNat)
          case atStart => exact ⟨0, rfl, Nat.zero_le _, HU8.out, Below.refl _ _⟩
          case round =>
            obtain ⟨i, rfl, hi, hu, hb9⟩ := hrel
            have HB9 := Lib.hid hb9
            have HUI := Lib.hid hu
            obtain ⟨VA, vc, rfl, _⟩ := id hu
            by_cases hlt : i < (nextI c.ins j).length
            · obtain ⟨n, hn1, hn2⟩ := nextI_get hlt
              have hnw := HNL.out n (List.mem_of_getElem? hn1)
              obtain ⟨nb, noff, xn, hNA, hnb, hnx, n0, _⟩ := SliceAt.get (LongsAt.below HNX.out hb9 (Nat.le_refl _)) hlt
              rw [hn2] at hnx
              injection hnx with hnx
              subst hnx
              subst hNA
              simp only [Nat.add_zero, Nat.mul_one] at n0
              have nl : nb < wr.heap.size := by have := hb9.size; omega
              obtain ⟨RA, rc, g0, hrv⟩ := (HSK8.out.lists.below hb9).get hnw
              have gl := (HSK8.out.lists.below hb9).lt
              have HRV := Lib.hid hrv
              have HN1 := Lib.hid hn1
              have HNB := Lib.hid (And.intro n0 (And.intro nl (And.intro g0 gl)))
              have hi0 : (0 : Int) ≤ (i : Int) := by omega
              have hi1 : (i : Int) < ((nextI c.ins j).length : Int) := by omega
              have hn0 : (0 : Int) ≤ (n : Int) := by omega
              have hnw2 : (n : Int) < (m : Int) := by have := HLEN.out; omega
              obtain ⟨u0, hu0⟩ : ∃ u0, u0 = outerL rows' dd (usesL x) ((nextL c.ins j).take i) := ⟨_, rfl⟩
              have HU0 := Lib.hid hu0
              rw [← hu0] at HUI
              obtain ⟨row, hrow⟩ : ∃ row, row = rows'.getD n [] := ⟨_, rfl⟩
              have HROW := Lib.hid hrow
              rw [← hrow] at HRV HNB
              have HGR := Lib.hid (show (Rise u0 ∧ Within R u0) ∧ Within R row from by
                rw [hu0, hrow]
                exact ⟨⟨outerL_rise usesL_rise, outerL_in (usesL_in HRX.out) HSK8.out.plain.bound⟩, getD_in HSK8.out.plain.bound⟩)
              have hrwl : row.length ≤ 9223372036854775807 := by obtain ⟨_, _, _, ⟨_, _, _, hl, _⟩, _⟩ := HRV.out; exact hl
              clear hu hb9 hn1 hn2 hrv hu0 hrow n0 nl g0 gl
              go_wp2_with fail
              obtain ⟨w9, rfl⟩ : ∃ w9 : World, w9 = wr := ⟨_, rfl⟩
              obtain ⟨n0', nl', g0', gl'⟩ := HNB.out
              rw [show (.slice VA (outerL rows' dd (usesL x) ((nextL c.ins j).take i)).length vc : Value) = .slice VA u0.length vc from by rw [HU0.out]]
              go_loopw [7, 10] (fun u a wr => ∃ q : Nat, a = .int .i64 (q : Nat) ∧ q ≤ row.length ∧ IntsV wr (innerL dd u0 (row.take q)) u ∧ Below w9.heap.size w9 wr) (fun _ a _ => row.length - (intOf a).toNat)
              case atStart => exact ⟨0, rfl, Nat.zero_le _, by rw [HU0.out]; rw [HU0.out] at HUI; exact HUI.out, Below.refl _ _⟩
              case round =>
                obtain ⟨q, rfl, hq, hu, hb10⟩ := hrel
                have HB10 := Lib.hid hb10
                have HUI2 := Lib.hid hu
                obtain ⟨VA2, vc2, rfl, hvl, hvn, hvc⟩ := id hu
                obtain ⟨n0', nl', g0', gl'⟩ := HNB.out
                have n0 := cell_below n0' hb10 nl'
                have nl := Nat.lt_of_lt_of_le nl' hb10.size
                have g0 := cell_below g0' hb10 gl'
                have gl := Nat.lt_of_lt_of_le gl' hb10.size
                clear n0' nl' g0' gl'
                by_cases hqlt : q < row.length
                · obtain ⟨vb, voff, r, hRA, hvb, hrx, v0, hr64⟩ := SliceAt.get (show LongsAt wr wr.heap.size row (.slice RA row.length rc) from by
                    obtain ⟨A9, c9, e9, h9, _⟩ := HRV.out.below hb10
                    rw [e9]
                    rwa [e9] at h9) hqlt
                  subst hRA
                  simp only [Nat.add_zero, Nat.mul_one] at v0
                  have HRX2 := Lib.hid hrx
                  have hq0 : (0 : Int) ≤ (q : Int) := by omega
                  have hq1 : (q : Int) < (row.length : Int) := by omega
                  have hBX := HB8.out.trans ((HB9.out.trans (hb10.mono HB9.out.size)).mono HB8.out.size)
                  obtain ⟨i0, i1, i2, i3, i4, i5, il⟩ := HINS.out wr hBX
                  have hbx := (HSK3.out.next hBX).box
                  have y3 := hbx.cell (j := 3) rfl
                  have yl := hbx.lt
                  have HD := HDF.out wr
                  unfold insV at HD
                  unfold DefsSays at HD
                  rw [← HDD.out] at HD
                  have HD := Lib.hid HD
                  have hin : Rise (innerL dd u0 (row.take q)) ∧ Within R (innerL dd u0 (row.take q)) := ⟨innerL_rise HGR.out.1.1, innerL_in HGR.out.1.2 (fun y hy => HGR.out.2 y (List.mem_of_mem_take hy))⟩
                  have hlen := hin.1.bound hin.2
                  clear hu hb10 hBX hbx hrx
                  go_wp2_with fail
                  refine HD.out.mono ?_
                  rintro e w11 ⟨rfl, hb11⟩
                  have HB11 := Lib.hid (HB10.out.trans (hb11.mono HB10.out.size))
                  have hui := HUI2.out.below hb11
                  obtain ⟨A9, c9, e9, h9l, h9n, h9c⟩ := id hui
                  injection e9 with e91 e92 e93
                  subst e91 e93
                  have HPT := Lib.hid (rput_any (innerL dd u0 (row.take q)) r VA2 vc2 w11.heap.size w11 (Nat.le_refl _) h9l h9n h9c (by omega) hr64)
                  have HUI3 := Lib.hid hui
                  clear hb11 hui h9l h9n h9c e92 hvl hvn hvc i0 i1 i2 i3 i4 i5 il y3 yl hin n0 nl g0 gl v0
                  by_cases hrd : r = dd
                  · subst hrd
                    have hne : (r != r) = false := by simp
                    have HST := Lib.hid (show innerL r u0 (row.take (q + 1)) = innerL r u0 (row.take q) from by rw [take_succ_of HRX2.out, innerL_snoc, innerF, if_pos rfl])
                    go_wp2_with fail
                    go_roundw
                    case rel => exact ⟨q + 1, by go_num, hqlt, by rw [HST.out]; exact HUI3.out, HB11.out⟩
                    case measure => simp [intOf]; omega
                  · have hne : (r != dd) = true := by simpa using hrd
                    have HST := Lib.hid (show innerL dd u0 (row.take (q + 1)) = putL (innerL dd u0 (row.take q)) r from by rw [take_succ_of HRX2.out, innerL_snoc, innerF, if_neg hrd])
                    clear hrd
                    go_wp2_with fail
                    refine HPT.out.mono ?_
                    intro e w12 h
                    obtain ⟨v, rfl, hv, hb12⟩ := h.v
                    have HV12 := Lib.hid hv
                    have HB12 := Lib.hid (HB11.out.trans (hb12.mono HB11.out.size))
                    clear h hv hb12
                    go_wp2_with fail
                    go_roundw
                    case rel => exact ⟨q + 1, by go_num, hqlt, by rw [HST.out]; exact HV12.out, HB12.out⟩
                    case measure => simp [intOf]; omega
                · obtain rfl : q = row.length := by omega
                  rw [List.take_length] at HUI2
                  have HOUT := Lib.hid (show outerL rows' dd (usesL x) ((nextL c.ins j).take (i + 1)) = innerL dd u0 row from by rw [take_succ_of HN1.out, outerL_snoc, HU0.out, HROW.out])
                  have HU9 := Lib.hid (show (.slice VA2 (innerL dd u0 (row.take row.length)).length vc2 : Value) = .slice VA2 (innerL dd u0 row).length vc2 from by rw [List.take_length])
                  rw [HU9.out]
                  have HB13 := Lib.hid (HB9.out.trans (hb10.mono HB9.out.size))
                  clear hu hb10 hvl hvn hvc
                  go_wp2_with fail
                  go_roundw
                  case rel => exact ⟨i + 1, by go_num, hlt, by rw [HOUT.out]; exact HUI2.out, HB13.out⟩
                  case measure => simp [intOf]; omega
            · obtain rfl : i = (nextI c.ins j).length := by omega
              have HNEW := Lib.hid (show outerL rows' dd (usesL x) ((nextL c.ins j).take (nextI c.ins j).length) = newL c.ins rows' j x from by rw [List.take_of_length_le (by simp [nextI])]; unfold newL; rw [HDD.out])
              rw [HNEW.out] at HUI ⊢
              obtain ⟨z, hz⟩ : ∃ z, z = newL c.ins rows' j x := ⟨_, rfl⟩
              have HZZ := Lib.hid hz
              rw [← hz] at HUI ⊢
              have HSK9 := Lib.hid (HSK8.out.next hb9)
              obtain ⟨OA, oc, g0, hov⟩ := HSK9.out.lists.get hjw
              obtain ⟨cs9, hr9, hc9, hh9⟩ := id HSK9.out.lists
              have gl := hr9.lt
              have g1 := hr9.free j
              have HGE := Lib.hid (show rows'.getD j [] = rows'[j]'hjw from by rw [List.getD_eq_getElem?_getD, List.getElem?_eq_getElem hjw]; rfl)
              have HSUB := Lib.hid (Rise.sub_len (HSK9.out.plain.rise _ (List.getElem_mem hjw)) (show Rise z from by rw [hz]; exact outerL_rise usesL_rise) (show ∀ r, r ∈ rows'[j]'hjw → r ∈ z from by rw [hz]; exact HSK9.out.plain.sub hjn (fun r => newL_mem HX.out)))
              obtain ⟨ol, hol⟩ : ∃ ol, ol = (rows'.getD j []).length := ⟨_, rfl⟩
              rw [← hol] at g0
              have HOL := Lib.hid hol
              have hjm : (j : Int) < (m : Int) := by have := HLEN.out; omega
              clear hu hb9 hov hc9 hh9 hr9 hz hol
              by_cases hle : z.length = ol
              · have hne : ((z.length : Int) != (ol : Int)) = false := by simp; omega
                have HEQ := Lib.hid (show rows'[j]'hjw = z from HSUB.out.2 (by rw [← HGE.out, ← HOL.out, hle]))
                clear hle
                go_wp2_with fail
                go_roundw
                case rel =>
                  refine ⟨j, rows', b, rfl, by omega, rfl, HSK9.out, fun h => ?_, HTT.out⟩
                  obtain ⟨h1, h2⟩ := HF.out h
                  refine ⟨h1, fun i hi1 hi2 r hr => ?_⟩
                  by_cases hij : i = j
                  · subst hij
                    rw [← h1] at hr ⊢
                    have := (newL_mem HX.out).2 hr
                    rw [← HZZ.out, ← HEQ.out] at this
                    exact ⟨_, List.getElem?_eq_getElem hjw, this⟩
                  · exact h2 i (by omega) hi2 r hr
                case measure => first | (simp [intOf]; done) | (simp [intOf]; omega)
              · have hne : ((z.length : Int) != (ol : Int)) = true := by simp; omega
                have hzn : z = newL c.ins rows' j x := HZZ.out
                have HSK10 := Lib.hid (HSK9.out.set HX.out HRX.out (v := .slice VA z.length vc) (by rw [← hzn]; exact HUI.out))
                have HTN := Lib.hid (HSK9.out.plain.turn hjn (x := newL c.ins rows' j x) (outerL_rise usesL_rise) (outerL_in (usesL_in HRX.out) HSK9.out.plain.bound) (fun r => newL_mem HX.out) (fun e => hle (by rw [hzn, e, HOL.out, HGE.out])))
                clear hle hzn
                go_wp2_with fail
                go_roundw
                case rel =>
                  refine ⟨j, rows'.set j (newL c.ins rows' j x), true, rfl, by omega, rfl, HSK10.out, (fun h => by cases h), (fun _ => ?_)⟩
                  have h1 := HTN.out
                  cases b with
                  | false => rw [(HF.out rfl).1] at h1 ⊢; exact h1
                  | true => exact Nat.lt_trans h1 (HTT.out rfl)
                case measure => first | (simp [intOf]; done) | (simp [intOf]; omega)
end Go.Proofs.YtlenilbkifofjaaDoor
