/- LiveSets: its walk. Conditions: as stated. -/
import Derived.Test.YtlenilbkifofjaaDoorLvUZz
import Derived.Test.YtlenilbkifofjaaDoorLvZZz
import Derived.Test.YtlenilbkifofjaaDoorVHvZz
import Derived.Test.YtlenilbkifofjaaDoorVEqEZz
set_option linter.unusedVariables false
set_option linter.unusedSimpArgs false
namespace Go.Proofs.YtlenilbkifofjaaDoor
open Go.RowKit

theorem CopiedCode.code {x : CodeS} {w w' : World} {e : Ending} (h : CopiedCode x w e w') (A2 : Option Addr) (c2 : Nat) (A3 : Option Addr) (c3 : Nat) (he : e = .returned (.agg #[.int .i64 x.params, .int .i64 x.regs, .slice A2 x.locs.length c2, .slice A3 x.ins.length c3])) :
    CodeE w' w'.heap.size (fun j => [Value.int .i64 x.params, .int .i64 x.regs, .slice A2 x.locs.length c2, .slice A3 x.ins.length c3][j]?) x := by
  obtain ⟨u0, u1, u2, u3, rfl, h1, h2⟩ := h
  have h1 := CodeE.mono _ _ _ _ _ _ _ (only_sub w' (From w.heap.size)) (Nat.le_refl _) (fun _ _ _ h => h) h1
  simp at he
  obtain ⟨rfl, rfl, rfl, rfl⟩ := he
  exact h1
set_option maxRecDepth 100000 in
set_option maxHeartbeats 32000000 in
theorem lsets_law (ps : List VirtS) (inp : List Int) (PA IA : Option Addr) (pc ic : Nat) (af : Int) (B : Nat) (w : World) (hB : B ≤ w.heap.size) (hps : SliceAt w B 3 (VirtE w B) ps (.slice PA ps.length pc)) (hpn : ps.length * 56 ≤ 140737488351232) (hil : inp.length * 8 ≤ 140737488351232)
    (hsz : ∀ p, p ∈ ps → VirtF p) (hT : TabAt 0 Lib.deBruijn64tab w) (hg : 0 < w.heap.size) :
    Calls Tryd.prog 4 #[.agg #[.slice PA ps.length pc, .slice IA inp.length ic, .int .i64 af]] w fun e w' => e = .returned (.bool true) ∧ Below w.heap.size w w' := by
  have HHV := Lib.hid (heavy14_any ps PA IA ps.length pc inp.length ic af B (w.alloc (.cells #[.slice PA ps.length pc, .slice IA inp.length ic, .int .i64 af] 25)) (by simp; omega) (hps.below ((below1 w _).mono hB) (Nat.le_refl _) (fun _ _ h => h.below ((below1 w _).mono hB) (Nat.le_refl _))) (by omega) (by omega) (fun p hp => by
    obtain ⟨h1, _, h2, h3⟩ := hsz p hp
    exact ⟨by omega, fun g hg => by
      obtain ⟨h4, _, h5, h6⟩ := h3 g hg
      exact ⟨by omega, by omega, fun x hx => by have h7 := h6 x hx; unfold InsF at h7; omega⟩⟩))
  have HPS := Lib.hid hps
  have HSZ := Lib.hid hsz
  have HTW := Lib.hid (fun W (hW : Below w.heap.size w W) => wakes16_any W (tab_below hT hW hg) (by have := hW.size; omega))
  have HTB := Lib.hid (fun W (hW : Below w.heap.size w W) => (show TabAt 0 Lib.deBruijn64tab W ∧ 0 < W.heap.size from ⟨tab_below hT hW hg, by have := hW.size; omega⟩))
  have hpm : ps.length ≤ 200000000000000 := by omega
  clear hps hsz hT hpn hil
  go_enter Tryd.func4, Tryd.ntmps4
  refine wp_letter (fun Q hQ => ?_)
  have HQ := Lib.hid hQ
  clear hQ
  go_wp2_with fail
  refine HHV.out.mono ?_
  rintro e w1 ⟨hv, rfl, hb1⟩
  have HB1 := Lib.hid ((below1 w (.cells #[.slice PA ps.length pc, .slice IA inp.length ic, .int .i64 af] 25)).trans (hb1.mono (below1 w _).size))
  have HR1 := Lib.hid ((Row.new w #[.slice PA ps.length pc, .slice IA inp.length ic, .int .i64 af] 25).below hb1 (by simp))
  clear hb1
  cases hv with
  | true =>
    go_wp2_with fail
    refine HQ.out _ _ _ ?_
    exact bodyPost_ret (v := .bool true) (by simp [results, Tryd.results4, go_sem]) rfl ⟨rfl, HB1.out⟩
  | false =>
    go_wp2_with fail
    go_loopw [3] (fun i wr => ∃ k : Nat, i = .int .i64 k ∧ k ≤ ps.length ∧ Below w.heap.size w wr ∧ Row wr w.heap.size #[.slice PA ps.length pc, .slice IA inp.length ic, .int .i64 af] 25) (fun i _ => ps.length - (intOf i).toNat)
    case atStart => exact ⟨0, rfl, by omega, HB1.out, HR1.out⟩
    case round =>
      obtain ⟨k, rfl, hk, hbw, hbx⟩ := hrel
      have HBW := Lib.hid hbw
      have HBX := Lib.hid hbx
      have r0 := hbx.cell (j := 0) rfl
      have rl := hbx.lt
      have hkcase : (k < ps.length ∧ k < 3) ∨ k = ps.length ∨ (k < ps.length ∧ ¬ k < 3) := by omega
      rcases hkcase with ⟨hlt, hlt3⟩ | hke | ⟨hlt, hlt3⟩
      · obtain ⟨qb, qoff, p, hpa, hqb, hk1, hE⟩ := (HPS.out.below (hbw.mono hB) (Nat.le_refl _) (fun _ _ h => h.below (hbw.mono hB) (Nat.le_refl _))).get hlt
        have HPF := Lib.hid (HSZ.out p (List.mem_of_getElem? hk1))
        obtain ⟨P, c0, c1, c2, hpt⟩ := hE.at
        simp only [Nat.add_zero] at c0 c1 c2
        subst hpa
        obtain ⟨GA, gc, FA, fc, hPe⟩ := hpt.shape
        subst hPe
        simp only at c0 c1 c2
        have hqbl : qb < wr.heap.size := by have := hbw.size; omega
        have HFS := Lib.hid hpt.2.1
        have C1 := Lib.hid c1
        have hfl := hpt.2.1.len.2
        have hkl : (k : Int) < (ps.length : Int) := by omega
        have hkl3 : (k : Int) < 3 := by omega
        have hd3 : decide ((k : Int) < (ps.length : Int)) = true := by simpa using hkl
        have hd4 : decide ((k : Int) < 3) = true := by simpa using hkl3
        clear hk1 hE hpt c0 c2 c1 hbw hbx
        go_wp2_with fail
        obtain ⟨wo, rfl⟩ : ∃ wo : World, wo = wr := ⟨_, rfl⟩
        go_loopw [4] (fun i wr => ∃ f : Nat, i = .int .i64 f ∧ f ≤ p.funcs.length ∧ Below wo.heap.size wo wr) (fun i _ => p.funcs.length - (intOf i).toNat)
        case atStart => exact ⟨0, rfl, Nat.zero_le _, Below.refl _ _⟩
        case round =>
          obtain ⟨f, rfl, hf, hbf⟩ := hrel
          have HBF := Lib.hid hbf
          have r0 := (HBX.out.below hbf HBX.out.lt).cell (j := 0) rfl
          have rl := (HBX.out.below hbf HBX.out.lt).lt
          have c1 := cell_below C1.out hbf hqbl
          have ql := Nat.lt_of_lt_of_le hqbl hbf.size
          have hBf : Below B wo wr := hbf.mono (by have := HBW.out.size; omega)
          by_cases hflt : f < p.funcs.length
          · obtain ⟨fb, foff, c, rfl, hfb, hfk, d0, d1, ⟨lv, d2, hlv⟩, ⟨iv, d3, hiv⟩, hi0, hi1⟩ := (HFS.out.below hBf (Nat.le_refl _) (fun _ _ h => h.below hBf (Nat.le_refl _))).get hflt
            simp only [Nat.add_zero] at d0 d1 d2 d3
            obtain ⟨LA, lc, rfl, _⟩ := id hlv
            obtain ⟨BA, bc, rfl, _⟩ := id hiv
            have HCF := Lib.hid (HPF.out.2.2.2 c (List.mem_of_getElem? hfk))
            have HCI := Lib.hid hiv
            have HCE := Lib.hid (show CodeE wr B (fun j => [Value.int .i64 c.params, .int .i64 c.regs, .slice LA c.locs.length lc, .slice BA c.ins.length bc][j]?) c from ⟨rfl, rfl, ⟨_, rfl, hlv⟩, ⟨_, rfl, hiv⟩, hi0, hi1⟩)
            have fbl : fb < wr.heap.size := by have := hbf.size; have := HBW.out.size; omega
            have hfi : (f : Int) < (p.funcs.length : Int) := by omega
            have hcl := hiv.len.2
            have HB2 := Lib.hid (below1 wr (.cells #[.int .i64 c.params, .int .i64 c.regs, .slice LA c.locs.length lc, .slice BA c.ins.length bc] 33))
            have HCB := Lib.hid (Row.new wr #[.int .i64 c.params, .int .i64 c.regs, .slice LA c.locs.length lc, .slice BA c.ins.length bc] 33)
            obtain ⟨cb, hcb⟩ : ∃ cb, cb = wr.heap.size := ⟨_, rfl⟩
            obtain ⟨w6, rfl⟩ : ∃ w6 : World, w6 = wr := ⟨_, rfl⟩
            clear hbf hfk hlv hiv hi0 hi1 hBf
            by_cases h300 : 300 < c.ins.length
            · have d300 : decide ((300 : Int) < (c.ins.length : Int)) = true := decide_eq_true (by omega)
              have HBF5 := Lib.hid (HBF.out.trans (HB2.out.mono HBF.out.size))
              clear HCB hcb h300
              go_wp2_with fail
              go_roundw
              case rel => exact ⟨f + 1, by go_num, hflt, HBF5.out⟩
              case measure => simp [intOf]; omega
            · have d300 : decide ((300 : Int) < (c.ins.length : Int)) = false := decide_eq_false (by omega)
              go_wp2_with fail
              obtain ⟨w5, hw5⟩ : ∃ w5 : World, w5 = w6.alloc (.cells #[.int .i64 c.params, .int .i64 c.regs, .slice LA c.locs.length lc, .slice BA c.ins.length bc] 33) := ⟨_, rfl⟩
              rw [← hw5] at HB2 HCB
              rw [← hcb] at HCB
              rw [← hw5, ← hcb]
              have HBF5 := Lib.hid (HBF.out.trans (HB2.out.mono HBF.out.size))
              clear hw5 hcb r0 rl c1 ql d0 d1 d2 d3 fbl
              have HCP := Lib.hid (copyCode_any c B w5 _ (.int .i64 c.params) (.int .i64 c.regs) (.slice LA c.locs.length lc) (.slice BA c.ins.length bc) (by have := HBF5.out.size; have := HBW.out.size; omega) (HCE.out.below (HB2.out.mono (by have := HBF.out.size; have := HBW.out.size; omega)) (Nat.le_refl _)) rfl rfl rfl rfl HCF.out)
              skip
              refine HCP.out.mono ?_
              intro e w7 h
              have hce7 := h.code
              obtain ⟨A2, c2, A3, c3, rfl, hL7, hK7, hb7⟩ := h.at
              have HCE7 := Lib.hid (hce7 A2 c2 A3 c3 rfl)
              have HB7 := Lib.hid hb7
              have HIB := Lib.hid (Row.new w7 #[.int .i64 c.params, .int .i64 c.regs, .slice A2 c.locs.length c2, .slice A3 c.ins.length c3] 33)
              have HB8 := Lib.hid (below1 w7 (.cells #[.int .i64 c.params, .int .i64 c.regs, .slice A2 c.locs.length c2, .slice A3 c.ins.length c3] 33))
              have hbx := (HCB.out.below hb7 HCB.out.lt).alloc (.cells #[.int .i64 c.params, .int .i64 c.regs, .slice A2 c.locs.length c2, .slice A3 c.ins.length c3] 33)
              have HCB8 := Lib.hid hbx
              have HL7 := Lib.hid hL7
              have HK7 := Lib.hid hK7
              clear h hL7 hK7 hb7 hbx hce7
              go_wp2_with fail
              obtain ⟨ib, hib⟩ : ∃ ib, ib = w7.heap.size := ⟨_, rfl⟩
              obtain ⟨w8, hw8⟩ : ∃ w8 : World, w8 = w7.alloc (.cells #[.int .i64 c.params, .int .i64 c.regs, .slice A2 c.locs.length c2, .slice A3 c.ins.length c3] 33) := ⟨_, rfl⟩
              rw [← hw8] at HB8 HIB HCB8
              rw [← hib] at HIB
              rw [← hib, ← hw8]
              clear hib hw8
              have HF8 := Lib.hid (HBF5.out.trans ((HB7.out.trans (HB8.out.mono HB7.out.size)).mono HBF5.out.size))
              have HLV := Lib.hid (llive_any c A2 c2 A3 c3 w8.heap.size w8 (Nat.le_refl _) (HL7.out.below HB8.out HB8.out.size (fun _ _ h => h.below HB8.out HB8.out.size)) (HK7.out.below HB8.out HB8.out.size (fun _ _ h => h.below HB8.out HB8.out.size)) (fun x hx => HCF.out.2.2.2 x hx) (HTB.out _ (HBW.out.trans (HF8.out.mono HBW.out.size))).1 (HTB.out _ (HBW.out.trans (HF8.out.mono HBW.out.size))).2)
              have HMY := Lib.hid (fun W (hW : Below w8.heap.size w8 W) => rmay16_any c LA lc BA bc B W (by have := hW.size; have := HF8.out.size; have := HBW.out.size; omega) (HCE.out.below ((HB2.out.trans ((HB7.out.trans ((HB8.out.trans (hW.mono HB8.out.size)).mono HB7.out.size)).mono HB2.out.size)).mono (by have := HBF.out.size; have := HBW.out.size; omega)) (Nat.le_refl _)) HCF.out)
              rw [may16_eq] at HMY
              have HEC := Lib.hid (fun W (hW : Below w8.heap.size w8 W) => eqCode_any c W.heap.size W (fun j => [Value.int .i64 c.params, .int .i64 c.regs, .slice A2 c.locs.length c2, .slice A3 c.ins.length c3][j]?) (fun j => [Value.int .i64 c.params, .int .i64 c.regs, .slice LA c.locs.length lc, .slice BA c.ins.length bc][j]?) (.int .i64 c.params) (.int .i64 c.regs) (.slice A2 c.locs.length c2) (.slice A3 c.ins.length c3) (.int .i64 c.params) (.int .i64 c.regs) (.slice LA c.locs.length lc) (.slice BA c.ins.length bc) (Nat.le_refl _) (HCE7.out.below (HB8.out.trans (hW.mono HB8.out.size)) (HB8.out.trans (hW.mono HB8.out.size)).size)
                ((HCE.out.below ((HB2.out.trans ((HB7.out.trans ((HB8.out.trans (hW.mono HB8.out.size)).mono HB7.out.size)).mono HB2.out.size)).mono (by have := HBF.out.size; have := HBW.out.size; omega)) (Nat.le_refl _)).below (Below.refl _ _) (by have := hW.size; have := HF8.out.size; have := HBW.out.size; omega)) rfl rfl rfl rfl rfl rfl rfl rfl)
              have x0 := HIB.out.cell (j := 0) rfl
              have x1 := HIB.out.cell (j := 1) rfl
              have x2 := HIB.out.cell (j := 2) rfl
              have x3 := HIB.out.cell (j := 3) rfl
              have xl := HIB.out.lt
              cases hal : aloneB c with
              | false =>
                rw [hal] at HMY
                have HAL := Lib.hid hal
                clear hal
                go_wp2_with fail
                refine HLV.out.mono ?_
                intro e w9 h
                obtain ⟨_, h2, hb9⟩ := h
                obtain rfl := h2 HAL.out
                have HB9 := Lib.hid hb9
                have hcb := HCB8.out.below HB9.out HCB8.out.lt
                have y0 := hcb.cell (j := 0) rfl
                have y1 := hcb.cell (j := 1) rfl
                have y2 := hcb.cell (j := 2) rfl
                have y3 := hcb.cell (j := 3) rfl
                have yl := hcb.lt
                clear hcb
                clear h2 hb9 x0 x1 x2 x3 xl
                go_wp2_with fail
                refine (HMY.out _ HB9.out).mono ?_
                rintro e w10 ⟨rfl, hb10⟩
                have HB10 := Lib.hid (HB9.out.trans (hb10.mono HB9.out.size))
                have HF10 := Lib.hid (HF8.out.trans (HB10.out.mono HF8.out.size))
                have hcb := HCB8.out.below HB10.out HCB8.out.lt
                have hib := HIB.out.below HB10.out HIB.out.lt
                have z0 := hcb.cell (j := 0) rfl
                have z1 := hcb.cell (j := 1) rfl
                have z2 := hcb.cell (j := 2) rfl
                have z3 := hcb.cell (j := 3) rfl
                have zl := hcb.lt
                have v0 := hib.cell (j := 0) rfl
                have v1 := hib.cell (j := 1) rfl
                have v2 := hib.cell (j := 2) rfl
                have v3 := hib.cell (j := 3) rfl
                have vl := hib.lt
                clear hcb hib
                clear hb10 y0 y1 y2 y3 yl
                go_wp2_with fail
                refine (lnum16_any 1 _).mono ?_
                rintro e w' ⟨rfl, hw'⟩
                rw [hw']
                clear hw' w'
                go_wp2_with fail
                refine (HEC.out _ HB10.out).mono ?_
                rintro e w11 ⟨rfl, hb11⟩
                have HBX := Lib.hid (HF10.out.trans (hb11.mono HF10.out.size))
                clear hb11 z0 z1 z2 z3 zl v0 v1 v2 v3 vl
                go_wp2_with fail
                obtain ⟨w11', rfl⟩ : ∃ w11' : World, w11' = w11 := ⟨_, rfl⟩
                go_loopw [11] (fun i wr => i = .int .i64 0 ∧ wr = w11') (fun i _ => 0)
                case atStart => exact ⟨rfl, rfl⟩
                case round =>
                  obtain ⟨rfl, rfl⟩ := hrel
                  go_wp2_with fail
                  go_roundw
                  case rel => exact ⟨f + 1, by go_num, hflt, HBX.out⟩
                  case measure => simp [intOf]; omega
              | true =>
                rw [hal] at HMY
                obtain ⟨⟨q1, q2, q3, q4, _, q5, q6, q7⟩, _⟩ := alone_all hal
                have HRL := Lib.hid (fun W (hW : Below w8.heap.size w8 W) => rlive_any c LA lc BA bc c.regs.toNat B W (by have := hW.size; have := HF8.out.size; have := HBW.out.size; omega) (HCI.out.below ((HB2.out.trans ((HB7.out.trans ((HB8.out.trans (hW.mono HB8.out.size)).mono HB7.out.size)).mono HB2.out.size)).mono (by have := HBF.out.size; have := HBW.out.size; omega)) (Nat.le_refl _) (fun _ _ h => h.below ((HB2.out.trans ((HB7.out.trans ((HB8.out.trans (hW.mono HB8.out.size)).mono HB7.out.size)).mono HB2.out.size)).mono (by have := HBF.out.size; have := HBW.out.size; omega)) (Nat.le_refl _))) (alone_named hal) (fun x hx => alone_regs hal hx) (by omega) (by omega) q7 (fun x hx => HCF.out.2.2.2 x hx))
                have HAL := Lib.hid hal
                clear hal q1 q2 q3 q4 q5 q6 q7
                go_wp2_with fail
                refine HLV.out.mono ?_
                intro e w9 h
                obtain ⟨h1, _, hb9⟩ := h
                obtain ⟨rows, A4, c4, hlv, rfl, hsl⟩ := h1 HAL.out
                have HIL := Lib.hid hlv
                have HSL9 := Lib.hid hsl
                have HB9 := Lib.hid hb9
                have hcb := HCB8.out.below HB9.out HCB8.out.lt
                have y0 := hcb.cell (j := 0) rfl
                have y1 := hcb.cell (j := 1) rfl
                have y2 := hcb.cell (j := 2) rfl
                have y3 := hcb.cell (j := 3) rfl
                have yl := hcb.lt
                clear hcb
                clear h1 hb9 hlv hsl x0 x1 x2 x3 xl
                go_wp2_with fail
                refine (HMY.out _ HB9.out).mono ?_
                rintro e w9b ⟨rfl, hb9b⟩
                have HB9B := Lib.hid (HB9.out.trans (hb9b.mono HB9.out.size))
                have HSLB := Lib.hid (HSL9.out.below hb9b hb9b.size (fun _ _ h => RowsE.mono _ _ _ _ _ _ _ (Sub.of_below hb9b) hb9b.size (fun _ _ _ h => h) h))
                clear hb9b y0 y1 y2 y3 yl
                have hcb := HCB8.out.below HB9B.out HCB8.out.lt
                have y0 := hcb.cell (j := 0) rfl
                have y1 := hcb.cell (j := 1) rfl
                have y2 := hcb.cell (j := 2) rfl
                have y3 := hcb.cell (j := 3) rfl
                have yl := hcb.lt
                clear hcb
                go_wp2_with fail
                refine (HRL.out _ HB9B.out).mono ?_
                rintro e w10 ⟨rows2, rb2, hlv2, rfl, hsl2, hb10⟩
                obtain rfl := hlv2.only HIL.out
                have HB10 := Lib.hid (HB9B.out.trans (hb10.mono HB9B.out.size))
                have HF10 := Lib.hid (HF8.out.trans (HB10.out.mono HF8.out.size))
                have HSL := Lib.hid (HSLB.out.below hb10 hb10.size (fun _ _ h => RowsE.mono _ _ _ _ _ _ _ (Sub.of_below hb10) hb10.size (fun _ _ _ h => h) h))
                have HSW := Lib.hid hsl2
                have hcb := HCB8.out.below HB10.out HCB8.out.lt
                have hib := HIB.out.below HB10.out HIB.out.lt
                have z0 := hcb.cell (j := 0) rfl
                have z1 := hcb.cell (j := 1) rfl
                have z2 := hcb.cell (j := 2) rfl
                have z3 := hcb.cell (j := 3) rfl
                have zl := hcb.lt
                have v0 := hib.cell (j := 0) rfl
                have v1 := hib.cell (j := 1) rfl
                have v2 := hib.cell (j := 2) rfl
                have v3 := hib.cell (j := 3) rfl
                have vl := hib.lt
                clear hcb hib
                clear hb10 hlv2 hsl2 y0 y1 y2 y3 yl
                go_wp2_with fail
                refine (lnum16_any 0 _).mono ?_
                rintro e w' ⟨rfl, hw'⟩
                rw [hw']
                clear hw' w'
                go_wp2_with fail
                refine (HEC.out _ HB10.out).mono ?_
                rintro e w11 ⟨rfl, hb11⟩
                have HBX := Lib.hid (HF10.out.trans (hb11.mono HF10.out.size))
                have HS1 := Lib.hid (HSL.out.below hb11 hb11.size (fun _ _ h => RowsE.mono _ _ _ _ _ _ _ (Sub.of_below hb11) hb11.size (fun _ _ _ h => h) h))
                have HS2 := Lib.hid (HSW.out.below hb11 hb11.size (fun _ _ h => RowsE.mono _ _ _ _ _ _ _ (Sub.of_below hb11) hb11.size (fun _ _ _ h => h) h))
                have hrl := (SliceAt.len HS2.out).2
                clear hb11 z0 z1 z2 z3 zl v0 v1 v2 v3 vl
                go_wp2_with fail
                obtain ⟨w11', rfl⟩ : ∃ w11' : World, w11' = w11 := ⟨_, rfl⟩
                go_loopw [11] (fun i wr => ∃ j : Nat, i = .int .i64 j ∧ j ≤ rows2.length ∧ Below w11'.heap.size w11' wr) (fun i _ => rows2.length - (intOf i).toNat)
                case atStart => exact ⟨0, rfl, Nat.zero_le _, Below.refl _ _⟩
                case round =>
                  obtain ⟨j, rfl, hj, hbj⟩ := hrel
                  have HBJ := Lib.hid hbj
                  by_cases hjlt : j < rows2.length
                  · have h1 := HS1.out.below hbj hbj.size (fun _ _ h => RowsE.mono _ _ _ _ _ _ _ (Sub.of_below hbj) hbj.size (fun _ _ _ h => h) h)
                    have h2 := HS2.out.below hbj hbj.size (fun _ _ h => RowsE.mono _ _ _ _ _ _ _ (Sub.of_below hbj) hbj.size (fun _ _ _ h => h) h)
                    obtain ⟨lb, loff, r1, hA1, hlb, hr1, v1, g1, hv1⟩ := SliceAt.get h1 hjlt
                    obtain ⟨wb, woff, r2, hA2, hwb, hr2, v2, g2, hv2⟩ := SliceAt.get h2 hjlt
                    rw [hr1] at hr2
                    injection hr2 with hr2
                    injection hA2 with hA2
                    injection hA2 with hA2 hA3
                    subst hr2 hA1 hA2 hA3
                    simp only [Nat.add_zero, Nat.mul_one, Nat.zero_add] at g1 g2
                    obtain ⟨A5, c5, rfl, _⟩ := id hv1
                    obtain ⟨A6, c6, rfl, _⟩ := id hv2
                    have HEN := Lib.hid (fun W (hW : Below wr.heap.size wr W) => eqNumbers_at r1 A5 A6 c5 c6 W.heap.size W (Nat.le_refl _) (LongsAt.below hv1 hW hW.size) (LongsAt.below hv2 hW hW.size))
                    have hj0 : (0 : Int) ≤ (j : Int) := by omega
                    have hj1 : (j : Int) < (rows2.length : Int) := by omega
                    clear h1 h2 hr1 hv1 hv2 hbj
                    go_wp2_with fail
                    refine region_grow (by kernel_rfl) (by kernel_rfl) (fun hG => ?_)
                    repeat (go_big_quiet_step (first | (go_at_call 6; exact call_grow (HEN.out _ (grow_below (Below.refl _ _) (Nat.le_refl _) _)))))
                    refine wpQuiet_nil ?_
                    rintro ⟨W9, hb9⟩
                    have HB9 := Lib.hid (HBJ.out.trans (hb9.mono HBJ.out.size))
                    dsimp only
                    clear hb9
                    go_wp2_with fail
                    go_roundw
                    case rel => exact ⟨j + 1, by go_num, hjlt, HB9.out⟩
                    case measure => simp [intOf]; omega
                  · obtain rfl : j = rows2.length := by omega
                    have HB12 := Lib.hid (HBX.out.trans (hbj.mono HBX.out.size))
                    clear hbj
                    go_wp2_with fail
                    go_roundw
                    case rel => exact ⟨f + 1, by go_num, hflt, HB12.out⟩
                    case measure => simp [intOf]; omega
          · obtain rfl : f = p.funcs.length := by omega
            clear hbf hBf
            go_wp2_with fail
            go_roundw
            case rel => exact ⟨k + 1, by go_num, by omega, HBW.out.trans (HBF.out.mono HBW.out.size), HBX.out.below HBF.out HBX.out.lt⟩
            case measure => simp [intOf]; omega
      · subst hke
        have hd3 : decide ((ps.length : Int) < (ps.length : Int)) = false := by simp
        clear hbw hbx
        go_wp2_with fail
        refine (HTW.out _ HBW.out).mono ?_
        rintro e w2 ⟨rfl, hb2⟩
        have HB2 := Lib.hid (HBW.out.trans (hb2.mono HBW.out.size))
        clear hb2
        go_wp2_with fail
        refine HQ.out _ _ _ ?_
        exact bodyPost_ret (v := .bool true) (by simp [results, Tryd.results4, go_sem]) rfl ⟨rfl, HB2.out⟩
      · have hd3 : decide ((k : Int) < (ps.length : Int)) = true := by simpa using hlt
        have hd4 : decide ((k : Int) < 3) = false := by simp; omega
        have hkl : (k : Int) < (ps.length : Int) := by omega
        clear hbw hbx
        go_wp2_with fail
        refine (HTW.out _ HBW.out).mono ?_
        rintro e w2 ⟨rfl, hb2⟩
        have HB2 := Lib.hid (HBW.out.trans (hb2.mono HBW.out.size))
        clear hb2
        go_wp2_with fail
        refine HQ.out _ _ _ ?_
        exact bodyPost_ret (v := .bool true) (by simp [results, Tryd.results4, go_sem]) rfl ⟨rfl, HB2.out⟩
end Go.Proofs.YtlenilbkifofjaaDoor
