/- VirtFuel: the walk. Conditions: as stated. -/
import Derived.Test.YtinmgbodgecoeaaVFuelRZz
import Derived.Test.YtinmgbodgecoeaaQ10Zz
import Derived.Test.YtinmgbodgecoeaaQ11Zz
import Derived.Test.YtinmgbodgecoeaaQ12Zz
set_option linter.unusedVariables false
set_option linter.unusedSimpArgs false
namespace Go.Proofs.Ytinmgbodgecoeaa
open Go.RowKit

set_option maxRecDepth 100000 in
set_option maxHeartbeats 16000000 in
theorem vfuel_any (ps : List VirtS) (inp : List Int) (PA IA : Option Addr) (pn pc il ic : Nat) (af : Int) (B : Nat) (w : World) (hB : B ≤ w.heap.size) (hps : SliceAt w B 3 (VirtE w B) ps (.slice PA pn pc)) (hin : InW w B (.slice IA il ic) inp) (hpn : pn ≤ 200000000000000) (hil : il ≤ 200000000000000)
    (hsz : ∀ p, p ∈ ps → p.globs.length ≤ 200000000000000 ∧ ∀ g, g ∈ p.funcs → g.locs.length ≤ 200000000000000 ∧ g.ins.length ≤ 200000000000000 ∧ ∀ x, x ∈ g.ins → x.arg.length ≤ 200000000000000) :
    Calls Try.prog 3 #[.agg #[.slice PA pn pc, .slice IA il ic, .int .i64 af]] w fun e w' => e = .returned (.bool true) ∧ Below w.heap.size w w' := by
  have HHV := Lib.hid (heavy14_any ps PA IA pn pc il ic af B (w.alloc (.cells #[.slice PA pn pc, .slice IA il ic, .int .i64 af] 25)) (by simp; omega) (hps.below ((below1 w _).mono hB) (Nat.le_refl _) (fun _ _ h => h.below ((below1 w _).mono hB) (Nat.le_refl _))) hpn hil hsz)
  have HPS := Lib.hid hps
  have HIN := Lib.hid hin
  have HSZ := Lib.hid hsz
  clear hps hin hsz
  go_enter Try.func3, Try.ntmps3
  refine wp_letter (fun Q hQ => ?_)
  have HQ := Lib.hid hQ
  clear hQ
  go_wp2_with fail
  refine HHV.out.mono ?_
  rintro e w1 ⟨hv, rfl, hb1⟩
  have HB1 := Lib.hid ((below1 w (.cells #[.slice PA pn pc, .slice IA il ic, .int .i64 af] 25)).trans (hb1.mono (below1 w _).size))
  have HR1 := Lib.hid ((Row.new w #[.slice PA pn pc, .slice IA il ic, .int .i64 af] 25).below hb1 (by simp))
  clear hb1
  cases hv with
  | true =>
    go_wp2_with fail
    refine HQ.out _ _ _ ?_
    exact bodyPost_ret (v := .bool true) (by simp [results, Try.results3, go_sem]) rfl ⟨rfl, HB1.out⟩
  | false =>
    go_wp2_with fail
    go_loopw [3] (fun i wr => ∃ k : Nat, i = .int .i64 k ∧ k ≤ pn ∧ Below w.heap.size w wr ∧ Row wr w.heap.size #[.slice PA pn pc, .slice IA il ic, .int .i64 af] 25) (fun i _ => pn - (intOf i).toNat)
    case atStart => exact ⟨0, rfl, by omega, HB1.out, HR1.out⟩
    case round =>
      obtain ⟨k, rfl, hk, hbw, hbx⟩ := hrel
      have HBW := Lib.hid hbw
      have HBX := Lib.hid hbx
      have r0 := hbx.cell (j := 0) rfl
      have rl := hbx.lt
      by_cases hgo : k < pn ∧ k < 3
      · obtain ⟨hlt, hlt3⟩ := hgo
        obtain ⟨qb, qoff, p, hpa, hqb, hk1, hE⟩ := (HPS.out.below (hbw.mono hB) (Nat.le_refl _) (fun _ _ h => h.below (hbw.mono hB) (Nat.le_refl _))).get hlt
        obtain ⟨P, c0, c1, c2, hpt⟩ := hE.at
        simp only [Nat.add_zero] at c0 c1 c2
        subst hpa
        obtain ⟨GA, gc, FA, fc, hPe⟩ := hpt.shape
        subst hPe
        simp only at c0 c1 c2
        have hqbl : qb < wr.heap.size := by have := hbw.size; omega
        have HRUN := Lib.hid (fun (fu : Int) (W : World) (hW : Below wr.heap.size wr W) => vrun_all B p (.slice GA p.globs.length gc, .slice FA p.funcs.length fc, .int .i64 p.main) inp (.slice IA il ic) fu W (by have := hW.size; have := HBW.out.size; omega) (hpt.below (hW.mono (by have := HBW.out.size; omega))) (HIN.out.below (fun b o hb => (HBW.out.trans (hW.mono HBW.out.size)).cell (p := ⟨b, o, none⟩) (by show b < w.heap.size; omega))))
        have HPI := Lib.hid hpt.pin
        have hkl : (k : Int) < (pn : Int) := by omega
        have hkl3 : (k : Int) < 3 := by omega
        have hd3 : decide ((k : Int) < (pn : Int)) = true := by simpa using hkl
        have hd4 : decide ((k : Int) < 3) = true := by simpa using hkl3
        have HE12 := Lib.hid (errV_two (p := p) 2000 3000 (by omega) (by omega) (by omega) (by omega))
        clear hk1 hE hpt
        go_wp2_with fail
        refine vfuA_region w.heap.size qb qoff k pn pc il ic p.globs.length gc p.funcs.length fc IA GA FA p.main 0 af wr (outV p inp 2000) (errV p 2000) (HBX.out.below (Below.refl wr.heap.size wr) HBX.out.lt) (Nat.lt_of_lt_of_le hqbl (Below.refl wr.heap.size wr).size) hlt (cell_below c0 (Below.refl wr.heap.size wr) hqbl) (cell_below c1 (Below.refl wr.heap.size wr) hqbl) (cell_below c2 (Below.refl wr.heap.size wr) hqbl) (fun W hW => (HRUN.out (2000) W ((Below.refl wr.heap.size wr).trans (hW.mono (Below.refl wr.heap.size wr).size)))) _ _ _ _ _ _ _ _ _ _ _ _ _ _ _ _ _ _ _ _ _ _ _ _ _ _ _ _ _ _ _ _ _ _ _ _ _ _ _ _ _ _ _ _ _ _ _ _ _ _ _ _ _ _ _ _ _ _ _ _ _ _ _ _ _ _ _ _ _ _ _ _ _ _ _ _ _ _ _ _ _ _ _ _ _ _ _ _ _ _ _ _ _ _ _ _ _ _ _ _ _ _ _ _ _ _ _ _ _ _ _ _ _ _ _ (fun w2 pA uA YA hb2 hpA hra hua => ?_)
        obtain ⟨UA, ua, rfl⟩ := slice_of_own hua
        have HB2 := Lib.hid hb2
        have HA2 := Lib.hid hra
        have HUA := Lib.hid hua
        clear hb2 hra hua
        go_wp2_with fail
        refine vfuB_region w.heap.size qb qoff k pn pc il ic p.globs.length gc p.funcs.length fc IA GA FA p.main 0 af w2 (outV p inp 3000) (errV p 3000) (HBX.out.below (HB2.out) HBX.out.lt) (Nat.lt_of_lt_of_le hqbl (HB2.out).size) hlt (cell_below c0 (HB2.out) hqbl) (cell_below c1 (HB2.out) hqbl) (cell_below c2 (HB2.out) hqbl) (fun W hW => (HRUN.out (3000) W ((HB2.out).trans (hW.mono (HB2.out).size)))) _ _ _ _ _ _ _ _ _ _ _ _ _ _ _ _ _ _ _ _ _ _ _ _ _ _ _ _ _ _ _ _ _ _ _ _ _ _ _ _ _ _ _ _ _ _ _ _ _ _ _ _ _ _ _ _ _ _ _ _ _ _ _ _ _ _ _ _ _ _ _ _ _ _ _ _ _ _ _ _ _ _ _ _ _ _ _ _ _ _ _ _ _ _ _ _ _ _ _ _ _ _ _ _ _ _ _ _ _ _ _ _ _ _ _ (fun w3 pB uB YB hb3 hpB hrb hub => ?_)
        obtain ⟨UB, ub, rfl⟩ := slice_of_own hub
        have HB3 := Lib.hid (HB2.out.trans (hb3.mono HB2.out.size))
        have HA := Lib.hid (HA2.out.below hb3 HA2.out.lt)
        have HB := Lib.hid hrb
        have HUA3 := Lib.hid ((ReadsL.of_own HUA.out).below hb3)
        have HUB3 := Lib.hid (ReadsL.of_own hub)
        have HPA := Lib.hid hpA
        clear hb3 hrb hub hpA hpB
        have HMORE := Lib.hid (outV_more (inp := inp) HPI.out)
        have HEX := Lib.hid (outV_exact (inp := inp) HPI.out)
        have HER := Lib.hid (outV_err (p := p) (inp := inp))
        rw [HE12.out] at HER
        rw [HE12.out]
        obtain ⟨o1, ho1⟩ : ∃ o, o = outV p inp 2000 := ⟨_, rfl⟩
        obtain ⟨o2, ho2⟩ : ∃ o, o = outV p inp 3000 := ⟨_, rfl⟩
        obtain ⟨er, her⟩ : ∃ e, e = errV p 3000 := ⟨_, rfl⟩
        rw [← her] at HER
        rw [← her]
        rw [← ho1] at HMORE HEX HER HA HUA3
        rw [← ho2] at HMORE HB HUB3
        have a0 := HA.out.cell (j := 0) rfl
        have a1 := HA.out.cell (j := 1) rfl
        have a2 := HA.out.cell (j := 2) rfl
        have a3 := HA.out.cell (j := 3) rfl
        have a4 := HA.out.cell (j := 4) rfl
        have al := HA.out.lt
        have b0 := HB.out.cell (j := 0) rfl
        have b1 := HB.out.cell (j := 1) rfl
        have b2 := HB.out.cell (j := 2) rfl
        have b3 := HB.out.cell (j := 3) rfl
        have b4 := HB.out.cell (j := 4) rfl
        have bl := HB.out.lt
        have e0 : (er != er) = false := by simp
        by_cases hk2 : o1.kind = 2
        · have hE0 := HER.out hk2
          have e1 : (o1.kind != 2) = false := by simpa using hk2
          have e2 : (o1.kind == 2) = true := by simpa using hk2
          have e3 : (er == 0) = true := by simpa using hE0
          have e4 : (o1.kind != 1) = true := by rw [hk2]; rfl
          clear hk2 hE0 her ho1 ho2
          go_wp2_with fail
          refine (lnum14_any _ _).mono ?_
          rintro e w' ⟨rfl, rfl⟩
          go_wp2_with fail
          refine (lnum14_any _ _).mono ?_
          rintro e w' ⟨rfl, rfl⟩
          go_wp2_with fail
          go_roundw
          case rel => exact ⟨k + 1, by go_num, by omega, HBW.out.trans (HB3.out.mono HBW.out.size), HBX.out.below HB3.out HBX.out.lt⟩
          case measure => simp [intOf]; omega
        · have e1 : (o1.kind != 2) = true := by simpa using hk2
          have e2 : (o1.kind == 2) = false := by simpa using hk2
          have h12 := HMORE.out hk2
          subst h12
          have HEQ := Lib.hid (eqOut_read o2 (.slice UA o2.out.length ua) (.slice UB o2.out.length ub) w3 HUA3.out HUB3.out)
          by_cases hk1 : o2.kind = 1
          · have e4 : (o2.kind != 1) = false := by simpa using hk1
            obtain ⟨hs1, hs2, hx1, hx2, hx3, hx4⟩ := HEX.out hk1
            have HX := Lib.hid (And.intro hx1 (And.intro hx2 (And.intro hx3 hx4)))
            clear hk2 hk1 her ho1 ho2 hx1 hx2 hx3 hx4
            go_wp2_with fail
            refine (lnum14_any _ _).mono ?_
            rintro e w' ⟨rfl, rfl⟩
            go_wp2_with fail
            refine (lnum14_any _ _).mono ?_
            rintro e w' ⟨rfl, rfl⟩
            go_wp2_with fail
            refine HEQ.out.mono ?_
            rintro e w4 ⟨rfl, hb4⟩
            have HB4 := Lib.hid (HB3.out.trans (hb4.mono HB3.out.size))
            have HA4 := Lib.hid (HA.out.below hb4 al)
            have a0' := HA4.out.cell (j := 0) rfl
            have al' := HA4.out.lt
            have HUA4 := Lib.hid (HUA3.out.below hb4)
            clear hb4 a0 a1 a2 a3 a4 b0 b1 b2 b3 b4 al bl
            go_wp2_with fail
            refine vfuC_region w.heap.size qb qoff k pn pc il ic p.globs.length gc p.funcs.length fc IA GA FA p.main pA (o2.steps) 0 af w4 (outV p inp o2.steps) (errV p o2.steps) _ _ _ _ HA4.out (HBX.out.below (HB4.out) HBX.out.lt) (Nat.lt_of_lt_of_le hqbl (HB4.out).size) hlt (cell_below c0 (HB4.out) hqbl) (cell_below c1 (HB4.out) hqbl) (cell_below c2 (HB4.out) hqbl) (fun W hW => (HRUN.out (o2.steps) W ((HB4.out).trans (hW.mono (HB4.out).size)))) _ _ _ _ _ _ _ _ _ _ _ _ _ _ _ _ _ _ _ _ _ _ _ _ _ _ _ _ _ _ _ _ _ _ _ _ _ _ _ _ _ _ _ _ _ _ _ _ _ _ _ _ _ _ _ _ _ _ _ _ _ _ _ _ _ _ _ _ _ _ _ _ _ _ _ _ _ _ _ _ _ _ _ _ _ _ _ _ _ _ _ _ _ _ _ _ _ _ _ _ _ _ _ _ _ _ _ _ _ _ _ _ _ _ (fun w5 pC uC YC hb5 hpC hrc huc => ?_)
            obtain ⟨UC, uc, rfl⟩ := slice_of_own huc
            rw [HX.out.1] at hrc huc
            rw [HX.out.2.2.1]
            have HB5 := Lib.hid (HB4.out.trans (hb5.mono HB4.out.size))
            have HA5 := Lib.hid (HA4.out.below hb5 HA4.out.lt)
            have HC5 := Lib.hid hrc
            have HEQ2 := Lib.hid (eqOut_read o2 (.slice UC o2.out.length uc) (.slice UA o2.out.length ua) w5 (ReadsL.of_own huc) (HUA4.out.below hb5))
            have a0 := HA5.out.cell (j := 0) rfl
            have a1 := HA5.out.cell (j := 1) rfl
            have a2 := HA5.out.cell (j := 2) rfl
            have a3 := HA5.out.cell (j := 3) rfl
            have a4 := HA5.out.cell (j := 4) rfl
            have al := HA5.out.lt
            have b0 := HC5.out.cell (j := 0) rfl
            have b1 := HC5.out.cell (j := 1) rfl
            have b2 := HC5.out.cell (j := 2) rfl
            have b3 := HC5.out.cell (j := 3) rfl
            have b4 := HC5.out.cell (j := 4) rfl
            have bl := HC5.out.lt
            clear hb5 hrc huc hpC
            go_wp2_with fail
            refine (lnum14_any _ _).mono ?_
            rintro e w' ⟨rfl, rfl⟩
            go_wp2_with fail
            refine HEQ2.out.mono ?_
            rintro e w6 ⟨rfl, hb6⟩
            have HB6 := Lib.hid (HB5.out.trans (hb6.mono HB5.out.size))
            have HA6 := Lib.hid (HA5.out.below hb6 al)
            have a3'' := HA6.out.cell (j := 3) rfl
            have al'' := HA6.out.lt
            have d9 : decide (o2.steps < 1) = false := by simp; omega
            clear hb6 a0 a1 a2 a3 a4 b0 b1 b2 b3 b4 al bl
            go_wp2_with fail
            refine vfuD_region w.heap.size qb qoff k pn pc il ic p.globs.length gc p.funcs.length fc IA GA FA p.main pA (o2.steps) 0 af w6 (outV p inp (o2.steps - 1)) (errV p (o2.steps - 1)) _ _ _ _ HA6.out ⟨by omega, by omega⟩ (HBX.out.below (HB6.out) HBX.out.lt) (Nat.lt_of_lt_of_le hqbl (HB6.out).size) hlt (cell_below c0 (HB6.out) hqbl) (cell_below c1 (HB6.out) hqbl) (cell_below c2 (HB6.out) hqbl) (fun W hW => (HRUN.out (o2.steps - 1) W ((HB6.out).trans (hW.mono (HB6.out).size)))) _ _ _ _ _ _ _ _ _ _ _ _ _ _ _ _ _ _ _ _ _ _ _ _ _ _ _ _ _ _ _ _ _ _ _ _ _ _ _ _ _ _ _ _ _ _ _ _ _ _ _ _ _ _ _ _ _ _ _ _ _ _ _ _ _ _ _ _ _ _ _ _ _ _ _ _ _ _ _ _ _ _ _ _ _ _ _ _ _ _ _ _ _ _ _ _ _ _ _ _ _ _ _ _ _ _ _ _ _ _ _ _ _ _ (fun w7 pD uD YD hb7 hpD hrd hud => ?_)
            obtain ⟨UD, ud, rfl⟩ := slice_of_own hud
            rw [HX.out.2.2.2]
            have HB7 := Lib.hid (HB6.out.trans (hb7.mono HB6.out.size))
            have b0 := hrd.cell (j := 0) rfl
            have bl := hrd.lt
            rw [HX.out.2.1] at b0
            clear hb7 hrd hud hpD
            go_wp2_with fail
            refine (lnum14_any _ _).mono ?_
            rintro e w' ⟨rfl, rfl⟩
            go_wp2_with fail
            go_roundw
            case rel => exact ⟨k + 1, by go_num, by omega, HBW.out.trans (HB7.out.mono HBW.out.size), HBX.out.below HB7.out HBX.out.lt⟩
            case measure => simp [intOf]; omega
          · have e4 : (o2.kind != 1) = true := by simpa using hk1
            clear hk2 hk1 her ho1 ho2
            go_wp2_with fail
            refine (lnum14_any _ _).mono ?_
            rintro e w' ⟨rfl, rfl⟩
            go_wp2_with fail
            refine (lnum14_any _ _).mono ?_
            rintro e w' ⟨rfl, rfl⟩
            go_wp2_with fail
            refine HEQ.out.mono ?_
            rintro e w4 ⟨rfl, hb4⟩
            have HB4 := Lib.hid (HB3.out.trans (hb4.mono HB3.out.size))
            have HA4 := Lib.hid (HA.out.below hb4 al)
            have a0' := HA4.out.cell (j := 0) rfl
            have al' := HA4.out.lt
            clear hb4
            go_wp2_with fail
            go_roundw
            case rel => exact ⟨k + 1, by go_num, by omega, HBW.out.trans (HB4.out.mono HBW.out.size), HBX.out.below HB4.out HBX.out.lt⟩
            case measure => simp [intOf]; omega
      · have hor : decide (k < pn) = false ∨ (decide (k < pn) = true ∧ decide ((k : Int) < 3) = false) := by
          by_cases hlt : k < pn
          · exact Or.inr ⟨by simpa using hlt, by simp; omega⟩
          · exact Or.inl (by simp; omega)
        clear hgo hbw hbx
        rcases hor with hd | ⟨hd, hd2⟩
        all_goals
          go_wp2_with fail
          refine (wakes14_any _).mono ?_
          rintro e w9 ⟨rfl, hb9⟩
          go_wp2_with fail
          refine HQ.out _ _ _ ?_
          exact bodyPost_ret (v := .bool true) (by simp [results, Try.results3, go_sem]) rfl ⟨rfl, HBW.out.trans (hb9.mono HBW.out.size)⟩
end Go.Proofs.Ytinmgbodgecoeaa
