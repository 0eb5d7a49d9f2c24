/- gantletlaw14.Heavy: it answers. Conditions: as stated. -/
import Derived.Test.YtlenilbkifofjaaDoorVWgtZz
set_option linter.unusedVariables false
set_option linter.unusedSimpArgs false
namespace Go.Proofs.YtlenilbkifofjaaDoor
open Go.RowKit

set_option maxRecDepth 100000 in
set_option maxHeartbeats 8000000 in
theorem heavy14_any (ps : List VirtS) (PA IA : Option Addr) (pn pc il ic : Nat) (fuel : Int) (B : Nat) (w : World) (hB : B ≤ w.heap.size) (hps : SliceAt w B 3 (VirtE w B) ps (.slice PA pn pc)) (hpn : pn ≤ 200000000000000) (hil : il ≤ 200000000000000) (hsz : ∀ p, p ∈ ps → p.globs.length ≤ 200000000000000 ∧ ∀ g, g ∈ p.funcs → g.locs.length ≤ 200000000000000 ∧ g.ins.length ≤ 200000000000000 ∧ ∀ x, x ∈ g.ins → x.arg.length ≤ 200000000000000) :
    Calls Tryd.prog 5 #[.agg #[.slice PA pn pc, .slice IA il ic, .int .i64 fuel]] w fun e w' => ∃ b, e = .returned (.bool b) ∧ Below w.heap.size w w' := by
  have HP := Lib.hid hps
  have HSZ := Lib.hid hsz
  clear hps hsz
  go_enter Tryd.func5, Tryd.ntmps5
  refine wp_letter (fun Q hQ => ?_)
  have HQ := Lib.hid hQ
  clear hQ
  go_wp2_with fail
  go_loopw [3, 4] (fun a i wr => ∃ (k : Nat) (n : Int), a = .int .i64 n ∧ i = .int .i64 k ∧ k ≤ pn ∧ 0 ≤ n ∧ n ≤ 2000000000000000 ∧ Below w.heap.size w wr ∧ Row wr w.heap.size #[.slice PA pn pc, .slice IA il ic, .int .i64 fuel] 25) (fun _ i _ => pn - (intOf i).toNat)
  case atStart => exact ⟨0, il + pn, rfl, rfl, by omega, by omega, by omega, below1 _ _, Row.new w _ _⟩
  case round =>
    obtain ⟨k, n, rfl, rfl, hk2, hm0, hm1, hbw, hr⟩ := hrel
    have HBW := Lib.hid hbw
    have HR := Lib.hid hr
    have r0 := hr.cell (j := 0) rfl
    have rl := hr.lt
    have hzw := hbw.size
    by_cases hgo : k < pn ∧ n < 1048576
    · obtain ⟨hlt, hn⟩ := hgo
      obtain ⟨b, off, p, hpa, hb, hk1, hE⟩ := (HP.out.below (hbw.mono hB) (Nat.le_refl _) (fun _ _ h => h.below (hbw.mono hB) (Nat.le_refl _))).get hlt
      obtain ⟨P, c0, c1, c2, hpt⟩ := hE.at
      simp only [Nat.add_zero] at c0 c1 c2
      subst hpa
      have hs := HSZ.out p (List.mem_of_getElem? hk1)
      have HC := Lib.hid (vwgt_any p P B wr (by omega) hpt hs.1 hs.2)
      have hklt : (k : Int) < (pn : Int) := by omega
      have hd3 : decide ((k : Int) < (pn : Int)) = true := by simpa using hlt
      have hd4 : decide (n < 1048576) = true := by simpa using hn
      have hbl : b < wr.heap.size := by omega
      clear hk1 hpt hE hbw hr hs
      go_wp2_with fail
      refine HC.out.mono ?_
      rintro e w1 ⟨q, rfl, hq0, hq1, hb1⟩
      have HB1 := Lib.hid hb1
      clear hb1
      go_wp2_with fail
      go_roundw
      case rel => exact ⟨k + 1, n + q, rfl, by go_num, by omega, by omega, by omega, HBW.out.trans (HB1.out.mono hzw), HR.out.below HB1.out HR.out.lt⟩
      case measure => simp [intOf]; omega
    · have hor : decide (k < pn) = false ∨ (decide (k < pn) = true ∧ decide (n < 1048576) = false) := by
        by_cases hlt : k < pn
        · exact Or.inr ⟨by simpa using hlt, by simp; exact Int.not_lt.1 (fun h => hgo ⟨hlt, h⟩)⟩
        · exact Or.inl (by simp; omega)
      clear hgo hbw hr
      rcases hor with hd | ⟨hd, hd2⟩
      all_goals
        go_wp2_with fail
        refine HQ.out _ _ _ ?_
        exact bodyPost_ret (v := .bool (decide (9000 < n))) (by simp [results, Tryd.results5, go_sem]) rfl ⟨_, rfl, HBW.out⟩
end Go.Proofs.YtlenilbkifofjaaDoor
