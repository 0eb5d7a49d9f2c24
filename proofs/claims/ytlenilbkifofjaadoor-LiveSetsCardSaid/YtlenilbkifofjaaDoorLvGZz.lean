/- The page's After. Conditions: as stated. -/
import Derived.Test.YtlenilbkifofjaaDoorLvFZz
import Derived.Test.YtlenilbkifofjaaDoorRLabZz
set_option linter.unusedVariables false
set_option linter.unusedSimpArgs false
namespace Go.Proofs.YtlenilbkifofjaaDoor
open Go.RowKit

set_option maxRecDepth 100000 in
set_option maxHeartbeats 8000000 in
theorem rafter_any (c : CodeS) (LA : Option Addr) (lc : Nat) (BA : Option Addr) (bc tb k B : Nat) (w : World) (hB : B ≤ w.heap.size) (hK : SliceAt w B 6 (InsE w B) c.ins (.slice BA c.ins.length bc)) (hM : IntsAt w tb 8000 (labK c.ins c.ins.length)) (hU : ∀ n : Int, labI c.ins n = true → ∃ m : Nat, n = (m : Int) ∧ m < 8000 ∧ labK c.ins c.ins.length m = (labN c.ins n : Nat)) (hN : Named c.ins) (hk : k < c.ins.length) (hlen : c.ins.length ≤ 8000) :
    Calls Tryd.prog 30 #[.agg #[.int .i64 c.params, .int .i64 c.regs, .slice LA c.locs.length lc, .slice BA c.ins.length bc], .slice (some ⟨tb, 0, none⟩) 8000 8000, .int .i64 (k : Nat)] w fun e w' => NewInts (nextI c.ins k) w e w' := by
  obtain ⟨bb, boff, x, rfl, hbb, hbk, b0, b1, b2, b3, b4, ⟨sv, b5, hst⟩, hx0, hx1, hx2, hx3, hx4⟩ := SliceAt.get hK hk
  simp only [Nat.add_zero] at b0 b1 b2 b3 b4 b5
  obtain ⟨SA, scap, hsv⟩ : ∃ SA scap, sv = .slice SA x.arg.length scap := (by obtain ⟨A', c', h, _⟩ := hst; exact ⟨_, _, h⟩)
  subst hsv
  have hkb : (k : Int) < (c.ins.length : Int) := by omega
  have hbbl : bb < w.heap.size := by omega
  have hMW : ∀ W, Below w.heap.size w W → ∀ m, m < 8000 → W.cell? ⟨tb, m, none⟩ = some (.int .i64 (labK c.ins c.ins.length m)) := fun W hW m hm => by
    obtain ⟨cs, h1, h2, h3⟩ := hM
    exact (h1.below hW h1.lt).cell (h3 m hm)
  have htb : tb < w.heap.size := by obtain ⟨cs, h1, _⟩ := hM; exact h1.lt
  have HMW := Lib.hid hMW
  have HU := Lib.hid hU
  have HX := Lib.hid (nextL_cases hbk)
  have HNM := Lib.hid (fun h => hN x (List.mem_of_getElem? hbk) h)
  have H64 := Lib.hid (show ∀ j : Nat, j ≤ 8000 → In64 (j : Int) from fun j hj => by unfold In64; omega)
  have hB2 := below2 w (.cells #[.int .i64 c.params, .int .i64 c.regs, .slice LA c.locs.length lc, .slice (some ⟨bb, boff, none⟩) c.ins.length bc] 33) (.cells #[.int .i64 x.op, .int .i64 x.dst, .int .i64 x.a, .int .i64 x.b, .int .i64 x.n, .slice SA x.arg.length scap] 38)
  have HB2 := Lib.hid hB2
  have HLK := Lib.hid (HMW.out w (Below.refl _ _))
  clear hK hM hN hU hMW hbk hst hB2
  obtain ⟨op, dst, a, b, nn, arg⟩ := x
  simp only at b0 b1 b2 b3 b4 b5 HX HNM HLK HB2 hx4
  have hcase : (op = 17 ∨ op = 13) ∨ op = 15 ∨ op = 16 ∨ ((op == 17) = false ∧ (op == 13) = false ∧ (op == 15) = false ∧ (op == 16) = false) := by
    simp only [beq_eq_false_iff_ne]
    omega
  rcases hcase with (rfl | rfl) | rfl | rfl | ⟨d1, d2, d3, d4⟩
  · have HY := Lib.hid (show nextI c.ins k = [] from by unfold nextI; rw [HX.out]; simp)
    go_enter Tryd.func30, Tryd.ntmps30
    refine wp_letter (fun Q hQ => ?_)
    have HQ := Lib.hid hQ
    clear hQ
    go_wp2_with fail
    refine HQ.out _ _ _ ?_
    rw [HY.out]
    exact bodyPost_ret (v := .slice none 0 0) (by simp [results, Tryd.results30, go_sem]) rfl (newInts_nil _ _ HB2.out)
  · have HY := Lib.hid (show nextI c.ins k = [] from by unfold nextI; rw [HX.out]; simp)
    go_enter Tryd.func30, Tryd.ntmps30
    refine wp_letter (fun Q hQ => ?_)
    have HQ := Lib.hid hQ
    clear hQ
    go_wp2_with fail
    refine HQ.out _ _ _ ?_
    rw [HY.out]
    exact bodyPost_ret (v := .slice none 0 0) (by simp [results, Tryd.results30, go_sem]) rfl (newInts_nil _ _ HB2.out)
  · have hl := HNM.out (by simp)
    have h3 := labN_lt hl
    obtain ⟨m, rfl, hm8, hmK⟩ := HU.out nn hl
    have hlook := HLK.out m hm8
    rw [hmK] at hlook
    have hm0 : (0 : Int) ≤ (m : Int) := by omega
    have hm1 : (m : Int) < 8000 := by omega
    clear hmK
    have HY := Lib.hid (show nextI c.ins k = [((labN c.ins (m : Int) : Nat) : Int)] from by unfold nextI; rw [HX.out]; simp)
    have HI := Lib.hid (H64.out (labN c.ins (m : Int)) (by omega))
    clear hl h3
    go_enter Tryd.func30, Tryd.ntmps30
    refine wp_letter (fun Q hQ => ?_)
    have HQ := Lib.hid hQ
    clear hQ
    go_wp2_with fail
    refine HQ.out _ _ _ ?_
    rw [HY.out]
    exact bodyPost_ret (v := .slice (some ⟨w.heap.size + 2, 0, none⟩) 1 1) (by simp [results, Tryd.results30, go_sem]) rfl ⟨_, _, rfl, longs_new1 _ _ (by simp) _ HI.out, fun h => by simp at h, Nat.le_refl _, HB2.out.trans ((below1 _ _).mono (HB2.out.size))⟩
  · have hl := HNM.out (by simp)
    have h3 := labN_lt hl
    obtain ⟨m, rfl, hm8, hmK⟩ := HU.out nn hl
    have hlook := HLK.out m hm8
    rw [hmK] at hlook
    have hm0 : (0 : Int) ≤ (m : Int) := by omega
    have hm1 : (m : Int) < 8000 := by omega
    clear hmK
    have HY := Lib.hid (show nextI c.ins k = [(k : Int) + 1, ((labN c.ins (m : Int) : Nat) : Int)] from by unfold nextI; rw [HX.out]; simp)
    have HI := Lib.hid (H64.out (labN c.ins (m : Int)) (by omega))
    have HJ := Lib.hid (show In64 ((k : Int) + 1) from by unfold In64; omega)
    clear hl h3
    go_enter Tryd.func30, Tryd.ntmps30
    refine wp_letter (fun Q hQ => ?_)
    have HQ := Lib.hid hQ
    clear hQ
    go_wp2_with fail
    refine HQ.out _ _ _ ?_
    rw [HY.out]
    exact bodyPost_ret (v := .slice (some ⟨w.heap.size + 2, 0, none⟩) 2 2) (by simp [results, Tryd.results30, go_sem]) rfl ⟨_, _, rfl, longs_new2 _ _ (by simp) _ _ HJ.out HI.out, fun h => by simp at h, Nat.le_refl _, HB2.out.trans ((below1 _ _).mono (HB2.out.size))⟩
  · have HY := Lib.hid (show nextI c.ins k = [(k : Int) + 1] from by
      simp only [beq_eq_false_iff_ne] at d1 d2 d3 d4
      unfold nextI
      rw [HX.out]
      simp [d1, d2, d3, d4])
    have HJ := Lib.hid (show In64 ((k : Int) + 1) from by unfold In64; omega)
    go_enter Tryd.func30, Tryd.ntmps30
    refine wp_letter (fun Q hQ => ?_)
    have HQ := Lib.hid hQ
    clear hQ
    go_wp2_with fail
    refine HQ.out _ _ _ ?_
    rw [HY.out]
    exact bodyPost_ret (v := .slice (some ⟨w.heap.size + 2, 0, none⟩) 1 1) (by simp [results, Tryd.results30, go_sem]) rfl ⟨_, _, rfl, longs_new1 _ _ (by simp) _ HJ.out, fun h => by simp at h, Nat.le_refl _, HB2.out.trans ((below1 _ _).mono (HB2.out.size))⟩
end Go.Proofs.YtlenilbkifofjaaDoor
