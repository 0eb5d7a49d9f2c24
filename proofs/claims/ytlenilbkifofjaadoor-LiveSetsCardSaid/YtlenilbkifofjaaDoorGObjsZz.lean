/- The graph's checks: Objects. Conditions: as stated. -/
import Derived.Test.YtlenilbkifofjaaDoorGAskAZz
import Derived.Test.YtlenilbkifofjaaDoorQ03Zz
set_option linter.unusedVariables false
set_option linter.unusedSimpArgs false
namespace Go.Proofs.YtlenilbkifofjaaDoor
open Go.RowKit

set_option maxRecDepth 100000 in
set_option maxHeartbeats 8000000 in
theorem gobjs_any (l : List ObS) (A : Option Addr) (n cap : Nat) (most : Int) (B : Nat) (w : World) (hB : B ≤ w.heap.size) (hl : SliceAt w B 3 (ObE w B) l (.slice A n cap)) :
    Calls Tryd.prog 61 #[.slice A n cap, .int .i64 most] w fun e w' => e = .returned (.bool (objsB l most)) ∧ Below w.heap.size w w' := by
  obtain ⟨hln, hn⟩ := hl.len
  have HL := Lib.hid hl
  have HLN := Lib.hid hln
  clear hl hln
  go_enter Tryd.func61, Tryd.ntmps61
  refine wp_letter (fun Q hQ => ?_)
  have HQ := Lib.hid hQ
  clear hQ
  go_wp2_with fail
  go_loopw [9] (fun i wr => ∃ k : Nat, k ≤ n ∧ i = .int .i64 k ∧ obsB (l.drop k) = obsB l ∧ Below w.heap.size w wr) (fun i _ => n - (intOf i).toNat)
  case atStart => exact ⟨0, by omega, rfl, rfl, Below.refl _ _⟩
  case round =>
    obtain ⟨k, hk, rfl, hcs, hbw⟩ := hrel
    have HCS := Lib.hid hcs
    have HBW := Lib.hid hbw
    clear hcs
    have hzw := hbw.size
    by_cases hlt : k < n
    · obtain ⟨b, off, o, rfl, hb, hk1, c0, c1, ⟨v, c2, hv⟩, _, _⟩ := (HL.out.below (hbw.mono hB) (Nat.le_refl _) (fun _ _ h => h.below (hbw.mono hB) (Nat.le_refl _))).get hlt
      simp only [Nat.add_zero] at c0 c1 c2
      obtain ⟨IA, icap, hiv⟩ : ∃ IA icap, v = .slice IA o.init.length icap := (by obtain ⟨A', c', h, _⟩ := hv; exact ⟨_, _, h⟩)
      subst hiv
      have hil := hv.len.2
      have HD := Lib.hid (show obsB (l.drop k) = (obB o && obsB (l.drop (k + 1))) from by rw [drop_of hk1]; rfl)
      have hklt : (k : Int) < (n : Int) := by omega
      have hbl : b < wr.heap.size := by omega
      have HS := Lib.hid (fun W => gsize_any o.size W)
      clear hk1 hv hbw
      have HBAD := Lib.hid (show obB o = false → obsB l = false from fun h => by rw [← HCS.out, HD.out, h]; rfl)
      have HGOOD := Lib.hid (show obB o = true → obsB (l.drop (k + 1)) = obsB l from fun h => by rw [← HCS.out, HD.out, h]; rfl)
      cases hq1 : sizeB o.size with
      | false =>
        rw [hq1] at HS
        have HE := Lib.hid (show objsB l most = false by unfold objsB; rw [HBAD.out (by unfold obB; rw [hq1]; rfl)]; rfl)
        clear hq1
        go_wp2_with fail
        refine (HS.out _).mono ?_
        rintro e w' ⟨rfl, rfl⟩
        go_wp2_with fail
        refine HQ.out _ _ _ ?_
        exact bodyPost_ret (v := .bool false) (by simp [results, Tryd.results61, go_sem]) rfl ⟨by rw [HE.out], HBW.out.trans ((below1 wr (.cells #[.int .i64 o.size, .int .i64 o.count, .slice IA o.init.length icap] 67)).mono hzw)⟩
      | true =>
        rw [hq1] at HS
        by_cases h1 : o.count < 1
        · have d1 : decide (o.count < 1) = true := by simpa using h1
          have HE := Lib.hid (show objsB l most = false by unfold objsB; rw [HBAD.out (by unfold obB betwB; rw [hq1]; simp; omega)]; rfl)
          clear hq1 h1
          go_wp2_with fail
          refine (HS.out _).mono ?_
          rintro e w' ⟨rfl, rfl⟩
          go_wp2_with fail
          refine HQ.out _ _ _ ?_
          exact bodyPost_ret (v := .bool false) (by simp [results, Tryd.results61, go_sem]) rfl ⟨by rw [HE.out], HBW.out.trans ((below1 wr (.cells #[.int .i64 o.size, .int .i64 o.count, .slice IA o.init.length icap] 67)).mono hzw)⟩
        · have d1 : decide (o.count < 1) = false := by simpa using h1
          by_cases h2 : o.count > 64
          · have d2 : decide (64 < o.count) = true := by simpa using h2
            have HE := Lib.hid (show objsB l most = false by unfold objsB; rw [HBAD.out (by unfold obB betwB; rw [hq1]; simp; omega)]; rfl)
            clear hq1 h1 h2
            go_wp2_with fail
            refine (HS.out _).mono ?_
            rintro e w' ⟨rfl, rfl⟩
            go_wp2_with fail
            refine HQ.out _ _ _ ?_
            exact bodyPost_ret (v := .bool false) (by simp [results, Tryd.results61, go_sem]) rfl ⟨by rw [HE.out], HBW.out.trans ((below1 wr (.cells #[.int .i64 o.size, .int .i64 o.count, .slice IA o.init.length icap] 67)).mono hzw)⟩
          · have d2 : decide (64 < o.count) = false := by simpa using h2
            by_cases h3 : (o.init.length : Int) > o.count
            · have d3 : decide (o.count < (o.init.length : Int)) = true := by simpa using h3
              have HE := Lib.hid (show objsB l most = false by unfold objsB; rw [HBAD.out (by unfold obB betwB; rw [hq1]; simp; omega)]; rfl)
              clear hq1 h1 h2 h3
              go_wp2_with fail
              refine (HS.out _).mono ?_
              rintro e w' ⟨rfl, rfl⟩
              go_wp2_with fail
              refine HQ.out _ _ _ ?_
              exact bodyPost_ret (v := .bool false) (by simp [results, Tryd.results61, go_sem]) rfl ⟨by rw [HE.out], HBW.out.trans ((below1 wr (.cells #[.int .i64 o.size, .int .i64 o.count, .slice IA o.init.length icap] 67)).mono hzw)⟩
            · have d3 : decide (o.count < (o.init.length : Int)) = false := by simpa using h3
              have HE := Lib.hid (HGOOD.out (by unfold obB betwB; rw [hq1]; simp; omega))
              clear hq1 h1 h2 h3
              go_wp2_with fail
              refine (HS.out _).mono ?_
              rintro e w' ⟨rfl, rfl⟩
              go_wp2_with fail
              go_roundw
              case rel => exact ⟨k + 1, by omega, by go_num, HE.out, HBW.out.trans ((below1 wr (.cells #[.int .i64 o.size, .int .i64 o.count, .slice IA o.init.length icap] 67)).mono hzw)⟩
              case measure => simp [intOf]; omega
    · obtain rfl : k = n := by omega
      have he : obsB l = true := by rw [← HCS.out, drop_nil_of (by rw [HLN.out]; exact Nat.le_refl _)]; rfl
      have hl2 : objsB l most = decide ((k : Int) ≤ most) := by unfold objsB; rw [he, HLN.out]; rfl
      have HE := Lib.hid hl2
      clear he hl2
      go_wp2_with fail
      refine HQ.out _ _ _ ?_
      exact bodyPost_ret (v := .bool (decide ((k : Int) ≤ most))) (by simp [results, Tryd.results61, go_sem]) rfl ⟨by rw [HE.out], HBW.out⟩
end Go.Proofs.YtlenilbkifofjaaDoor
