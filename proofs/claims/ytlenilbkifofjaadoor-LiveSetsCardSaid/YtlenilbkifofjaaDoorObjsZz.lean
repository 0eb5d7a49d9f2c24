/- Objs: whether objects may be. Conditions: as stated. -/
import Derived.Test.YtlenilbkifofjaaDoorQ03Zz
import Derived.Test.YtlenilbkifofjaaDoorQ01Zz
set_option linter.unusedVariables false
set_option linter.unusedSimpArgs false
namespace Go.Proofs.YtlenilbkifofjaaDoor
open Go.RowKit

set_option maxRecDepth 100000 in
set_option maxHeartbeats 4000000 in
theorem objs_any (l : List ObS) (A : Option Addr) (n cap : Nat) (most : Int) (B : Nat) (w : World) (hB : B ≤ w.heap.size) (hl : SliceAt w B 3 (ObE w B) l (.slice A n cap)) :
    Calls Tryd.prog 44 #[.slice A n cap, .int .i64 most] w fun e w' => e = .returned (.bool (objsB l most)) ∧ Below w.heap.size w w' := by
  obtain ⟨hln, hn⟩ := hl.len
  have HL := Lib.hid hl
  have HLN := Lib.hid hln
  clear hl hln
  go_enter Tryd.func44, Tryd.ntmps44
  go_wp2_with fail
  go_loopw [5] (fun i wr => ∃ k : Nat, k ≤ n ∧ i = .int .i64 k ∧ obsB (l.drop k) = obsB l ∧ Below w.heap.size w wr) (fun i _ => n - (intOf i).toNat)
  case atStart => exact ⟨0, by omega, rfl, rfl, Below.refl _ _⟩
  case round =>
    obtain ⟨k, hk, rfl, hcs, hbw⟩ := hrel
    have HCS := Lib.hid hcs
    clear hcs
    have hzw := hbw.size
    by_cases hlt : k < n
    · obtain ⟨b, off, o, rfl, hb, hk1, c0, c1, ⟨v, c2, hv⟩, _, _⟩ := (HL.out.below (hbw.mono hB) (Nat.le_refl _) (fun _ _ h => h.below (hbw.mono hB) (Nat.le_refl _))).get hlt
      simp only [Nat.add_zero] at c0 c1 c2
      obtain ⟨IA, icap, hiv⟩ : ∃ IA icap, v = .slice IA o.init.length icap := (by obtain ⟨A', c', h, _⟩ := hv; exact ⟨_, _, h⟩)
      subst hiv
      have hil := hv.len.2
      have HD := Lib.hid (show obsB (l.drop k) = (obB o && obsB (l.drop (k + 1))) from by rw [drop_of hk1]; rfl)
      have hklt : (k : Int) < (n : Int) := by omega
      have hbl : b < wr.heap.size := by omega
      have HS := Lib.hid (fun W => size_any o.size W)
      have HT := Lib.hid (fun W => between_any o.count 1 64 W)
      obtain ⟨q1, hq1⟩ : ∃ q, q = sizeB o.size := ⟨_, rfl⟩
      obtain ⟨q2, hq2⟩ : ∃ q, q = betwB o.count 1 64 := ⟨_, rfl⟩
      rw [← hq1] at HS
      rw [← hq2] at HT
      have HO := Lib.hid (show obB o = (q1 && q2 && !decide ((o.init.length : Int) > o.count)) from by rw [hq1, hq2]; rfl)
      clear hk1 hv hq1 hq2
      have hbad : obB o = false → obsB l = false := fun h => by rw [← HCS.out, HD.out, h]; rfl
      have hgood : obB o = true → obsB (l.drop (k + 1)) = obsB l := fun h => by rw [← HCS.out, HD.out, h]; rfl
      have HBAD := Lib.hid hbad
      have HGOOD := Lib.hid hgood
      clear hbad hgood
      cases q1 with
      | false =>
        go_wp2_with fail
        go_quiet ((go_at_call 69; exact Calls.quiet_of_same ((HS.out _).mono fun _ _ h => ⟨h.1, h.2.symm⟩)))
        go_wp2_with fail
        go_ret
        have he : objsB l most = false := by unfold objsB; rw [HBAD.out (by rw [HO.out]; rfl)]; rfl
        exact ⟨by rw [he]; rfl, below_drewN hbw _⟩
      | true =>
        cases q2 with
        | false =>
          go_wp2_with fail
          go_quiet ((first | (go_at_call 69; exact Calls.quiet_of_same ((HS.out _).mono fun _ _ h => ⟨h.1, h.2.symm⟩)) | (go_at_call 45; exact Calls.quiet_of_same ((HT.out _).mono fun _ _ h => ⟨h.1, h.2.symm⟩))))
          go_wp2_with fail
          go_ret
          have he : objsB l most = false := by unfold objsB; rw [HBAD.out (by rw [HO.out]; rfl)]; rfl
          exact ⟨by rw [he]; rfl, below_drewN hbw _⟩
        | true =>
          by_cases hx : (o.init.length : Int) > o.count
          · have hd : decide (o.count < (o.init.length : Int)) = true := by simpa using hx
            have he : objsB l most = false := by unfold objsB; rw [HBAD.out (by rw [HO.out]; simpa using hx)]; rfl
            have HE := Lib.hid he
            clear hx he
            go_wp2_with fail
            go_quiet ((first | (go_at_call 69; exact Calls.quiet_of_same ((HS.out _).mono fun _ _ h => ⟨h.1, h.2.symm⟩)) | (go_at_call 45; exact Calls.quiet_of_same ((HT.out _).mono fun _ _ h => ⟨h.1, h.2.symm⟩))))
            go_wp2_with fail
            go_ret
            exact ⟨by rw [HE.out]; rfl, below_drewN hbw _⟩
          · have hd : decide (o.count < (o.init.length : Int)) = false := by simpa using hx
            have HE := Lib.hid (HGOOD.out (by rw [HO.out]; simpa using hx))
            clear hx
            go_wp2_with fail
            go_quiet ((first | (go_at_call 69; exact Calls.quiet_of_same ((HS.out _).mono fun _ _ h => ⟨h.1, h.2.symm⟩)) | (go_at_call 45; exact Calls.quiet_of_same ((HT.out _).mono fun _ _ h => ⟨h.1, h.2.symm⟩))))
            go_wp2_with fail
            go_roundw
            case rel => exact ⟨k + 1, by omega, by go_num, HE.out, below_drewN hbw _⟩
            case measure => simp [intOf]; omega
    · obtain rfl : k = n := by omega
      have he : obsB l = true := by rw [← HCS.out, drop_nil_of (by rw [HLN.out]; exact Nat.le_refl _)]; rfl
      have hl2 : objsB l most = decide ((k : Int) ≤ most) := by unfold objsB; rw [he, HLN.out]; rfl
      have HE := Lib.hid hl2
      clear he hl2
      go_wp2_with fail
      go_ret
      exact ⟨by rw [HE.out]; rfl, hbw⟩
end Go.Proofs.YtlenilbkifofjaaDoor
