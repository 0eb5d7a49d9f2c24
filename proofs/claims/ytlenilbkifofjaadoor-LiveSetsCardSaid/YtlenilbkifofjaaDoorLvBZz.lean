/- live's sets: slices.Equal, math/bits.TrailingZeros64, list. Conditions: as stated. -/
import Derived.Test.YtlenilbkifofjaaDoorLvAZz
import Derived.Test.YtlenilbkifofjaaDoorVCopyEZz
set_option linter.unusedVariables false
set_option linter.unusedSimpArgs false
namespace Go.Proofs.YtlenilbkifofjaaDoor
open Go.RowKit

set_option maxRecDepth 100000 in
set_option maxHeartbeats 8000000 in
theorem lequal_any (b tb : Nat) (a c : List Nat) (cap cap' : Nat) (w : World) (h : WordsAt w b a) (h' : WordsAt w tb c) (hl : a.length = c.length) (h62 : a.length < 2 ^ 62) :
    Calls Tryd.prog 42 #[.slice (some ⟨b, 0, none⟩) a.length cap, .slice (some ⟨tb, 0, none⟩) c.length cap'] w fun e w' => e = .returned (.bool (decide (a = c))) ∧ Below w.heap.size w w' := by
  have HT := Lib.hid h'
  have HS := Lib.hid h
  have HL := Lib.hid hl
  rw [← hl]
  clear h h' hl
  go_enter Tryd.func42, Tryd.ntmps42
  refine wp_letter (fun Q hQ => ?_)
  have HQ := Lib.hid hQ
  clear hQ
  go_wp2_with fail
  go_loopw [13] (fun i wr => ∃ k : Nat, i = .int .i64 (k : Nat) ∧ k ≤ a.length ∧ a.take k = c.take k ∧ Below w.heap.size w wr) (fun i _ => a.length - (intOf i).toNat)
  case atStart => exact ⟨0, rfl, Nat.zero_le _, by simp, Below.refl _ _⟩
  case round =>
    obtain ⟨k, rfl, hk, he, hb⟩ := hrel
    by_cases hlt : k < a.length
    · have hlt' : k < c.length := by have := HL.out; omega
      have hm := HS.out.below hb HS.out.lt
      have ht := HT.out.below hb HT.out.lt
      have c0 := hm.cell hlt
      have cl := hm.lt
      have d0 := ht.cell hlt'
      have dl := ht.lt
      rw [getD_of hlt] at c0
      rw [getD_of hlt'] at d0
      have hk0 : (k : Int) < (a.length : Int) := by omega
      have HE := Lib.hid he
      have HB := Lib.hid hb
      obtain ⟨x, hx⟩ : ∃ x, x = a[k] := ⟨_, rfl⟩
      obtain ⟨y, hy⟩ : ∃ y, y = c[k] := ⟨_, rfl⟩
      rw [← hx] at c0
      rw [← hy] at d0
      have HX := Lib.hid hx
      have HY := Lib.hid hy
      clear hm ht he hb hx hy
      by_cases hxy : x = y
      · subst hxy
        go_wp2_with fail
        go_region
        go_wp2_with fail
        go_roundw
        case rel =>
          refine ⟨k + 1, by go_num, hlt, ?_, HB.out.drew⟩
          rw [List.take_succ_eq_append_getElem hlt, List.take_succ_eq_append_getElem hlt', HE.out, ← HX.out, HY.out]
        case measure => simp [intOf]; omega
      · have d1 : ((x : Int) == (y : Int)) = false := beq_eq_false_iff_ne.2 (by omega)
        have d2 : ((x : Int) != (y : Int)) = true := bne_iff_ne.2 (by omega)
        have HR := Lib.hid (show decide (a = c) = false from by
          refine decide_eq_false fun e => hxy ?_
          rw [HX.out, HY.out]
          subst e
          rfl)
        clear hxy
        go_wp2_with fail
        go_region
        go_wp2_with fail
        refine HQ.out _ _ _ ?_
        exact bodyPost_ret (v := .bool false) (by simp [results, Tryd.results42, go_sem]) rfl ⟨by rw [HR.out], HB.out.drew⟩
    · obtain rfl : k = a.length := by omega
      have HB := Lib.hid hb
      have HR := Lib.hid (show decide (a = c) = true from by
        refine decide_eq_true ?_
        have := HL.out
        rwa [List.take_length, this, List.take_length] at he)
      clear hb he
      go_wp2_with fail
      refine HQ.out _ _ _ ?_
      exact bodyPost_ret (v := .bool true) (by simp [results, Tryd.results42, go_sem]) rfl ⟨by rw [HR.out], HB.out⟩

theorem tz_core (x k idx : Nat) (w : World) (hx0 : ((x : Int) == 0) = false)
    (key : IntKind.u64.wrap (bits BinOp.and IntKind.u64 (x : Int) (IntKind.u64.wrap (-(x : Int))) * 285870213051353865) / 288230376151711744 = (idx : Int))
    (hi : idx < 64) (hk : k < 64) (hcell : w.cell? ⟨0, idx, none⟩ = some (.int .u8 k)) :
    Calls Tryd.prog 68 #[.int .u64 x] w fun e w' => e = .returned (.int .i64 k) ∧ w' = w := by
  go_enter Tryd.func68, Tryd.ntmps68
  go_wp2_with (simp only [key])
  go_ret
  exact ⟨rfl, rfl⟩
theorem ltz_any (x : Nat) (h0 : x ≠ 0) (hx : x < 18446744073709551616) (w : World) (hT : TabAt 0 Lib.deBruijn64tab w) :
    Calls Tryd.prog 68 #[.int .u64 x] w fun e w' => e = .returned (.int .i64 (Lib.ctz 64 x)) ∧ w' = w := by
  obtain ⟨hlow, hk⟩ := Lib.lowest_bit 64 x h0 hx
  obtain ⟨hi, htab⟩ := Lib.deBruijn64_at _ hk
  have hcell := hT _ hi
  rw [htab] at hcell
  exact tz_core x _ _ w (beq_eq_false_iff_ne.2 (by omega)) (tz64_key x _ hx h0 hlow) hi hk hcell
theorem tab_below {g B : Nat} {t : List Nat} {w w' : World} (h : TabAt g t w) (hb : Below B w w') (hg : g < B) : TabAt g t w' := fun j hj => cell_below (h j hj) hb hg
end Go.Proofs.YtlenilbkifofjaaDoor
