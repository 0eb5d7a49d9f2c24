/- NumRest: a quotient times what it was divided by, and what is left, is the number; nothing that was there has turned. No condition. -/
import Derived.Test.YtpgoigjbeieacaaRestLaw
import Derived.Test.YtpgoigjbeieacaaAsks
import Derived.Lib.Hide
import Derived.Deep.QuietTactic
import Derived.BigQuiet
namespace Go.Proofs.Ytpgoigjbeieacaa
open Go.RowKit

set_option maxRecDepth 100000 in
set_option maxHeartbeats 1000000 in
theorem numRest_walk (A : Option Addr) (len cap : Nat) (D E : Nat → Int) (w : World) (hlen : len ≤ 9223372036854775807) (hA : AsksAt w A len D E) :
    Calls Try.prog 7 #[.slice A len cap] w fun e w' => e = .returned (.bool true) ∧ Below w.heap.size w w' := by
  go_enter Try.func7, Try.ntmps7
  go_wp2
  go_loopw [3] (fun i wr => ∃ k : Nat, k ≤ len ∧ k ≤ 12 ∧ i = .int .i64 k ∧ Below w.heap.size w wr) (fun i _ => 12 - (intOf i).toNat)
  case atStart => exact ⟨0, by omega, by omega, rfl, Below.refl _ _⟩
  case round =>
    obtain ⟨k, hk, hk2, rfl, hnx⟩ := hrel
    obtain ⟨wo, rfl⟩ : ∃ wo : World, wo = wr := ⟨_, rfl⟩
    by_cases hlt : k < len ∧ k < 12
    · obtain ⟨hlt, hlt2⟩ := hlt
      obtain ⟨b, off, rfl, hb, hc⟩ := hA (by omega)
      have hc0 := (hnx.cell (p := ⟨b, off + k * 4, none⟩) hb).trans (hc k hlt).1.1
      have hc1 := (hnx.cell (p := ⟨b, off + k * 4 + 1, none⟩) hb).trans (hc k hlt).1.2
      have hc3 := (hc k hlt).2.1
      have hc4 := (hc k hlt).2.2
      clear hc hA
      have hd : decide ((k : Int) < 12) = true := by simp; omega
      have hklt : (k : Int) < (len : Int) := by omega
      go_wp2_with fail
      go_quiet (fail)
      go_wp2_with fail
      unfold In64 at hc3 hc4
      generalize D k = x at hc0 hc3 ⊢
      generalize E k = y at hc1 hc4 ⊢
      have hz := ((below_drewN hnx nq).alloc (show w.heap.size ≤ (wo.drewN nq).heap.size from hnx.size) (.cells #[.int .i64 15, .int .i64 17, .int .i64 16, .int .i64 18] 27))
      have hg := fun j => cell_of_row ((wo.drewN nq).alloc (.cells #[.int .i64 15, .int .i64 17, .int .i64 16, .int .i64 18] 27)) wo.heap.size j _ _ (0, 0) (heap_alloc_new (wo.drewN nq) _)
      have hs : ((wo.drewN nq).alloc (.cells #[.int .i64 15, .int .i64 17, .int .i64 16, .int .i64 18] 27)).heap.size = wo.heap.size + 1 := by simp [World.drewN]
      generalize hw1 : (wo.drewN nq).alloc (.cells #[.int .i64 15, .int .i64 17, .int .i64 16, .int .i64 18] 27) = w1 at hz hg hs ⊢
      clear hw1 hc0 hc1
      have g0 : w1.cell? ⟨wo.heap.size, 0, none⟩ = some (.int .i64 15) := hg 0
      have g1 : w1.cell? ⟨wo.heap.size, 1, none⟩ = some (.int .i64 17) := hg 1
      have g2 : w1.cell? ⟨wo.heap.size, 2, none⟩ = some (.int .i64 16) := hg 2
      have g3 : w1.cell? ⟨wo.heap.size, 3, none⟩ = some (.int .i64 18) := hg 3
      clear hg
      have hlt3 : wo.heap.size < w1.heap.size := by omega
      clear hs
      go_loopw [7] (fun q wz => ∃ m : Int, (m = 0 ∨ m = 1 ∨ m = 2) ∧ q = .int .i64 m ∧ Below w1.heap.size w1 wz) (fun q _ => (2 - (intOf q)).toNat)
      case atStart => exact ⟨0, by omega, rfl, Below.refl _ _⟩
      case round =>
        obtain ⟨m, hm, rfl, hb1⟩ := hrel
        have q0 := (hb1.cell (p := ⟨wo.heap.size, 0, none⟩) hlt3).trans g0
        have q1 := (hb1.cell (p := ⟨wo.heap.size, 1, none⟩) hlt3).trans g1
        have q2 := (hb1.cell (p := ⟨wo.heap.size, 2, none⟩) hlt3).trans g2
        have q3 := (hb1.cell (p := ⟨wo.heap.size, 3, none⟩) hlt3).trans g3
        clear g0 g1 g2 g3
        rcases hm with rfl | rfl | rfl
        · by_cases hy : y = 0
          · subst hy
            have e1 : (twoR 15 x 0 != -1) = false := by rw [(rest_s0 x).1]; rfl
            have e2 : (twoR 17 x 0 != x) = false := by rw [(rest_s0 x).2]; simp
            go_wp2_with (go_at_call 16; refine (bin_yes _ _ _ _ (by decide) (by decide)).mono ?_; rintro e w' ⟨rfl, n1, rfl⟩)
            go_roundw
            case rel => exact ⟨1, by omega, rfl, below_drewN hb1 _⟩
            case measure => simp [intOf]
          · have e0 : (y == 0) = false := by simpa using hy
            have e3 : (y != 0) = true := by simpa using hy
            have e1 : (wrap64 (wrap64 (twoR 15 x y * y) + twoR 17 x y) != x) = false := by rw [rest_s x y hc3.1 hc3.2 hy]; simp
            go_wp2_with (go_at_call 16; refine (bin_yes _ _ _ _ (by decide) (by decide)).mono ?_; rintro e w' ⟨rfl, n1, rfl⟩)
            go_roundw
            case rel => exact ⟨1, by omega, rfl, below_drewN hb1 _⟩
            case measure => simp [intOf]
        · by_cases hy : y = 0
          · subst hy
            have e1 : (twoR 16 x 0 != -1) = false := by rw [(rest_u0 x hc3.1 hc3.2).1]; rfl
            have e2 : (twoR 18 x 0 != x) = false := by rw [(rest_u0 x hc3.1 hc3.2).2]; simp
            go_wp2_with (go_at_call 16; refine (bin_yes _ _ _ _ (by decide) (by decide)).mono ?_; rintro e w' ⟨rfl, n1, rfl⟩)
            go_roundw
            case rel => exact ⟨2, by omega, rfl, below_drewN hb1 _⟩
            case measure => simp [intOf]
          · have e0 : (y == 0) = false := by simpa using hy
            have e3 : (y != 0) = true := by simpa using hy
            have e1 : (wrap64 (wrap64 (twoR 16 x y * y) + twoR 18 x y) != x) = false := by rw [rest_u x y hc3.1 hc3.2 hc4.1 hc4.2 hy]; simp
            go_wp2_with (go_at_call 16; refine (bin_yes _ _ _ _ (by decide) (by decide)).mono ?_; rintro e w' ⟨rfl, n1, rfl⟩)
            go_roundw
            case rel => exact ⟨2, by omega, rfl, below_drewN hb1 _⟩
            case measure => simp [intOf]
        · go_wp2
          go_roundw
          case rel => exact ⟨k + 1, by omega, by omega, by go_num, hz.trans (hb1.mono (by have := hnx.size; omega))⟩
          case measure => simp [intOf]; omega
    · have hd : k < len → decide ((k : Int) < 12) = false := by intro h; simp; omega
      by_cases hlt1 : k < len
      all_goals
        go_wp2_with (go_at_call 17; refine (wakes_any _).mono ?_; rintro e w' ⟨rfl, rfl⟩)
        go_ret
        exact ⟨rfl, hnx⟩
end Go.Proofs.Ytpgoigjbeieacaa
