/- NumUns: for every list of asks the law returns true, and nothing that was there has turned. No condition. -/
import Derived.Test.YtjhambdfbfimiaaNumA
import Derived.Test.YtjhambdfbfimiaaAsks
import Derived.Lib.Hide
namespace Go.Proofs.Ytjhambdfbfimiaa
open Go.RowKit

set_option maxHeartbeats 400000 in
theorem numUns_walk (A : Option Addr) (len cap : Nat) (D E : Nat → Int) (w : World) (hlen : len ≤ 9223372036854775807) (hA : AsksAt w A len D E) :
    Calls Try.prog 3 #[.slice A len cap] w fun e w' => e = .returned (.bool true) ∧ Below w.heap.size w w' := by
  go_enter Try.func3, Try.ntmps3
  go_wp2
  go_loopw [3] (fun i wr => ∃ k : Nat, k ≤ len ∧ k ≤ 12 ∧ i = .int .i64 k ∧ Below w.heap.size w wr) (fun i _ => 12 - (intOf i).toNat)
  case atStart => exact ⟨0, by omega, by omega, rfl, Below.refl _ _⟩
  case round =>
    obtain ⟨k, hk, hk2, rfl, hnx⟩ := hrel
    by_cases hlt : k < len ∧ k < 12
    · obtain ⟨hlt, hlt2⟩ := hlt
      obtain ⟨b, off, rfl, hb, hc⟩ := hA (by omega)
      have hc0 := (hc k hlt).1.1
      clear hc hA
      have hd : decide ((k : Int) < 12) = true := by simp; omega
      go_wp2
      obtain ⟨wo, rfl⟩ : ∃ wo : World, wo = wr := ⟨_, rfl⟩
      go_loopw [4] (fun q wr => ∃ p : Nat, p ≤ 38 ∧ q = .int .i64 p ∧ Below w.heap.size w wr) (fun q _ => 38 - (intOf q).toNat)
      case atStart => exact ⟨0, by omega, rfl, hnx⟩
      case round =>
        obtain ⟨p, hp, rfl, hny⟩ := hrel
        have hcell := (hny.cell (p := ⟨b, off + k * 4, none⟩) hb).trans hc0
        by_cases hp2 : p ≤ 37
        · by_cases hu : 31 ≤ p ∧ p ≤ 36
          · have HT := Lib.hid (unR_twice p (D k))
            obtain ⟨hu1, hu2⟩ := hu
            go_wp2_with fail
            refine (un_yes _ _ _ (by omega) (by omega)).mono ?_
            rintro e w1 ⟨rfl, hb1⟩
            have hcell1 := (hb1.cell (p := ⟨b, off + k * 4, none⟩) (Nat.lt_of_lt_of_le hb hny.size)).trans hcell
            go_wp2_with fail
            refine (isUn_any _ _).mono ?_
            rintro e w' ⟨rfl, rfl⟩
            go_wp2_with fail
            refine (refUn_any _ _ _ (by omega) (by omega)).mono ?_
            rintro e w' ⟨rfl, rfl⟩
            go_wp2_with fail
            refine (un_yes _ _ _ (by omega) (by omega)).mono ?_
            rintro e w2 ⟨rfl, hb2⟩
            rw [HT.out]
            go_wp2_with fail
            go_roundw
            case rel => exact ⟨p + 1, by omega, by go_num, hny.trans ((hb1.trans (hb2.mono hb1.size)).mono hny.size)⟩
            case measure => simp [intOf]; omega
          · go_wp2_with fail
            refine (un_no _ _ _ (by omega)).mono ?_
            rintro e w1 ⟨rfl, rfl⟩
            go_wp2_with fail
            refine (isUn_any _ _).mono ?_
            rintro e w' ⟨rfl, rfl⟩
            go_wp2_with fail
            go_roundw
            case rel => exact ⟨p + 1, by omega, by go_num, hny⟩
            case measure => simp [intOf]; omega
        · go_wp2
          go_roundw
          case rel => exact ⟨k + 1, by omega, by omega, by go_num, hny⟩
          case measure => simp [intOf]; omega
    · have hd : k < len → decide ((k : Int) < 12) = false := by intro h; simp; omega
      by_cases hlt1 : k < len
      all_goals
        go_wp2_with (go_at_call 14; refine (wakes_any _).mono ?_; rintro e w' ⟨rfl, rfl⟩)
        go_ret
        exact ⟨rfl, hnx⟩
end Go.Proofs.Ytjhambdfbfimiaa
