/- un: one op of one, of any number, moved by each number of places: it is what the page says; nothing that was there has turned. No condition but that the op is one of one. -/
import Derived.Test.YtjhambdfbfimiaaNumA
import Derived.Test.YtjhambdfbfimiaaAsks
import Derived.Lib.Hide
import Derived.Deep.QuietTactic
import Derived.BigQuiet
namespace Go.Proofs.Ytjhambdfbfimiaa
open Go.RowKit

set_option maxHeartbeats 400000 in
theorem un_walk (op : Int) (h0 : 31 ≤ op) (h1 : op ≤ 36) (A : Option Addr) (len cap : Nat) (D E : Nat → Int) (w : World) (hlen : len ≤ 9223372036854775807) (hA : AsksAt w A len D E) :
    Calls Try.prog 15 #[.slice A len cap, .int .i64 op] w fun e w' => e = .returned (.bool true) ∧ Below w.heap.size w w' := by
  go_enter Try.func15, Try.ntmps15
  go_wp2
  go_loopw [5] (fun i wr => ∃ k : Nat, k ≤ len ∧ k ≤ 12 ∧ i = .int .i64 k ∧ Below w.heap.size w wr) (fun i _ => 12 - (intOf i).toNat)
  case atStart => exact ⟨0, by omega, by omega, rfl, Below.refl _ _⟩
  case round =>
    obtain ⟨k, hk, hk2, rfl, hnx⟩ := hrel
    by_cases hlt : k < len ∧ k < 12
    · obtain ⟨hlt, hlt2⟩ := hlt
      obtain ⟨b, off, rfl, hb, hc⟩ := hA (by omega)
      have hc0 := (hc k hlt).1.1
      have hc1 := (hc k hlt).1.2
      clear hc hA
      have hd : decide ((k : Int) < 12) = true := by simp; omega
      go_wp2
      obtain ⟨wo, rfl⟩ : ∃ wo : World, wo = wr := ⟨_, rfl⟩
      go_loopw [6] (fun q wr => ∃ p : Nat, p ≤ 66 ∧ q = .int .i64 p ∧ Below w.heap.size w wr) (fun q _ => 66 - (intOf q).toNat)
      case atStart => exact ⟨0, by omega, rfl, hnx⟩
      case round =>
        obtain ⟨p, hp, rfl, hny⟩ := hrel
        have hcell := (hny.cell (p := ⟨b, off + k * 4, none⟩) hb).trans hc0
        have hcell1 := (hny.cell (p := ⟨b, off + k * 4 + 1, none⟩) hb).trans hc1
        clear hc0 hc1
        by_cases hp2 : p < 64
        · go_wp2_with fail
          go_quiet (fail)
          go_wp2_with fail
          refine (un_yes _ _ _ h0 h1).mono ?_
          rintro e w1 ⟨rfl, hb1⟩
          go_wp2_with fail
          refine (refUn_any _ _ _ h0 h1).mono ?_
          rintro e w' ⟨rfl, rfl⟩
          go_wp2_with fail
          go_roundw
          case rel => exact ⟨p + 3, by omega, by go_num, (below_drewN hny nq).trans (hb1.mono (show w.heap.size ≤ (wr.drewN nq).heap.size from hny.size))⟩
          case measure => simp [intOf]; omega
        · go_wp2
          go_roundw
          case rel => exact ⟨k + 1, by omega, by omega, by go_num, hny⟩
          case measure => simp [intOf]; omega
    · have hd : k < len → decide ((k : Int) < 12) = false := by intro h; simp; omega
      by_cases hlt1 : k < len
      all_goals
        go_wp2_with (go_at_call 14; refine (wakes_any _).mono ?_; rintro e w' ⟨rfl, rfl⟩)
        go_ret
        exact ⟨rfl, hnx⟩
theorem unExt8_walk (A : Option Addr) (len cap : Nat) (D E : Nat → Int) (w : World) (hlen : len ≤ 9223372036854775807) (hA : AsksAt w A len D E) :
    Calls Try.prog 4 #[.slice A len cap] w fun e w' => e = .returned (.bool true) ∧ Below w.heap.size w w' := by
  go_enter Try.func4, Try.ntmps4
  go_wp2_with (go_at_call 15; refine (un_walk 31 (by decide) (by decide) _ _ _ D E _ hlen hA).mono ?_; rintro e w1 ⟨rfl, hb⟩)
  go_ret
  exact ⟨rfl, hb⟩

theorem unExt16_walk (A : Option Addr) (len cap : Nat) (D E : Nat → Int) (w : World) (hlen : len ≤ 9223372036854775807) (hA : AsksAt w A len D E) :
    Calls Try.prog 5 #[.slice A len cap] w fun e w' => e = .returned (.bool true) ∧ Below w.heap.size w w' := by
  go_enter Try.func5, Try.ntmps5
  go_wp2_with (go_at_call 15; refine (un_walk 32 (by decide) (by decide) _ _ _ D E _ hlen hA).mono ?_; rintro e w1 ⟨rfl, hb⟩)
  go_ret
  exact ⟨rfl, hb⟩

theorem unExt32_walk (A : Option Addr) (len cap : Nat) (D E : Nat → Int) (w : World) (hlen : len ≤ 9223372036854775807) (hA : AsksAt w A len D E) :
    Calls Try.prog 6 #[.slice A len cap] w fun e w' => e = .returned (.bool true) ∧ Below w.heap.size w w' := by
  go_enter Try.func6, Try.ntmps6
  go_wp2_with (go_at_call 15; refine (un_walk 33 (by decide) (by decide) _ _ _ D E _ hlen hA).mono ?_; rintro e w1 ⟨rfl, hb⟩)
  go_ret
  exact ⟨rfl, hb⟩

theorem unZext8_walk (A : Option Addr) (len cap : Nat) (D E : Nat → Int) (w : World) (hlen : len ≤ 9223372036854775807) (hA : AsksAt w A len D E) :
    Calls Try.prog 7 #[.slice A len cap] w fun e w' => e = .returned (.bool true) ∧ Below w.heap.size w w' := by
  go_enter Try.func7, Try.ntmps7
  go_wp2_with (go_at_call 15; refine (un_walk 34 (by decide) (by decide) _ _ _ D E _ hlen hA).mono ?_; rintro e w1 ⟨rfl, hb⟩)
  go_ret
  exact ⟨rfl, hb⟩

theorem unZext16_walk (A : Option Addr) (len cap : Nat) (D E : Nat → Int) (w : World) (hlen : len ≤ 9223372036854775807) (hA : AsksAt w A len D E) :
    Calls Try.prog 8 #[.slice A len cap] w fun e w' => e = .returned (.bool true) ∧ Below w.heap.size w w' := by
  go_enter Try.func8, Try.ntmps8
  go_wp2_with (go_at_call 15; refine (un_walk 35 (by decide) (by decide) _ _ _ D E _ hlen hA).mono ?_; rintro e w1 ⟨rfl, hb⟩)
  go_ret
  exact ⟨rfl, hb⟩

theorem unZext32_walk (A : Option Addr) (len cap : Nat) (D E : Nat → Int) (w : World) (hlen : len ≤ 9223372036854775807) (hA : AsksAt w A len D E) :
    Calls Try.prog 9 #[.slice A len cap] w fun e w' => e = .returned (.bool true) ∧ Below w.heap.size w w' := by
  go_enter Try.func9, Try.ntmps9
  go_wp2_with (go_at_call 15; refine (un_walk 36 (by decide) (by decide) _ _ _ D E _ hlen hA).mono ?_; rintro e w1 ⟨rfl, hb⟩)
  go_ret
  exact ⟨rfl, hb⟩

end Go.Proofs.Ytjhambdfbfimiaa
