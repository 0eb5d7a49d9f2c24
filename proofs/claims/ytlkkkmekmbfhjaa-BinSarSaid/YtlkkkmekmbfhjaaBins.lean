/- bins: of some ops, any two numbers and near ones come to what the page says, or are refused; nothing that was there has turned. No condition but that the ops' numbers are small. -/
import Derived.Test.YtlkkkmekmbfhjaaBinB
import Derived.Test.YtlkkkmekmbfhjaaAsks
import Derived.Lib.Hide
import Derived.StillTailTactics
import Derived.Deep.QuietTactic
import Derived.BigQuiet
namespace Go.Proofs.Ytlkkkmekmbfhjaa
open Go.RowKit

theorem bits_in (op : BinOp) (x y : Int) : In64 (bits op .i64 x y) := by
  unfold bits In64
  simp only [IntKind.wrap_i64]
  omega

theorem quiet_add_left {P : Program} {f : FuncId} {args : Array Value} {w : World} {a n : Nat} {v : Value}
    (h : Calls P f args (w.drewN (a + n)) fun e w' => e = .returned v ∧ w.drewN (a + n) = w') : Calls P f args (w.drewN (a + n)) fun e w'' => e = .returned v ∧ ∃ m, w'' = w.drewN (a + m) :=
  h.mono fun _ _ ⟨he, hm⟩ => ⟨he, n, hm.symm⟩

/-- The six numbers that an op is asked with. -/
def six (d e : Int) (m : Nat) : Int :=
  match m with | 0 => e | 1 => 0 | 2 => -1 | 3 => d | 4 => bits .and .i64 e 63 | _ => 1

theorem six_in {d e : Int} (hd : In64 d) (he : In64 e) (m : Nat) : In64 (six d e m) := by
  rcases m with _ | _ | _ | _ | _ | m <;> simp only [six]
  · exact he
  · unfold In64; omega
  · unfold In64; omega
  · exact hd
  · exact bits_in _ _ _
  · unfold In64; omega

theorem six_cell (w : World) (t : TypeId) (d e : Int) (m : Nat) (hm : m < 6) :
    ((w.alloc (.cells #[.int .i64 e, .int .i64 0, .int .i64 (-1), .int .i64 d, .int .i64 (bits .and .i64 e 63), .int .i64 1] t)).drew).cell? ⟨w.heap.size, m, none⟩ = some (.int .i64 (six d e m)) := by
  have h := cell_of_row ((w.alloc (.cells #[.int .i64 e, .int .i64 0, .int .i64 (-1), .int .i64 d, .int .i64 (bits .and .i64 e 63), .int .i64 1] t)).drew) w.heap.size m _ t (0, 0) (heap_alloc_new w _)
  rw [h]
  have hm' : m = 0 ∨ m = 1 ∨ m = 2 ∨ m = 3 ∨ m = 4 ∨ m = 5 := by omega
  rcases hm' with rfl | rfl | rfl | rfl | rfl | rfl <;> simp [six]

set_option maxRecDepth 100000 in
set_option maxHeartbeats 1000000 in
theorem bins_walk (from_ to_ : Nat) (hf : from_ ≤ 100) (ht : to_ ≤ 100) (A : Option Addr) (len cap : Nat) (D E : Nat → Int) (w : World) (hlen : len ≤ 9223372036854775807) (hA : AsksAt w A len D E) :
    Calls Try.prog 15 #[.slice A len cap, .int .i64 from_, .int .i64 to_] w fun e w' => e = .returned (.bool true) ∧ Below w.heap.size w w' := by
  go_enter Try.func15, Try.ntmps15
  go_wp2
  go_loopw [7] (fun i wr => ∃ k : Nat, k ≤ len ∧ k ≤ 12 ∧ i = .int .i64 k ∧ Below w.heap.size w wr) (fun i _ => 12 - (intOf i).toNat)
  case atStart => exact ⟨0, by omega, by omega, rfl, Below.refl _ _⟩
  case round =>
    obtain ⟨k, hk, hk2, rfl, hnx⟩ := hrel
    by_cases hlt : k < len ∧ k < 12
    · obtain ⟨hlt, hlt2⟩ := hlt
      obtain ⟨b, off, rfl, hb, hc⟩ := hA (by omega)
      have hc0 := (hc k hlt).1.1
      have hc1 := (hc k hlt).1.2
      have hc3 := (hc k hlt).2.1
      have hc4 := (hc k hlt).2.2
      clear hc hA
      have hd : decide ((k : Int) < 12) = true := by simp; omega
      go_wp2
      obtain ⟨wo, rfl⟩ : ∃ wo : World, wo = wr := ⟨_, rfl⟩
      go_loopw [8] (fun q wr => ∃ p : Nat, p ≤ 101 ∧ q = .int .i64 p ∧ Below w.heap.size w wr) (fun q _ => 101 - (intOf q).toNat)
      case atStart => exact ⟨from_, by omega, rfl, hnx⟩
      case round =>
        obtain ⟨p, hp, rfl, hny⟩ := hrel
        obtain ⟨wi, rfl⟩ : ∃ wi : World, wi = wr := ⟨_, rfl⟩
        have hcell := (hny.cell (p := ⟨b, off + k * 4, none⟩) hb).trans hc0
        have hcell1 := (hny.cell (p := ⟨b, off + k * 4 + 1, none⟩) hb).trans hc1
        by_cases hp2 : p ≤ to_
        · go_wp2
          go_still_tail 16, (by kernel_rfl)
          go_wp2
          have h6 := six_cell wi 2 (D k) (E k)
          have hnzb := ((Below.refl wi.heap.size wi).alloc (Nat.le_refl _) (.cells #[.int .i64 (E k), .int .i64 0, .int .i64 (-1), .int .i64 (D k), .int .i64 (bits .and .i64 (E k) 63), .int .i64 1] 2)).drew
          have hnz := (hny.alloc hny.size (.cells #[.int .i64 (E k), .int .i64 0, .int .i64 (-1), .int .i64 (D k), .int .i64 (bits .and .i64 (E k) 63), .int .i64 1] 2)).drew
          generalize hw1 : ((wi.alloc (.cells #[.int .i64 (E k), .int .i64 0, .int .i64 (-1), .int .i64 (D k), .int .i64 (bits .and .i64 (E k) 63), .int .i64 1] 2)).drew) = w1 at h6 hnz hnzb ⊢
          have hcw1 : w1.cell? ⟨b, off + k * 4, none⟩ = wi.cell? ⟨b, off + k * 4, none⟩ := (hnzb.cell (p := ⟨b, off + k * 4, none⟩) (by show b < _; have := hny.size; omega))
          have hsz : wi.heap.size + 1 = w1.heap.size := by rw [← hw1]; simp [World.drew]
          have HW := Lib.hid hw1
          clear hw1
          go_loopw [10] (fun q wz => ∃ m : Nat, m ≤ 6 ∧ q = .int .i64 m ∧ Below w1.heap.size w1 wz) (fun q _ => 6 - (intOf q).toNat)
          case atStart => exact ⟨0, by omega, rfl, Below.refl _ _⟩
          case round =>
            obtain ⟨m, hm, rfl, hb1⟩ := hrel
            by_cases hm6 : m < 6
            · have hcm := (hb1.cell (p := ⟨wi.heap.size, m, none⟩) (by show wi.heap.size < _; omega)).trans (h6 m hm6)
              have hin := six_in hc3 hc4 m
              have hca := (hb1.cell (p := ⟨b, off + k * 4, none⟩) (by show b < _; have := hny.size; omega)).trans (hcw1.trans hcell)
              clear h6 hcell hcell1 hc0 hc1 hcw1
              unfold In64 at hin hc3
              have hm6' : (m : Int) < 6 := by omega
              by_cases hu : 12 ≤ p ∧ p ≤ 30
              · obtain ⟨hu1, hu2⟩ := hu
                go_wp2_with fail
                go_quiet ((go_at_call 16; exact Calls.quiet_of (bin_yes _ _ _ _ (by omega) (by omega))))
                obtain ⟨n1, hn1⟩ : ∃ n1 : Nat, n1 = nq := ⟨_, rfl⟩
                subst hn1
                go_wp2_with (go_at_call 17; refine (isBin_any _ _).mono ?_; rintro e w' ⟨rfl, rfl⟩)
                go_quiet ((go_at_call 18; exact quiet_add_left (refBin_any _ _ _ _ (by omega) (by omega) hc3.1 hc3.2 hin.1 hin.2)))
                go_wp2_with fail
                go_roundw
                case rel => exact ⟨m + 1, by omega, by go_num, below_drewN hb1 _⟩
                case measure => simp [intOf]; omega
              · go_wp2_with fail
                go_quiet ((go_at_call 16; exact Calls.quiet_of (bin_no _ _ _ _ (by omega))))
                go_wp2_with (go_at_call 17; refine (isBin_any _ _).mono ?_; rintro e w' ⟨rfl, rfl⟩)
                go_roundw
                case rel => exact ⟨m + 1, by omega, by go_num, below_drewN hb1 _⟩
                case measure => simp [intOf]; omega
            · go_wp2
              go_roundw
              case rel => exact ⟨p + 1, by omega, by go_num, hnz.trans (hb1.mono (by have := hny.size; omega))⟩
              case measure => simp [intOf]; omega
        · go_wp2
          go_roundw
          case rel => exact ⟨k + 1, by omega, by omega, by go_num, hny⟩
          case measure => simp [intOf]; omega
    · have hd : k < len → decide ((k : Int) < 12) = false := by intro h; simp; omega
      by_cases hlt1 : k < len
      all_goals
        go_wp2_with (go_at_call 19; refine (wakes_any _).mono ?_; rintro e w' ⟨rfl, rfl⟩)
        go_ret
        exact ⟨rfl, hnx⟩
theorem bins_at (f t : Int) (hf0 : 0 ≤ f) (ht0 : 0 ≤ t) (hf : f ≤ 100) (ht : t ≤ 100) (A : Option Addr) (len cap : Nat) (D E : Nat → Int) (w : World) (hlen : len ≤ 9223372036854775807) (hA : AsksAt w A len D E) :
    Calls Try.prog 15 #[.slice A len cap, .int .i64 f, .int .i64 t] w fun e w' => e = .returned (.bool true) ∧ Below w.heap.size w w' := by
  obtain ⟨f', rfl⟩ := Int.eq_ofNat_of_zero_le hf0
  obtain ⟨t', rfl⟩ := Int.eq_ofNat_of_zero_le ht0
  exact bins_walk f' t' (by omega) (by omega) A len cap D E w hlen hA
end Go.Proofs.Ytlkkkmekmbfhjaa
