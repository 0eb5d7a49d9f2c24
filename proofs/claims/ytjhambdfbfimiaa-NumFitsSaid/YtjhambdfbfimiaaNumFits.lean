/- NumFits: the bytes, the sign, and what any number is, of each kind, are the page's, or refused; nothing that was there has turned. No condition. -/
import Derived.Test.YtjhambdfbfimiaaNumA
import Derived.Test.YtjhambdfbfimiaaAsks
import Derived.Lib.Hide
import Derived.Deep.QuietTactic
import Derived.BigQuiet
namespace Go.Proofs.Ytjhambdfbfimiaa
open Go.RowKit

def bytesK (k : Int) : Int := if k ≤ 2 then 1 else if k ≤ 4 then 2 else if k ≤ 6 then 4 else 8
def signK (k : Int) : Bool := decide (k = 1 ∨ k = 3 ∨ k = 5 ∨ k = 7)

theorem eight {k : Int} (h0 : 1 ≤ k) (h1 : k ≤ 8) : k = 1 ∨ k = 2 ∨ k = 3 ∨ k = 4 ∨ k = 5 ∨ k = 6 ∨ k = 7 ∨ k = 8 := by omega

theorem width_any (k : Int) (w : World) (h0 : 1 ≤ k) (h1 : k ≤ 8) :
    Calls Try.prog 27 #[.int .i64 k] w fun e w' => e = .returned (.int .i64 (bytesK k)) ∧ w = w' := by
  rcases eight h0 h1 with rfl | rfl | rfl | rfl | rfl | rfl | rfl | rfl
  all_goals
    go_enter Try.func27, Try.ntmps27
    go_wp2
    go_ret
    exact ⟨ret_i (by decide), rfl⟩

theorem sign_any (k : Int) (w : World) (h0 : 1 ≤ k) (h1 : k ≤ 8) :
    Calls Try.prog 28 #[.int .i64 k] w fun e w' => e = .returned (.bool (signK k)) ∧ w = w' := by
  rcases eight h0 h1 with rfl | rfl | rfl | rfl | rfl | rfl | rfl | rfl
  all_goals
    go_enter Try.func28, Try.ntmps28
    go_wp2
    go_ret
    exact ⟨ret_b (by decide), rfl⟩

theorem refBytes_any (k : Int) (w : World) (h0 : 1 ≤ k) (h1 : k ≤ 8) :
    Calls Try.prog 20 #[.int .i64 k] w fun e w' => e = .returned (.int .i64 (bytesK k)) ∧ w = w' := by
  rcases eight h0 h1 with rfl | rfl | rfl | rfl | rfl | rfl | rfl | rfl
  all_goals
    go_enter Try.func20, Try.ntmps20
    go_wp2
    go_ret
    exact ⟨ret_i (by decide), rfl⟩

theorem refSigned_any (k : Int) (w : World) (h0 : 1 ≤ k) (h1 : k ≤ 8) :
    Calls Try.prog 21 #[.int .i64 k] w fun e w' => e = .returned (.bool (signK k)) ∧ w = w' := by
  rcases eight h0 h1 with rfl | rfl | rfl | rfl | rfl | rfl | rfl | rfl
  all_goals
    go_enter Try.func21, Try.ntmps21
    go_wp2
    go_ret
    exact ⟨ret_b (by decide), rfl⟩

theorem refKind_any (k : Int) (w : World) :
    Calls Try.prog 19 #[.int .i64 k] w fun e w' => e = .returned (.bool (decide (1 ≤ k ∧ k ≤ 8))) ∧ w = w' := by
  go_enter Try.func19, Try.ntmps19
  go_wp2
  all_goals go_ret
  · exact ⟨ret_b (by simp [*]), rfl⟩
  · exact ⟨ret_b (by simp; omega), rfl⟩

theorem refFit_any (k n : Int) (w : World) (h0 : 1 ≤ k) (h1 : k ≤ 8) :
    Calls Try.prog 22 #[.int .i64 k, .int .i64 n] w fun e w' => e = .returned (.int .i64 (cutK k n)) ∧ w = w' := by
  rcases eight h0 h1 with rfl | rfl | rfl | rfl | rfl | rfl | rfl | rfl
  all_goals
    go_enter Try.func22, Try.ntmps22
    go_wp2_with fail
    refine (refBytes_any _ _ (by decide) (by decide)).mono ?_
    rintro e w' ⟨rfl, rfl⟩
    rw [show bytesK _ = _ from rfl]
    simp only [bytesK, Int.reduceLE, if_true, if_false]
    go_wp2_with (first
      | (go_at_call 21; refine (refSigned_any _ _ (by decide) (by decide)).mono ?_; rintro e w' ⟨rfl, rfl⟩)
      | (go_at_call 25; refine (refcut_any _ _ _ _ (by decide)).mono ?_; rintro e w' ⟨rfl, rfl⟩))
    go_ret
    exact ⟨ret_i (by simp [cutK, signK]), rfl⟩

theorem bytes_yes (k : Int) (w : World) (h0 : 1 ≤ k) (h1 : k ≤ 8) :
    Calls Try.prog 16 #[.int .i64 k] w fun e w' => e = .returned (.tuple #[.int .i64 (bytesK k), .int .i64 0]) ∧ w = w' := by
  go_enter Try.func16, Try.ntmps16
  go_wp2_with (first
    | (go_at_call 26; refine (integer_any _ _).mono ?_; rintro e w' ⟨rfl, rfl⟩)
    | (go_at_call 27; refine (width_any _ _ h0 h1).mono ?_; rintro e w' ⟨rfl, rfl⟩))
  go_ret2
  exact ⟨rfl, rfl⟩

theorem bytes_no (k : Int) (w : World) (h0 : ¬ (1 ≤ k ∧ k ≤ 8)) :
    Calls Try.prog 16 #[.int .i64 k] w fun e w' => e = .returned (.tuple #[.int .i64 0, .int .i64 1]) ∧ w = w' := by
  go_enter Try.func16, Try.ntmps16
  go_wp2_with (first
    | (go_at_call 26; refine (integer_any _ _).mono ?_; rintro e w' ⟨rfl, rfl⟩))
  go_ret2
  exact ⟨rfl, rfl⟩

theorem signed_yes (k : Int) (w : World) (h0 : 1 ≤ k) (h1 : k ≤ 8) :
    Calls Try.prog 17 #[.int .i64 k] w fun e w' => e = .returned (.tuple #[.bool (signK k), .int .i64 0]) ∧ w = w' := by
  go_enter Try.func17, Try.ntmps17
  go_wp2_with (first
    | (go_at_call 26; refine (integer_any _ _).mono ?_; rintro e w' ⟨rfl, rfl⟩)
    | (go_at_call 28; refine (sign_any _ _ h0 h1).mono ?_; rintro e w' ⟨rfl, rfl⟩))
  go_ret2
  exact ⟨rfl, rfl⟩

theorem signed_no (k : Int) (w : World) (h0 : ¬ (1 ≤ k ∧ k ≤ 8)) :
    Calls Try.prog 17 #[.int .i64 k] w fun e w' => e = .returned (.tuple #[.bool false, .int .i64 1]) ∧ w = w' := by
  go_enter Try.func17, Try.ntmps17
  go_wp2_with (first
    | (go_at_call 26; refine (integer_any _ _).mono ?_; rintro e w' ⟨rfl, rfl⟩))
  go_ret2
  exact ⟨rfl, rfl⟩

theorem quiet_l {P : Program} {f : FuncId} {args : Array Value} {w : World} {v : Value}
    (h : Calls P f args w fun e w' => e = .returned v ∧ w = w') : Calls P f args w fun e w'' => e = .returned v ∧ ∃ m, w'' = w.drewN m :=
  h.mono fun _ _ ⟨he, hm⟩ => ⟨he, 0, hm.symm⟩
theorem quiet_a {P : Program} {f : FuncId} {args : Array Value} {w : World} {a n : Nat} {v : Value}
    (h : Calls P f args (w.drewN (a + n)) fun e w' => e = .returned v ∧ w.drewN (a + n) = w') : Calls P f args (w.drewN (a + n)) fun e w'' => e = .returned v ∧ ∃ m, w'' = w.drewN (a + m) :=
  h.mono fun _ _ ⟨he, hm⟩ => ⟨he, n, hm.symm⟩
theorem quiet_d {P : Program} {f : FuncId} {args : Array Value} {w : World} {n : Nat} {v : Value}
    (h : Calls P f args (w.drewN n) fun e w' => e = .returned v ∧ w.drewN n = w') : Calls P f args (w.drewN n) fun e w'' => e = .returned v ∧ ∃ m, w'' = w.drewN m :=
  h.mono fun _ _ ⟨he, hm⟩ => ⟨he, n, hm.symm⟩

set_option maxRecDepth 100000 in
set_option maxHeartbeats 400000 in
theorem numFits_walk (A : Option Addr) (len cap : Nat) (D E : Nat → Int) (w : World) (hlen : len ≤ 9223372036854775807) (hA : AsksAt w A len D E) :
    Calls Try.prog 10 #[.slice A len cap] w fun e w' => e = .returned (.bool true) ∧ Below w.heap.size w w' := by
  go_enter Try.func10, Try.ntmps10
  go_wp2
  go_loopw [3] (fun i wr => ∃ k : Nat, k ≤ len ∧ k ≤ 12 ∧ i = .int .i64 k ∧ Below w.heap.size w wr) (fun i _ => 12 - (intOf i).toNat)
  case atStart => exact ⟨0, by omega, by omega, rfl, Below.refl _ _⟩
  case round =>
    obtain ⟨k, hk, hk2, rfl, hnx⟩ := hrel
    by_cases hlt : k < len ∧ k < 12
    · obtain ⟨hlt, hlt2⟩ := hlt
      obtain ⟨b, off, rfl, hb, hc⟩ := hA (by omega)
      have hc0 := (hc k hlt).1.1
      clear hc hA
      have hd : decide ((k : Int) < 12) = true := by simp; omega
      go_wp2
      obtain ⟨wo, rfl⟩ : ∃ wo : World, wo = wr := ⟨_, rfl⟩
      go_loopw [4] (fun q wr => ∃ p : Int, -1 ≤ p ∧ p ≤ 10 ∧ q = .int .i64 p ∧ Below w.heap.size w wr) (fun q _ => (10 - (intOf q)).toNat)
      case atStart => exact ⟨-1, by omega, by omega, rfl, hnx⟩
      case round =>
        obtain ⟨p, hp0, hp, rfl, hny⟩ := hrel
        have hcell := (hny.cell (p := ⟨b, off + k * 4, none⟩) hb).trans hc0
        clear hc0
        by_cases hp2 : p ≤ 9
        · by_cases hu : 1 ≤ p ∧ p ≤ 8
          · obtain ⟨hu1, hu2⟩ := hu
            go_wp2_with (first
              | (go_at_call 16; refine (bytes_yes _ _ hu1 hu2).mono ?_; rintro e w' ⟨rfl, rfl⟩)
              | (go_at_call 17; refine (signed_yes _ _ hu1 hu2).mono ?_; rintro e w' ⟨rfl, rfl⟩)
              | (go_at_call 18; refine (fit_yes _ _ _ hu1 hu2).mono ?_; rintro e w' ⟨rfl, rfl⟩)
              | (go_at_call 19; refine (refKind_any _ _).mono ?_; rintro e w' ⟨rfl, rfl⟩))
            go_quiet ((first
              | (go_at_call 20; exact quiet_d (refBytes_any _ _ hu1 hu2))
              | (go_at_call 21; exact quiet_d (refSigned_any _ _ hu1 hu2))
              | (go_at_call 22; exact quiet_d (refFit_any _ _ _ hu1 hu2))))
            go_wp2_with fail
            go_roundw
            case rel => exact ⟨p + 1, by omega, by omega, rfl, below_drewN hny nq⟩
            case measure => simp [intOf]; omega
          · go_wp2_with (first
              | (go_at_call 16; refine (bytes_no _ _ hu).mono ?_; rintro e w' ⟨rfl, rfl⟩)
              | (go_at_call 17; refine (signed_no _ _ hu).mono ?_; rintro e w' ⟨rfl, rfl⟩)
              | (go_at_call 18; refine (fit_no _ _ _ hu).mono ?_; rintro e w' ⟨rfl, rfl⟩)
              | (go_at_call 19; refine (refKind_any _ _).mono ?_; rintro e w' ⟨rfl, rfl⟩))
            go_roundw
            case rel => exact ⟨p + 1, by omega, by omega, rfl, hny⟩
            case measure => simp [intOf]; omega
        · go_wp2
          go_roundw
          case rel => exact ⟨k + 1, by omega, by omega, by go_num, hny⟩
          case measure => simp [intOf]; omega
    · have hd : k < len → decide ((k : Int) < 12) = false := by intro h; simp; omega
      by_cases hlt1 : k < len
      all_goals
        go_wp2_with (go_at_call 14; refine (wakes_any _).mono ?_; rintro e w' ⟨rfl, rfl⟩)
        go_ret
        exact ⟨rfl, hnx⟩
end Go.Proofs.Ytjhambdfbfimiaa
