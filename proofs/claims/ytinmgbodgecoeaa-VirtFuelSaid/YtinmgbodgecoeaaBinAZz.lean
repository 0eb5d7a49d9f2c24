/- The walks of num's ops of two numbers. -/
import Derived.Test.YtinmgbodgecoeaaQ01Zz
import Derived.WalkKit
import Derived.WalkSpells
import Derived.WalkLawsBesides
import Derived.Deep.QuietTactic
import Derived.BigQuiet
set_option linter.unusedVariables false
set_option linter.unusedSimpArgs false
namespace Go.Proofs.Ytinmgbodgecoeaa
open Go.RowKit

theorem ret_ib {k : IntKind} {a b : Int} {c d : Bool} (h : a = b) (h' : c = d) : Ending.returned (.tuple #[.int k a, .bool c]) = .returned (.tuple #[.int k b, .bool d]) := by rw [h, h']
theorem ret_ii {k k' : IntKind} {a b : Int} {c d : Int} (h : a = b) (h' : c = d) : Ending.returned (.tuple #[.int k a, .int k' c]) = .returned (.tuple #[.int k b, .int k' d]) := by rw [h, h']

def partsQ (a b : Int) : Int := if b = 0 then -1 else if a = -9223372036854775808 ∧ b = -1 then a else wrap64 (a.tdiv b)
def partsR (a b : Int) : Int := if b = 0 then a else if a = -9223372036854775808 ∧ b = -1 then 0 else a.tmod b
def wholeQ (a b : Int) : Int := if b = 0 then -1 else wrap64 (IntKind.u64.wrap (a.tdiv b))
def wholeR (a b : Int) : Int := if b = 0 then wrap64 a else wrap64 (a % b)

theorem round_any (a b : Int) (w : World) :
    Calls Try.prog 63 #[.int .i64 a, .int .i64 b] w fun e w' => e = .returned (.bool (decide (a = -9223372036854775808 ∧ b = -1))) ∧ w = w' := by
  go_enter Try.func63, Try.ntmps63
  go_wp2
  all_goals go_ret
  · exact ⟨ret_b (by simp_all; rfl), rfl⟩
  · exact ⟨ret_b (by simp_all), rfl⟩

theorem parts_any (a b : Int) (w : World) :
    Calls Try.prog 61 #[.int .i64 a, .int .i64 b] w fun e w' => e = .returned (.tuple #[.int .i64 (partsQ a b), .int .i64 (partsR a b)]) ∧ ∃ n, w' = w.drewN n := by
  by_cases hb : b = 0
  · subst hb
    go_enter Try.func61, Try.ntmps61
    go_wp2
    go_ret2
    exact ⟨ret_ii (by simp [partsQ]) (by simp [partsR]), 0, rfl⟩
  · by_cases hr : a = -9223372036854775808 ∧ b = -1
    · obtain ⟨rfl, rfl⟩ := hr
      go_enter Try.func61, Try.ntmps61
      go_wp2
      go_ret2
      exact ⟨ret_ii (by simp [partsQ]) (by simp [partsR]), 0, rfl⟩
    · have hb1 : (b == 0) = false := by simpa using hb
      have hr1 : decide (a = -9223372036854775808 ∧ b = -1) = false := by simpa using hr
      go_enter Try.func61, Try.ntmps61
      go_wp2_with (first | (go_at_call 63; refine (round_any _ _ _).mono ?_; rintro e w' ⟨rfl, rfl⟩))
      go_quiet (fail)
      go_wp2
      go_ret2
      exact ⟨ret_ii (by rw [partsQ, if_neg hb, if_neg hr]) (by rw [partsR, if_neg hb, if_neg hr]), nq, rfl⟩

theorem wholes_any (a b : Int) (w : World) (h0 : 0 ≤ a) (h1 : 0 ≤ b) :
    Calls Try.prog 62 #[.int .u64 a, .int .u64 b] w fun e w' => e = .returned (.tuple #[.int .i64 (wholeQ a b), .int .i64 (wholeR a b)]) ∧ ∃ n, w' = w.drewN n := by
  by_cases hb : b = 0
  · subst hb
    go_enter Try.func62, Try.ntmps62
    go_wp2
    go_ret2
    exact ⟨ret_ii (by simp [wholeQ]) (by simp [wholeR]), 0, rfl⟩
  · have hb1 : (b == 0) = false := by simpa using hb
    go_enter Try.func62, Try.ntmps62
    go_wp2
    go_quiet (fail)
    go_wp2
    go_ret2
    exact ⟨ret_ii (by rw [wholeQ, if_neg hb]) (by rw [wholeR, if_neg hb]), nq, rfl⟩

def divR (op a b : Int) : Int :=
  if op = 15 then partsQ a b else if op = 17 then partsR a b else if op = 16 then wholeQ (IntKind.u64.wrap a) (IntKind.u64.wrap b) else if op = 18 then wholeR (IntKind.u64.wrap a) (IntKind.u64.wrap b) else 0
def isDiv (op : Int) : Bool := decide (op = 15 ∨ op = 16 ∨ op = 17 ∨ op = 18)

theorem u64_pos (n : Int) : 0 ≤ IntKind.u64.wrap n := wrap_u64_nonneg n

theorem divide_any (op a b : Int) (w : World) :
    Calls Try.prog 57 #[.int .i64 op, .int .i64 a, .int .i64 b] w fun e w' => e = .returned (.tuple #[.int .i64 (divR op a b), .bool (isDiv op)]) ∧ ∃ n, w' = w.drewN n := by
  have h : op = 15 ∨ op = 16 ∨ op = 17 ∨ op = 18 ∨ (op ≠ 15 ∧ op ≠ 16 ∧ op ≠ 17 ∧ op ≠ 18) := by omega
  rcases h with rfl | rfl | rfl | rfl | ⟨h1, h2, h3, h4⟩
  all_goals
    go_enter Try.func57, Try.ntmps57
    go_wp2_with (first
      | (go_at_call 61; refine (parts_any _ _ _).mono ?_; rintro e w' ⟨rfl, n1, rfl⟩)
      | (go_at_call 62; refine (wholes_any _ _ _ (u64_pos _) (u64_pos _)).mono ?_; rintro e w' ⟨rfl, n2, rfl⟩))
    go_ret2
    exact ⟨ret_ib (by simp [divR, *]) (by simp [isDiv, *]), _, rfl⟩

/-- Whether a comparison holds (25 to 30). -/
def cmpR (op a b : Int) : Bool :=
  if op = 25 then a == b else if op = 26 then a != b else if op = 27 then decide (a < b) else if op = 28 then decide (IntKind.u64.wrap a < IntKind.u64.wrap b) else if op = 29 then decide (a ≤ b) else decide (IntKind.u64.wrap a ≤ IntKind.u64.wrap b)

theorem compare_any (op a b : Int) (w : World) :
    Calls Try.prog 58 #[.int .i64 op, .int .i64 a, .int .i64 b] w fun e w' => e = .returned (.bool (cmpR op a b)) ∧ w = w' := by
  have h : op = 25 ∨ op = 26 ∨ op = 27 ∨ op = 28 ∨ op = 29 ∨ (op ≠ 25 ∧ op ≠ 26 ∧ op ≠ 27 ∧ op ≠ 28 ∧ op ≠ 29) := by omega
  rcases h with rfl | rfl | rfl | rfl | rfl | ⟨h1, h2, h3, h4, h5⟩
  all_goals
    go_enter Try.func58, Try.ntmps58
    go_wp2
    go_ret
    exact ⟨ret_b (by simp [cmpR, *]), rfl⟩

theorem by_bd (b : Int) : 0 ≤ bits .and .u64 (IntKind.u64.wrap b) 63 := by
  rw [IntKind.wrap_u64, u64_and _ _ (by omega) (by omega) (by omega) (by omega)]
  omega

/-- 1, if it is so. -/
def tru (t : Bool) : Int := if t then 1 else 0
/-- The count of a shift. -/
def byR (b : Int) : Int := bits .and .u64 (IntKind.u64.wrap b) 63
/-- What an op of two comes to (12 to 30). -/
def twoR (op a b : Int) : Int :=
  if op = 12 then wrap64 (a + b) else if op = 13 then wrap64 (a - b) else if op = 14 then wrap64 (a * b)
  else if op = 19 then bits .and .i64 a b else if op = 20 then bits .or .i64 a b else if op = 21 then bits .xor .i64 a b
  else if op = 22 then wrap64 (a * 2 ^ min (byR b).toNat 64) else if op = 23 then wrap64 (IntKind.u64.wrap a / 2 ^ min (byR b).toNat 64) else if op = 24 then a / 2 ^ min (byR b).toNat 64
  else if isDiv op then divR op a b else tru (cmpR op a b)

theorem two_any (op a b : Int) (w : World) (h0 : 12 ≤ op) (h1 : op ≤ 30) :
    Calls Try.prog 52 #[.int .i64 op, .int .i64 a, .int .i64 b] w fun e w' => e = .returned (.int .i64 (twoR op a b)) ∧ ∃ n, w' = w.drewN n := by
  have h : op = 12 ∨ op = 13 ∨ op = 14 ∨ op = 15 ∨ op = 16 ∨ op = 17 ∨ op = 18 ∨ op = 19 ∨ op = 20 ∨ op = 21 ∨ op = 22 ∨ op = 23 ∨ op = 24 ∨ op = 25 ∨ op = 26 ∨ op = 27 ∨ op = 28 ∨ op = 29 ∨ op = 30 := by omega
  rcases h with rfl | rfl | rfl | rfl | rfl | rfl | rfl | rfl | rfl | rfl | rfl | rfl | rfl | rfl | rfl | rfl | rfl | rfl | rfl
  all_goals
    have hb := by_bd b
    go_enter Try.func52, Try.ntmps52
    go_wp2_with (first
      | (go_at_call 57; refine (divide_any _ _ _ _).mono ?_; rintro e w' ⟨rfl, n1, rfl⟩)
      | (go_at_call 58; refine (compare_any _ _ _ _).mono ?_; rintro e w' ⟨rfl, rfl⟩))
    all_goals go_ret
    all_goals exact ⟨ret_i (by simp [twoR, byR, isDiv, tru, *]), _, rfl⟩
end Go.Proofs.Ytinmgbodgecoeaa
