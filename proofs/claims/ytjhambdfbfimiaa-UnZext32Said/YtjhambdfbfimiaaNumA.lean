/- The walks of num's functions of one number, and of the page's: what each call returns, the world unchanged. No condition but those stated. -/
import Derived.Test.YtjhambdfbfimiaaRows
import Derived.Test.YtjhambdfbfimiaaNumLaw
import Derived.WalkKit
import Derived.WalkSpells
import Derived.WalkLawsBesides
namespace Go.Proofs.Ytjhambdfbfimiaa
open Go.RowKit

theorem ret_i {k : IntKind} {a b : Int} (h : a = b) : Ending.returned (.int k a) = .returned (.int k b) := by rw [h]
theorem ret_b {a b : Bool} (h : a = b) : Ending.returned (.bool a) = .returned (.bool b) := by rw [h]

theorem unary_any (op : Int) (w : World) :
    Calls Try.prog 23 #[.int .i64 op] w fun e w' => e = .returned (.bool (decide (31 ≤ op ∧ op ≤ 36))) ∧ w = w' := by
  go_enter Try.func23, Try.ntmps23
  go_wp2
  all_goals go_ret
  · exact ⟨ret_b (by simp [*]), rfl⟩
  · exact ⟨ret_b (by simp; omega), rfl⟩

theorem isUn_any (op : Int) (w : World) :
    Calls Try.prog 12 #[.int .i64 op] w fun e w' => e = .returned (.bool (decide (31 ≤ op ∧ op ≤ 36))) ∧ w = w' := by
  go_enter Try.func12, Try.ntmps12
  go_wp2
  all_goals go_ret
  · exact ⟨ret_b (by simp [*]), rfl⟩
  · exact ⟨ret_b (by simp; omega), rfl⟩

theorem cut_any (kind n : Int) (w : World) :
    Calls Try.prog 29 #[.int .i64 kind, .int .i64 n] w fun e w' => e = .returned (.int .i64 (cutK kind n)) ∧ w = w' := by
  go_enter Try.func29, Try.ntmps29
  go_wp2
  all_goals go_ret
  all_goals (refine ⟨ret_i ?_, rfl⟩; simp_all [cutK, cutN, i8_in, i16_in, i32_in, u16_in])

theorem refcut_any (n bits : Int) (s : Bool) (w : World) (hb : bits = 8 ∨ bits = 16 ∨ bits = 32) :
    Calls Try.prog 25 #[.int .i64 n, .int .i64 bits, .bool s] w fun e w' => e = .returned (.int .i64 (cutN bits s n)) ∧ w = w' := by
  have h8 := and_8 n
  have h16 := and_16 n
  have h32 := and_32 n
  rcases hb with rfl | rfl | rfl <;> cases s
  all_goals
    go_enter Try.func25, Try.ntmps25
    go_wp2
    all_goals go_ret
    all_goals refine ⟨ret_i ?_, rfl⟩
  · exact (cutN_8f n).symm
  · rw [cutN_8]; exact sx8_yes n (by simp_all)
  · rw [cutN_8, ← sx8_no n (by simp_all), zx8]
  · exact (cutN_16f n).symm
  · rw [cutN_16]; exact sx16_yes n (by simp_all)
  · rw [cutN_16, ← sx16_no n (by simp_all), zx16]
  · exact (cutN_32f n).symm
  · rw [cutN_32]; exact sx32_yes n (by simp_all)
  · rw [cutN_32, ← sx32_no n (by simp_all), zx32]

theorem refUn_any (op n : Int) (w : World) (h0 : 31 ≤ op) (h1 : op ≤ 36) :
    Calls Try.prog 13 #[.int .i64 op, .int .i64 n] w fun e w' => e = .returned (.int .i64 (unR op n)) ∧ w = w' := by
  have h : op = 31 ∨ op = 32 ∨ op = 33 ∨ op = 34 ∨ op = 35 ∨ op = 36 := by omega
  rcases h with rfl | rfl | rfl | rfl | rfl | rfl
  all_goals
    go_enter Try.func13, Try.ntmps13
    go_wp2_with (go_at_call 25; refine (refcut_any _ _ _ _ (by decide)).mono ?_; rintro e w' ⟨rfl, rfl⟩)
    go_ret
    exact ⟨ret_i (by simp [unR]), rfl⟩

theorem one_any (op n : Int) (w : World) (h0 : 31 ≤ op) (h1 : op ≤ 36) :
    Calls Try.prog 24 #[.int .i64 op, .int .i64 n] w fun e w' => e = .returned (.int .i64 (unR op n)) ∧ Below w.heap.size w w' := by
  have h : op = 31 ∨ op = 32 ∨ op = 33 ∨ op = 34 ∨ op = 35 ∨ op = 36 := by omega
  rcases h with rfl | rfl | rfl | rfl | rfl | rfl
  all_goals
    go_enter Try.func24, Try.ntmps24
    go_wp2_with (go_at_call 29; refine (cut_any _ _ _).mono ?_; rintro e w' ⟨rfl, rfl⟩)
    go_ret
    exact ⟨ret_i (by simp [unR, cutK]), (Below.refl _ _).alloc (Nat.le_refl _) _⟩

theorem un_yes (op n : Int) (w : World) (h0 : 31 ≤ op) (h1 : op ≤ 36) :
    Calls Try.prog 11 #[.int .i64 op, .int .i64 n] w fun e w' => e = .returned (.tuple #[.int .i64 (unR op n), .int .i64 0]) ∧ Below w.heap.size w w' := by
  go_enter Try.func11, Try.ntmps11
  go_wp2_with (first
    | (go_at_call 23; refine (unary_any _ _).mono ?_; rintro e w' ⟨rfl, rfl⟩)
    | (go_at_call 24; refine (one_any _ _ _ h0 h1).mono ?_; rintro e w1 ⟨rfl, hb⟩))
  go_ret2
  exact ⟨rfl, hb⟩

theorem un_no (op n : Int) (w : World) (h0 : ¬ (31 ≤ op ∧ op ≤ 36)) :
    Calls Try.prog 11 #[.int .i64 op, .int .i64 n] w fun e w' => e = .returned (.tuple #[.int .i64 0, .int .i64 1]) ∧ w = w' := by
  go_enter Try.func11, Try.ntmps11
  go_wp2_with (first
    | (go_at_call 23; refine (unary_any _ _).mono ?_; rintro e w' ⟨rfl, rfl⟩))
  go_ret2
  exact ⟨rfl, rfl⟩

theorem integer_any (k : Int) (w : World) :
    Calls Try.prog 26 #[.int .i64 k] w fun e w' => e = .returned (.bool (decide (1 ≤ k ∧ k ≤ 8))) ∧ w = w' := by
  go_enter Try.func26, Try.ntmps26
  go_wp2
  all_goals go_ret
  · exact ⟨ret_b (by simp [*]), rfl⟩
  · exact ⟨ret_b (by simp; omega), rfl⟩

theorem fit_yes (k n : Int) (w : World) (h0 : 1 ≤ k) (h1 : k ≤ 8) :
    Calls Try.prog 18 #[.int .i64 k, .int .i64 n] w fun e w' => e = .returned (.tuple #[.int .i64 (cutK k n), .int .i64 0]) ∧ w = w' := by
  go_enter Try.func18, Try.ntmps18
  go_wp2_with (first
    | (go_at_call 26; refine (integer_any _ _).mono ?_; rintro e w' ⟨rfl, rfl⟩)
    | (go_at_call 29; refine (cut_any _ _ _).mono ?_; rintro e w' ⟨rfl, rfl⟩))
  go_ret2
  exact ⟨rfl, rfl⟩

theorem fit_no (k n : Int) (w : World) (h0 : ¬ (1 ≤ k ∧ k ≤ 8)) :
    Calls Try.prog 18 #[.int .i64 k, .int .i64 n] w fun e w' => e = .returned (.tuple #[.int .i64 0, .int .i64 1]) ∧ w = w' := by
  go_enter Try.func18, Try.ntmps18
  go_wp2_with (first
    | (go_at_call 26; refine (integer_any _ _).mono ?_; rintro e w' ⟨rfl, rfl⟩))
  go_ret2
  exact ⟨rfl, rfl⟩

theorem wakes_any (w : World) :
    Calls Try.prog 14 #[] w fun e w' => e = .returned (.bool true) ∧ w = w' := by
  go_enter Try.func14, Try.ntmps14
  go_wp2_with (first
    | (go_at_call 18; refine (fit_yes _ _ _ (by decide) (by decide)).mono ?_; rintro e w' ⟨rfl, rfl⟩))
  go_ret
  exact ⟨ret_b (by decide), rfl⟩

end Go.Proofs.Ytjhambdfbfimiaa
