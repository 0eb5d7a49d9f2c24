/- Plain law: a quotient times what it was divided by, and what is left, is the number, with signs and without; by 0 the quotient is -1 and all is left. No condition but that the numbers are of 64 bits. -/
import Derived.Test.YtpgoigjbeieacaaBinB
namespace Go.Proofs.Ytpgoigjbeieacaa
open Go.RowKit

theorem wrap64_mod (x : Int) : wrap64 x % 18446744073709551616 = x % 18446744073709551616 := by
  unfold wrap64; omega
theorem wrap64_of_mod {x y : Int} (h : x % 18446744073709551616 = y % 18446744073709551616) : wrap64 x = wrap64 y := by
  unfold wrap64; omega
theorem wrap64_id (a : Int) (h0 : -9223372036854775808 ≤ a) (h1 : a ≤ 9223372036854775807) : wrap64 a = a := by
  unfold wrap64; omega

theorem mul_mod_congr {x x' y y' m : Int} (h : x % m = x' % m) (k : y % m = y' % m) : x * y % m = x' * y' % m := by
  rw [Int.mul_emod, h, k, ← Int.mul_emod]
theorem add_mod_congr {x x' y y' m : Int} (h : x % m = x' % m) (k : y % m = y' % m) : (x + y) % m = (x' + y') % m := by
  rw [Int.add_emod, h, k, ← Int.add_emod]

theorem rest_of (q r b q' r' b' a : Int) (h0 : -9223372036854775808 ≤ a) (h1 : a ≤ 9223372036854775807)
    (hq : q % 18446744073709551616 = q' % 18446744073709551616) (hr : r % 18446744073709551616 = r' % 18446744073709551616) (hb : b % 18446744073709551616 = b' % 18446744073709551616)
    (he : (q' * b' + r') % 18446744073709551616 = a % 18446744073709551616) : wrap64 (wrap64 (q * b) + r) = a := by
  rw [← wrap64_id a h0 h1]
  apply wrap64_of_mod
  rw [← he]
  apply add_mod_congr _ hr
  rw [wrap64_mod]
  exact mul_mod_congr hq hb

theorem rest_s (a b : Int) (h0 : -9223372036854775808 ≤ a) (h1 : a ≤ 9223372036854775807) (hb : ¬ b = 0) : wrap64 (wrap64 (twoR 15 a b * b) + twoR 17 a b) = a := by
  have e15 : twoR 15 a b = partsQ a b := by simp [twoR, isDiv, divR]
  have e17 : twoR 17 a b = partsR a b := by simp [twoR, isDiv, divR]
  rw [e15, e17]
  unfold partsQ partsR
  rw [if_neg hb, if_neg hb]
  by_cases hr : a = -9223372036854775808 ∧ b = -1
  · rw [if_pos hr, if_pos hr]
    obtain ⟨rfl, rfl⟩ := hr
    unfold wrap64
    decide
  · rw [if_neg hr, if_neg hr]
    refine rest_of _ _ _ (a.tdiv b) (a.tmod b) b a h0 h1 (wrap64_mod _) rfl rfl ?_
    rw [Int.mul_comm, Int.mul_tdiv_add_tmod]

theorem rest_u (a b : Int) (h0 : -9223372036854775808 ≤ a) (h1 : a ≤ 9223372036854775807) (hb0 : -9223372036854775808 ≤ b) (hb1 : b ≤ 9223372036854775807) (hb : ¬ b = 0) : wrap64 (wrap64 (twoR 16 a b * b) + twoR 18 a b) = a := by
  have e16 : twoR 16 a b = wholeQ (IntKind.u64.wrap a) (IntKind.u64.wrap b) := by simp [twoR, isDiv, divR]
  have e18 : twoR 18 a b = wholeR (IntKind.u64.wrap a) (IntKind.u64.wrap b) := by simp [twoR, isDiv, divR]
  rw [e16, e18]
  have hu := u64_zero b hb0 hb1 hb
  unfold wholeQ wholeR
  rw [if_neg hu, if_neg hu]
  refine rest_of _ _ _ ((IntKind.u64.wrap a).tdiv (IntKind.u64.wrap b)) (IntKind.u64.wrap a % IntKind.u64.wrap b) (IntKind.u64.wrap b) a h0 h1 ?_ (wrap64_mod _) ?_ ?_
  · rw [wrap64_mod, IntKind.wrap_u64, Int.emod_emod]
  · rw [IntKind.wrap_u64, Int.emod_emod]
  · rw [Int.tdiv_eq_ediv_of_nonneg (u64_pos a), Int.mul_comm, Int.mul_ediv_add_emod, IntKind.wrap_u64, Int.emod_emod]

theorem rest_s0 (a : Int) : twoR 15 a 0 = -1 ∧ twoR 17 a 0 = a := ⟨two15z a, two17z a⟩
theorem rest_u0 (a : Int) (h0 : -9223372036854775808 ≤ a) (h1 : a ≤ 9223372036854775807) : twoR 16 a 0 = -1 ∧ twoR 18 a 0 = a := ⟨two16z a, two18z a h0 h1⟩
end Go.Proofs.Ytpgoigjbeieacaa
