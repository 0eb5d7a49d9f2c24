/- The walks of the page's ops of one and of two numbers. No condition but those stated. -/
import Derived.Test.YtinmgbodgecoeaaBinAZz
import Derived.Test.YtinmgbodgecoeaaQ01Zz
import Derived.Lib.Hide
set_option linter.unusedVariables false
set_option linter.unusedSimpArgs false
namespace Go.Proofs.Ytinmgbodgecoeaa
open Go.RowKit

theorem u64_zero (b : Int) (h0 : -9223372036854775808 ≤ b) (h1 : b ≤ 9223372036854775807) (h : b ≠ 0) : ¬ IntKind.u64.wrap b = 0 := by
  rw [IntKind.wrap_u64]; omega

theorem tmod_m1 (a : Int) : a.tmod (-1) = 0 := by
  rw [Int.tmod_neg]; simp

theorem wrap_u64_back (a : Int) (h0 : -9223372036854775808 ≤ a) (h1 : a ≤ 9223372036854775807) : wrap64 (IntKind.u64.wrap a) = a := by
  rw [IntKind.wrap_u64]; unfold wrap64; omega

theorem u64_of_zero : IntKind.u64.wrap 0 = 0 := by decide

theorem two15z (a : Int) : twoR 15 a 0 = -1 := by simp [twoR, isDiv, divR, partsQ]

theorem two16z (a : Int) : twoR 16 a 0 = -1 := by simp [twoR, isDiv, divR, wholeQ, u64_of_zero]

theorem two17z (a : Int) : twoR 17 a 0 = a := by simp [twoR, isDiv, divR, partsR]

theorem two18z (a : Int) (h0 : -9223372036854775808 ≤ a) (h1 : a ≤ 9223372036854775807) : twoR 18 a 0 = a := by simp [twoR, isDiv, divR, wholeR, u64_of_zero, wrap_u64_back a h0 h1]

theorem two15m (a : Int) (h : a = -9223372036854775808) : twoR 15 a (-1) = a := by simp [twoR, isDiv, divR, partsQ, h]

theorem two15n (a : Int) (h : ¬ a = -9223372036854775808) : twoR 15 a (-1) = wrap64 (-a) := by simp [twoR, isDiv, divR, partsQ, h]

theorem two17m (a : Int) : twoR 17 a (-1) = 0 := by
  have h := tmod_m1 a
  simp [twoR, isDiv, divR, partsR, h]

end Go.Proofs.Ytinmgbodgecoeaa
