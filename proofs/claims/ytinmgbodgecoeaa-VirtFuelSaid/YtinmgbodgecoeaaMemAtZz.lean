/- The page's memory: an element's place. Conditions: as stated. -/
import Derived.Test.YtinmgbodgecoeaaMemZz
set_option linter.unusedVariables false
set_option linter.unusedSimpArgs false
namespace Go.Proofs.Ytinmgbodgecoeaa
open Go.RowKit

theorem div_lt_of_bytes {x s len : Nat} (h : x < s * len) : x / s < len := by
  exact Nat.div_lt_of_lt_mul h

/-- The number of the element at a place, if there is one of so many bytes. -/
def atF (M : List MO) (a : V) (s : Nat) : Option Nat :=
  if 0 < a.obj ∧ (mget M a.obj).live = true ∧ (mget M a.obj).size = s ∧ a.n % s = 0 ∧ a.n < (mget M a.obj).bytes then some (a.n.toNat / s) else none

theorem atF_pos {M : List MO} {a : V} {s j : Nat} (h : atF M a s = some j) : a.obj ≠ 0 := by
  unfold atF at h
  intro h0
  simp [h0] at h

theorem atF_lt {M : List MO} {a : V} {s j : Nat} (hF : atF M a s = some j) (hx0 : 0 ≤ a.n) : 0 < a.obj ∧ (mget M a.obj).live = true ∧ (mget M a.obj).size = s ∧ j < (mget M a.obj).l.length := by
  unfold atF at hF
  by_cases hh : 0 < a.obj ∧ (mget M a.obj).live = true ∧ (mget M a.obj).size = s ∧ a.n % s = 0 ∧ a.n < (mget M a.obj).bytes
  · rw [if_pos hh] at hF
    obtain ⟨hk0, hd, hz, ho, hf⟩ := hh
    simp only [Option.some.injEq] at hF
    subst hF
    refine ⟨hk0, hd, hz, div_lt_of_bytes ?_⟩
    unfold MO.bytes at hf
    rw [hz] at hf
    have e : ((s * (mget M a.obj).l.length : Nat) : Int) = (s : Int) * ((mget M a.obj).l.length : Int) := by simp
    have hp : 0 ≤ (s : Int) * ((mget M a.obj).l.length : Int) := by rw [← e]; exact Int.natCast_nonneg _
    omega
  · rw [if_neg hh] at hF
    cases hF
end Go.Proofs.Ytinmgbodgecoeaa
