/- Plain laws of layer 1 (num): what a cut of 8, 16 or 32 bits comes to; no program in sight. No condition. -/
import Derived.WalkKit
set_option linter.unusedVariables false
set_option linter.unusedSimpArgs false
namespace Go.Proofs.YtlenilbkifofjaaDoor
open Go.RowKit

theorem nat_mask (x k : Nat) : x &&& (2 ^ k - 1) = x % 2 ^ k := Nat.and_two_pow_sub_one_eq_mod x k

theorem two_dvd (k : Nat) (hk : k ≤ 64) : (2 : Int) ^ k ∣ 18446744073709551616 :=
  ⟨2 ^ (64 - k), by rw [← Int.pow_add, show k + (64 - k) = 64 by omega]; decide⟩

theorem and_mask (n : Int) (k : Nat) (m : Int) (hk : k ≤ 64) (hm : m = 2 ^ k - 1) : bits .and .u64 (IntKind.u64.wrap n) m = n % 2 ^ k := by
  have hp : (2 : Int) ^ k ∣ 18446744073709551616 := two_dvd k hk
  have h1 : (2 : Int) ^ k ≤ 18446744073709551616 := Int.le_of_dvd (by decide) hp
  have h0 : (0 : Int) < 2 ^ k := Int.pow_pos (by decide)
  rw [IntKind.wrap_u64, u64_and _ _ (by omega) (by omega) (by omega) (by omega)]
  have hmn : m.toNat = 2 ^ k - 1 := by
    have : ((2 ^ k : Nat) : Int) = (2 : Int) ^ k := by simp
    omega
  rw [hmn, nat_mask]
  have h2 : ((((n % 18446744073709551616).toNat % 2 ^ k : Nat)) : Int) = (n % 18446744073709551616) % (2 : Int) ^ k := by
    rw [Int.natCast_emod, Int.toNat_of_nonneg (by omega)]
    simp
  rw [h2, Int.emod_emod_of_dvd _ hp]

theorem and_8 (n : Int) : bits .and .u64 (IntKind.u64.wrap n) 255 = n % 256 := and_mask n 8 255 (by decide) (by decide)
theorem and_16 (n : Int) : bits .and .u64 (IntKind.u64.wrap n) 65535 = n % 65536 := and_mask n 16 65535 (by decide) (by decide)
theorem and_32 (n : Int) : bits .and .u64 (IntKind.u64.wrap n) 4294967295 = n % 4294967296 := and_mask n 32 4294967295 (by decide) (by decide)

theorem or_top (m : Int) (k : Nat) (t : Int) (hk : k ≤ 64) (h0 : 0 ≤ m) (h1 : m < 2 ^ k) (ht0 : 0 ≤ t) (ht1 : t < 18446744073709551616) (hd : t % 2 ^ k = 0) :
    bits .or .u64 m t = t + m := by
  have hp : (2 : Int) ^ k ∣ 18446744073709551616 := two_dvd k hk
  have hle : (2 : Int) ^ k ≤ 18446744073709551616 := Int.le_of_dvd (by decide) hp
  rw [u64_or _ _ h0 (by omega) ht0 ht1, Nat.or_comm, nat_join k]
  · omega
  · have : ((t.toNat % 2 ^ k : Nat) : Int) = 0 := by
      rw [Int.natCast_emod, Int.toNat_of_nonneg ht0]
      simpa using hd
    omega
  · have : ((2 ^ k : Nat) : Int) = (2 : Int) ^ k := by simp
    omega

/-- What is cut off a number: the lowest 8, 16 or 32 bits, with their sign or without. -/
def cutN (b : Int) (s : Bool) (n : Int) : Int :=
  if s then
    if b = 8 then (n + 128) % 256 - 128 else if b = 16 then (n + 32768) % 65536 - 32768 else if b = 32 then (n + 2147483648) % 4294967296 - 2147483648 else n
  else if b = 8 then n % 256 else if b = 16 then n % 65536 else if b = 32 then n % 4294967296 else n

theorem sx8_yes (n : Int) (h : n % 256 / 128 = 1) : wrap64 (bits .or .u64 (n % 256) (IntKind.u64.wrap 4722366482869645213440)) = (n + 128) % 256 - 128 := by
  rw [IntKind.wrap_u64, or_top _ 8 _ (by decide) (by omega) (by omega) (by decide) (by decide) (by decide)]
  unfold wrap64; omega
theorem sx8_no (n : Int) (h : ¬ n % 256 / 128 = 1) : wrap64 (n % 256) = (n + 128) % 256 - 128 := by
  unfold wrap64; omega
theorem sx16_yes (n : Int) (h : n % 65536 / 32768 = 1) : wrap64 (bits .or .u64 (n % 65536) (IntKind.u64.wrap 1208925819614629174640640)) = (n + 32768) % 65536 - 32768 := by
  rw [IntKind.wrap_u64, or_top _ 16 _ (by decide) (by omega) (by omega) (by decide) (by decide) (by decide)]
  unfold wrap64; omega
theorem sx16_no (n : Int) (h : ¬ n % 65536 / 32768 = 1) : wrap64 (n % 65536) = (n + 32768) % 65536 - 32768 := by
  unfold wrap64; omega
theorem sx32_yes (n : Int) (h : n % 4294967296 / 2147483648 = 1) : wrap64 (bits .or .u64 (n % 4294967296) (IntKind.u64.wrap 79228162514264337589248983040)) = (n + 2147483648) % 4294967296 - 2147483648 := by
  rw [IntKind.wrap_u64, or_top _ 32 _ (by decide) (by omega) (by omega) (by decide) (by decide) (by decide)]
  unfold wrap64; omega
theorem sx32_no (n : Int) (h : ¬ n % 4294967296 / 2147483648 = 1) : wrap64 (n % 4294967296) = (n + 2147483648) % 4294967296 - 2147483648 := by
  unfold wrap64; omega
theorem zx8 (n : Int) : wrap64 (n % 256) = n % 256 := by unfold wrap64; omega
theorem zx16 (n : Int) : wrap64 (n % 65536) = n % 65536 := by unfold wrap64; omega
theorem zx32 (n : Int) : wrap64 (n % 4294967296) = n % 4294967296 := by unfold wrap64; omega
theorem i8_in (n : Int) : wrap64 (IntKind.i8.wrap n) = (n + 128) % 256 - 128 := by
  simp [IntKind.wrap, IntKind.bits, IntKind.signed, wrap64]; split <;> omega
theorem i16_in (n : Int) : wrap64 (IntKind.i16.wrap n) = (n + 32768) % 65536 - 32768 := by
  simp [IntKind.wrap, IntKind.bits, IntKind.signed, wrap64]; split <;> omega
theorem i32_in (n : Int) : wrap64 (wrap32 n) = (n + 2147483648) % 4294967296 - 2147483648 := by
  unfold wrap64 wrap32; omega
theorem u16_in (n : Int) : wrap64 (IntKind.u16.wrap n) = n % 65536 := by
  rw [IntKind.wrap_u16]; unfold wrap64; omega

/-- What 'Cut' comes to, by the kind's number (1 to 8). -/
def cutK (kind n : Int) : Int :=
  if kind = 1 then cutN 8 true n else if kind = 2 then cutN 8 false n else if kind = 3 then cutN 16 true n else if kind = 4 then cutN 16 false n else if kind = 5 then cutN 32 true n else if kind = 6 then cutN 32 false n else n

/-- What an op of one comes to (31 to 36). -/
def unR (op n : Int) : Int :=
  if op = 31 then cutN 8 true n else if op = 32 then cutN 16 true n else if op = 33 then cutN 32 true n else if op = 34 then cutN 8 false n else if op = 35 then cutN 16 false n else cutN 32 false n

theorem cutN_8 (n : Int) : cutN 8 true n = (n + 128) % 256 - 128 := by simp [cutN]
theorem cutN_16 (n : Int) : cutN 16 true n = (n + 32768) % 65536 - 32768 := by simp [cutN]
theorem cutN_32 (n : Int) : cutN 32 true n = (n + 2147483648) % 4294967296 - 2147483648 := by simp [cutN]
theorem cutN_8f (n : Int) : cutN 8 false n = n % 256 := by simp [cutN]
theorem cutN_16f (n : Int) : cutN 16 false n = n % 65536 := by simp [cutN]
theorem cutN_32f (n : Int) : cutN 32 false n = n % 4294967296 := by simp [cutN]
theorem cutN_twice (b : Int) (s : Bool) (n : Int) : cutN b s (cutN b s n) = cutN b s n := by
  unfold cutN
  cases s <;> simp only [if_true, if_false, Bool.false_eq_true] <;> (repeat' split) <;> omega
theorem unR_twice (op n : Int) : unR op (unR op n) = unR op n := by
  unfold unR
  (repeat' split) <;> rw [cutN_twice]
theorem cutN_lo (b : Int) (s : Bool) (n : Int) (h0 : -9223372036854775808 ≤ n) (h1 : n ≤ 9223372036854775807) : -9223372036854775808 ≤ cutN b s n ∧ cutN b s n ≤ 9223372036854775807 := by
  unfold cutN
  cases s <;> simp only [if_true, if_false, Bool.false_eq_true] <;> (repeat' split) <;> omega
theorem unR_lo (op n : Int) (h0 : -9223372036854775808 ≤ n) (h1 : n ≤ 9223372036854775807) : -9223372036854775808 ≤ unR op n ∧ unR op n ≤ 9223372036854775807 := by
  unfold unR
  (repeat' split) <;> exact cutN_lo _ _ _ h0 h1
end Go.Proofs.YtlenilbkifofjaaDoor
