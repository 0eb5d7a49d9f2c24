/- The laws that ask 'bins': each is true, and nothing that was there has turned. No condition. -/
import Derived.Test.YtlkkkmekmbfhjaaBins
namespace Go.Proofs.Ytlkkkmekmbfhjaa
open Go.RowKit

theorem binAnd_walk (A : Option Addr) (len cap : Nat) (D E : Nat → Int) (w : World) (hlen : len ≤ 9223372036854775807) (hA : AsksAt w A len D E) :
    Calls Try.prog 3 #[.slice A len cap] w fun e w' => e = .returned (.bool true) ∧ Below w.heap.size w w' := by
  go_enter Try.func3, Try.ntmps3
  go_wp2_with (go_at_call 15; refine (bins_at 19 19 (by decide) (by decide) (by decide) (by decide) _ _ _ D E _ hlen hA).mono ?_; rintro e w1 ⟨rfl, hb⟩)
  go_ret
  exact ⟨rfl, hb⟩

theorem binOr_walk (A : Option Addr) (len cap : Nat) (D E : Nat → Int) (w : World) (hlen : len ≤ 9223372036854775807) (hA : AsksAt w A len D E) :
    Calls Try.prog 4 #[.slice A len cap] w fun e w' => e = .returned (.bool true) ∧ Below w.heap.size w w' := by
  go_enter Try.func4, Try.ntmps4
  go_wp2_with (go_at_call 15; refine (bins_at 20 20 (by decide) (by decide) (by decide) (by decide) _ _ _ D E _ hlen hA).mono ?_; rintro e w1 ⟨rfl, hb⟩)
  go_ret
  exact ⟨rfl, hb⟩

theorem binXor_walk (A : Option Addr) (len cap : Nat) (D E : Nat → Int) (w : World) (hlen : len ≤ 9223372036854775807) (hA : AsksAt w A len D E) :
    Calls Try.prog 5 #[.slice A len cap] w fun e w' => e = .returned (.bool true) ∧ Below w.heap.size w w' := by
  go_enter Try.func5, Try.ntmps5
  go_wp2_with (go_at_call 15; refine (bins_at 21 21 (by decide) (by decide) (by decide) (by decide) _ _ _ D E _ hlen hA).mono ?_; rintro e w1 ⟨rfl, hb⟩)
  go_ret
  exact ⟨rfl, hb⟩

theorem binShl_walk (A : Option Addr) (len cap : Nat) (D E : Nat → Int) (w : World) (hlen : len ≤ 9223372036854775807) (hA : AsksAt w A len D E) :
    Calls Try.prog 6 #[.slice A len cap] w fun e w' => e = .returned (.bool true) ∧ Below w.heap.size w w' := by
  go_enter Try.func6, Try.ntmps6
  go_wp2_with (go_at_call 15; refine (bins_at 22 22 (by decide) (by decide) (by decide) (by decide) _ _ _ D E _ hlen hA).mono ?_; rintro e w1 ⟨rfl, hb⟩)
  go_ret
  exact ⟨rfl, hb⟩

theorem binShr_walk (A : Option Addr) (len cap : Nat) (D E : Nat → Int) (w : World) (hlen : len ≤ 9223372036854775807) (hA : AsksAt w A len D E) :
    Calls Try.prog 7 #[.slice A len cap] w fun e w' => e = .returned (.bool true) ∧ Below w.heap.size w w' := by
  go_enter Try.func7, Try.ntmps7
  go_wp2_with (go_at_call 15; refine (bins_at 23 23 (by decide) (by decide) (by decide) (by decide) _ _ _ D E _ hlen hA).mono ?_; rintro e w1 ⟨rfl, hb⟩)
  go_ret
  exact ⟨rfl, hb⟩

theorem binSar_walk (A : Option Addr) (len cap : Nat) (D E : Nat → Int) (w : World) (hlen : len ≤ 9223372036854775807) (hA : AsksAt w A len D E) :
    Calls Try.prog 8 #[.slice A len cap] w fun e w' => e = .returned (.bool true) ∧ Below w.heap.size w w' := by
  go_enter Try.func8, Try.ntmps8
  go_wp2_with (go_at_call 15; refine (bins_at 24 24 (by decide) (by decide) (by decide) (by decide) _ _ _ D E _ hlen hA).mono ?_; rintro e w1 ⟨rfl, hb⟩)
  go_ret
  exact ⟨rfl, hb⟩

theorem binEq_walk (A : Option Addr) (len cap : Nat) (D E : Nat → Int) (w : World) (hlen : len ≤ 9223372036854775807) (hA : AsksAt w A len D E) :
    Calls Try.prog 9 #[.slice A len cap] w fun e w' => e = .returned (.bool true) ∧ Below w.heap.size w w' := by
  go_enter Try.func9, Try.ntmps9
  go_wp2_with (go_at_call 15; refine (bins_at 25 25 (by decide) (by decide) (by decide) (by decide) _ _ _ D E _ hlen hA).mono ?_; rintro e w1 ⟨rfl, hb⟩)
  go_ret
  exact ⟨rfl, hb⟩

theorem binNe_walk (A : Option Addr) (len cap : Nat) (D E : Nat → Int) (w : World) (hlen : len ≤ 9223372036854775807) (hA : AsksAt w A len D E) :
    Calls Try.prog 10 #[.slice A len cap] w fun e w' => e = .returned (.bool true) ∧ Below w.heap.size w w' := by
  go_enter Try.func10, Try.ntmps10
  go_wp2_with (go_at_call 15; refine (bins_at 26 26 (by decide) (by decide) (by decide) (by decide) _ _ _ D E _ hlen hA).mono ?_; rintro e w1 ⟨rfl, hb⟩)
  go_ret
  exact ⟨rfl, hb⟩

theorem binLt_walk (A : Option Addr) (len cap : Nat) (D E : Nat → Int) (w : World) (hlen : len ≤ 9223372036854775807) (hA : AsksAt w A len D E) :
    Calls Try.prog 11 #[.slice A len cap] w fun e w' => e = .returned (.bool true) ∧ Below w.heap.size w w' := by
  go_enter Try.func11, Try.ntmps11
  go_wp2_with (go_at_call 15; refine (bins_at 27 27 (by decide) (by decide) (by decide) (by decide) _ _ _ D E _ hlen hA).mono ?_; rintro e w1 ⟨rfl, hb⟩)
  go_ret
  exact ⟨rfl, hb⟩

theorem binLtU_walk (A : Option Addr) (len cap : Nat) (D E : Nat → Int) (w : World) (hlen : len ≤ 9223372036854775807) (hA : AsksAt w A len D E) :
    Calls Try.prog 12 #[.slice A len cap] w fun e w' => e = .returned (.bool true) ∧ Below w.heap.size w w' := by
  go_enter Try.func12, Try.ntmps12
  go_wp2_with (go_at_call 15; refine (bins_at 28 28 (by decide) (by decide) (by decide) (by decide) _ _ _ D E _ hlen hA).mono ?_; rintro e w1 ⟨rfl, hb⟩)
  go_ret
  exact ⟨rfl, hb⟩

theorem binLe_walk (A : Option Addr) (len cap : Nat) (D E : Nat → Int) (w : World) (hlen : len ≤ 9223372036854775807) (hA : AsksAt w A len D E) :
    Calls Try.prog 13 #[.slice A len cap] w fun e w' => e = .returned (.bool true) ∧ Below w.heap.size w w' := by
  go_enter Try.func13, Try.ntmps13
  go_wp2_with (go_at_call 15; refine (bins_at 29 29 (by decide) (by decide) (by decide) (by decide) _ _ _ D E _ hlen hA).mono ?_; rintro e w1 ⟨rfl, hb⟩)
  go_ret
  exact ⟨rfl, hb⟩

theorem binLeU_walk (A : Option Addr) (len cap : Nat) (D E : Nat → Int) (w : World) (hlen : len ≤ 9223372036854775807) (hA : AsksAt w A len D E) :
    Calls Try.prog 14 #[.slice A len cap] w fun e w' => e = .returned (.bool true) ∧ Below w.heap.size w w' := by
  go_enter Try.func14, Try.ntmps14
  go_wp2_with (go_at_call 15; refine (bins_at 30 30 (by decide) (by decide) (by decide) (by decide) _ _ _ D E _ hlen hA).mono ?_; rintro e w1 ⟨rfl, hb⟩)
  go_ret
  exact ⟨rfl, hb⟩

end Go.Proofs.Ytlkkkmekmbfhjaa
