/- virt's checks: within, imm, register, Binary. No condition. -/
import Derived.Test.YtlenilbkifofjaaDoorQ03Zz
import Derived.Test.YtlenilbkifofjaaDoorGAskAZz
set_option linter.unusedVariables false
set_option linter.unusedSimpArgs false
namespace Go.Proofs.YtlenilbkifofjaaDoor
open Go.RowKit

theorem vwithin_any (n most : Int) (w : World) :
    Calls Tryd.prog 87 #[.int .i64 n, .int .i64 most] w fun e w' => e = .returned (.bool (decide (0 ≤ n ∧ n < most))) ∧ w = w' := by
  go_enter Tryd.func87, Tryd.ntmps87
  go_wp2
  all_goals go_ret
  all_goals exact ⟨ret_b (by simp; try omega), rfl⟩
theorem vimm_any (n : Int) (w : World) :
    Calls Tryd.prog 89 #[.int .i64 n] w fun e w' => e = .returned (.bool (immB n)) ∧ w = w' := by
  unfold immB
  go_enter Tryd.func89, Tryd.ntmps89
  go_wp2
  all_goals go_ret
  all_goals exact ⟨ret_b (by simp; try omega), rfl⟩
theorem vbinary_any (op : Int) (w : World) :
    Calls Tryd.prog 88 #[.int .i64 op] w fun e w' => e = .returned (.bool (decide (12 ≤ op ∧ op ≤ 30))) ∧ w = w' := by
  go_enter Tryd.func88, Tryd.ntmps88
  go_wp2
  all_goals go_ret
  all_goals exact ⟨ret_b (by simp; try omega), rfl⟩
theorem vload_any (op : Int) (w : World) :
    Calls Tryd.prog 91 #[.int .i64 op] w fun e w' => e = .returned (.bool (decide (5 ≤ op ∧ op ≤ 11))) ∧ w = w' := by
  go_enter Tryd.func91, Tryd.ntmps91
  go_wp2
  all_goals go_ret
  all_goals exact ⟨ret_b (by simp; try omega), rfl⟩
theorem vunary_any (op : Int) (w : World) :
    Calls Tryd.prog 90 #[.int .i64 op] w fun e w' => e = .returned (.bool (decide (31 ≤ op ∧ op ≤ 36))) ∧ w = w' := by
  go_enter Tryd.func90, Tryd.ntmps90
  go_wp2
  all_goals go_ret
  all_goals exact ⟨ret_b (by simp; try omega), rfl⟩
end Go.Proofs.YtlenilbkifofjaaDoor
