/- live's Defs and Next, the page's Defs. Conditions: as stated. -/
import Derived.Test.YtlenilbkifofjaaDoorLvCZz
import Derived.Test.YtlenilbkifofjaaDoorVAskFZz
set_option linter.unusedVariables false
set_option linter.unusedSimpArgs false
namespace Go.Proofs.YtlenilbkifofjaaDoor
open Go.RowKit

def DefsSays (x : InsS) (w : World) (e : Ending) (w' : World) : Prop := e = .returned (.int .i64 (defL x)) ∧ Below w.heap.size w w'
theorem defL_cases (op : Int) : (op = 1 ∨ op = 2 ∨ op = 3 ∨ op = 4 ∨ op = 5 ∨ op = 6 ∨ op = 7 ∨ op = 8 ∨ op = 10 ∨ op = 12) ∨ ((op == 1) = false ∧ (op == 2) = false ∧ (op == 3) = false ∧ (op == 4) = false ∧ (op == 5) = false ∧ (op == 6) = false ∧ (op == 7) = false ∧ (op == 8) = false ∧ (op == 10) = false ∧ (op == 12) = false) := by
  simp only [beq_eq_false_iff_ne]
  omega
set_option maxRecDepth 100000 in
set_option maxHeartbeats 8000000 in
theorem ldefs_any (x : InsS) (A : Option Addr) (c : Nat) (w : World) : Calls Tryd.prog 9 #[insV x A c] w fun e w' => DefsSays x w e w' := by
  obtain ⟨op, dst, a, b, n, arg⟩ := x
  unfold insV
  simp only
  rcases defL_cases op with h | ⟨h1, h2, h3, h4, h5, h6, h7, h8, h10, h12⟩
  · have HD := Lib.hid (show defL ⟨op, dst, a, b, n, arg⟩ = dst from by unfold defL; rw [if_pos h])
    rcases h with rfl | rfl | rfl | rfl | rfl | rfl | rfl | rfl | rfl | rfl
    all_goals
      go_enter Tryd.func9, Tryd.ntmps9
      refine wp_letter (fun Q hQ => ?_)
      have HQ := Lib.hid hQ
      clear hQ
      go_wp2_with fail
      refine HQ.out _ _ _ ?_
      exact bodyPost_ret (v := .int .i64 dst) (by simp [results, Tryd.results9, go_sem]) rfl ⟨by rw [HD.out], below1 _ _⟩
  · have HD := Lib.hid (show defL ⟨op, dst, a, b, n, arg⟩ = -1 from by
      simp only [beq_eq_false_iff_ne] at h1 h2 h3 h4 h5 h6 h7 h8 h10 h12
      unfold defL
      rw [if_neg]
      simp only
      omega)
    go_enter Tryd.func9, Tryd.ntmps9
    refine wp_letter (fun Q hQ => ?_)
    have HQ := Lib.hid hQ
    clear hQ
    go_wp2_with fail
    refine HQ.out _ _ _ ?_
    exact bodyPost_ret (v := .int .i64 (-1)) (by simp [results, Tryd.results9, go_sem]) rfl ⟨by rw [HD.out], below1 _ _⟩
set_option maxRecDepth 100000 in
set_option maxHeartbeats 8000000 in
theorem rdefs_any (x : InsS) (A : Option Addr) (c : Nat) (w : World) : Calls Tryd.prog 10 #[insV x A c] w fun e w' => DefsSays x w e w' := by
  obtain ⟨op, dst, a, b, n, arg⟩ := x
  unfold insV
  simp only
  rcases defL_cases op with h | ⟨h1, h2, h3, h4, h5, h6, h7, h8, h10, h12⟩
  · have HD := Lib.hid (show defL ⟨op, dst, a, b, n, arg⟩ = dst from by unfold defL; rw [if_pos h])
    rcases h with rfl | rfl | rfl | rfl | rfl | rfl | rfl | rfl | rfl | rfl
    all_goals
      go_enter Tryd.func10, Tryd.ntmps10
      refine wp_letter (fun Q hQ => ?_)
      have HQ := Lib.hid hQ
      clear hQ
      go_wp2_with fail
      refine HQ.out _ _ _ ?_
      exact bodyPost_ret (v := .int .i64 dst) (by simp [results, Tryd.results10, go_sem]) rfl ⟨by rw [HD.out], below1 _ _⟩
  · have HD := Lib.hid (show defL ⟨op, dst, a, b, n, arg⟩ = -1 from by
      simp only [beq_eq_false_iff_ne] at h1 h2 h3 h4 h5 h6 h7 h8 h10 h12
      unfold defL
      rw [if_neg]
      simp only
      omega)
    go_enter Tryd.func10, Tryd.ntmps10
    refine wp_letter (fun Q hQ => ?_)
    have HQ := Lib.hid hQ
    clear hQ
    go_wp2_with fail
    refine HQ.out _ _ _ ?_
    exact bodyPost_ret (v := .int .i64 (-1)) (by simp [results, Tryd.results10, go_sem]) rfl ⟨by rw [HD.out], below1 _ _⟩
end Go.Proofs.YtlenilbkifofjaaDoor
