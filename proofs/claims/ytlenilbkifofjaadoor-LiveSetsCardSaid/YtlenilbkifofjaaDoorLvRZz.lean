/- What a function that may be alone promises (plain). No program in sight. No condition. -/
import Derived.Test.YtlenilbkifofjaaDoorLvQZz
import Derived.Test.YtlenilbkifofjaaDoorQ03Zz
import Derived.Test.YtlenilbkifofjaaDoorLvFZz
set_option linter.unusedVariables false
set_option linter.unusedSimpArgs false
namespace Go.Proofs.YtlenilbkifofjaaDoor
open Go.RowKit

theorem regI_in {r none nr : Int} {b : Bool} (h : regI r b none nr = true) (hb : b = true) : 0 ≤ r ∧ r < nr := by
  subst hb
  simpa [regI] using h
theorem regI_no {r none nr : Int} {b : Bool} (h : regI r b none nr = true) (hb : b = false) : r = none := by
  subst hb
  simpa [regI] using h
set_option maxHeartbeats 2000000 in
theorem insB_regs {c : CodeS} {ng nf : Int} {x : InsS} (h : insB c ng nf yesPar x = true) : RegsIn c.regs.toNat x := by
  rw [insB_eq] at h
  simp only [Bool.and_eq_true] at h
  obtain ⟨hn, h1, h2, h3, _, _, h6⟩ := h
  obtain ⟨op, dst, a, b, n, arg⟩ := x
  have hop : op = 1 ∨ op = 2 ∨ op = 3 ∨ op = 4 ∨ op = 5 ∨ op = 6 ∨ op = 7 ∨ op = 8 ∨ op = 9 ∨ op = 10 ∨ op = 11 ∨ op = 12 ∨ op = 13 ∨ op = 14 ∨ op = 15 ∨ op = 16 ∨ op = 17 ∨ namedI ⟨op, dst, a, b, n, arg⟩ = none := by
    unfold namedI
    by_cases h : 1 ≤ op ∧ op ≤ 17
    · omega
    · have : (if op = 1 ∨ op = 3 ∨ op = 4 then some (true, false, false, true, false)
  else if op = 2 then some (true, true, false, false, false)
  else if op = 5 then some (true, true, true, true, false)
  else if op = 6 then some (true, true, false, true, true)
  else if op = 7 ∨ op = 8 ∨ op = 9 then some (true, true, false, true, false)
  else if op = 10 then some (decide (dst ≠ -1), false, false, true, true)
  else if op = 11 ∨ op = 13 ∨ op = 17 then some (false, true, false, false, false)
  else if op = 12 then some (true, false, false, false, false)
  else if op = 14 ∨ op = 15 then some (false, false, false, true, false)
  else if op = 16 then some (false, true, false, true, false)
  else none) = none := by
        repeat rw [if_neg (by omega)]
      simp only [this, or_true]
  rcases hop with rfl | rfl | rfl | rfl | rfl | rfl | rfl | rfl | rfl | rfl | rfl | rfl | rfl | rfl | rfl | rfl | rfl | hn'
  all_goals try (rw [hn'] at hn; cases hn; done)
  all_goals clear hn
  all_goals simp only [fieldsI, namedI, regI, freeI, numberI, regsB] at h1 h2 h3 h6
  all_goals simp at h1 h2 h3 h6
  all_goals unfold RegsIn regsL defL
  all_goals simp only
  all_goals simp
  all_goals try omega
  · refine ⟨fun r hr => ?_, by by_cases hd : dst = -1 <;> simp [hd] at h1 ⊢ <;> omega⟩
    have := h6.2.1 r hr
    omega
theorem insB_named {c : CodeS} {ng nf : Int} {x : InsS} (h : insB c ng nf yesPar x = true) (hj : x.op = 15 ∨ x.op = 16) : labI c.ins x.n = true := by
  rw [insB_eq] at h
  simp only [Bool.and_eq_true] at h
  have := h.2.2.2.2.2.2
  unfold numberI at this
  rw [if_neg (by omega), if_neg (by omega), if_neg (by omega), if_neg (by omega), if_neg (by omega), if_neg (by omega), if_neg (by omega), if_neg (by omega), if_pos hj] at this
  exact this
theorem alone_all {c : CodeS} (h : aloneB c = true) : headV c ∧ ∀ x, x ∈ c.ins → insB c 16 8 yesPar x = true := by
  obtain ⟨h1, ⟨h2, _⟩, _⟩ := (codeF_alone c 16 8 noneK).1 h
  exact ⟨h1, fun x hx => List.all_eq_true.1 h2 x hx⟩
theorem alone_named {c : CodeS} (h : aloneB c = true) : Named c.ins := fun x hx hj => insB_named ((alone_all h).2 x hx) hj
theorem alone_regs {c : CodeS} (h : aloneB c = true) {x : InsS} (hx : x ∈ c.ins) : RegsIn c.regs.toNat x := insB_regs ((alone_all h).2 x hx)
end Go.Proofs.YtlenilbkifofjaaDoor
