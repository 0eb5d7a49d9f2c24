/- The page's Code and virt's: may a function be? (plain). No program in sight. -/
import Derived.Test.YtlenilbkifofjaaDoorRCodeZz
import Derived.Test.YtlenilbkifofjaaDoorVAskEZz
import Derived.Test.YtlenilbkifofjaaDoorQ03Zz
set_option linter.unusedVariables false
set_option linter.unusedSimpArgs false
namespace Go.Proofs.YtlenilbkifofjaaDoor
open Go.RowKit

def labOkR (pre : List InsS) (x : InsS) : Bool := decide (x.op ≠ 14) || (!labI pre x.n && decide (0 ≤ x.n ∧ x.n < 8000))
def jumpR (x : InsS) : Bool := !decide (x.op = 15 ∨ x.op = 16) || decide (0 ≤ x.n ∧ x.n < 8000)
theorem numB_eq (n r : Int) : numB n (r - 1) = decide (0 ≤ n ∧ n < r) := by unfold numB; rw [decide_eq_decide]; omega
set_option maxHeartbeats 4000000 in
theorem insR_eq (c : CodeS) (ng nf : Int) (par : Int → Int → Bool) (pl : List Int) (pre : List InsS) (x : InsS) (hpl : (pl.length : Int) = nf) (hpar : ∀ n k, 0 ≤ n → n < nf → par n k = decide (pl.getD n.toNat 0 = k)) :
    insR c ng pl pre x = (insB c ng nf par x && (labOkR pre x && jumpR x)) := by
  subst hpl
  rw [insB_eq]
  obtain ⟨op, dst, a, b, n, arg⟩ := x
  unfold insR formR regsR labOkR jumpR
  simp only [numB_eq]
  have hz : ((arg.length : Int) == 0) = true ↔ arg = [] := by simp
  have hz1 : ((arg.length : Int) == 1) = true ↔ arg.length = 1 := by simp; omega
  have hop : op = 1 ∨ op = 2 ∨ op = 3 ∨ op = 4 ∨ op = 5 ∨ op = 6 ∨ op = 7 ∨ op = 8 ∨ op = 9 ∨ op = 10 ∨ op = 11 ∨ op = 12 ∨ op = 13 ∨ op = 14 ∨ op = 15 ∨ op = 16 ∨ op = 17 ∨ namedI ⟨op, dst, a, b, n, arg⟩ = none := by
    unfold namedI
    by_cases h : 1 ≤ op ∧ op ≤ 17
    · omega
    · have : (if op = 1 ∨ op = 3 ∨ op = 4 then some (true, false, false, true, false)
  else if op = 2 then some (true, true, false, false, false)
  else if op = 5 then some (true, true, true, true, false)
  else if op = 6 then some (true, true, false, true, true)
  else if op = 7 ∨ op = 8 ∨ op = 9 then some (true, true, false, true, false)
  else if op = 10 then some (decide (dst ≠ -1), false, false, true, true)
  else if op = 11 ∨ op = 13 ∨ op = 17 then some (false, true, false, false, false)
  else if op = 12 then some (true, false, false, false, false)
  else if op = 14 ∨ op = 15 then some (false, false, false, true, false)
  else if op = 16 then some (false, true, false, true, false)
  else none) = none := by
        repeat rw [if_neg (by omega)]
      simp only [this, or_true]
  rcases hop with rfl | rfl | rfl | rfl | rfl | rfl | rfl | rfl | rfl | rfl | rfl | rfl | rfl | rfl | rfl | rfl | rfl | hn
  all_goals try rw [hn]; simp only [Option.isSome_none, Bool.false_and]
  all_goals simp only [fieldsI, namedI, wantI, preR, eqI, argsR, opR, shapeR, regI, numberI, freeI, sizeB]
  all_goals simp
  all_goals try simp only [hz]
  all_goals try grind
theorem allR_iff (c : CodeS) (ng : Int) (pl : List Int) : ∀ k, k ≤ c.ins.length → (allR c ng pl k = true ↔ ∀ i x, i < k → c.ins[i]? = some x → insR c ng pl (c.ins.take i) x = true) := by
  intro k
  induction k with
  | zero => intro _; exact ⟨fun _ i x h => absurd h (Nat.not_lt_zero i), fun _ => rfl⟩
  | succ k ih =>
    intro hk
    have hg : c.ins[k]? = some c.ins[k] := List.getElem?_eq_getElem (by omega)
    rw [allR_next hg, Bool.and_eq_true, ih (by omega)]
    constructor
    · rintro ⟨h1, h2⟩ i x hi hx
      by_cases he : i = k
      · subst he
        rw [hg] at hx
        cases hx
        exact h2
      · exact h1 i x (by omega) hx
    · intro h
      exact ⟨fun i x hi hx => h i x (by omega) hx, h k _ (by omega) hg⟩
theorem layB_iff : ∀ (r l : List InsS), layB l r = true ↔ ∀ i x, r[i]? = some x → labOkR (l ++ r.take i) x = true := by
  intro r
  induction r with
  | nil => intro l; exact ⟨fun _ i x h => by simp at h, fun _ => rfl⟩
  | cons y r ih =>
    intro l
    have hh : layB l (y :: r) = (labOkR l y && layB (l ++ [y]) r) := rfl
    rw [hh, Bool.and_eq_true, ih]
    constructor
    · rintro ⟨h1, h2⟩ i x hx
      cases i with
      | zero => simp only [List.getElem?_cons_zero, Option.some.injEq] at hx; subst hx; simpa using h1
      | succ i =>
        simp only [List.getElem?_cons_succ] at hx
        have := h2 i x hx
        simpa using this
    · intro h
      refine ⟨by simpa using h 0 y rfl, fun i x hx => ?_⟩
      have := h (i + 1) x (by simpa using hx)
      simpa using this
theorem layB_range {l : List InsS} (h : layB [] l = true) {n : Int} (hn : labI l n = true) : 0 ≤ n ∧ n < 8000 := by
  unfold labI at hn
  rw [List.any_eq_true] at hn
  obtain ⟨x, hx, he⟩ := hn
  obtain ⟨h1, rfl⟩ := of_decide_eq_true he
  obtain ⟨i, hi⟩ := List.mem_iff_getElem?.1 hx
  have := (layB_iff l []).1 h i x hi
  unfold labOkR at this
  simp [h1] at this
  exact this.2
theorem codeR_eq (c : CodeS) (ng nf : Int) (par : Int → Int → Bool) (pl : List Int) (hpl : (pl.length : Int) = nf) (hpar : ∀ n k, 0 ≤ n → n < nf → par n k = decide (pl.getD n.toNat 0 = k)) :
    codeR c ng pl = codeB c ng nf par := by
  have hA : allR c ng pl c.ins.length = (layB [] c.ins && c.ins.all (insB c ng nf par)) := by
    rw [Bool.eq_iff_iff, Bool.and_eq_true, allR_iff c ng pl _ (Nat.le_refl _), layB_iff, List.all_eq_true]
    constructor
    · intro h
      refine ⟨fun i x hx => ?_, fun x hx => ?_⟩
      · have := h i x (List.getElem?_eq_some_iff.1 hx).1 hx
        rw [insR_eq c ng nf par pl _ x hpl hpar, Bool.and_eq_true, Bool.and_eq_true] at this
        exact this.2.1
      · obtain ⟨i, hi⟩ := List.mem_iff_getElem?.1 hx
        have := h i x (List.getElem?_eq_some_iff.1 hi).1 hi
        rw [insR_eq c ng nf par pl _ x hpl hpar, Bool.and_eq_true] at this
        exact this.1
    · rintro ⟨h1, h2⟩ i x _ hx
      have hl := (layB_iff c.ins []).2 h1
      have hi := h2 x (List.mem_iff_getElem?.2 ⟨i, hx⟩)
      rw [insR_eq c ng nf par pl _ x hpl hpar, hi, Bool.true_and, Bool.and_eq_true]
      refine ⟨h1 i x hx, ?_⟩
      unfold jumpR
      by_cases hj : x.op = 15 ∨ x.op = 16
      · have hn : labI c.ins x.n = true := by
          rw [insB_eq] at hi
          simp only [Bool.and_eq_true] at hi
          have := hi.2.2.2.2.2.2
          unfold numberI at this
          rw [if_neg (by omega), if_neg (by omega), if_neg (by omega), if_neg (by omega), if_neg (by omega), if_neg (by omega), if_neg (by omega), if_neg (by omega), if_pos hj] at this
          exact this
        rw [decide_eq_true (layB_range hl hn), Bool.or_true]
      · rw [decide_eq_false hj]; rfl
  unfold codeR codeB
  rw [hA]
  have hH : headV c ↔ (headR c ∧ layB [] c.ins = true) := by
    unfold headV headR numB betwB
    simp only [decide_eq_true_eq]
    constructor
    · rintro ⟨h1, h2, h3, h4, h5, h6, h7, h8⟩
      exact ⟨⟨⟨by omega, by omega⟩, h3, h4, h5, by omega, by omega⟩, h8⟩
    · rintro ⟨⟨⟨h1, h2⟩, h3, h4, h5, h6, h7⟩, h8⟩
      exact ⟨by omega, by omega, h3, h4, h5, by omega, by omega, h8⟩
  by_cases hr : headR c
  · cases hl : layB [] c.ins with
    | true => rw [if_pos hr, if_pos (hH.2 ⟨hr, hl⟩), Bool.true_and]
    | false => rw [if_pos hr, if_neg (fun h => by have := (hH.1 h).2; rw [hl] at this; cases this), Bool.false_and, Bool.false_and]
  · rw [if_neg hr, if_neg (fun h => hr (hH.1 h).1)]
end Go.Proofs.YtlenilbkifofjaaDoor
