/- May a function alone be? virt's way (plain). No program in sight. No condition. -/
import Derived.Test.YtlenilbkifofjaaDoorVAskFZz
set_option linter.unusedVariables false
set_option linter.unusedSimpArgs false
namespace Go.Proofs.YtlenilbkifofjaaDoor
open Go.RowKit

/-- What is known of the functions' arguments. -/
def parK (s : Int → Option Nat) (n : Int) (k : Nat) : Bool × (Int → Option Nat) :=
  if s n = none then (decide (k ≤ 4), fun j => if j = n then some k else s j) else (decide (s n = some k) && decide (k ≤ 4), s)
def noneK : Int → Option Nat := fun _ => none
def aloneB (c : CodeS) : Bool := (codeF parK c 16 8 noneK).1
def callsL : (Int → Option Nat) → List InsS → Bool
  | _, [] => true
  | s, x :: l => if x.op = 10 then (parK s x.n x.arg.length).1 && callsL (parK s x.n x.arg.length).2 l else callsL s l
theorem insB_par {c : CodeS} {ng nf : Int} {par : Int → Int → Bool} {x : InsS} : insB c ng nf par x = (insB c ng nf yesPar x && (!decide (x.op = 10) || par x.n x.arg.length)) := by
  rw [insB_eq (par := par), insB_eq (par := yesPar)]
  by_cases h : x.op = 10
  · have e : numberI c ng nf par x = (numberI c ng nf yesPar x && par x.n x.arg.length) := by
      obtain ⟨op, dst, a, b, n, arg⟩ := x
      simp only at h
      subst h
      simp [numberI, yesPar, Bool.and_assoc]
    rw [e, decide_eq_true h, Bool.not_true, Bool.false_or]
    simp only [Bool.and_assoc]
  · have e : numberI c ng nf par x = numberI c ng nf yesPar x := by
      unfold numberI
      rw [if_neg h, if_neg h]
    rw [e, decide_eq_false h, Bool.not_false, Bool.true_or, Bool.and_true]
theorem insB_call {c : CodeS} {ng nf : Int} {x : InsS} (h : insB c ng nf yesPar x = true) (h10 : x.op = 10) : 0 ≤ x.n ∧ x.n < nf := by
  rw [insB_eq] at h
  simp only [Bool.and_eq_true] at h
  have := h.2.2.2.2.2.2
  rw [number_yes h10] at this
  unfold callB at this
  simp only [Bool.and_eq_true, decide_eq_true_eq] at this
  exact this.1
theorem inssF_alone (c : CodeS) (ng nf : Int) : ∀ (l : List InsS) (s : Int → Option Nat), (inssF parK c ng nf s l).1 = (l.all (insB c ng nf yesPar) && callsL s l)
  | [], _ => rfl
  | x :: l, s => by
    rw [List.all_cons, callsL]
    by_cases h : x.op = 10
    · rw [if_pos h]
      cases hy : insB c ng nf yesPar x with
      | true =>
        rw [inssF_cons parK (b := (parK s x.n x.arg.length).1) (s' := (parK s x.n x.arg.length).2) (by unfold insF; rw [if_pos ⟨h, hy⟩])]
        cases hp : (parK s x.n x.arg.length).1 with
        | true => rw [if_pos rfl, inssF_alone c ng nf l]; simp
        | false => simp
      | false =>
        have hn : insB c ng nf noPar x = false := by rw [insB_par, hy]; rfl
        rw [inssF_cons parK (b := false) (s' := s) (by unfold insF; rw [if_neg (fun hh => by rw [hy] at hh; cases hh.2), hn])]
        simp
    · rw [if_neg h]
      have hn : insB c ng nf noPar x = insB c ng nf yesPar x := by rw [insB_par, decide_eq_false h]; simp
      rw [inssF_cons parK (b := insB c ng nf yesPar x) (s' := s) (by unfold insF; rw [if_neg (fun hh => h hh.1), hn])]
      cases hy : insB c ng nf yesPar x with
      | true => rw [if_pos rfl, inssF_alone c ng nf l]; simp
      | false => simp
theorem codeF_alone (c : CodeS) (ng nf : Int) (s : Int → Option Nat) : (codeF parK c ng nf s).1 = true ↔ headV c ∧ (c.ins.all (insB c ng nf yesPar) = true ∧ callsL s c.ins = true) ∧ lastB c = true := by
  unfold codeF
  by_cases h : headV c
  · rw [if_pos h]
    simp only [inssF_alone, Bool.and_eq_true, h, true_and]
  · rw [if_neg h]
    simp [h]
end Go.Proofs.YtlenilbkifofjaaDoor
