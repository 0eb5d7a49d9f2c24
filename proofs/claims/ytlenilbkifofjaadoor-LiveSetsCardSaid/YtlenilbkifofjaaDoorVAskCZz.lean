/- virt's checks: a call. Conditions: as stated. -/
import Derived.Test.YtlenilbkifofjaaDoorVAskBZz
import Derived.Test.YtlenilbkifofjaaDoorQ03Zz
import Derived.BigQuiet
set_option linter.unusedVariables false
set_option linter.unusedSimpArgs false
namespace Go.Proofs.YtlenilbkifofjaaDoor
open Go.RowKit

/-- A call's registers and function are there. -/
def callB (c : CodeS) (nf : Int) (x : InsS) : Bool := decide (0 ≤ x.n ∧ x.n < nf) && regsB x.arg c.regs
/-- What asking a call answers: what its function's parameters say, or no. -/
def CallSaysV (PQ : Bool → World → Prop) (c : CodeS) (nf : Int) (x : InsS) (w : World) (e : Ending) (w' : World) : Prop :=
  ∃ b, e = .returned (.bool b) ∧ (callB c nf x = true ∧ PQ b w' ∨ callB c nf x = false ∧ b = false ∧ Below w.heap.size w w')
theorem regsB_take {l : List Int} {nr : Int} {k : Nat} (hk : k < l.length) : regsB (l.take (k + 1)) nr = (regsB (l.take k) nr && decide (0 ≤ l[k] ∧ l[k] < nr)) := by
  unfold regsB
  rw [List.take_add_one, List.getElem?_eq_getElem hk, List.all_append]
  simp
theorem regsB_no {l : List Int} {nr : Int} {k : Nat} (hk : k < l.length) (h : ¬ (0 ≤ l[k] ∧ l[k] < nr)) : regsB l nr = false := by
  unfold regsB
  rw [List.all_eq_false]
  exact ⟨l[k], List.getElem_mem hk, by simp; omega⟩
/-- Numbers, one by one. -/
theorem LongsAt.at {w : World} {B : Nat} {l : List Int} {A : Option Addr} {n c k : Nat} (h : LongsAt w B l (.slice A n c)) (hk : k < l.length) : ∃ b off, A = some ⟨b, off, none⟩ ∧ b < B ∧ w.cell? ⟨b, off + k, none⟩ = some (.int .i64 l[k]) ∧ In64 l[k] := by
  have hn := (SliceAt.len h).1
  subst hn
  obtain ⟨b, off, x, h1, h2, h3, h4, h5⟩ := SliceAt.get h hk
  rw [List.getElem?_eq_getElem hk] at h3
  injection h3 with h3
  subst h3
  simp only [Nat.mul_one, Nat.add_zero] at h4
  exact ⟨b, off, h1, h2, h4, h5⟩

set_option maxRecDepth 100000 in
set_option maxHeartbeats 8000000 in
theorem vaskcall_any (PQ : Bool → World → Prop) (ab : Nat) (c : CodeS) (LA : Option Addr) (lc : Nat) (BA : Option Addr) (bc : Nat) (nf ng : Int) (cv mv : Value) (x : InsS) (A : Option Addr) (cap B : Nat) (w : World)
    (h : VAsk w ab c LA lc BA bc nf ng (.func (.func 38) #[] #[cv]) mv) (hB : B ≤ w.heap.size) (hx : LongsAt w B x.arg (.slice A x.arg.length cap))
    (hpar : (0 ≤ x.n ∧ x.n < nf) → ∀ W, Below w.heap.size w W → Calls Tryd.prog 38 #[.int .i64 x.n, .int .i64 x.arg.length, cv] W fun e w' => ∃ b, e = .returned (.bool b) ∧ PQ b w') :
    Calls Tryd.prog 92 #[.pointer (some ⟨ab, 0, .none⟩), insV x A cap] w fun e w' => CallSaysV PQ c nf x w e w' := by
  obtain ⟨op, dst, a, b, n, arg⟩ := x
  simp only at hx hpar
  unfold insV
  simp only
  have r1 : w.cell? ⟨ab, 1, .none⟩ = some (.int .i64 c.regs) := Row.cell h rfl
  have r4 : w.cell? ⟨ab, 4, .none⟩ = some (.int .i64 nf) := Row.cell h rfl
  have rl := Row.lt h
  have hl := (SliceAt.len hx).2
  have HA := Lib.hid h
  have HX := Lib.hid hx
  have HP := Lib.hid hpar
  clear h hx hpar
  by_cases h0 : 0 ≤ n ∧ n < nf
  · have e0 : decide (n < 0) = false := by simp; omega
    have e1 : decide (nf ≤ n) = false := by simp; omega
    have HC := Lib.hid (show callB c nf ⟨op, dst, a, b, n, arg⟩ = regsB arg c.regs by unfold callB; rw [decide_eq_true h0, Bool.true_and])
    have HP2 := Lib.hid (HP.out h0)
    clear h0 HP
    go_enter Tryd.func92, Tryd.ntmps92
    refine wp_letter (fun Q hQ => ?_)
    have HQ := Lib.hid hQ
    clear hQ
    go_wp2_with fail
    go_quiet (fail)
    go_wp2_with fail
    go_loopw [22] (fun i wr => ∃ k : Nat, i = .int .i64 (k : Nat) ∧ k ≤ arg.length ∧ regsB (arg.take k) c.regs = true ∧ Below w.heap.size w wr ∧ Row wr w.heap.size #[.int .i64 op, .int .i64 dst, .int .i64 a, .int .i64 b, .int .i64 n, .slice A arg.length cap] 38) (fun i _ => arg.length - (intOf i).toNat)
    case atStart => exact ⟨0, rfl, Nat.zero_le _, rfl, below_drewN (below1 _ _) _, Row.new _ _ _⟩
    case round =>
      obtain ⟨k, rfl, hk, hrg, hbw, hrow⟩ := hrel
      have HRG := Lib.hid hrg
      have HBW := Lib.hid hbw
      have HROW := Lib.hid hrow
      have hzw := hbw.size
      have ha := Row.below HA.out hbw rl
      have a1 : wr.cell? ⟨ab, 1, .none⟩ = some (.int .i64 c.regs) := Row.cell ha rfl
      have al := Row.lt ha
      have HAW := Lib.hid ha
      clear hrg hbw hrow ha
      by_cases hlt : k < arg.length
      · obtain ⟨sb, so, rfl, hsb, g0, _⟩ := (HX.out.below (HBW.out.mono hB) (Nat.le_refl _)).at hlt
        have HW := Lib.hid (vwithin_any arg[k] c.regs wr)
        have hkl : (k : Int) < (arg.length : Int) := by omega
        have hsl : sb < wr.heap.size := by omega
        by_cases hin : 0 ≤ arg[k] ∧ arg[k] < c.regs
        · have HT := Lib.hid (show regsB (arg.take (k + 1)) c.regs = true by rw [regsB_take hlt, HRG.out, decide_eq_true hin]; rfl)
          rw [decide_eq_true hin] at HW
          clear hin
          go_wp2_with fail
          refine HW.out.mono ?_
          rintro e w1 ⟨rfl, rfl⟩
          go_wp2_with fail
          go_roundw
          case rel => exact ⟨k + 1, by go_num, hlt, HT.out, HBW.out, HROW.out⟩
          case measure => simp [intOf]; omega
        · have HT := Lib.hid (regsB_no hlt hin)
          rw [decide_eq_false hin] at HW
          clear hin
          go_wp2_with fail
          refine HW.out.mono ?_
          rintro e w1 ⟨rfl, rfl⟩
          go_wp2_with fail
          refine HQ.out _ _ _ ?_
          exact bodyPost_ret (v := .bool false) (by simp [results, Tryd.results92, go_sem]) rfl ⟨false, rfl, Or.inr ⟨by rw [HC.out, HT.out], rfl, HBW.out⟩⟩
      · obtain rfl : k = arg.length := by omega
        rw [List.take_length] at HRG
        have x4 := HROW.out.cell (j := 4) rfl
        have x5 := HROW.out.cell (j := 5) rfl
        have xl := HROW.out.lt
        have a6 : wr.cell? ⟨ab, 6, .none⟩ = some (.func (.func 38) #[] #[cv]) := Row.cell HAW.out rfl
        have HPW := Lib.hid (HP2.out wr.drew HBW.out.drew)
        go_wp2_with fail
        refine still_tailq 9 (by kernel_rfl) (by kernel_rfl) ?_
        simp only [List.take_succ_cons, List.take_zero, List.drop_succ_cons, List.drop_zero]
        repeat (go_big_quiet_step (fail))
        refine wpQuiet_nil ?_
        go_wp2_with fail
        refine HPW.out.mono ?_
        rintro e w1 ⟨b1, rfl, hpq⟩
        have HPQ := Lib.hid hpq
        clear hpq
        go_wp2_with fail
        refine HQ.out _ _ _ ?_
        exact bodyPost_ret (v := .bool b1) (by simp [results, Tryd.results92, go_sem]) rfl ⟨b1, rfl, Or.inl ⟨by rw [HC.out, HRG.out], HPQ.out⟩⟩
  · have hd : decide (n < 0) = true ∨ (decide (n < 0) = false ∧ decide (nf ≤ n) = true) := by
      by_cases h1 : n < 0
      · exact Or.inl (by simpa using h1)
      · exact Or.inr ⟨by simp; omega, by simp; omega⟩
    have HC := Lib.hid (show callB c nf ⟨op, dst, a, b, n, arg⟩ = false by unfold callB; rw [decide_eq_false h0, Bool.false_and])
    clear h0
    rcases hd with e0 | ⟨e0, e1⟩
    all_goals
      go_enter Tryd.func92, Tryd.ntmps92
      refine wp_letter (fun Q hQ => ?_)
      have HQ := Lib.hid hQ
      clear hQ
      go_wp2_with fail
      go_quiet (fail)
      go_wp2_with fail
      refine HQ.out _ _ _ ?_
      exact bodyPost_ret (v := .bool false) (by simp [results, Tryd.results92, go_sem]) rfl ⟨false, rfl, Or.inr ⟨HC.out, rfl, below_drewN (below1 _ _) _⟩⟩
end Go.Proofs.YtlenilbkifofjaaDoor
