/- The graph's clock: Tick, Stuck, Leave, Enter. Conditions: as stated. The graph's clock: Enter, Exit, End. Conditions: as stated. The graph's clock: End. Conditions: as stated. -/
import Derived.Test.YtinmgbodgecoeaaGAtZz
set_option linter.unusedVariables false
set_option linter.unusedSimpArgs false
namespace Go.Proofs.Ytinmgbodgecoeaa
open Go.RowKit

def ccells (fuel : Int) (s : St) (inv outv : Value) : Array Value := #[.int .i64 s.kind, .int .i64 s.code, outv, .int .i64 s.steps, .int .i64 s.deep, .int .i64 fuel, inv, .int .i64 s.calls]
/-- The clock, behind a call that writes it alone. -/
def ClkSays (cb : Nat) (fuel : Int) (s : St) (inv outv : Value) (w w' : World) : Prop := Row w' cb (ccells fuel s inv outv) 44 ∧ Wr (fun b => b = cb) w w'

set_option maxRecDepth 100000 in
set_option maxHeartbeats 2000000 in
theorem stuck_any (cb : Nat) (fuel : Int) (s : St) (inv outv : Value) (w : World) (hr : Row w cb (ccells fuel s inv outv) 44) :
    Calls Try.prog 28 #[.pointer (some ⟨cb, 0, none⟩)] w fun e w' => e = .returned (.bool false) ∧ ClkSays cb fuel { s with kind := 3 } inv outv w w' := by
  have c0 : w.cell? ⟨cb, 0, none⟩ = some (.int .i64 s.kind) := hr.cell rfl
  have f0 := hr.free 0
  have HR := Lib.hid (hr.set 0 (.int .i64 3))
  clear hr
  go_enter Try.func28, Try.ntmps28
  go_wp2_with fail
  go_ret
  exact ⟨rfl, HR.out, Wr.setCell w ⟨cb, 0, none⟩ _ rfl⟩
set_option maxRecDepth 100000 in
set_option maxHeartbeats 2000000 in
theorem leave_any (cb : Nat) (fuel : Int) (s : St) (inv outv : Value) (w : World) (hr : Row w cb (ccells fuel s inv outv) 44) (h0 : 1 ≤ s.calls) (h1 : s.calls ≤ 64) :
    Calls Try.prog 27 #[.pointer (some ⟨cb, 0, none⟩)] w fun e w' => e = .returned (.tuple #[]) ∧ ClkSays cb fuel { s with calls := s.calls - 1 } inv outv w w' := by
  have c0 : w.cell? ⟨cb, 7, none⟩ = some (.int .i64 s.calls) := hr.cell rfl
  have f0 := hr.free 7
  have HR := Lib.hid (hr.set 7 (.int .i64 (s.calls - 1)))
  clear hr
  go_enter Try.func27, Try.ntmps27
  go_wp2_with fail
  go_end0
  exact ⟨rfl, HR.out, Wr.setCell w ⟨cb, 7, none⟩ _ rfl⟩
set_option maxRecDepth 100000 in
set_option maxHeartbeats 2000000 in
theorem tick_any (cb : Nat) (fuel n : Int) (s : St) (inv outv : Value) (w : World) (hr : Row w cb (ccells fuel s inv outv) 44) (hk : s.kind = 0) (hf : fuel ≤ 100000000) (h0 : 0 ≤ s.steps) (h1 : s.steps ≤ fuel) (hn0 : 0 ≤ n) (hn1 : n ≤ 1000000) :
    Calls Try.prog 32 #[.pointer (some ⟨cb, 0, none⟩), .int .i64 n] w fun e w' => e = .returned (.bool (stepF fuel n s).1) ∧ ClkSays cb fuel (stepF fuel n s).2 inv outv w w' := by
  have c0 : w.cell? ⟨cb, 0, none⟩ = some (.int .i64 s.kind) := hr.cell rfl
  have c3 : w.cell? ⟨cb, 3, none⟩ = some (.int .i64 s.steps) := hr.cell rfl
  have c5 : w.cell? ⟨cb, 5, none⟩ = some (.int .i64 fuel) := hr.cell rfl
  have f0 := hr.free 0
  have f3 := hr.free 3
  have e : stepF fuel n s = if n > fuel - s.steps then (false, { s with steps := fuel, kind := 2 }) else (true, { s with steps := s.steps + n }) := by unfold stepF; rw [if_pos hk]
  by_cases hgt : n > fuel - s.steps
  · rw [e, if_pos hgt]
    have hd : decide (fuel - s.steps < n) = true := by simpa using hgt
    have HR0 := Lib.hid hr
    clear hr e hk
    go_enter Try.func32, Try.ntmps32
    go_wp2_with fail
    go_quiet (fail)
    go_wp2_with fail
    go_ret
    exact ⟨rfl, ((HR0.out.below (below_drewN (Below.refl _ _) _) HR0.out.lt).set 3 (.int .i64 fuel)).set 0 (.int .i64 2), ((Wr.of_below (F := fun b => b = cb) (below_drewN (Below.refl _ _) _)).setR cb 3 _ (Or.inl rfl)).setR cb 0 _ (Or.inl rfl)⟩
  · rw [e, if_neg hgt]
    have hd : decide (fuel - s.steps < n) = false := by simpa using hgt
    have HR0 := Lib.hid hr
    clear hr e hk
    go_enter Try.func32, Try.ntmps32
    go_wp2_with fail
    go_quiet (fail)
    go_wp2_with fail
    go_ret
    exact ⟨rfl, (HR0.out.below (below_drewN (Below.refl _ _) _) HR0.out.lt).set 3 (.int .i64 (s.steps + n)), (Wr.of_below (F := fun b => b = cb) (below_drewN (Below.refl _ _) _)).setR cb 3 _ (Or.inl rfl)⟩
end Go.Proofs.Ytinmgbodgecoeaa
namespace Go.Proofs.Ytinmgbodgecoeaa
open Go.RowKit

set_option maxRecDepth 100000 in
set_option maxHeartbeats 2000000 in
theorem enter_over (cb : Nat) (fuel n : Int) (s : St) (inv outv : Value) (w : World) (hr : Row w cb (ccells fuel s inv outv) 44) (h1 : s.calls = 64) :
    Calls Try.prog 23 #[.pointer (some ⟨cb, 0, none⟩), .int .i64 n] w fun e w' => e = .returned (.bool false) ∧ ClkSays cb fuel { s with kind := 4 } inv outv w w' := by
  have c7 : w.cell? ⟨cb, 7, none⟩ = some (.int .i64 s.calls) := hr.cell rfl
  have c0 : w.cell? ⟨cb, 0, none⟩ = some (.int .i64 s.kind) := hr.cell rfl
  have f0 := hr.free 0
  rw [h1] at c7
  have HR := Lib.hid (hr.set 0 (.int .i64 4))
  clear hr h1
  go_enter Try.func23, Try.ntmps23
  go_wp2_with fail
  go_ret
  exact ⟨rfl, HR.out, Wr.setCell w ⟨cb, 0, none⟩ _ rfl⟩
set_option maxRecDepth 100000 in
set_option maxHeartbeats 4000000 in
theorem enter_any (cb : Nat) (fuel n : Int) (s : St) (inv outv : Value) (w : World) (hr : Row w cb (ccells fuel s inv outv) 44) (hk : s.kind = 0) (hc0 : 0 ≤ s.calls) (hc1 : s.calls < 64) (hf : fuel ≤ 100000000) (h0 : 0 ≤ s.steps) (h1 : s.steps ≤ fuel) (hn0 : 0 ≤ n) (hn1 : n ≤ 1000000) :
    Calls Try.prog 23 #[.pointer (some ⟨cb, 0, none⟩), .int .i64 n] w fun e w' => e = .returned (.bool (stepF fuel n { s with calls := s.calls + 1, deep := max s.deep (s.calls + 1) }).1) ∧ ClkSays cb fuel (stepF fuel n { s with calls := s.calls + 1, deep := max s.deep (s.calls + 1) }).2 inv outv w w' := by
  have c7 : w.cell? ⟨cb, 7, none⟩ = some (.int .i64 s.calls) := hr.cell rfl
  have c4 : w.cell? ⟨cb, 4, none⟩ = some (.int .i64 s.deep) := hr.cell rfl
  have f7 := hr.free 7
  have f4 := hr.free 4
  have hd : (s.calls == 64) = false := by simp; omega
  have hm : (s.deep < s.calls + 1 ∧ max s.deep (s.calls + 1) = s.calls + 1) ∨ (¬ s.deep < s.calls + 1 ∧ max s.deep (s.calls + 1) = s.deep) := by omega
  rcases hm with ⟨hm, hmax⟩ | ⟨hm, hmax⟩
  · rw [hmax]
    clear hmax
    have HR := Lib.hid hr
    have HK := Lib.hid hk
    clear hr hk
    go_enter Try.func23, Try.ntmps23
    refine wp_letter (fun Q hQ => ?_)
    have HQ := Lib.hid hQ
    clear hQ
    go_wp2_with fail
    have HR7 := Lib.hid (HR.out.set 7 (.int .i64 (s.calls + 1)))
    obtain ⟨W, hW⟩ : ∃ W, W = w.setCell ⟨cb, 7, none⟩ (.int .i64 (s.calls + 1)) := ⟨_, rfl⟩
    rw [← hW] at HR7 ⊢
    have HW := Lib.hid hW
    clear hW c7 c4 f7 f4
    have c7 : W.cell? ⟨cb, 7, none⟩ = some (.int .i64 (s.calls + 1)) := HR7.out.cell rfl
    have c4 : W.cell? ⟨cb, 4, none⟩ = some (.int .i64 s.deep) := HR7.out.cell rfl
    have f4 := HR7.out.free 4
    refine still_tailq 14 (by kernel_rfl) (by kernel_rfl) ?_
    simp only [List.take_succ_cons, List.take_zero, List.drop_succ_cons, List.drop_zero]
    repeat (go_big_quiet_step (fail))
    refine wpQuiet_nil ?_
    go_wp2_with fail
    have HR4 := Lib.hid (HR7.out.set 4 (.int .i64 (s.calls + 1)))
    refine (tick_any cb fuel n { s with calls := s.calls + 1, deep := (s.calls + 1) } inv outv _ HR4.out.drew HK.out hf h0 h1 hn0 hn1).mono ?_
    rintro e w1 ⟨rfl, hrow, hwr⟩
    have HRW := Lib.hid hrow
    have HWR := Lib.hid (((HW.out ▸ (Wr.setCell w ⟨cb, 7, none⟩ _ rfl : Wr (fun b => b = cb) w (w.setCell ⟨cb, 7, none⟩ (.int .i64 (s.calls + 1))))) : Wr (fun b => b = cb) w W).setR cb 4 (.int .i64 (s.calls + 1)) (Or.inl rfl) |>.drewR |>.trans hwr (fun _ h => Or.inl h))
    clear hrow hwr
    obtain ⟨q, hq⟩ : ∃ q, q = stepF fuel n { s with calls := s.calls + 1, deep := (s.calls + 1) } := ⟨_, rfl⟩
    rw [← hq] at HRW ⊢ HQ
    clear hq
    go_wp2_with fail
    refine HQ.out _ _ _ ?_
    exact bodyPost_ret (v := .bool q.1) (by simp [results, Try.results23, go_sem]) rfl ⟨rfl, HRW.out, HWR.out⟩
  · rw [hmax]
    clear hmax
    have HR := Lib.hid hr
    have HK := Lib.hid hk
    clear hr hk
    go_enter Try.func23, Try.ntmps23
    refine wp_letter (fun Q hQ => ?_)
    have HQ := Lib.hid hQ
    clear hQ
    go_wp2_with fail
    have HR7 := Lib.hid (HR.out.set 7 (.int .i64 (s.calls + 1)))
    obtain ⟨W, hW⟩ : ∃ W, W = w.setCell ⟨cb, 7, none⟩ (.int .i64 (s.calls + 1)) := ⟨_, rfl⟩
    rw [← hW] at HR7 ⊢
    have HW := Lib.hid hW
    clear hW c7 c4 f7 f4
    have c7 : W.cell? ⟨cb, 7, none⟩ = some (.int .i64 (s.calls + 1)) := HR7.out.cell rfl
    have c4 : W.cell? ⟨cb, 4, none⟩ = some (.int .i64 s.deep) := HR7.out.cell rfl
    have f4 := HR7.out.free 4
    refine still_tailq 14 (by kernel_rfl) (by kernel_rfl) ?_
    simp only [List.take_succ_cons, List.take_zero, List.drop_succ_cons, List.drop_zero]
    repeat (go_big_quiet_step (fail))
    refine wpQuiet_nil ?_
    go_wp2_with fail
    have HR4 := Lib.hid (HR7.out.set 4 (.int .i64 s.deep))
    refine (tick_any cb fuel n { s with calls := s.calls + 1, deep := s.deep } inv outv _ HR4.out.drew HK.out hf h0 h1 hn0 hn1).mono ?_
    rintro e w1 ⟨rfl, hrow, hwr⟩
    have HRW := Lib.hid hrow
    have HWR := Lib.hid (((HW.out ▸ (Wr.setCell w ⟨cb, 7, none⟩ _ rfl : Wr (fun b => b = cb) w (w.setCell ⟨cb, 7, none⟩ (.int .i64 (s.calls + 1))))) : Wr (fun b => b = cb) w W).setR cb 4 (.int .i64 s.deep) (Or.inl rfl) |>.drewR |>.trans hwr (fun _ h => Or.inl h))
    clear hrow hwr
    obtain ⟨q, hq⟩ : ∃ q, q = stepF fuel n { s with calls := s.calls + 1, deep := s.deep } := ⟨_, rfl⟩
    rw [← hq] at HRW ⊢ HQ
    clear hq
    go_wp2_with fail
    refine HQ.out _ _ _ ?_
    exact bodyPost_ret (v := .bool q.1) (by simp [results, Try.results23, go_sem]) rfl ⟨rfl, HRW.out, HWR.out⟩
end Go.Proofs.Ytinmgbodgecoeaa
namespace Go.Proofs.Ytinmgbodgecoeaa
open Go.RowKit

set_option maxRecDepth 100000 in
set_option maxHeartbeats 2000000 in
theorem gend_any (cb : Nat) (fuel : Int) (s : St) (inv outv : Value) (A : Option Addr) (n c : Nat) (w : World) (hr : Row w cb (ccells fuel s inv outv) 44) (ho : outv = .slice A n c) :
    Calls Try.prog 15 #[.pointer (some ⟨cb, 0, none⟩)] w fun e w' => e = .returned (if s.kind = 3 then .agg #[.int .i64 3, .int .i64 0, .slice none 0 0, .int .i64 0, .int .i64 0] else .agg #[.int .i64 s.kind, .int .i64 s.code, outv, .int .i64 s.steps, .int .i64 s.deep]) ∧ Below w.heap.size w w' := by
  subst ho
  have c0 : w.cell? ⟨cb, 0, none⟩ = some (.int .i64 s.kind) := hr.cell rfl
  have c1 : w.cell? ⟨cb, 1, none⟩ = some (.int .i64 s.code) := hr.cell rfl
  have c2 : w.cell? ⟨cb, 2, none⟩ = some (.slice A n c) := hr.cell rfl
  have c3 : w.cell? ⟨cb, 3, none⟩ = some (.int .i64 s.steps) := hr.cell rfl
  have c4 : w.cell? ⟨cb, 4, none⟩ = some (.int .i64 s.deep) := hr.cell rfl
  have hlt := hr.lt
  clear hr
  by_cases hk : s.kind = 3
  · rw [if_pos hk]
    have hd : (s.kind == 3) = true := by simpa using hk
    clear hk
    go_enter Try.func15, Try.ntmps15
    refine wp_letter (fun Q hQ => ?_)
    have HQ := Lib.hid hQ
    clear hQ
    go_wp2_with fail
    refine HQ.out _ _ _ ?_
    exact bodyPost_ret (v := .agg #[.int .i64 3, .int .i64 0, .slice none 0 0, .int .i64 0, .int .i64 0]) (by simp [results, Try.results15, go_sem]) rfl ⟨rfl, below1 _ _⟩
  · rw [if_neg hk]
    have hd : (s.kind == 3) = false := by simpa using hk
    clear hk
    go_enter Try.func15, Try.ntmps15
    refine wp_letter (fun Q hQ => ?_)
    have HQ := Lib.hid hQ
    clear hQ
    go_wp2_with fail
    refine HQ.out _ _ _ ?_
    exact bodyPost_ret (v := .agg #[.int .i64 s.kind, .int .i64 s.code, .slice A n c, .int .i64 s.steps, .int .i64 s.deep]) (by simp [results, Try.results15, go_sem]) rfl ⟨rfl, below1 _ _⟩
end Go.Proofs.Ytinmgbodgecoeaa
