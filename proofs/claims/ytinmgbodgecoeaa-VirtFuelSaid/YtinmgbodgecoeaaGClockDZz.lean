/- The graph's clock: Exit. Conditions: as stated. -/
import Derived.Test.YtinmgbodgecoeaaQ04Zz
set_option linter.unusedVariables false
set_option linter.unusedSimpArgs false
namespace Go.Proofs.Ytinmgbodgecoeaa
open Go.RowKit

set_option maxRecDepth 100000 in
set_option maxHeartbeats 2000000 in
theorem exit_stuck (cb : Nat) (fuel : Int) (s : St) (inv outv : Value) (v : V) (w : World) (hr : Row w cb (ccells fuel s inv outv) 44) (hv : v.obj ≠ 0) :
    Calls Try.prog 14 #[.pointer (some ⟨cb, 0, none⟩), .agg #[.int .i64 v.obj, .int .i64 v.n]] w fun e w' => e = .returned (.bool false) ∧ ClkSays cb fuel { s with kind := 3 } inv outv w w' := by
  have hd2 : decide ((0 : Int) < (v.obj : Int)) = true := by simp; omega
  have hd3 : decide (0 < v.obj) = true := by simp; omega
  have HR := Lib.hid (hr.alloc (.cells #[.int .i64 v.obj, .int .i64 v.n] 60))
  clear hr hv
  go_enter Try.func14, Try.ntmps14
  refine wp_letter (fun Q hQ => ?_)
  have HQ := Lib.hid hQ
  clear hQ
  go_wp2_with fail
  refine (stuck_any cb fuel s inv outv _ HR.out).mono ?_
  rintro e w1 ⟨rfl, hrow, hwr⟩
  have HRW := Lib.hid hrow
  have HWR := Lib.hid (((Wr.refl (fun b => b = cb) w).allocR (.cells #[.int .i64 v.obj, .int .i64 v.n] 60)).trans hwr (fun _ h => Or.inl h))
  clear hrow hwr
  go_wp2_with fail
  refine HQ.out _ _ _ ?_
  exact bodyPost_ret (v := .bool false) (by simp [results, Try.results14, go_sem]) rfl ⟨rfl, HRW.out, HWR.out⟩

set_option maxRecDepth 100000 in
set_option maxHeartbeats 2000000 in
theorem put_stuck (cb : Nat) (fuel : Int) (s : St) (inv outv : Value) (v : V) (w : World) (hr : Row w cb (ccells fuel s inv outv) 44) (hv : v.obj ≠ 0) :
    Calls Try.prog 40 #[.pointer (some ⟨cb, 0, none⟩), .agg #[.int .i64 v.obj, .int .i64 v.n]] w fun e w' => e = .returned (.bool false) ∧ ClkSays cb fuel { s with kind := 3 } inv outv w w' := by
  have hd2 : decide ((0 : Int) < (v.obj : Int)) = true := by simp; omega
  have hd3 : decide (0 < v.obj) = true := by simp; omega
  have HR := Lib.hid (hr.alloc (.cells #[.int .i64 v.obj, .int .i64 v.n] 60))
  clear hr hv
  go_enter Try.func40, Try.ntmps40
  refine wp_letter (fun Q hQ => ?_)
  have HQ := Lib.hid hQ
  clear hQ
  go_wp2_with fail
  refine (stuck_any cb fuel s inv outv _ HR.out).mono ?_
  rintro e w1 ⟨rfl, hrow, hwr⟩
  have HRW := Lib.hid hrow
  have HWR := Lib.hid (((Wr.refl (fun b => b = cb) w).allocR (.cells #[.int .i64 v.obj, .int .i64 v.n] 60)).trans hwr (fun _ h => Or.inl h))
  clear hrow hwr
  go_wp2_with fail
  refine HQ.out _ _ _ ?_
  exact bodyPost_ret (v := .bool false) (by simp [results, Try.results40, go_sem]) rfl ⟨rfl, HRW.out, HWR.out⟩

set_option maxRecDepth 100000 in
set_option maxHeartbeats 2000000 in
theorem exit_num (cb : Nat) (fuel : Int) (s : St) (inv outv : Value) (v : V) (w : World) (hr : Row w cb (ccells fuel s inv outv) 44) (hv : v.obj = 0) :
    Calls Try.prog 14 #[.pointer (some ⟨cb, 0, none⟩), .agg #[.int .i64 v.obj, .int .i64 v.n]] w fun e w' => e = .returned (.bool false) ∧ ClkSays cb fuel { s with kind := 1, code := v.n } inv outv w w' := by
  have hd2 : decide ((0 : Int) < (v.obj : Int)) = false := by simp; omega
  have hd3 : decide (0 < v.obj) = false := by simp; omega
  have c0 : w.cell? ⟨cb, 0, none⟩ = some (.int .i64 s.kind) := hr.cell rfl
  have c1 : w.cell? ⟨cb, 1, none⟩ = some (.int .i64 s.code) := hr.cell rfl
  have f0 := hr.free 0
  have f1 := hr.free 1
  have hlt := hr.lt
  have hlt2 : cb < w.heap.size + 1 := by omega
  have hne : cb ≠ w.heap.size := by omega
  have HR := Lib.hid hr
  clear hr hv
  go_enter Try.func14, Try.ntmps14
  refine wp_letter (fun Q hQ => ?_)
  have HQ := Lib.hid hQ
  clear hQ
  go_wp2_with fail
  go_region_held3 (fun w' => w'.cell? ⟨w.heap.size, 1, none⟩ = some (.int .i64 v.n)) (first | (simp [go_sem, hne, Ne.symm hne]; done) | go_keep) (fail)
  go_wp2_with fail
  refine HQ.out _ _ _ ?_
  refine bodyPost_ret (v := .bool false) (by simp [results, Try.results14, go_sem]) rfl ⟨rfl, ?_, ?_⟩
  · first
    | exact (((HR.out.set 0 (.int .i64 1)).alloc _).set 1 (.int .i64 v.n)).drew
    | exact (((HR.out.set 0 (.int .i64 1)).set 1 (.int .i64 v.n)).alloc _).drew
  · first
    | exact ((((Wr.refl (fun b => b = cb) w).setR cb 0 _ (Or.inl rfl)).allocR _).setR cb 1 _ (Or.inl rfl)).drewR
    | exact ((((Wr.refl (fun b => b = cb) w).setR cb 0 _ (Or.inl rfl)).setR cb 1 _ (Or.inl rfl)).allocR _).drewR
end Go.Proofs.Ytinmgbodgecoeaa
