/- FoldSums, FoldBits, FoldAsks, FoldCuts: true of any trees. Conditions: as stated. -/
import Derived.Test.YtjkgpolikpochaaBetwZz
set_option linter.unusedVariables false
set_option linter.unusedSimpArgs false
namespace Go.Proofs.Ytjkgpolikpochaa
open Go.RowKit

theorem box2 {w W : World} {v0 v1 : Value} (h : Below (w.heap.size + 1) (w.alloc (.cells #[v0, v1] 25)) W) : W.cell? ⟨w.heap.size, 0, none⟩ = some v0 ∧ W.cell? ⟨w.heap.size, 1, none⟩ = some v1 := by
  have hr : Row W w.heap.size #[v0, v1] 25 := (Row.new w _ _).below h (by omega)
  exact ⟨hr.cell (j := 0) rfl, hr.cell (j := 1) rfl⟩

set_option maxRecDepth 100000 in
set_option maxHeartbeats 2000000 in
theorem foldsums_any (ts : List T) (ss : List ByteArray) (TA SA : Option Addr) (tn tc sn sc B : Nat) (w : World) (hB : B ≤ w.heap.size) (hT : KidsV w B ts TA tn) (htn : tn ≤ 140737488355328) (hS : StrsAt w B ss SA sn) :
    Calls Try.prog 4 #[.agg #[.slice TA tn tc, .slice SA sn sc]] w fun e w' => e = .returned (.bool true) ∧ Below w.heap.size w w' := by
  have H := Lib.hid (lbetw_any ts ss TA SA tn tc sn sc B 12 18 (by omega) (by omega) (w.alloc (.cells #[.slice TA tn tc, .slice SA sn sc] 25)) (by simp; omega) (hT.below ((below1 _ _).mono hB) (Nat.le_refl _)) htn (hS.below ((below1 _ _).mono hB) (Nat.le_refl _)))
  clear hT hS
  go_enter Try.func4, Try.ntmps4
  refine wp_letter (fun Q hQ => ?_)
  have HQ := Lib.hid hQ
  clear hQ
  go_wp2_with fail
  refine H.out.mono ?_
  rintro e w1 ⟨rfl, hb1⟩
  have HB := Lib.hid ((below1 w _).trans (hb1.mono (by simp)))
  clear hb1
  go_wp2_with fail
  refine HQ.out _ _ _ ?_
  exact bodyPost_ret (v := .bool true) (by simp [results, Try.results4, go_sem]) rfl ⟨rfl, HB.out⟩

set_option maxRecDepth 100000 in
set_option maxHeartbeats 2000000 in
theorem foldbits_any (ts : List T) (ss : List ByteArray) (TA SA : Option Addr) (tn tc sn sc B : Nat) (w : World) (hB : B ≤ w.heap.size) (hT : KidsV w B ts TA tn) (htn : tn ≤ 140737488355328) (hS : StrsAt w B ss SA sn) :
    Calls Try.prog 5 #[.agg #[.slice TA tn tc, .slice SA sn sc]] w fun e w' => e = .returned (.bool true) ∧ Below w.heap.size w w' := by
  have H := Lib.hid (lbetw_any ts ss TA SA tn tc sn sc B 19 24 (by omega) (by omega) (w.alloc (.cells #[.slice TA tn tc, .slice SA sn sc] 25)) (by simp; omega) (hT.below ((below1 _ _).mono hB) (Nat.le_refl _)) htn (hS.below ((below1 _ _).mono hB) (Nat.le_refl _)))
  clear hT hS
  go_enter Try.func5, Try.ntmps5
  refine wp_letter (fun Q hQ => ?_)
  have HQ := Lib.hid hQ
  clear hQ
  go_wp2_with fail
  refine H.out.mono ?_
  rintro e w1 ⟨rfl, hb1⟩
  have HB := Lib.hid ((below1 w _).trans (hb1.mono (by simp)))
  clear hb1
  go_wp2_with fail
  refine HQ.out _ _ _ ?_
  exact bodyPost_ret (v := .bool true) (by simp [results, Try.results5, go_sem]) rfl ⟨rfl, HB.out⟩

set_option maxRecDepth 100000 in
set_option maxHeartbeats 2000000 in
theorem foldasks_any (ts : List T) (ss : List ByteArray) (TA SA : Option Addr) (tn tc sn sc B : Nat) (w : World) (hB : B ≤ w.heap.size) (hT : KidsV w B ts TA tn) (htn : tn ≤ 140737488355328) (hS : StrsAt w B ss SA sn) :
    Calls Try.prog 6 #[.agg #[.slice TA tn tc, .slice SA sn sc]] w fun e w' => e = .returned (.bool true) ∧ Below w.heap.size w w' := by
  have H := Lib.hid (lbetw_any ts ss TA SA tn tc sn sc B 25 30 (by omega) (by omega) (w.alloc (.cells #[.slice TA tn tc, .slice SA sn sc] 25)) (by simp; omega) (hT.below ((below1 _ _).mono hB) (Nat.le_refl _)) htn (hS.below ((below1 _ _).mono hB) (Nat.le_refl _)))
  clear hT hS
  go_enter Try.func6, Try.ntmps6
  refine wp_letter (fun Q hQ => ?_)
  have HQ := Lib.hid hQ
  clear hQ
  go_wp2_with fail
  refine H.out.mono ?_
  rintro e w1 ⟨rfl, hb1⟩
  have HB := Lib.hid ((below1 w _).trans (hb1.mono (by simp)))
  clear hb1
  go_wp2_with fail
  refine HQ.out _ _ _ ?_
  exact bodyPost_ret (v := .bool true) (by simp [results, Try.results6, go_sem]) rfl ⟨rfl, HB.out⟩

set_option maxRecDepth 100000 in
set_option maxHeartbeats 2000000 in
theorem foldcuts_any (ts : List T) (ss : List ByteArray) (TA SA : Option Addr) (tn tc sn sc B : Nat) (w : World) (hB : B ≤ w.heap.size) (hT : KidsV w B ts TA tn) (htn : tn ≤ 140737488355328) (hS : StrsAt w B ss SA sn) :
    Calls Try.prog 7 #[.agg #[.slice TA tn tc, .slice SA sn sc]] w fun e w' => e = .returned (.bool true) ∧ Below w.heap.size w w' := by
  have H := Lib.hid (fun (W : World) (hb : Below w.heap.size w W) (f u : Nat) (h1 : f ≤ u + 1) (h2 : u ≤ 100) => lbetw_any ts ss TA SA tn tc sn sc B f u h1 h2 W (Nat.le_trans hB hb.size) (hT.below (hb.mono hB) (Nat.le_refl _)) htn (hS.below (hb.mono hB) (Nat.le_refl _)))
  clear hT hS
  go_enter Try.func7, Try.ntmps7
  refine wp_letter (fun Q hQ => ?_)
  have HQ := Lib.hid hQ
  clear hQ
  go_wp2_with fail
  refine (H.out _ (below1 w _) 31 36 (by omega) (by omega)).mono ?_
  rintro e w1 ⟨rfl, hb1⟩
  have HB := Lib.hid ((below1 w _).trans (hb1.mono (by simp)))
  obtain ⟨q0, q1⟩ := box2 (hb1.mono (by simp))
  clear hb1
  go_wp2_with fail
  refine (H.out _ HB.out 5 11 (by omega) (by omega)).mono ?_
  rintro e w2 ⟨rfl, hb2⟩
  have HB2 := Lib.hid (HB.out.trans (hb2.mono HB.out.size))
  clear hb2 q0 q1
  go_wp2_with fail
  refine HQ.out _ _ _ ?_
  exact bodyPost_ret (v := .bool true) (by simp [results, Try.results7, go_sem]) rfl ⟨rfl, HB2.out⟩
end Go.Proofs.Ytjkgpolikpochaa
