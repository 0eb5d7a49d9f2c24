/- step: steps that set a temporary, or read what comes in. Conditions: as stated. -/
import Derived.Test.YtjkgpolikpochaaStepBZz
set_option linter.unusedVariables false
set_option linter.unusedSimpArgs false
namespace Go.Proofs.Ytjkgpolikpochaa
open Go.RowKit

theorem below4 (w : World) (o1 o2 o3 o4 : Obj) : Below w.heap.size w ((((w.alloc o1).alloc o2).alloc o3).alloc o4) := (below3 w o1 o2 o3).alloc (by simp <;> omega) o4

set_option maxRecDepth 100000 in
set_option maxHeartbeats 8000000 in
theorem step_get (p : ProgS) (g : GraphS) (m : Int) (ks : List T) (h0 : 0 ≤ m) (h1 : m < g.temps) (hm : ks.length = 0) (hg1 : g.locs.length ≤ 9223372036854775807) (hp1 : p.globs.length ≤ 9223372036854775807) : StepSaid p g ⟨5, m, 0, 0, ks⟩ := by
  intro P LV BV A n cap B w hB hP hG hk
  obtain ⟨GA, gc, FA, fc, rfl⟩ := hP.shape
  obtain ⟨LA, lc, BA, bc, rfl, rfl⟩ := hG.shape
  have hn : n = 0 := by have := hk.1; simp only at this; omega
  subst hn
  have hr : stepC p g ⟨5, m, 0, 0, ks⟩ = argsC g.temps g.locs.length p.globs.length ks 0 := by
    unfold stepC
    rw [if_neg (by simp [stepBad, manyC, hm]; omega)]
  rw [hr]
  have hm0 : decide (m < 0) = false := by simp; omega
  have hm1 : decide (g.temps ≤ m) = false := by simp; omega
  have HK := Lib.hid (show ∀ W, Below w.heap.size w W → KidsV W B ks A 0 from fun W hb => KidsV.below hk (hb.mono hB) (Nat.le_refl _))
  clear hP hG hk hr hm
  go_enter Try.func60, Try.ntmps60
  refine wp_letter (fun Q hQ => ?_)
  have HQ := Lib.hid hQ
  clear hQ
  go_wp2_with fail
  have HW := Lib.hid (below4 w (.cells #[.slice GA p.globs.length gc, .slice FA p.funcs.length fc, .int .i64 p.main] 54) (.cells #[.int .i64 g.params, .int .i64 g.temps, .slice LA g.locs.length lc, .slice BA g.blocks.length bc] 77) (.cells #[.int .i64 5, .int .i64 m, .int .i64 0, .int .i64 0, .slice A 0 cap] 71) (.cells #[.int .i64 5, .int .i64 m, .int .i64 0, .int .i64 0, .slice A 0 cap] 71))
  refine step_args g.temps g.locs.length p.globs.length w.heap.size (w.heap.size + 1) (w.heap.size + 1 + 1) B 0 ks A GA LA cap gc lc _ (by simp <;> omega) (HK.out _ HW.out) (by omega) hg1 hp1 (by simp [go_sem]) (by simp [go_sem]) (by simp [go_sem]) (by simp [go_sem]) (by simp <;> omega) (by simp <;> omega) (by simp <;> omega) _ _ _ _ _ _ _ _ _ _ _ _ _ _ _ _ _ _ _ _ _ _ _ _ _ _ _ _ _ _ _ _ _ _ _ _ _ _ _ _ _ _ _ _ _ _ _ _ _ _ _ _ _ _ _ _ _ _ _ _ _ _ _ _ _ _ _ _ _ _ _ _ _ _ _ _ _ _ _ _ _ _ _ _ _ _ _ _ _ _ _ _ _ _ _ _ _ _ _ _ _ _ _ _ _ _ _ _ _ _ _ _ _ _ _ _ _ _ _ _ _ _ _ _ _ _ _ _ _ _ _ _ _ _ _ _ _ _ _ _ _ _ ?_ ?_
  · intro hy u6 u7 u11 u12 u13 u116 u117 u118 u119 u120 u121 u122 u123 u124 u125 u126 u127 u128 u129 u130 u131 u132 u133 u134 u135 u136 u137 u138 u139 u140 u141 u142 u143 u144 w' hb
    have HB := Lib.hid hb
    have HY := Lib.hid hy
    clear hb hy
    go_wp2_with fail
    refine HQ.out _ _ _ ?_
    refine bodyPost_ret (v := .tuple #[.int .i64 (argsC g.temps g.locs.length p.globs.length ks 0).1, .bool true]) (by simp [results, Try.results60, go_sem]) rfl ⟨by rw [HY.out], HW.out.trans (HB.out.mono (by simp <;> omega))⟩
  · intro hy u11 u12 u13 u116 u117 u118 u119 u120 u121 u122 u123 u124 u125 u126 u127 u128 u129 u130 u131 u132 u133 u134 u135 u136 u137 u138 u139 u140 u141 u142 u143 u144 u10 w' hb
    refine HQ.out _ _ _ ?_
    refine bodyPost_ret (v := .tuple #[.int .i64 0, .bool false]) (by simp [results, Try.results60, go_sem]) rfl ⟨by rw [argsC_false hy], HW.out.trans (hb.mono (by simp <;> omega))⟩

set_option maxRecDepth 100000 in
set_option maxHeartbeats 8000000 in
theorem step_set (p : ProgS) (g : GraphS) (m : Int) (ks : List T) (h0 : 0 ≤ m) (h1 : m < g.temps) (hm : ks.length = 1) (hg1 : g.locs.length ≤ 9223372036854775807) (hp1 : p.globs.length ≤ 9223372036854775807) : StepSaid p g ⟨1, m, 0, 0, ks⟩ := by
  intro P LV BV A n cap B w hB hP hG hk
  obtain ⟨GA, gc, FA, fc, rfl⟩ := hP.shape
  obtain ⟨LA, lc, BA, bc, rfl, rfl⟩ := hG.shape
  have hn : n = 1 := by have := hk.1; simp only at this; omega
  subst hn
  have hr : stepC p g ⟨1, m, 0, 0, ks⟩ = argsC g.temps g.locs.length p.globs.length ks 0 := by
    unfold stepC
    rw [if_neg (by simp [stepBad, manyC, hm]; omega)]
  rw [hr]
  have hm0 : decide (m < 0) = false := by simp; omega
  have hm1 : decide (g.temps ≤ m) = false := by simp; omega
  have HK := Lib.hid (show ∀ W, Below w.heap.size w W → KidsV W B ks A 1 from fun W hb => KidsV.below hk (hb.mono hB) (Nat.le_refl _))
  clear hP hG hk hr hm
  go_enter Try.func60, Try.ntmps60
  refine wp_letter (fun Q hQ => ?_)
  have HQ := Lib.hid hQ
  clear hQ
  go_wp2_with fail
  have HW := Lib.hid (below4 w (.cells #[.slice GA p.globs.length gc, .slice FA p.funcs.length fc, .int .i64 p.main] 54) (.cells #[.int .i64 g.params, .int .i64 g.temps, .slice LA g.locs.length lc, .slice BA g.blocks.length bc] 77) (.cells #[.int .i64 1, .int .i64 m, .int .i64 0, .int .i64 0, .slice A 1 cap] 71) (.cells #[.int .i64 1, .int .i64 m, .int .i64 0, .int .i64 0, .slice A 1 cap] 71))
  refine step_args g.temps g.locs.length p.globs.length w.heap.size (w.heap.size + 1) (w.heap.size + 1 + 1) B 1 ks A GA LA cap gc lc _ (by simp <;> omega) (HK.out _ HW.out) (by omega) hg1 hp1 (by simp [go_sem]) (by simp [go_sem]) (by simp [go_sem]) (by simp [go_sem]) (by simp <;> omega) (by simp <;> omega) (by simp <;> omega) _ _ _ _ _ _ _ _ _ _ _ _ _ _ _ _ _ _ _ _ _ _ _ _ _ _ _ _ _ _ _ _ _ _ _ _ _ _ _ _ _ _ _ _ _ _ _ _ _ _ _ _ _ _ _ _ _ _ _ _ _ _ _ _ _ _ _ _ _ _ _ _ _ _ _ _ _ _ _ _ _ _ _ _ _ _ _ _ _ _ _ _ _ _ _ _ _ _ _ _ _ _ _ _ _ _ _ _ _ _ _ _ _ _ _ _ _ _ _ _ _ _ _ _ _ _ _ _ _ _ _ _ _ _ _ _ _ _ _ _ _ _ ?_ ?_
  · intro hy u6 u7 u11 u12 u13 u116 u117 u118 u119 u120 u121 u122 u123 u124 u125 u126 u127 u128 u129 u130 u131 u132 u133 u134 u135 u136 u137 u138 u139 u140 u141 u142 u143 u144 w' hb
    have HB := Lib.hid hb
    have HY := Lib.hid hy
    clear hb hy
    go_wp2_with fail
    refine HQ.out _ _ _ ?_
    refine bodyPost_ret (v := .tuple #[.int .i64 (argsC g.temps g.locs.length p.globs.length ks 0).1, .bool true]) (by simp [results, Try.results60, go_sem]) rfl ⟨by rw [HY.out], HW.out.trans (HB.out.mono (by simp <;> omega))⟩
  · intro hy u11 u12 u13 u116 u117 u118 u119 u120 u121 u122 u123 u124 u125 u126 u127 u128 u129 u130 u131 u132 u133 u134 u135 u136 u137 u138 u139 u140 u141 u142 u143 u144 u10 w' hb
    refine HQ.out _ _ _ ?_
    refine bodyPost_ret (v := .tuple #[.int .i64 0, .bool false]) (by simp [results, Try.results60, go_sem]) rfl ⟨by rw [argsC_false hy], HW.out.trans (hb.mono (by simp <;> omega))⟩
end Go.Proofs.Ytjkgpolikpochaa
