/- Live's laws wake. No condition but the table. -/
import Derived.Test.YtlenilbkifofjaaDoorLvTZz
import Derived.Test.YtlenilbkifofjaaDoorVEqEZz
set_option linter.unusedVariables false
set_option linter.unusedSimpArgs false
namespace Go.Proofs.YtlenilbkifofjaaDoor
open Go.RowKit

def wakeL : List InsS := [⟨1, 0, 0, 0, 3, []⟩, ⟨17, -1, 0, 0, 0, []⟩]
def wakeC : CodeS := ⟨0, 1, [], wakeL⟩
theorem wake_alone : aloneB wakeC = true := by decide
theorem wake_live : IsLive wakeL [[], [0], []] := by
  have hmem : ∀ k r, memR [[], [0], []] k r ↔ k = 1 ∧ r = 0 := by
    intro k r
    unfold memR
    match k with
    | 0 => simp
    | 1 => simp
    | 2 => simp
    | k + 3 => simp
  refine ⟨rfl, ?_, fun k r h => ?_, fun M hM k r h => ?_⟩
  · intro row h
    simp at h
    rcases h with rfl | rfl | rfl <;> simp [Rise]
  · rw [hmem]
    obtain ⟨x, hx, h⟩ := h
    match k, hx with
    | 0, hx =>
      simp [wakeL] at hx
      subst hx
      rcases h with h | ⟨h1, n, h2, h3⟩
      · simp [regsL] at h
      · have hn : n = 1 := by simpa [nextL, wakeL] using h2
        subst hn
        have := ((hmem _ _).1 h3).2
        subst this
        exact absurd rfl h1
    | 1, hx =>
      simp [wakeL] at hx
      subst hx
      rcases h with h | ⟨h1, n, h2, h3⟩
      · simp [regsL] at h
        exact ⟨rfl, h⟩
      · simp [nextL, wakeL] at h2
    | k + 2, hx => simp [wakeL] at hx
  · obtain ⟨rfl, rfl⟩ := (hmem k r).1 h
    exact hM 1 0 ⟨⟨17, -1, 0, 0, 0, []⟩, rfl, Or.inl (by simp [regsL])⟩
theorem lnum16_any (e : Int) (w : World) : Calls Tryd.prog 16 #[.int .i64 e] w fun en w' => en = .returned (.int .i64 e) ∧ w' = w := by
  go_enter Tryd.func16, Tryd.ntmps16
  go_wp2_with fail
  go_ret
  exact ⟨rfl, rfl⟩
set_option maxRecDepth 100000 in
set_option maxHeartbeats 8000000 in
theorem wakes16_any (w : World) (hT : TabAt 0 Lib.deBruijn64tab w) (hg : 0 < w.heap.size) :
    Calls Tryd.prog 11 #[] w fun e w' => e = .returned (.bool true) ∧ Below w.heap.size w w' := by
  have hb1 := below1 w (.cells #[.int .i64 1, .int .i64 0, .int .i64 0, .int .i64 0, .int .i64 3, .slice none 0 0, .int .i64 17, .int .i64 (-1), .int .i64 0, .int .i64 0, .int .i64 0, .slice none 0 0] 38)
  have hr := Row.new w #[.int .i64 1, .int .i64 0, .int .i64 0, .int .i64 0, .int .i64 3, .slice none 0 0, .int .i64 17, .int .i64 (-1), .int .i64 0, .int .i64 0, .int .i64 0, .slice none 0 0] 38
  obtain ⟨W, hW⟩ : ∃ W, W = w.alloc (.cells #[.int .i64 1, .int .i64 0, .int .i64 0, .int .i64 0, .int .i64 3, .slice none 0 0, .int .i64 17, .int .i64 (-1), .int .i64 0, .int .i64 0, .int .i64 0, .slice none 0 0] 38) := ⟨_, rfl⟩
  rw [← hW] at hb1 hr
  have h64 : ∀ n : Int, -100 ≤ n ∧ n ≤ 100 → In64 n := fun n h => by unfold In64; omega
  have hnil : ∀ B, LongsAt W B [] (.slice none 0 0) := fun B => ⟨none, 0, rfl, by simp, fun h => by simp at h⟩
  have hins : SliceAt W W.heap.size 6 (InsE W W.heap.size) wakeL (.slice (some ⟨w.heap.size, 0, none⟩) wakeL.length 2) := ⟨some ⟨w.heap.size, 0, none⟩, 2, rfl, by simp [wakeL], fun _ => ⟨w.heap.size, 0, rfl, hr.lt, fun i x hi => by
    match i, hi with
    | 0, hi =>
      simp [wakeL] at hi
      subst hi
      exact ⟨hr.cell (j := 0) rfl, hr.cell (j := 1) rfl, hr.cell (j := 2) rfl, hr.cell (j := 3) rfl, hr.cell (j := 4) rfl, ⟨_, hr.cell (j := 5) rfl, hnil _⟩, h64 _ (by simp), h64 _ (by simp), h64 _ (by simp), h64 _ (by simp), h64 _ (by simp)⟩
    | 1, hi =>
      simp [wakeL] at hi
      subst hi
      exact ⟨hr.cell (j := 6) rfl, hr.cell (j := 7) rfl, hr.cell (j := 8) rfl, hr.cell (j := 9) rfl, hr.cell (j := 10) rfl, ⟨_, hr.cell (j := 11) rfl, hnil _⟩, h64 _ (by simp), h64 _ (by simp), h64 _ (by simp), h64 _ (by simp), h64 _ (by simp)⟩
    | i + 2, hi => simp [wakeL] at hi⟩⟩
  have HL := llive_any wakeC none 0 (some ⟨w.heap.size, 0, none⟩) 2 W.heap.size W (Nat.le_refl _) ⟨none, 0, rfl, by simp [wakeC], fun h => by simp [wakeC] at h⟩ hins (fun x hx => by
    simp [wakeC, wakeL] at hx
    rcases hx with rfl | rfl <;> simp) (tab_below hT hb1 hg) (by have := hb1.size; omega)
  have HL := Lib.hid (HL.mono (R' := fun e w' => ∃ A cap, e = .returned (.tuple #[.slice A 3 cap, .int .i64 0]) ∧ SliceAt w' w'.heap.size 1 (RowsE w' w'.heap.size) [[], [0], []] (.slice A 3 cap) ∧ Below W.heap.size W w') (fun e w' h => by
    obtain ⟨rows, A, cap, h1, h2, h3⟩ := h.1 wake_alone
    have := h1.only wake_live
    subst this
    exact ⟨A, cap, h2, h3, h.2.2⟩))
  simp only [wakeC, wakeL, List.length_nil, List.length_cons, Nat.zero_add, Nat.reduceAdd] at HL
  have HB1 := Lib.hid hb1
  rw [hW] at HL
  clear hins hr hT hnil h64
  go_enter Tryd.func11, Tryd.ntmps11
  refine wp_letter (fun Q hQ => ?_)
  have HQ := Lib.hid hQ
  clear hQ
  go_wp2_with fail
  refine HL.out.mono ?_
  rintro e w1 ⟨A, cap, rfl, hs, hb2⟩
  rw [← hW] at hb2
  have HB2 := Lib.hid (HB1.out.trans (hb2.mono HB1.out.size))
  obtain ⟨b, off, r0, rfl, hb, hr0, v0, g0, hv0⟩ := SliceAt.get hs (show 0 < 3 by omega)
  obtain ⟨b', off', r1, e1, hb', hr1, v1, g1, hv1⟩ := SliceAt.get hs (show 1 < 3 by omega)
  injection e1 with e1
  injection e1 with e1 e2
  subst e1 e2
  simp at hr0 hr1
  subst hr0 hr1
  obtain ⟨A0, c0, rfl, _⟩ := id hv0
  obtain ⟨A1, c1, rfl, _⟩ := id hv1
  simp only [Nat.add_zero, Nat.zero_mul, Nat.one_mul] at g0 g1
  have HV1 := Lib.hid hv1
  clear hs hb2 hv0 hv1 hb' hW hb1
  go_wp2_with (first | (go_at_call 16; refine (lnum16_any _ _).mono ?_; rintro e w' ⟨rfl, hw'⟩; rw [hw']; clear hw' w') | fail)
  have hb3 := below1 w1 (.cells #[.int .i64 0] 3)
  have HE := eqNumbers_at [0] A1 (some ⟨w1.heap.size, 0, none⟩) c1 1 (w1.alloc (.cells #[.int .i64 0] 3)).heap.size (w1.alloc (.cells #[.int .i64 0] 3)) (Nat.le_refl _) (LongsAt.below HV1.out hb3 hb3.size) (longs_new1 w1 _ rfl 0 (by unfold In64; omega))
  refine HE.mono ?_
  rintro e w3 ⟨rfl, hb4⟩
  have HB4 := Lib.hid (HB2.out.trans ((hb3.trans (hb4.mono hb3.size)).mono HB2.out.size))
  clear hb3 hb4 HE
  go_wp2_with fail
  refine HQ.out _ _ _ ?_
  exact bodyPost_ret (v := .bool true) (by simp [results, Tryd.results11, go_sem]) rfl ⟨rfl, HB4.out⟩
end Go.Proofs.YtlenilbkifofjaaDoor
