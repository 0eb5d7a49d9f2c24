/- fn: whether a function may be. Conditions: as stated. -/
import Derived.Test.YtjkgpolikpochaaEndAZz
import Derived.Test.YtjkgpolikpochaaObjsZz
set_option linter.unusedVariables false
set_option linter.unusedSimpArgs false
namespace Go.Proofs.Ytjkgpolikpochaa
open Go.RowKit

noncomputable def stepsC (p : ProgS) (g : GraphS) : List StepS → Int → Option Int
  | [], n => some n
  | x :: l, n => if (stepC p g x).2 = false ∨ n + (stepC p g x).1 > 8000 then none else stepsC p g l (n + (stepC p g x).1)
noncomputable def blocksC (p : ProgS) (g : GraphS) : List BlockS → Int → Int → Bool
  | [], _, _ => true
  | b :: l, s, n => if s + b.steps.length > 2000 then false else match stepsC p g b.steps n with
    | none => false
    | some m => if (endC p g b).2 = false ∨ m + (endC p g b).1 > 8000 then false else blocksC p g l (s + b.steps.length) (m + (endC p g b).1)
noncomputable def fnB (p : ProgS) (g : GraphS) : Bool := numB g.params 4 && (!decide (g.params > g.temps) && (!decide (g.temps > 1000) && (objsB g.locs 24 && (betwB g.blocks.length 1 1000 && blocksC p g g.blocks 0 0))))

/-- The boxes of 'fn'. -/
structure FnBox (w : World) (N : Nat) (P0 P1 P2 G0 G1 G2 G3 : Value) : Prop where
  p0 : w.cell? ⟨N, 0, none⟩ = some P0
  p1 : w.cell? ⟨N, 1, none⟩ = some P1
  p2 : w.cell? ⟨N, 2, none⟩ = some P2
  g0 : w.cell? ⟨N + 1, 0, none⟩ = some G0
  g1 : w.cell? ⟨N + 1, 1, none⟩ = some G1
  g2 : w.cell? ⟨N + 1, 2, none⟩ = some G2
  g3 : w.cell? ⟨N + 1, 3, none⟩ = some G3
  lt : N + 1 < w.heap.size
theorem FnBox.below {w w' : World} {N : Nat} {P0 P1 P2 G0 G1 G2 G3 : Value} (h : FnBox w N P0 P1 P2 G0 G1 G2 G3) (hb : Below w.heap.size w w') : FnBox w' N P0 P1 P2 G0 G1 G2 G3 := by
  obtain ⟨a, b, c, d, e, f, g, l⟩ := h
  have := hb.size
  exact ⟨cell_below a hb (by omega), cell_below b hb (by omega), cell_below c hb (by omega), cell_below d hb (by omega), cell_below e hb (by omega), cell_below f hb (by omega), cell_below g hb (by omega), by omega⟩
/-- The box of a block. -/
structure BlkBox (w : World) (N : Nat) (b : BlockS) (S V0 V1 V2 : Value) : Prop where
  b0 : w.cell? ⟨N, 0, none⟩ = some S
  b1 : w.cell? ⟨N, 1, none⟩ = some (.int .i64 b.fin)
  b2 : w.cell? ⟨N, 2, none⟩ = some V0
  b3 : w.cell? ⟨N, 3, none⟩ = some V1
  b4 : w.cell? ⟨N, 4, none⟩ = some V2
  b5 : w.cell? ⟨N, 5, none⟩ = some (.int .i64 b.next)
  b6 : w.cell? ⟨N, 6, none⟩ = some (.int .i64 b.els)
  lt : N < w.heap.size
theorem BlkBox.below {w w' : World} {N : Nat} {b : BlockS} {S V0 V1 V2 : Value} (h : BlkBox w N b S V0 V1 V2) (hb : Below w.heap.size w w') : BlkBox w' N b S V0 V1 V2 := by
  obtain ⟨a, b, c, d, e, f, g, l⟩ := h
  have := hb.size
  exact ⟨cell_below a hb l, cell_below b hb l, cell_below c hb l, cell_below d hb l, cell_below e hb l, cell_below f hb l, cell_below g hb l, by omega⟩

/-- What is asked of the walk of 'fn' at one function. -/
def FnSaid (p : ProgS) (g : GraphS) : Prop := ∀ (P : Value × Value × Value) (LV BV : Value) (B : Nat) (w : World), B ≤ w.heap.size → ProgV w B P p → GraphV w B g LV BV →
    Calls Try.prog 48 #[.agg #[P.1, P.2.1, P.2.2], .agg #[.int .i64 g.params, .int .i64 g.temps, LV, BV]] w fun e w' => e = .returned (.bool (fnB p g)) ∧ Below w.heap.size w w'

set_option maxRecDepth 100000 in
set_option maxHeartbeats 16000000 in
theorem fn_any (p : ProgS) (g : GraphS) (hst : ∀ b, b ∈ g.blocks → ∀ x, x ∈ b.steps → StepSaid p g x ∧ 0 ≤ (stepC p g x).1 ∧ (stepC p g x).1 ≤ 1000000000000) (hsl : ∀ b, b ∈ g.blocks → b.steps.length ≤ 1000000000) (hen : ∀ b, b ∈ g.blocks → EndSaid p g b ∧ 0 ≤ (endC p g b).1 ∧ (endC p g b).1 ≤ 1000000000000) : FnSaid p g := by
  intro P LV BV B w hB hP hG
  obtain ⟨GA, gc, FA, fc, rfl⟩ := hP.shape
  obtain ⟨LA, lc, BA, bc, rfl, rfl⟩ := hG.shape
  have hbl := hG.blocks.len.2
  have HB2 := Lib.hid (below2 w (.cells #[.slice GA p.globs.length gc, .slice FA p.funcs.length fc, .int .i64 p.main] 54) (.cells #[.int .i64 g.params, .int .i64 g.temps, .slice LA g.locs.length lc, .slice BA g.blocks.length bc] 77))
  have HN := Lib.hid (fun W => num_any g.params 4 W)
  have HO := Lib.hid (fun W (hb : Below w.heap.size w W) => objs_any g.locs LA g.locs.length lc 24 B W (by have := hb.size; omega) (hG.locs.below (hb.mono hB) (Nat.le_refl _) (fun _ _ h => h.below (hb.mono hB) (Nat.le_refl _))))
  have HT := Lib.hid (fun W => between_any (g.blocks.length : Int) 1 1000 W)
  have HP := Lib.hid hP
  have HG := Lib.hid hG
  have HST := Lib.hid hst
  have HEN := Lib.hid hen
  have HSL := Lib.hid hsl
  obtain ⟨q1, hq1⟩ : ∃ q, q = numB g.params 4 := ⟨_, rfl⟩
  obtain ⟨q4, hq4⟩ : ∃ q, q = objsB g.locs 24 := ⟨_, rfl⟩
  obtain ⟨q5, hq5⟩ : ∃ q, q = betwB (g.blocks.length : Int) 1 1000 := ⟨_, rfl⟩
  have hfn : fnB p g = (q1 && (!decide (g.params > g.temps) && (!decide (g.temps > 1000) && (q4 && (q5 && blocksC p g g.blocks 0 0))))) := by rw [hq1, hq4, hq5]; rfl
  rw [← hq1] at HN
  rw [← hq4] at HO
  rw [← hq5] at HT
  have HQ5 := Lib.hid hq5
  clear hP hG hst hen hsl hq1 hq4 hq5
  cases q1 with
  | false =>
    have hr : fnB p g = false := by rw [hfn]; rfl
    rw [hr]
    clear hr hfn
    go_enter Try.func48, Try.ntmps48
    refine wp_letter (fun Q hQ => ?_)
    have HQ := Lib.hid hQ
    clear hQ
    go_wp2_with (first | (go_at_call 47; refine (HN.out _).mono ?_; rintro e w' ⟨rfl, rfl⟩) | (go_at_call 45; refine (HO.out _ (by exact HB2.out)).mono ?_; rintro e w1 ⟨rfl, hb1⟩; have HX1 := Lib.hid (FnBox.below (N := w.heap.size) (w := ((w.alloc _).alloc _)) ⟨by simp [go_sem], by simp [go_sem], by simp [go_sem], by simp [go_sem], by simp [go_sem], by simp [go_sem], by simp [go_sem], by simp⟩ hb1 : FnBox w1 w.heap.size (.slice GA p.globs.length gc) (.slice FA p.funcs.length fc) (.int .i64 p.main) (.int .i64 g.params) (.int .i64 g.temps) (.slice LA g.locs.length lc) (.slice BA g.blocks.length bc)); have g3 := HX1.out.g3; have HB1 := Lib.hid (HB2.out.trans (hb1.mono (by simp <;> omega))); clear hb1) | (go_at_call 46; refine (HT.out _).mono ?_; rintro e w' ⟨rfl, rfl⟩))
    refine HQ.out _ _ _ ?_
    exact bodyPost_ret (v := .bool false) (by simp [results, Try.results48, go_sem]) rfl ⟨rfl, HB2.out⟩
  | true =>
    by_cases h2 : g.params > g.temps
    · have d2 : decide (g.temps < g.params) = true := by simpa using h2
      have hr : fnB p g = false := by rw [hfn]; simp [h2]
      rw [hr]
      clear hr hfn h2
      go_enter Try.func48, Try.ntmps48
      refine wp_letter (fun Q hQ => ?_)
      have HQ := Lib.hid hQ
      clear hQ
      go_wp2_with (first | (go_at_call 47; refine (HN.out _).mono ?_; rintro e w' ⟨rfl, rfl⟩) | (go_at_call 45; refine (HO.out _ (by exact HB2.out)).mono ?_; rintro e w1 ⟨rfl, hb1⟩; have HX1 := Lib.hid (FnBox.below (N := w.heap.size) (w := ((w.alloc _).alloc _)) ⟨by simp [go_sem], by simp [go_sem], by simp [go_sem], by simp [go_sem], by simp [go_sem], by simp [go_sem], by simp [go_sem], by simp⟩ hb1 : FnBox w1 w.heap.size (.slice GA p.globs.length gc) (.slice FA p.funcs.length fc) (.int .i64 p.main) (.int .i64 g.params) (.int .i64 g.temps) (.slice LA g.locs.length lc) (.slice BA g.blocks.length bc)); have g3 := HX1.out.g3; have HB1 := Lib.hid (HB2.out.trans (hb1.mono (by simp <;> omega))); clear hb1) | (go_at_call 46; refine (HT.out _).mono ?_; rintro e w' ⟨rfl, rfl⟩))
      refine HQ.out _ _ _ ?_
      exact bodyPost_ret (v := .bool false) (by simp [results, Try.results48, go_sem]) rfl ⟨rfl, HB2.out⟩
    · have d2 : decide (g.temps < g.params) = false := by simpa using h2
      by_cases h3 : g.temps > 1000
      · have d3 : decide (1000 < g.temps) = true := by simpa using h3
        have hr : fnB p g = false := by rw [hfn]; simp [h3]
        rw [hr]
        clear hr hfn h2 h3
        go_enter Try.func48, Try.ntmps48
        refine wp_letter (fun Q hQ => ?_)
        have HQ := Lib.hid hQ
        clear hQ
        go_wp2_with (first | (go_at_call 47; refine (HN.out _).mono ?_; rintro e w' ⟨rfl, rfl⟩) | (go_at_call 45; refine (HO.out _ (by exact HB2.out)).mono ?_; rintro e w1 ⟨rfl, hb1⟩; have HX1 := Lib.hid (FnBox.below (N := w.heap.size) (w := ((w.alloc _).alloc _)) ⟨by simp [go_sem], by simp [go_sem], by simp [go_sem], by simp [go_sem], by simp [go_sem], by simp [go_sem], by simp [go_sem], by simp⟩ hb1 : FnBox w1 w.heap.size (.slice GA p.globs.length gc) (.slice FA p.funcs.length fc) (.int .i64 p.main) (.int .i64 g.params) (.int .i64 g.temps) (.slice LA g.locs.length lc) (.slice BA g.blocks.length bc)); have g3 := HX1.out.g3; have HB1 := Lib.hid (HB2.out.trans (hb1.mono (by simp <;> omega))); clear hb1) | (go_at_call 46; refine (HT.out _).mono ?_; rintro e w' ⟨rfl, rfl⟩))
        refine HQ.out _ _ _ ?_
        exact bodyPost_ret (v := .bool false) (by simp [results, Try.results48, go_sem]) rfl ⟨rfl, HB2.out⟩
      · have d3 : decide (1000 < g.temps) = false := by simpa using h3
        cases q4 with
        | false =>
          have hr : fnB p g = false := by rw [hfn]; simp
          rw [hr]
          clear hr hfn h2 h3
          go_enter Try.func48, Try.ntmps48
          refine wp_letter (fun Q hQ => ?_)
          have HQ := Lib.hid hQ
          clear hQ
          go_wp2_with (first | (go_at_call 47; refine (HN.out _).mono ?_; rintro e w' ⟨rfl, rfl⟩) | (go_at_call 45; refine (HO.out _ (by exact HB2.out)).mono ?_; rintro e w1 ⟨rfl, hb1⟩; have HX1 := Lib.hid (FnBox.below (N := w.heap.size) (w := ((w.alloc _).alloc _)) ⟨by simp [go_sem], by simp [go_sem], by simp [go_sem], by simp [go_sem], by simp [go_sem], by simp [go_sem], by simp [go_sem], by simp⟩ hb1 : FnBox w1 w.heap.size (.slice GA p.globs.length gc) (.slice FA p.funcs.length fc) (.int .i64 p.main) (.int .i64 g.params) (.int .i64 g.temps) (.slice LA g.locs.length lc) (.slice BA g.blocks.length bc)); have g3 := HX1.out.g3; have HB1 := Lib.hid (HB2.out.trans (hb1.mono (by simp <;> omega))); clear hb1) | (go_at_call 46; refine (HT.out _).mono ?_; rintro e w' ⟨rfl, rfl⟩))
          refine HQ.out _ _ _ ?_
          exact bodyPost_ret (v := .bool false) (by simp [results, Try.results48, go_sem]) rfl ⟨rfl, HB1.out⟩
        | true =>
          cases q5 with
          | false =>
            have hr : fnB p g = false := by rw [hfn]; simp
            rw [hr]
            clear hr hfn h2 h3
            go_enter Try.func48, Try.ntmps48
            refine wp_letter (fun Q hQ => ?_)
            have HQ := Lib.hid hQ
            clear hQ
            go_wp2_with (first | (go_at_call 47; refine (HN.out _).mono ?_; rintro e w' ⟨rfl, rfl⟩) | (go_at_call 45; refine (HO.out _ (by exact HB2.out)).mono ?_; rintro e w1 ⟨rfl, hb1⟩; have HX1 := Lib.hid (FnBox.below (N := w.heap.size) (w := ((w.alloc _).alloc _)) ⟨by simp [go_sem], by simp [go_sem], by simp [go_sem], by simp [go_sem], by simp [go_sem], by simp [go_sem], by simp [go_sem], by simp⟩ hb1 : FnBox w1 w.heap.size (.slice GA p.globs.length gc) (.slice FA p.funcs.length fc) (.int .i64 p.main) (.int .i64 g.params) (.int .i64 g.temps) (.slice LA g.locs.length lc) (.slice BA g.blocks.length bc)); have g3 := HX1.out.g3; have HB1 := Lib.hid (HB2.out.trans (hb1.mono (by simp <;> omega))); clear hb1) | (go_at_call 46; refine (HT.out _).mono ?_; rintro e w' ⟨rfl, rfl⟩))
            refine HQ.out _ _ _ ?_
            exact bodyPost_ret (v := .bool false) (by simp [results, Try.results48, go_sem]) rfl ⟨rfl, HB1.out⟩
          | true =>
            have hr : fnB p g = blocksC p g g.blocks 0 0 := by rw [hfn]; simp [h2, h3]
            rw [hr]
            clear hr hfn h2 h3
            have hnb : (g.blocks.length : Int) ≤ 1000 := by have := HQ5.out; simp [betwB] at this; omega
            go_enter Try.func48, Try.ntmps48
            refine wp_letter (fun Q hQ => ?_)
            have HQ := Lib.hid hQ
            clear hQ
            go_wp2_with (first | (go_at_call 47; refine (HN.out _).mono ?_; rintro e w' ⟨rfl, rfl⟩) | (go_at_call 45; refine (HO.out _ (by exact HB2.out)).mono ?_; rintro e w1 ⟨rfl, hb1⟩; have HX1 := Lib.hid (FnBox.below (N := w.heap.size) (w := ((w.alloc _).alloc _)) ⟨by simp [go_sem], by simp [go_sem], by simp [go_sem], by simp [go_sem], by simp [go_sem], by simp [go_sem], by simp [go_sem], by simp⟩ hb1 : FnBox w1 w.heap.size (.slice GA p.globs.length gc) (.slice FA p.funcs.length fc) (.int .i64 p.main) (.int .i64 g.params) (.int .i64 g.temps) (.slice LA g.locs.length lc) (.slice BA g.blocks.length bc)); have g3 := HX1.out.g3; have HB1 := Lib.hid (HB2.out.trans (hb1.mono (by simp <;> omega))); clear hb1) | (go_at_call 46; refine (HT.out _).mono ?_; rintro e w' ⟨rfl, rfl⟩))
            go_loopw [5, 6, 7] (fun s m i wr => ∃ (k : Nat) (s' m' : Int), k ≤ g.blocks.length ∧ i = .int .i64 k ∧ s = .int .i64 s' ∧ m = .int .i64 m' ∧ 0 ≤ s' ∧ s' ≤ 2000 ∧ 0 ≤ m' ∧ m' ≤ 8000 ∧ blocksC p g (g.blocks.drop k) s' m' = blocksC p g g.blocks 0 0 ∧ Below w.heap.size w wr ∧ FnBox wr w.heap.size (.slice GA p.globs.length gc) (.slice FA p.funcs.length fc) (.int .i64 p.main) (.int .i64 g.params) (.int .i64 g.temps) (.slice LA g.locs.length lc) (.slice BA g.blocks.length bc)) (fun _ _ i _ => g.blocks.length - (intOf i).toNat)
            case atStart => exact ⟨0, 0, 0, by omega, rfl, rfl, rfl, by omega, by omega, by omega, by omega, rfl, HB1.out, HX1.out⟩
            case round =>
              obtain ⟨k, s, m, hk, rfl, rfl, rfl, hs0, hs1, hm0, hm1, hcs, hbw, hx⟩ := hrel
              have HCS := Lib.hid hcs
              have HBW := Lib.hid hbw
              have HX := Lib.hid hx
              have g3' := hx.g3
              have hxl := hx.lt
              clear hcs hx g3
              by_cases hlt : k < g.blocks.length
              · obtain ⟨bb, boff, b, rfl, hbb, hbk, ⟨sv, b0, hsv⟩, b1, ⟨cv0, cv1, cv2, b2, b3, b4, hct⟩, b5, b6, _, _, _⟩ := (HG.out.blocks.below (hbw.mono hB) (Nat.le_refl _) (fun _ _ h => h.below (hbw.mono hB) (Nat.le_refl _))).get hlt
                simp only [Nat.add_zero] at b0 b1 b2 b3 b4 b5 b6
                obtain ⟨SA, scap, hsv'⟩ : ∃ SA scap, sv = .slice SA b.steps.length scap := (by obtain ⟨A', c', h, _⟩ := hsv; exact ⟨_, _, h⟩)
                subst hsv'
                obtain ⟨ca, cb, CA, cl, cc, rfl, rfl, rfl⟩ := hct.shape0
                have hsl := HSL.out b (List.mem_of_getElem? hbk)
                have HSV := Lib.hid hsv
                have HCT := Lib.hid hct
                have HBK := Lib.hid hbk
                have hkb : (k : Int) < (g.blocks.length : Int) := by omega
                have hbbl : bb < wr.heap.size := by have := hbw.size; omega
                have HD := Lib.hid (show blocksC p g (g.blocks.drop k) s m = if s + b.steps.length > 2000 then false else match stepsC p g b.steps m with
                  | none => false
                  | some m => if (endC p g b).2 = false ∨ m + (endC p g b).1 > 8000 then false else blocksC p g (g.blocks.drop (k + 1)) (s + b.steps.length) (m + (endC p g b).1) from by rw [drop_of hbk]; rfl)
                clear hsv hct hbk hbw
                by_cases h6 : s + b.steps.length > 2000
                · have d6 : decide (2000 < s + (b.steps.length : Int)) = true := by simpa using h6
                  have he : blocksC p g g.blocks 0 0 = false := by rw [← HCS.out, HD.out, if_pos h6]
                  have HE := Lib.hid he
                  have h6'' : 2000 < s + (b.steps.length : Int) := h6
                  clear he h6 d6
                  go_wp2_with fail
                  refine HQ.out _ _ _ ?_
                  exact bodyPost_ret (v := .bool false) (by simp [results, Try.results48, go_sem]) rfl ⟨by rw [HE.out], HBW.out.trans ((below1 _ _).mono HBW.out.size)⟩
                · have d6 : decide (2000 < s + (b.steps.length : Int)) = false := by simpa using h6
                  have h6' : s + b.steps.length ≤ 2000 := by omega
                  have HD2 := Lib.hid (HD.out.trans (if_neg h6))
                  clear HD h6
                  go_wp2_with fail
                  obtain ⟨w4, rfl⟩ : ∃ w4 : World, w4 = wr := ⟨_, rfl⟩
                  go_loopw [6, 9] (fun a i wr => ∃ (j : Nat) (m2 : Int), j ≤ b.steps.length ∧ i = .int .i64 j ∧ a = .int .i64 m2 ∧ 0 ≤ m2 ∧ m2 ≤ 8000 ∧ stepsC p g (b.steps.drop j) m2 = stepsC p g b.steps m ∧ Below w.heap.size w wr ∧ FnBox wr w.heap.size (.slice GA p.globs.length gc) (.slice FA p.funcs.length fc) (.int .i64 p.main) (.int .i64 g.params) (.int .i64 g.temps) (.slice LA g.locs.length lc) (.slice (some ⟨bb, boff, none⟩) g.blocks.length bc) ∧ BlkBox wr w4.heap.size b (.slice SA b.steps.length scap) (.int .i64 ca) (.int .i64 cb) (.slice CA cl cc) ∧ Below w4.heap.size w4 wr) (fun _ i _ => b.steps.length - (intOf i).toNat)
                  case atStart => exact ⟨0, m, by omega, rfl, rfl, by omega, by omega, rfl, HBW.out.trans ((below1 _ _).mono HBW.out.size), HX.out.below (below1 _ _), ⟨by simp [go_sem], by simp [go_sem], by simp [go_sem], by simp [go_sem], by simp [go_sem], by simp [go_sem], by simp [go_sem], by simp⟩, below1 _ _⟩
                  case round =>
                    obtain ⟨j, m2, hj, rfl, rfl, hm20, hm21, hcs2, hbw2, hx2, hbx, hbw4⟩ := hrel
                    have HBW4 := Lib.hid hbw4
                    have HCS2 := Lib.hid hcs2
                    have HBW2 := Lib.hid hbw2
                    have HX2 := Lib.hid hx2
                    have HBX := Lib.hid hbx
                    obtain ⟨p0', p1', p2', g0', g1', g2', g3'', hxl2⟩ := hx2
                    obtain ⟨b0', b1', b2', b3', b4', b5', b6', hbl2⟩ := hbx
                    have hz2 := hbw2.size
                    have hl0 : w.heap.size < wr.heap.size := by omega
                    clear hcs2
                    by_cases hlt3 : j < b.steps.length
                    · obtain ⟨xb, xoff, x, rfl, hxb, hxk, x0, x1, x2, x3, ⟨xv, x4, hxa⟩, _⟩ := (HSV.out.below (HBW4.out.mono (by have := HBW.out.size; omega)) (Nat.le_refl _) (fun _ _ h => h.below (HBW4.out.mono (by have := HBW.out.size; omega)) (Nat.le_refl _))).get hlt3
                      simp only [Nat.add_zero] at x0 x1 x2 x3 x4
                      obtain ⟨XA, xn, xcap, rfl, hxk2⟩ := hxa
                      obtain ⟨hss, hsb0, hsb1⟩ := HST.out b (List.mem_of_getElem? HBK.out) x (List.mem_of_getElem? hxk)
                      have HS := Lib.hid (fun W (hb : Below wr.heap.size wr W) => hss (.slice GA p.globs.length gc, .slice FA p.funcs.length fc, .int .i64 p.main) (.slice LA g.locs.length lc) (.slice (some ⟨bb, boff, none⟩) g.blocks.length bc) XA xn xcap B W (by have := hb.size; omega) (HP.out.below (HBW2.out.trans (hb.mono (by omega)) |>.mono hB) (Nat.le_refl _)) (HG.out.below (HBW2.out.trans (hb.mono (by omega)) |>.mono hB) (Nat.le_refl _)) (hxk2.below (hb.mono (by omega)) (Nat.le_refl _)))
                      have HD3 := Lib.hid (show stepsC p g (b.steps.drop j) m2 = if (stepC p g x).2 = false ∨ m2 + (stepC p g x).1 > 8000 then none else stepsC p g (b.steps.drop (j + 1)) (m2 + (stepC p g x).1) from by rw [drop_of hxk]; rfl)
                      obtain ⟨⟨q, ok⟩, hq⟩ : ∃ q, q = stepC p g x := ⟨_, rfl⟩
                      rw [← hq] at HS HD3 hsb0 hsb1
                      simp only at hsb0 hsb1
                      have hxbl : xb < wr.heap.size := by omega
                      have hjl : (j : Int) < (b.steps.length : Int) := by omega
                      clear hss hq hxk hxk2 hbw2 hbw4
                      cases ok with
                      | false =>
                        have he : blocksC p g g.blocks 0 0 = false := by
                          have h1 : stepsC p g b.steps m = none := by rw [← HCS2.out, HD3.out, if_pos (Or.inl rfl)]
                          rw [← HCS.out, HD2.out, h1]
                        have HE := Lib.hid he
                        clear he
                        go_wp2_with fail
                        refine region_grow (by kernel_rfl) (by kernel_rfl) (fun hGG => ?_)
                        repeat (go_big_quiet_step ((go_at_call 60; exact call_grow (HS.out _ (grow_below (Below.refl _ _) (Nat.le_refl _) _)))))
                        refine wpQuiet_nil ?_
                        rintro ⟨w5, hb5⟩
                        simp only []
                        have HB3 := Lib.hid hb5
                        clear hGG hb5
                        go_wp2_with fail
                        refine HQ.out _ _ _ ?_
                        exact bodyPost_ret (v := .bool false) (by simp [results, Try.results48, go_sem]) rfl ⟨by rw [HE.out], HBW2.out.trans (HB3.out.mono (by omega))⟩
                      | true =>
                        by_cases h7 : m2 + q > 8000
                        · have d7 : decide (8000 < m2 + q) = true := by simpa using h7
                          have he : blocksC p g g.blocks 0 0 = false := by
                            have h1 : stepsC p g b.steps m = none := by rw [← HCS2.out, HD3.out, if_pos (Or.inr h7)]
                            rw [← HCS.out, HD2.out, h1]
                          have HE := Lib.hid he
                          clear he h7
                          go_wp2_with fail
                          refine region_grow (by kernel_rfl) (by kernel_rfl) (fun hGG => ?_)
                          repeat (go_big_quiet_step ((go_at_call 60; exact call_grow (HS.out _ (grow_below (Below.refl _ _) (Nat.le_refl _) _)))))
                          refine wpQuiet_nil ?_
                          rintro ⟨w5, hb5⟩
                          simp only []
                          have HB3 := Lib.hid hb5
                          clear hGG hb5
                          go_wp2_with fail
                          refine HQ.out _ _ _ ?_
                          exact bodyPost_ret (v := .bool false) (by simp [results, Try.results48, go_sem]) rfl ⟨by rw [HE.out], HBW2.out.trans (HB3.out.mono (by omega))⟩
                        · have d7 : decide (8000 < m2 + q) = false := by simpa using h7
                          have h7' : m2 + q ≤ 8000 := by omega
                          have HD4 := Lib.hid (HD3.out.trans (if_neg (by simpa using h7)))
                          clear h7
                          go_wp2_with fail
                          refine region_grow (by kernel_rfl) (by kernel_rfl) (fun hGG => ?_)
                          repeat (go_big_quiet_step ((go_at_call 60; exact call_grow (HS.out _ (grow_below (Below.refl _ _) (Nat.le_refl _) _)))))
                          refine wpQuiet_nil ?_
                          rintro ⟨w5, hb5⟩
                          simp only []
                          have HB3 := Lib.hid hb5
                          clear hGG hb5
                          go_wp2_with fail
                          go_roundw
                          case rel => exact ⟨j + 1, m2 + q, by omega, by go_num, rfl, by omega, by omega, by rw [← HCS2.out, HD4.out], HBW2.out.trans (HB3.out.mono (by omega)), HX2.out.below HB3.out, HBX.out.below HB3.out, HBW4.out.trans (HB3.out.mono HBW4.out.size)⟩
                          case measure => simp [intOf]; omega
                    · obtain rfl : j = b.steps.length := by omega
                      have hst2 : stepsC p g b.steps m = some m2 := by rw [← HCS2.out, drop_nil_of (Nat.le_refl _)]; rfl
                      obtain ⟨hes, heb0, heb1⟩ := HEN.out b (List.mem_of_getElem? HBK.out)
                      have HE3 := Lib.hid (fun W (hb : Below wr.heap.size wr W) => hes (.slice GA p.globs.length gc, .slice FA p.funcs.length fc, .int .i64 p.main) (.slice LA g.locs.length lc) (.slice (some ⟨bb, boff, none⟩) g.blocks.length bc) SA b.steps.length scap B _ _ _ W (by have := hb.size; omega) (HP.out.below (HBW2.out.trans (hb.mono (by omega)) |>.mono hB) (Nat.le_refl _)) (HG.out.below (HBW2.out.trans (hb.mono (by omega)) |>.mono hB) (Nat.le_refl _)) (HCT.out.below ((HBW4.out.trans (hb.mono HBW4.out.size)).mono (by have := HBW.out.size; omega)) (Nat.le_refl _)))
                      have HD5 := Lib.hid (HD2.out.trans (by rw [hst2]) : blocksC p g (g.blocks.drop k) s m = if (endC p g b).2 = false ∨ m2 + (endC p g b).1 > 8000 then false else blocksC p g (g.blocks.drop (k + 1)) (s + b.steps.length) (m2 + (endC p g b).1))
                      obtain ⟨⟨q, ok⟩, hq⟩ : ∃ q, q = endC p g b := ⟨_, rfl⟩
                      rw [← hq] at HE3 HD5 heb0 heb1
                      simp only at heb0 heb1
                      clear hes hq hst2 hbw2 hbw4
                      cases ok with
                      | false =>
                        have HE := Lib.hid (show blocksC p g g.blocks 0 0 = false by rw [← HCS.out, HD5.out, if_pos (Or.inl rfl)])
                        go_wp2_with fail
                        refine (HE3.out _ (by exact Below.refl _ _)).mono ?_
                        rintro e w5 ⟨rfl, hb5⟩
                        have HB3 := Lib.hid hb5
                        clear hb5
                        go_wp2_with fail
                        refine HQ.out _ _ _ ?_
                        exact bodyPost_ret (v := .bool false) (by simp [results, Try.results48, go_sem]) rfl ⟨by rw [HE.out], HBW2.out.trans (HB3.out.mono (by omega))⟩
                      | true =>
                        by_cases h7 : m2 + q > 8000
                        · have d7 : decide (8000 < m2 + q) = true := by simpa using h7
                          have HE := Lib.hid (show blocksC p g g.blocks 0 0 = false by rw [← HCS.out, HD5.out, if_pos (Or.inr h7)])
                          clear h7
                          go_wp2_with fail
                          refine (HE3.out _ (by exact Below.refl _ _)).mono ?_
                          rintro e w5 ⟨rfl, hb5⟩
                          have HB3 := Lib.hid hb5
                          clear hb5
                          go_wp2_with fail
                          refine HQ.out _ _ _ ?_
                          exact bodyPost_ret (v := .bool false) (by simp [results, Try.results48, go_sem]) rfl ⟨by rw [HE.out], HBW2.out.trans (HB3.out.mono (by omega))⟩
                        · have d7 : decide (8000 < m2 + q) = false := by simpa using h7
                          have h7' : m2 + q ≤ 8000 := by omega
                          have HD6 := Lib.hid (HD5.out.trans (if_neg (by simpa using h7)))
                          clear h7
                          go_wp2_with fail
                          refine (HE3.out _ (by exact Below.refl _ _)).mono ?_
                          rintro e w5 ⟨rfl, hb5⟩
                          have HB3 := Lib.hid hb5
                          clear hb5
                          go_wp2_with fail
                          go_roundw
                          case rel => exact ⟨k + 1, s + b.steps.length, m2 + q, by omega, by go_num, rfl, rfl, by omega, by omega, by omega, by omega, by rw [← HCS.out, HD6.out], HBW2.out.trans (HB3.out.mono (by omega)), HX2.out.below HB3.out⟩
                          case measure => simp [intOf]; omega
              · obtain rfl : k = g.blocks.length := by omega
                have he : blocksC p g g.blocks 0 0 = true := by rw [← HCS.out, drop_nil_of (Nat.le_refl _)]; rfl
                have HE := Lib.hid he
                clear he hbw
                go_wp2_with fail
                refine HQ.out _ _ _ ?_
                exact bodyPost_ret (v := .bool true) (by simp [results, Try.results48, go_sem]) rfl ⟨by rw [HE.out], HBW.out⟩
end Go.Proofs.Ytjkgpolikpochaa
