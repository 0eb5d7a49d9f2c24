/- end: whether a block that returns may be. Conditions: as stated. -/
import Derived.Test.YtjkgpolikpochaaStepCZz
import Derived.Test.YtjkgpolikpochaaEqTZz
set_option linter.unusedVariables false
set_option linter.unusedSimpArgs false
namespace Go.Proofs.Ytjkgpolikpochaa
open Go.RowKit

/-- end: what it answers. -/
noncomputable def endC (p : ProgS) (g : GraphS) (b : BlockS) : Int × Bool :=
  if b.fin = 1 then (0, yes (b.els = 0 ∧ b.cond = .node 0 0 []) && numB b.next ((g.blocks.length : Int) - 1) && numB b.els ((g.blocks.length : Int) - 1))
  else if b.fin = 2 then ((withC g.temps g.locs.length p.globs.length b.cond).1, (withC g.temps g.locs.length p.globs.length b.cond).2 && numB b.next ((g.blocks.length : Int) - 1) && numB b.els ((g.blocks.length : Int) - 1))
  else if b.fin = 3 then ((withC g.temps g.locs.length p.globs.length b.cond).1, (withC g.temps g.locs.length p.globs.length b.cond).2 && yes (b.next = 0 ∧ b.els = 0) && numB b.next ((g.blocks.length : Int) - 1) && numB b.els ((g.blocks.length : Int) - 1))
  else (0, false)

/-- What is asked of the walk of 'end' at one block. -/
def EndSaid (p : ProgS) (g : GraphS) (b : BlockS) : Prop := ∀ (P : Value × Value × Value) (LV BV : Value) (A : Option Addr) (n cap B : Nat) (v0 v1 v2 : Value) (w : World), B ≤ w.heap.size → ProgV w B P p → GraphV w B g LV BV → TreeAt w (Under B) b.cond v0 v1 v2 →
    Calls Try.prog 61 #[.agg #[P.1, P.2.1, P.2.2], .agg #[.int .i64 g.params, .int .i64 g.temps, LV, BV], .agg #[.slice A n cap, .int .i64 b.fin, v0, v1, v2, .int .i64 b.next, .int .i64 b.els]] w fun e w' => e = .returned (.tuple #[.int .i64 (endC p g b).1, .bool (endC p g b).2]) ∧ Below w.heap.size w w'

set_option maxRecDepth 100000 in
set_option maxHeartbeats 8000000 in
theorem end_ret (p : ProgS) (g : GraphS) (t : T) (st : List StepS) (hb0 : 0 < g.blocks.length) (hb1 : g.blocks.length ≤ 9223372036854775807) (hg1 : g.locs.length ≤ 9223372036854775807) (hp1 : p.globs.length ≤ 9223372036854775807) : EndSaid p g ⟨st, 3, t, 0, 0⟩ := by
  intro P LV BV A n cap B v0 v1 v2 w hB hP hG hk
  obtain ⟨GA, gc, FA, fc, rfl⟩ := hP.shape
  obtain ⟨LA, lc, BA, bc, rfl, rfl⟩ := hG.shape
  simp only at hk
  obtain ⟨a0, b0, A0, n0, c0, rfl, rfl, rfl⟩ := hk.shape0
  have hnum : numB 0 ((g.blocks.length : Int) - 1) = true := by simp [numB]; omega
  have hr : endC p g ⟨st, 3, t, 0, 0⟩ = ((withC g.temps g.locs.length p.globs.length t).1, (withC g.temps g.locs.length p.globs.length t).2) := by
    unfold endC
    simp [hnum, yes_true]
  rw [hr]
  have HW := Lib.hid (fun W (hb : Below w.heap.size w W) => within_any g.temps g.locs.length p.globs.length t B W _ _ _ (by have := hb.size; omega) (hk.below (hb.mono hB) (Nat.le_refl _)))
  have HE := Lib.hid (fun W (hb : Below w.heap.size w W) => eqTree_all t.size t t B W _ _ _ _ _ _ (Nat.le_refl _) (by have := hb.size; omega) (hk.below (hb.mono hB) (Nat.le_refl _)) (hk.below (hb.mono hB) (Nat.le_refl _)))
  have HN := Lib.hid (fun W => hnum ▸ num_any 0 ((g.blocks.length : Int) - 1) W)
  obtain ⟨⟨q, ok⟩, hq⟩ : ∃ q, q = withC g.temps g.locs.length p.globs.length t := ⟨_, rfl⟩
  rw [← hq] at HW ⊢
  have hyt : yes (t = t) = true := yes_true rfl
  rw [hyt] at HE
  clear hP hG hk hr hnum hq hyt
  go_enter Try.func61, Try.ntmps61
  refine wp_letter (fun Q hQ => ?_)
  have HQ := Lib.hid hQ
  clear hQ
  have HB4 := Lib.hid (below4 w (.cells #[.slice GA p.globs.length gc, .slice FA p.funcs.length fc, .int .i64 p.main] 54) (.cells #[.int .i64 g.params, .int .i64 g.temps, .slice LA g.locs.length lc, .slice BA g.blocks.length bc] 77) (.cells #[.slice A n cap, .int .i64 3, .int .i64 a0, .int .i64 b0, .slice A0 n0 c0, .int .i64 0, .int .i64 0] 74) (.cells #[.slice none 0 0, .int .i64 3, .int .i64 a0, .int .i64 b0, .slice A0 n0 c0, .int .i64 0, .int .i64 0] 74))
  cases ok with
  | false =>
    go_wp2_with fail
    refine (HW.out _ (by exact HB4.out)).mono ?_
    rintro e w1 ⟨rfl, hb1⟩
    have HB1 := Lib.hid (HB4.out.trans (hb1.mono (by simp; omega)))
    clear hb1
    go_wp2_with fail
    refine HQ.out _ _ _ ?_
    exact bodyPost_ret (v := .tuple #[.int .i64 q, .bool false]) (by simp [results, Try.results61, go_sem]) rfl ⟨rfl, HB1.out⟩
  | true =>
    go_wp2_with fail
    refine (HW.out _ (by exact HB4.out)).mono ?_
    rintro e w1 ⟨rfl, hb1⟩
    have HB1 := Lib.hid (HB4.out.trans (hb1.mono (by simp; omega)))
    have g3 : w1.cell? ⟨w.heap.size + 1, 3, none⟩ = some (.slice BA g.blocks.length bc) := cell_below (by simp [go_sem]) hb1 (by simp)
    have s2 : w1.cell? ⟨w.heap.size + 1 + 1, 2, none⟩ = some (.int .i64 a0) := cell_below (by simp [go_sem]) hb1 (by simp)
    have s3 : w1.cell? ⟨w.heap.size + 1 + 1, 3, none⟩ = some (.int .i64 b0) := cell_below (by simp [go_sem]) hb1 (by simp)
    have s4 : w1.cell? ⟨w.heap.size + 1 + 1, 4, none⟩ = some (.slice A0 n0 c0) := cell_below (by simp [go_sem]) hb1 (by simp)
    have s5 : w1.cell? ⟨w.heap.size + 1 + 1, 5, none⟩ = some (.int .i64 0) := cell_below (by simp [go_sem]) hb1 (by simp)
    have s6 : w1.cell? ⟨w.heap.size + 1 + 1, 6, none⟩ = some (.int .i64 0) := cell_below (by simp [go_sem]) hb1 (by simp)
    have t2 : w1.cell? ⟨w.heap.size + 1 + 1 + 1, 2, none⟩ = some (.int .i64 a0) := cell_below (by simp [go_sem]) hb1 (by simp)
    have t3 : w1.cell? ⟨w.heap.size + 1 + 1 + 1, 3, none⟩ = some (.int .i64 b0) := cell_below (by simp [go_sem]) hb1 (by simp)
    have t4 : w1.cell? ⟨w.heap.size + 1 + 1 + 1, 4, none⟩ = some (.slice A0 n0 c0) := cell_below (by simp [go_sem]) hb1 (by simp)
    have t5 : w1.cell? ⟨w.heap.size + 1 + 1 + 1, 5, none⟩ = some (.int .i64 0) := cell_below (by simp [go_sem]) hb1 (by simp)
    have t6 : w1.cell? ⟨w.heap.size + 1 + 1 + 1, 6, none⟩ = some (.int .i64 0) := cell_below (by simp [go_sem]) hb1 (by simp)
    have hz1 : w.heap.size + 1 + 1 + 1 < w1.heap.size := by have := hb1.size; simp at this; omega
    clear hb1
    go_wp2_with fail
    refine (HE.out _ (by exact HB1.out)).mono ?_
    rintro e w2 ⟨rfl, hb2⟩
    have HB2 := Lib.hid (HB1.out.trans (hb2.mono (by omega)))
    have g3' := cell_below g3 hb2 (by omega)
    have s5' := cell_below s5 hb2 (by omega)
    have s6' := cell_below s6 hb2 (by omega)
    clear hb2 g3 s2 s3 s4 s5 s6 t2 t3 t4 t5 t6
    go_wp2_with (go_at_call 47; refine (HN.out _).mono ?_; rintro e w3 ⟨rfl, rfl⟩)
    refine HQ.out _ _ _ ?_
    exact bodyPost_ret (v := .tuple #[.int .i64 q, .bool true]) (by simp [results, Try.results61, go_sem]) rfl ⟨rfl, HB2.out⟩
end Go.Proofs.Ytjkgpolikpochaa
