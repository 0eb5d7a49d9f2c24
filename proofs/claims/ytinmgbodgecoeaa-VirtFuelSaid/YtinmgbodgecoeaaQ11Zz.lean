/- virt.Run, whatever is asked. Conditions: as stated. gantletlaw14.wakes, num. No condition. -/
import Derived.Test.YtinmgbodgecoeaaVRunBZz
import Derived.Test.YtinmgbodgecoeaaVAskGZz
import Derived.Test.YtinmgbodgecoeaaQ10Zz
set_option linter.unusedVariables false
set_option linter.unusedSimpArgs false
namespace Go.Proofs.Ytinmgbodgecoeaa
open Go.RowKit

theorem vmay_main {p : VirtS} (h : vmayB p = true) : ∃ (f : Nat) (g : CodeS), p.main = f ∧ p.funcs[f]? = some g ∧ g.params = 0 := by
  unfold vmayB at h
  split at h
  · rename_i hh
    obtain ⟨_, _, _, h4, h5⟩ := hh
    obtain ⟨f, hf⟩ := Int.eq_ofNat_of_zero_le h4.1
    have hfl : f < p.funcs.length := by omega
    refine ⟨f, p.funcs[f], hf, List.getElem?_eq_getElem hfl, ?_⟩
    rw [hf, Int.toNat_natCast, List.getD_eq_getElem?_getD, List.getElem?_eq_getElem hfl] at h5
    exact h5
  · cases h
set_option maxRecDepth 1000000 in
set_option maxHeartbeats 8000000 in
theorem vrun_no (p : VirtS) (inp : Value) (fuel : Int) (GA FA : Option Addr) (gc fc : Nat) (w : World) (mb : Bool)
    (hmay : ∀ W, Below w.heap.size w W → Calls Try.prog 10 #[.agg #[.slice GA p.globs.length gc, .slice FA p.funcs.length fc, .int .i64 p.main]] W fun e w' => e = .returned (.bool mb) ∧ Below W.heap.size W w')
    (hno : mb = false ∨ fuel < 0 ∨ fuel > 2000000) (IA : Option Addr) (il ic : Nat) (hinp : inp = .slice IA il ic) :
    Calls Try.prog 5 #[.agg #[.slice GA p.globs.length gc, .slice FA p.funcs.length fc, .int .i64 p.main], inp, .int .i64 fuel] w fun e w' => e = .returned (.tuple #[.agg #[.int .i64 0, .int .i64 0, .slice none 0 0, .int .i64 0, .int .i64 0], .int .i64 1]) ∧ Below w.heap.size w w' := by
  subst hinp
  have hB2 := below2 w (.cells #[.slice GA p.globs.length gc, .slice FA p.funcs.length fc, .int .i64 p.main] 35) (.cells #[.int .i64 0, .int .i64 0, .slice none 0 0, .int .i64 0, .int .i64 0] 28)
  have HB2 := Lib.hid hB2
  have HPB := Lib.hid ((Row.new w #[.slice GA p.globs.length gc, .slice FA p.funcs.length fc, .int .i64 p.main] 35).alloc (.cells #[.int .i64 0, .int .i64 0, .slice none 0 0, .int .i64 0, .int .i64 0] 28))
  have hob := Row.new (w.alloc (.cells #[.slice GA p.globs.length gc, .slice FA p.funcs.length fc, .int .i64 p.main] 35)) #[.int .i64 0, .int .i64 0, .slice none 0 0, .int .i64 0, .int .i64 0] 28
  rw [World.size_alloc] at hob
  have HOB := Lib.hid hob
  have HMAY := Lib.hid hmay
  clear hB2 hob hmay
  cases mb with
  | false =>
    clear hno
    go_enter Try.func5, Try.ntmps5
    refine wp_letter (fun Q hQ => ?_)
    have HQ := Lib.hid hQ
    clear hQ
    go_wp2_with fail
    refine (HMAY.out _ HB2.out).mono ?_
    rintro e w1 ⟨rfl, hb1⟩
    have HB1 := Lib.hid (HB2.out.trans (hb1.mono HB2.out.size))
    have hob1 := HOB.out.below hb1 HOB.out.lt
    have hpb1 := HPB.out.below hb1 HPB.out.lt
    have i0 := hpb1.cell (j := 0) rfl
    have i1 := hpb1.cell (j := 1) rfl
    have i2 := hpb1.cell (j := 2) rfl
    have pl := hpb1.lt
    have r0 := hob1.cell (j := 0) rfl
    have r1 := hob1.cell (j := 1) rfl
    have r2 := hob1.cell (j := 2) rfl
    have r3 := hob1.cell (j := 3) rfl
    have r4 := hob1.cell (j := 4) rfl
    have s0 := hob1.free 0
    have s1 := hob1.free 1
    have s2 := hob1.free 2
    have s3 := hob1.free 3
    have s4 := hob1.free 4
    have rl := hob1.lt
    have HO1 := Lib.hid hob1
    clear hb1 hob1 hpb1
    go_wp2_with fail
    refine HQ.out _ _ _ ?_
    have hlst := (((((HO1.out.set 0 (.int .i64 0)).set 1 (.int .i64 0)).set 2 (.slice none 0 0)).set 3 (.int .i64 0)).set 4 (.int .i64 0))
    have t0 := hlst.cell (j := 0) rfl
    have t1 := hlst.cell (j := 1) rfl
    have t2 := hlst.cell (j := 2) rfl
    have t3 := hlst.cell (j := 3) rfl
    have t4 := hlst.cell (j := 4) rfl
    clear hlst
    have hwf := setcells5 w1 (w.heap.size + 1) (.int .i64 0) (.int .i64 0) (.slice none 0 0) (.int .i64 0) (.int .i64 0)
    refine bodyPost_ret (v := .tuple #[.agg #[.int .i64 0, .int .i64 0, .slice none 0 0, .int .i64 0, .int .i64 0], .int .i64 1]) (by simp [results, Try.results5, go_sem, r0, r1, r2, r3, r4, t0, t1, t2, t3, t4]) rfl ⟨rfl, ?_⟩
    exact HB1.out.trans (hwf.below (B := w.heap.size) (by have := HB1.out.size; omega) (fun k hk => by omega))
  | true =>
    have hor : decide (fuel < 0) = true ∨ (decide (fuel < 0) = false ∧ decide (2000000 < fuel) = true) := by
      rcases hno with h | h | h
      · cases h
      · exact Or.inl (by simpa using h)
      · exact Or.inr ⟨by simp; omega, by simpa using h⟩
    clear hno
    rcases hor with hd | ⟨hd, hd2⟩
    all_goals
      go_enter Try.func5, Try.ntmps5
      refine wp_letter (fun Q hQ => ?_)
      have HQ := Lib.hid hQ
      clear hQ
      go_wp2_with fail
      refine (HMAY.out _ HB2.out).mono ?_
      rintro e w1 ⟨rfl, hb1⟩
      have HB1 := Lib.hid (HB2.out.trans (hb1.mono HB2.out.size))
      have hob1 := HOB.out.below hb1 HOB.out.lt
      have hpb1 := HPB.out.below hb1 HPB.out.lt
      have i0 := hpb1.cell (j := 0) rfl
      have i1 := hpb1.cell (j := 1) rfl
      have i2 := hpb1.cell (j := 2) rfl
      have pl := hpb1.lt
      have r0 := hob1.cell (j := 0) rfl
      have r1 := hob1.cell (j := 1) rfl
      have r2 := hob1.cell (j := 2) rfl
      have r3 := hob1.cell (j := 3) rfl
      have r4 := hob1.cell (j := 4) rfl
      have s0 := hob1.free 0
      have s1 := hob1.free 1
      have s2 := hob1.free 2
      have s3 := hob1.free 3
      have s4 := hob1.free 4
      have rl := hob1.lt
      have HO1 := Lib.hid hob1
      clear hb1 hob1 hpb1
      go_wp2_with fail
      refine HQ.out _ _ _ ?_
      have hlst := (((((HO1.out.set 0 (.int .i64 0)).set 1 (.int .i64 0)).set 2 (.slice none 0 0)).set 3 (.int .i64 0)).set 4 (.int .i64 0))
      have t0 := hlst.cell (j := 0) rfl
      have t1 := hlst.cell (j := 1) rfl
      have t2 := hlst.cell (j := 2) rfl
      have t3 := hlst.cell (j := 3) rfl
      have t4 := hlst.cell (j := 4) rfl
      clear hlst
      have hwf := setcells5 w1 (w.heap.size + 1) (.int .i64 0) (.int .i64 0) (.slice none 0 0) (.int .i64 0) (.int .i64 0)
      refine bodyPost_ret (v := .tuple #[.agg #[.int .i64 0, .int .i64 0, .slice none 0 0, .int .i64 0, .int .i64 0], .int .i64 1]) (by simp [results, Try.results5, go_sem, r0, r1, r2, r3, r4, t0, t1, t2, t3, t4]) rfl ⟨rfl, ?_⟩
      exact HB1.out.trans (hwf.below (B := w.heap.size) (by have := HB1.out.size; omega) (fun k hk => by omega))

/-- What a run answers, whatever is asked. -/
def RanG (o : OutS) (er : Int) (w : World) (e : Ending) (w' : World) : Prop :=
  ∃ outv, e = .returned (.tuple #[.agg #[.int .i64 o.kind, .int .i64 o.code, outv, .int .i64 o.steps, .int .i64 o.deep], .int .i64 er]) ∧ w'.ownsRow w.heap.size 2 1 outv o.out.length (o.out.map (Value.int .i64)) ∧ Below w.heap.size w w'
theorem vrun_all (B : Nat) (p : VirtS) (P : Value × Value × Value) (inp : List Int) (inv : Value) (fuel : Int) (w : World) (hB : B ≤ w.heap.size) (hP : VirtAt w B P p) (hin : InW w B inv inp) :
    Calls Try.prog 5 #[.agg #[P.1, P.2.1, P.2.2], inv, .int .i64 fuel] w fun e w' => RanG (outV p inp fuel) (errV p fuel) w e w' := by
  obtain ⟨GA, gc, FA, fc, rfl⟩ := hP.shape
  obtain ⟨IA, ic, hiv, _⟩ := id hin
  have hmay : ∀ W, Below w.heap.size w W → Calls Try.prog 10 #[.agg #[.slice GA p.globs.length gc, .slice FA p.funcs.length fc, .int .i64 p.main]] W fun e w' => e = .returned (.bool (vmayB p)) ∧ Below W.heap.size W w' :=
    fun W hW => vmay_any p (.slice GA p.globs.length gc, .slice FA p.funcs.length fc, .int .i64 p.main) B W (by have := hW.size; omega) (hP.below (hW.mono hB))
  by_cases hg : goodV p fuel
  · have ho : outV p inp fuel = runF (virtG p) inp fuel := if_pos hg
    have he : errV p fuel = 0 := if_pos hg
    rw [ho, he]
    obtain ⟨h1, h2, h3⟩ := hg
    have hok := vmay_ok hP.pin h1
    obtain ⟨f, g, hm, hfg, hg0⟩ := vmay_main h1
    have hvin := hP.pin
    rw [h1] at hmay
    rw [hm] at hmay hP ⊢
    subst hiv
    exact (vrun_any B p inp f g GA FA IA gc fc ic fuel w hB hP hin hok h1 hvin hm hfg hg0 h2 h3 hmay).mono (fun e w' h => h)
  · have ho : outV p inp fuel = ⟨0, 0, [], 0, 0⟩ := if_neg hg
    have he : errV p fuel = 1 := if_neg hg
    rw [ho, he]
    have hno : vmayB p = false ∨ fuel < 0 ∨ fuel > 2000000 := by
      cases hb : vmayB p with
      | false => exact Or.inl rfl
      | true => exact Or.inr (by have : ¬ (0 ≤ fuel ∧ fuel ≤ 2000000) := fun h => hg ⟨hb, h.1, h.2⟩; omega)
    refine (vrun_no p inv fuel GA FA gc fc w _ hmay hno IA _ ic hiv).mono ?_
    rintro e w' ⟨rfl, hb⟩
    exact ⟨_, rfl, World.ownsRow_nil _ _ _ _, hb⟩
end Go.Proofs.Ytinmgbodgecoeaa
namespace Go.Proofs.Ytinmgbodgecoeaa
open Go.RowKit

theorem lnum14_any (n : Int) (w : World) : Calls Try.prog 6 #[.int .i64 n] w fun e w' => e = .returned (.int .i64 n) ∧ w = w' := by
  go_enter Try.func6, Try.ntmps6
  go_wp2_with fail
  go_ret
  exact ⟨rfl, rfl⟩
def vW : VirtS := ⟨[], [⟨0, 1, [], [⟨1, 0, 0, 0, 3, []⟩, ⟨17, -1, 0, 0, 0, []⟩]⟩], 0⟩
theorem vW_good : goodV vW 5 := ⟨by decide +kernel, by omega, by omega⟩
theorem vW_run : runF (virtG vW) [] 5 = ⟨1, 3, [], 2, 1⟩ := by kernel_rfl
theorem vW_at (w : World) : VirtAt ((w.alloc (.cells #[.int .i64 1, .int .i64 0, .int .i64 0, .int .i64 0, .int .i64 3, .slice none 0 0, .int .i64 17, .int .i64 (-1), .int .i64 0, .int .i64 0, .int .i64 0, .slice none 0 0] 68)).alloc (.cells #[.int .i64 0, .int .i64 1, .slice none 0 0, .slice (some ⟨w.heap.size, 0, none⟩) 2 2] 55)) (w.heap.size + 2) (.slice none 0 0, .slice (some ⟨w.heap.size + 1, 0, none⟩) 1 1, .int .i64 0) vW := by
  have i0 : In64 0 := by unfold In64; omega
  have i1 : In64 1 := by unfold In64; omega
  have i3 : In64 3 := by unfold In64; omega
  have i17 : In64 17 := by unfold In64; omega
  have im : In64 (-1) := by unfold In64; omega
  have hb : Row ((w.alloc (.cells #[.int .i64 1, .int .i64 0, .int .i64 0, .int .i64 0, .int .i64 3, .slice none 0 0, .int .i64 17, .int .i64 (-1), .int .i64 0, .int .i64 0, .int .i64 0, .slice none 0 0] 68)).alloc (.cells #[.int .i64 0, .int .i64 1, .slice none 0 0, .slice (some ⟨w.heap.size, 0, none⟩) 2 2] 55)) w.heap.size #[.int .i64 1, .int .i64 0, .int .i64 0, .int .i64 0, .int .i64 3, .slice none 0 0, .int .i64 17, .int .i64 (-1), .int .i64 0, .int .i64 0, .int .i64 0, .slice none 0 0] 68 := (Row.new _ _ _).alloc _
  have hg : Row ((w.alloc (.cells #[.int .i64 1, .int .i64 0, .int .i64 0, .int .i64 0, .int .i64 3, .slice none 0 0, .int .i64 17, .int .i64 (-1), .int .i64 0, .int .i64 0, .int .i64 0, .slice none 0 0] 68)).alloc (.cells #[.int .i64 0, .int .i64 1, .slice none 0 0, .slice (some ⟨w.heap.size, 0, none⟩) 2 2] 55)) (w.heap.size + 1) #[.int .i64 0, .int .i64 1, .slice none 0 0, .slice (some ⟨w.heap.size, 0, none⟩) 2 2] 55 := Row.new' _ _ (by simp)
  generalize ((w.alloc (.cells #[.int .i64 1, .int .i64 0, .int .i64 0, .int .i64 0, .int .i64 3, .slice none 0 0, .int .i64 17, .int .i64 (-1), .int .i64 0, .int .i64 0, .int .i64 0, .slice none 0 0] 68)).alloc (.cells #[.int .i64 0, .int .i64 1, .slice none 0 0, .slice (some ⟨w.heap.size, 0, none⟩) 2 2] 55)) = W at hb hg ⊢
  refine ⟨⟨none, 0, rfl, by simp [vW], fun h => by simp [vW] at h⟩, ⟨_, 1, rfl, by simp [vW], fun _ => ⟨_, 0, rfl, by omega, fun i x hi => ?_⟩⟩, rfl, i0⟩
  rcases i with _ | i
  · simp [vW] at hi
    subst hi
    refine ⟨hg.cell (j := 0) rfl, hg.cell (j := 1) rfl, ⟨_, hg.cell (j := 2) rfl, none, 0, rfl, by simp, fun h => by simp at h⟩, ⟨_, hg.cell (j := 3) rfl, _, 2, rfl, by simp, fun _ => ⟨_, 0, rfl, by omega, fun i x hi => ?_⟩⟩, i0, i1⟩
    rcases i with _ | _ | i
    · simp at hi
      subst hi
      exact ⟨hb.cell (j := 0) rfl, hb.cell (j := 1) rfl, hb.cell (j := 2) rfl, hb.cell (j := 3) rfl, hb.cell (j := 4) rfl, ⟨_, hb.cell (j := 5) rfl, none, 0, rfl, by simp, fun h => by simp at h⟩, i1, i0, i0, i0, i3⟩
    · simp at hi
      subst hi
      exact ⟨hb.cell (j := 6) rfl, hb.cell (j := 7) rfl, hb.cell (j := 8) rfl, hb.cell (j := 9) rfl, hb.cell (j := 10) rfl, ⟨_, hb.cell (j := 11) rfl, none, 0, rfl, by simp, fun h => by simp at h⟩, i17, im, i0, i0, i0⟩
    · simp at hi
  · simp [vW] at hi

set_option maxRecDepth 100000 in
set_option maxHeartbeats 2000000 in
theorem wakes14_any (w : World) : Calls Try.prog 8 #[] w fun e w' => e = .returned (.bool true) ∧ Below w.heap.size w w' := by
  have hb2 := below2 w (.cells #[.int .i64 1, .int .i64 0, .int .i64 0, .int .i64 0, .int .i64 3, .slice none 0 0, .int .i64 17, .int .i64 (-1), .int .i64 0, .int .i64 0, .int .i64 0, .slice none 0 0] 68) (.cells #[.int .i64 0, .int .i64 1, .slice none 0 0, .slice (some ⟨w.heap.size, 0, none⟩) 2 2] 55)
  have hrun := vrun_all (w.heap.size + 2) vW _ [] (.slice none 0 0) 5 _ (by simp) (vW_at w) ⟨none, 0, rfl, by simp, by simp, fun h => by simp at h⟩
  rw [show outV vW [] 5 = ⟨1, 3, [], 2, 1⟩ from (if_pos vW_good).trans vW_run, show errV vW 5 = 0 from if_pos vW_good] at hrun
  have HRUN := Lib.hid hrun
  have HB2 := Lib.hid hb2
  clear hrun hb2
  go_enter Try.func8, Try.ntmps8
  refine wp_letter (fun Q hQ => ?_)
  have HQ := Lib.hid hQ
  clear hQ
  go_wp2_with fail
  refine HRUN.out.mono ?_
  rintro e w1 ⟨u, rfl, hu, hb1⟩
  have HB1 := Lib.hid (HB2.out.trans (hb1.mono HB2.out.size))
  obtain ⟨UA, uc, rfl⟩ := slice_of_own hu
  clear hb1 hu
  go_wp2_with fail
  refine (lnum14_any _ _).mono ?_
  rintro e w' ⟨rfl, rfl⟩
  go_wp2_with fail
  refine HQ.out _ _ _ ?_
  refine bodyPost_ret (v := .bool true) (by simp [results, Try.results8, go_sem]) rfl ⟨rfl, HB1.out.trans ((below1 w1 _).mono HB1.out.size)⟩
end Go.Proofs.Ytinmgbodgecoeaa
