/- graph.Run, whatever is asked. Conditions: as stated. GraphFuel (plain): what the law asks of four runs. No program in sight but its name. Conditions: as stated. gantletlaw7.wakes, num. No condition. -/
import Derived.Test.YtikbdplllopjlaaGRunBZz
import Derived.Test.YtikbdplllopjlaaQ12Zz
set_option linter.unusedVariables false
set_option linter.unusedSimpArgs false
namespace Go.Proofs.Ytikbdplllopjlaa
open Go.RowKit

set_option maxRecDepth 1000000 in
set_option maxHeartbeats 8000000 in
theorem grun_no (p : ProgS) (inp : Value) (fuel : Int) (GA FA : Option Addr) (gc fc : Nat) (w : World) (mb : Bool)
    (hmay : ∀ W, Below w.heap.size w W → Calls Try.prog 11 #[.agg #[.slice GA p.globs.length gc, .slice FA p.funcs.length fc, .int .i64 p.main]] W fun e w' => e = .returned (.bool mb) ∧ Below W.heap.size W w')
    (hno : mb = false ∨ fuel < 0 ∨ fuel > 2000000) (IA : Option Addr) (il ic : Nat) (hinp : inp = .slice IA il ic) :
    Calls Try.prog 5 #[.agg #[.slice GA p.globs.length gc, .slice FA p.funcs.length fc, .int .i64 p.main], inp, .int .i64 fuel] w fun e w' => e = .returned (.tuple #[.agg #[.int .i64 0, .int .i64 0, .slice none 0 0, .int .i64 0, .int .i64 0], .int .i64 1]) ∧ Below w.heap.size w w' := by
  subst hinp
  have hB2 := below2 w (.cells #[.slice GA p.globs.length gc, .slice FA p.funcs.length fc, .int .i64 p.main] 35) (.cells #[.int .i64 0, .int .i64 0, .slice none 0 0, .int .i64 0, .int .i64 0] 28)
  have HB2 := Lib.hid hB2
  have HPB := Lib.hid ((Row.new w #[.slice GA p.globs.length gc, .slice FA p.funcs.length fc, .int .i64 p.main] 35).alloc (.cells #[.int .i64 0, .int .i64 0, .slice none 0 0, .int .i64 0, .int .i64 0] 28))
  have hob := Row.new (w.alloc (.cells #[.slice GA p.globs.length gc, .slice FA p.funcs.length fc, .int .i64 p.main] 35)) #[.int .i64 0, .int .i64 0, .slice none 0 0, .int .i64 0, .int .i64 0] 28
  rw [World.size_alloc] at hob
  have HOB := Lib.hid hob
  have HMAY := Lib.hid hmay
  clear hB2 hob hmay
  cases mb with
  | false =>
    clear hno
    go_enter Try.func5, Try.ntmps5
    refine wp_letter (fun Q hQ => ?_)
    have HQ := Lib.hid hQ
    clear hQ
    go_wp2_with fail
    refine (HMAY.out _ HB2.out).mono ?_
    rintro e w1 ⟨rfl, hb1⟩
    have HB1 := Lib.hid (HB2.out.trans (hb1.mono HB2.out.size))
    have hob1 := HOB.out.below hb1 HOB.out.lt
    have hpb1 := HPB.out.below hb1 HPB.out.lt
    have i0 := hpb1.cell (j := 0) rfl
    have i1 := hpb1.cell (j := 1) rfl
    have i2 := hpb1.cell (j := 2) rfl
    have pl := hpb1.lt
    have r0 := hob1.cell (j := 0) rfl
    have r1 := hob1.cell (j := 1) rfl
    have r2 := hob1.cell (j := 2) rfl
    have r3 := hob1.cell (j := 3) rfl
    have r4 := hob1.cell (j := 4) rfl
    have s0 := hob1.free 0
    have s1 := hob1.free 1
    have s2 := hob1.free 2
    have s3 := hob1.free 3
    have s4 := hob1.free 4
    have rl := hob1.lt
    have HO1 := Lib.hid hob1
    clear hb1 hob1 hpb1
    go_wp2_with fail
    refine HQ.out _ _ _ ?_
    have hlst := (((((HO1.out.set 0 (.int .i64 0)).set 1 (.int .i64 0)).set 2 (.slice none 0 0)).set 3 (.int .i64 0)).set 4 (.int .i64 0))
    have t0 := hlst.cell (j := 0) rfl
    have t1 := hlst.cell (j := 1) rfl
    have t2 := hlst.cell (j := 2) rfl
    have t3 := hlst.cell (j := 3) rfl
    have t4 := hlst.cell (j := 4) rfl
    clear hlst
    have hwf := setcells5 w1 (w.heap.size + 1) (.int .i64 0) (.int .i64 0) (.slice none 0 0) (.int .i64 0) (.int .i64 0)
    refine bodyPost_ret (v := .tuple #[.agg #[.int .i64 0, .int .i64 0, .slice none 0 0, .int .i64 0, .int .i64 0], .int .i64 1]) (by simp [results, Try.results5, go_sem, r0, r1, r2, r3, r4, t0, t1, t2, t3, t4]) rfl ⟨rfl, ?_⟩
    exact HB1.out.trans (hwf.below (B := w.heap.size) (by have := HB1.out.size; omega) (fun k hk => by omega))
  | true =>
    have hor : decide (fuel < 0) = true ∨ (decide (fuel < 0) = false ∧ decide (2000000 < fuel) = true) := by
      rcases hno with h | h | h
      · cases h
      · exact Or.inl (by simpa using h)
      · exact Or.inr ⟨by simp; omega, by simpa using h⟩
    clear hno
    rcases hor with hd | ⟨hd, hd2⟩
    all_goals
      go_enter Try.func5, Try.ntmps5
      refine wp_letter (fun Q hQ => ?_)
      have HQ := Lib.hid hQ
      clear hQ
      go_wp2_with fail
      refine (HMAY.out _ HB2.out).mono ?_
      rintro e w1 ⟨rfl, hb1⟩
      have HB1 := Lib.hid (HB2.out.trans (hb1.mono HB2.out.size))
      have hob1 := HOB.out.below hb1 HOB.out.lt
      have hpb1 := HPB.out.below hb1 HPB.out.lt
      have i0 := hpb1.cell (j := 0) rfl
      have i1 := hpb1.cell (j := 1) rfl
      have i2 := hpb1.cell (j := 2) rfl
      have pl := hpb1.lt
      have r0 := hob1.cell (j := 0) rfl
      have r1 := hob1.cell (j := 1) rfl
      have r2 := hob1.cell (j := 2) rfl
      have r3 := hob1.cell (j := 3) rfl
      have r4 := hob1.cell (j := 4) rfl
      have s0 := hob1.free 0
      have s1 := hob1.free 1
      have s2 := hob1.free 2
      have s3 := hob1.free 3
      have s4 := hob1.free 4
      have rl := hob1.lt
      have HO1 := Lib.hid hob1
      clear hb1 hob1 hpb1
      go_wp2_with fail
      refine HQ.out _ _ _ ?_
      have hlst := (((((HO1.out.set 0 (.int .i64 0)).set 1 (.int .i64 0)).set 2 (.slice none 0 0)).set 3 (.int .i64 0)).set 4 (.int .i64 0))
      have t0 := hlst.cell (j := 0) rfl
      have t1 := hlst.cell (j := 1) rfl
      have t2 := hlst.cell (j := 2) rfl
      have t3 := hlst.cell (j := 3) rfl
      have t4 := hlst.cell (j := 4) rfl
      clear hlst
      have hwf := setcells5 w1 (w.heap.size + 1) (.int .i64 0) (.int .i64 0) (.slice none 0 0) (.int .i64 0) (.int .i64 0)
      refine bodyPost_ret (v := .tuple #[.agg #[.int .i64 0, .int .i64 0, .slice none 0 0, .int .i64 0, .int .i64 0], .int .i64 1]) (by simp [results, Try.results5, go_sem, r0, r1, r2, r3, r4, t0, t1, t2, t3, t4]) rfl ⟨rfl, ?_⟩
      exact HB1.out.trans (hwf.below (B := w.heap.size) (by have := HB1.out.size; omega) (fun k hk => by omega))

def goodG (p : ProgS) (fuel : Int) : Prop := gmayB p = true ∧ 0 ≤ fuel ∧ fuel ≤ 2000000
instance (p : ProgS) (fuel : Int) : Decidable (goodG p fuel) := by unfold goodG; exact inferInstance
def outG (p : ProgS) (inp : List Int) (fuel : Int) : OutS := if goodG p fuel then runF p inp fuel else ⟨0, 0, [], 0, 0⟩
def errG (p : ProgS) (fuel : Int) : Int := if goodG p fuel then 0 else 1
/-- What a run answers, whatever is asked. -/
def RanG (o : OutS) (er : Int) (w : World) (e : Ending) (w' : World) : Prop :=
  ∃ outv, e = .returned (.tuple #[.agg #[.int .i64 o.kind, .int .i64 o.code, outv, .int .i64 o.steps, .int .i64 o.deep], .int .i64 er]) ∧ w'.ownsRow w.heap.size 2 1 outv o.out.length (o.out.map (Value.int .i64)) ∧ Below w.heap.size w w'
theorem grun_all (B : Nat) (p : ProgS) (P : Value × Value × Value) (inp : List Int) (inv : Value) (fuel : Int) (w : World) (hB : B ≤ w.heap.size) (hP : ProgAt w B P p) (hin : InW w B inv inp) (hsl : ∀ g, g ∈ p.funcs → ∀ b, b ∈ g.blocks → b.steps.length ≤ 200000000000000) :
    Calls Try.prog 5 #[.agg #[P.1, P.2.1, P.2.2], inv, .int .i64 fuel] w fun e w' => RanG (outG p inp fuel) (errG p fuel) w e w' := by
  obtain ⟨GA, gc, FA, fc, rfl⟩ := hP.shape
  obtain ⟨IA, ic, hiv, _⟩ := id hin
  have hmay : ∀ W, Below w.heap.size w W → Calls Try.prog 11 #[.agg #[.slice GA p.globs.length gc, .slice FA p.funcs.length fc, .int .i64 p.main]] W fun e w' => e = .returned (.bool (gmayB p)) ∧ Below W.heap.size W w' :=
    fun W hW => gmay_any p (.slice GA p.globs.length gc, .slice FA p.funcs.length fc, .int .i64 p.main) B W (by have := hW.size; omega) (hP.below (hW.mono hB)) hsl
  by_cases hg : goodG p fuel
  · have ho : outG p inp fuel = runF p inp fuel := if_pos hg
    have he : errG p fuel = 0 := if_pos hg
    rw [ho, he]
    obtain ⟨h1, h2, h3⟩ := hg
    have hok := gmay_ok hP.pin h1
    obtain ⟨f, g, hm, hfg, hg0⟩ := hok.main
    rw [h1] at hmay
    rw [hm] at hmay hP ⊢
    subst hiv
    exact (grun_any B p inp f g GA FA IA gc fc ic fuel w hB hP hin hok hm hfg hg0 h2 h3 hmay).mono (fun e w' h => h)
  · have ho : outG p inp fuel = ⟨0, 0, [], 0, 0⟩ := if_neg hg
    have he : errG p fuel = 1 := if_neg hg
    rw [ho, he]
    have hno : gmayB p = false ∨ fuel < 0 ∨ fuel > 2000000 := by
      cases hb : gmayB p with
      | false => exact Or.inl rfl
      | true => exact Or.inr (by have : ¬ (0 ≤ fuel ∧ fuel ≤ 2000000) := fun h => hg ⟨hb, h.1, h.2⟩; omega)
    refine (grun_no p inv fuel GA FA gc fc w _ hmay hno IA _ ic hiv).mono ?_
    rintro e w' ⟨rfl, hb⟩
    exact ⟨_, rfl, World.ownsRow_nil _ _ _ _, hb⟩
end Go.Proofs.Ytikbdplllopjlaa
namespace Go.Proofs.Ytikbdplllopjlaa
open Go.RowKit

theorem counts_of {p : ProgS} (h : ProgOkG p) : Counts p := by
  intro fn
  rw [List.getD_eq_getElem?_getD]
  cases hf : p.funcs[fn.toNat]? with
  | none => simp [noGraph, countsF]
  | some g =>
    have := (countsF_bd (fun o ho => ((h.fns g (List.mem_of_getElem? hf)).obs o ho).1)).1
    simp only [Option.getD_some]
    omega
section
variable {p : ProgS} {inp : List Int}
theorem errG_two (f1 f2 : Int) (h1 : 0 ≤ f1) (h2 : f1 ≤ 2000000) (h3 : 0 ≤ f2) (h4 : f2 ≤ 2000000) : errG p f1 = errG p f2 := by
  unfold errG
  by_cases h : gmayB p = true
  · rw [if_pos (show goodG p f1 from ⟨h, h1, h2⟩), if_pos (show goodG p f2 from ⟨h, h3, h4⟩)]
  · rw [if_neg (show ¬ goodG p f1 from fun g => h g.1), if_neg (show ¬ goodG p f2 from fun g => h g.1)]
theorem outG_more (hp : ProgIn p) (h : (outG p inp 2000).kind ≠ 2) : outG p inp 3000 = outG p inp 2000 := by
  unfold outG at *
  by_cases hm : gmayB p = true
  · have g2 : goodG p 2000 := ⟨hm, by omega, by omega⟩
    have g3 : goodG p 3000 := ⟨hm, by omega, by omega⟩
    rw [if_pos g2] at h ⊢
    rw [if_pos g3]
    exact runF_more (counts_of (gmay_ok hp hm)) inp (by omega) (by omega) h
  · rw [if_neg (show ¬ goodG p 2000 from fun g => hm g.1), if_neg (show ¬ goodG p 3000 from fun g => hm g.1)]
theorem outG_kind {f : Int} (h : (outG p inp f).kind ≠ 0) : goodG p f := by
  unfold outG at h
  split at h
  · rename_i hg; exact hg
  · exact absurd rfl h
theorem outG_begins (hp : ProgIn p) (h : (outG p inp 2000).kind = 2) (h3 : (outG p inp 3000).kind ≠ 3) : (outG p inp 2000).out <+: (outG p inp 3000).out := by
  have hg := outG_kind (p := p) (inp := inp) (f := 2000) (by omega)
  have hg3 : goodG p 3000 := ⟨hg.1, by omega, by omega⟩
  have e1 : outG p inp 2000 = runF p inp 2000 := if_pos hg
  have e2 : outG p inp 3000 = runF p inp 3000 := if_pos hg3
  rw [e1, e2]
  rw [e2] at h3
  exact runF_begins (counts_of (gmay_ok hp hg.1)) inp (by omega) (by omega) h3
theorem outG_exact (hp : ProgIn p) (h : (outG p inp 2000).kind = 1) :
    1 ≤ (outG p inp 2000).steps ∧ (outG p inp 2000).steps ≤ 2000 ∧ outG p inp (outG p inp 2000).steps = outG p inp 2000 ∧ (outG p inp ((outG p inp 2000).steps - 1)).kind = 2 ∧ errG p (outG p inp 2000).steps = 0 ∧ errG p ((outG p inp 2000).steps - 1) = 0 := by
  have hg := outG_kind (p := p) (inp := inp) (f := 2000) (by omega)
  have e1 : outG p inp 2000 = runF p inp 2000 := if_pos hg
  rw [e1] at h ⊢
  obtain ⟨h1, h2, h3, h4⟩ := runF_exact (counts_of (gmay_ok hp hg.1)) inp (show (0 : Int) ≤ 2000 by omega) h
  have g1 : goodG p (runF p inp 2000).steps := ⟨hg.1, by omega, by omega⟩
  have g2 : goodG p ((runF p inp 2000).steps - 1) := ⟨hg.1, by omega, by omega⟩
  refine ⟨h1, h2, ?_, ?_, if_pos g1, if_pos g2⟩
  · rw [show outG p inp (runF p inp 2000).steps = runF p inp (runF p inp 2000).steps from if_pos g1]; exact h3
  · rw [show outG p inp ((runF p inp 2000).steps - 1) = runF p inp ((runF p inp 2000).steps - 1) from if_pos g2]; exact h4
theorem outG_err (h : (outG p inp 2000).kind = 2) : errG p 2000 = 0 := if_pos (outG_kind (inp := inp) (by rw [h]; decide))
end
end Go.Proofs.Ytikbdplllopjlaa
namespace Go.Proofs.Ytikbdplllopjlaa
open Go.RowKit

theorem lnum7_any (n : Int) (w : World) : Calls Try.prog 6 #[.int .i64 n] w fun e w' => e = .returned (.int .i64 n) ∧ w = w' := by
  go_enter Try.func6, Try.ntmps6
  go_wp2_with fail
  go_ret
  exact ⟨rfl, rfl⟩

def pW : ProgS := ⟨[], [⟨0, 0, [], [⟨[], 3, .node 1 3 [], 0, 0⟩]⟩], 0⟩
theorem pW_good : goodG pW 5 := ⟨by decide +kernel, by omega, by omega⟩
theorem pW_run : runF pW [] 5 = ⟨1, 3, [], 1, 1⟩ := by kernel_rfl
theorem pW_at (w : World) : ProgAt ((w.alloc (.cells #[.slice none 0 0, .int .i64 3, .int .i64 1, .int .i64 3, .slice none 0 0, .int .i64 0, .int .i64 0] 65)).alloc (.cells #[.int .i64 0, .int .i64 0, .slice none 0 0, .slice (some ⟨w.heap.size, 0, none⟩) 1 1] 68)) (w.heap.size + 2) (.slice none 0 0, .slice (some ⟨w.heap.size + 1, 0, none⟩) 1 1, .int .i64 0) pW := by
  have i0 : In64 0 := by unfold In64; omega
  have i1 : In64 1 := by unfold In64; omega
  have i3 : In64 3 := by unfold In64; omega
  have hb : Row ((w.alloc (.cells #[.slice none 0 0, .int .i64 3, .int .i64 1, .int .i64 3, .slice none 0 0, .int .i64 0, .int .i64 0] 65)).alloc (.cells #[.int .i64 0, .int .i64 0, .slice none 0 0, .slice (some ⟨w.heap.size, 0, none⟩) 1 1] 68)) w.heap.size #[.slice none 0 0, .int .i64 3, .int .i64 1, .int .i64 3, .slice none 0 0, .int .i64 0, .int .i64 0] 65 := (Row.new _ _ _).alloc _
  have hg : Row ((w.alloc (.cells #[.slice none 0 0, .int .i64 3, .int .i64 1, .int .i64 3, .slice none 0 0, .int .i64 0, .int .i64 0] 65)).alloc (.cells #[.int .i64 0, .int .i64 0, .slice none 0 0, .slice (some ⟨w.heap.size, 0, none⟩) 1 1] 68)) (w.heap.size + 1) #[.int .i64 0, .int .i64 0, .slice none 0 0, .slice (some ⟨w.heap.size, 0, none⟩) 1 1] 68 := Row.new' _ _ (by simp)
  generalize ((w.alloc (.cells #[.slice none 0 0, .int .i64 3, .int .i64 1, .int .i64 3, .slice none 0 0, .int .i64 0, .int .i64 0] 65)).alloc (.cells #[.int .i64 0, .int .i64 0, .slice none 0 0, .slice (some ⟨w.heap.size, 0, none⟩) 1 1] 68)) = W at hb hg ⊢
  refine ⟨⟨none, 0, rfl, by simp [pW], fun h => by simp [pW] at h⟩, ⟨_, 1, rfl, by simp [pW], fun _ => ⟨_, 0, rfl, by omega, fun i x hi => ?_⟩⟩, rfl, i0⟩
  rcases i with _ | i
  · simp [pW] at hi
    subst hi
    refine ⟨hg.cell (j := 0) rfl, hg.cell (j := 1) rfl, ⟨_, hg.cell (j := 2) rfl, none, 0, rfl, by simp, fun h => by simp at h⟩, ⟨_, hg.cell (j := 3) rfl, _, 1, rfl, by simp, fun _ => ⟨_, 0, rfl, by omega, fun i x hi => ?_⟩⟩, i0, i0⟩
    rcases i with _ | i
    · simp at hi
      subst hi
      refine ⟨⟨_, hb.cell (j := 0) rfl, none, 0, rfl, by simp, fun h => by simp at h⟩, hb.cell (j := 1) rfl, ⟨_, _, _, hb.cell (j := 2) rfl, hb.cell (j := 3) rfl, hb.cell (j := 4) rfl, ?_⟩, hb.cell (j := 5) rfl, hb.cell (j := 6) rfl, i3, i0, i0⟩
      rw [TreeAt]
      exact ⟨rfl, rfl, i1, i3, by simp, none, 0, rfl, fun h => absurd h (by simp)⟩
    · simp at hi
  · simp [pW] at hi

set_option maxRecDepth 100000 in
set_option maxHeartbeats 2000000 in
theorem wakes7_any (w : World) : Calls Try.prog 9 #[] w fun e w' => e = .returned (.bool true) ∧ Below w.heap.size w w' := by
  have hb2 := below2 w (.cells #[.slice none 0 0, .int .i64 3, .int .i64 1, .int .i64 3, .slice none 0 0, .int .i64 0, .int .i64 0] 65) (.cells #[.int .i64 0, .int .i64 0, .slice none 0 0, .slice (some ⟨w.heap.size, 0, none⟩) 1 1] 68)
  have hrun := grun_all (w.heap.size + 2) pW _ [] (.slice none 0 0) 5 _ (by simp) (pW_at w) ⟨none, 0, rfl, by simp, by simp, fun h => by simp at h⟩ (fun g hg b hb => by simp [pW] at hg; subst hg; simp at hb; subst hb; simp)
  rw [show outG pW [] 5 = ⟨1, 3, [], 1, 1⟩ from (if_pos pW_good).trans pW_run, show errG pW 5 = 0 from if_pos pW_good] at hrun
  have HRUN := Lib.hid hrun
  have HB2 := Lib.hid hb2
  clear hrun hb2
  go_enter Try.func9, Try.ntmps9
  refine wp_letter (fun Q hQ => ?_)
  have HQ := Lib.hid hQ
  clear hQ
  go_wp2_with fail
  refine HRUN.out.mono ?_
  rintro e w1 ⟨u, rfl, hu, hb1⟩
  have HB1 := Lib.hid (HB2.out.trans (hb1.mono HB2.out.size))
  obtain ⟨UA, uc, rfl⟩ := slice_of_own hu
  clear hb1 hu
  go_wp2_with fail
  refine (lnum7_any _ _).mono ?_
  rintro e w' ⟨rfl, rfl⟩
  go_wp2_with fail
  refine HQ.out _ _ _ ?_
  refine bodyPost_ret (v := .bool true) (by simp [results, Try.results9, go_sem]) rfl ⟨rfl, HB1.out.trans ((below1 w1 _).mono HB1.out.size)⟩
end Go.Proofs.Ytikbdplllopjlaa
