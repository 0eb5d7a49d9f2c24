/- The graph's machine: a step: a store. Conditions: as stated. -/
import Derived.Test.YtikbdplllopjlaaGStepCZz
set_option linter.unusedVariables false
set_option linter.unusedSimpArgs false
namespace Go.Proofs.Ytikbdplllopjlaa
open Go.RowKit

set_option maxRecDepth 100000 in
set_option maxHeartbeats 8000000 in
theorem gstep_store (base cb hb rb fb tb : Nat) (own : Nat → Prop) (P : Value × Value × Value) (gv lv : Value) (fuel : Int) (s : St) (tp : List V) (lo : List Nat) (ng : Nat) (R : CallR) (dst fn : Int) (sz : Nat) (ks : List T) (A : Option Addr) (n cap : Nat) (w : World)
    (h : HCs w base own cb hb fuel s) (hR : GRun w rb cb hb P gv ng) (hF : GFrame w fb tb tp lv lo) (hO : GOff base own rb fb tb lv gv) (hFr : FrOk (memBase s.mem) tp lo ng) (hI : GInv fuel s) (hf : fuel ≤ 100000000) (hts : TsOk tp.length lo.length ng ks) (hk : KidsV w base ks A n) (hn : n ≤ 1000)
    (hy : (stepF fuel 1 s).1 = true) (l : List V) (he : evalTs s.mem tp lo ks = some l) (hti : TsIn ks) (hl : l.length = 2) (hsz : sz = 1 ∨ sz = 2 ∨ sz = 4 ∨ sz = 8) (M : List MO) (hst : storeF s.mem (sz : Int) (l.getD 0 ⟨0, 0⟩) (l.getD 1 ⟨0, 0⟩) = some M) :
    Calls Try.prog 33 #[.pointer (some ⟨rb, 0, none⟩), .pointer (some ⟨fb, 0, none⟩), .agg #[.int .i64 2, .int .i64 dst, .int .i64 (sz : Int), .int .i64 fn, .slice A n cap]] w fun e w' => GSays base cb hb fuel fb tb lv lo own (doesF R fuel lo s tp ⟨2, dst, (sz : Int), fn, ks⟩) w e w' := by
  obtain ⟨e1, hI1⟩ := hI.tick (by omega) hy
  rw [doesF_yes hy e1 he]
  have hres : actF R { s with steps := s.steps + 1 } tp ⟨2, dst, (sz : Int), fn, ks⟩ l = (match storeF s.mem (sz : Int) (l.getD 0 ⟨0, 0⟩) (l.getD 1 ⟨0, 0⟩) with | some M => (true, { s with steps := s.steps + 1, mem := M }, tp) | none => (false, { s with steps := s.steps + 1, kind := 3 }, tp)) := by
    unfold actF
    rw [if_neg (show ¬ (2 : Int) = 1 by decide), if_pos rfl]
    rfl
  rw [hres, hst]
  have hbk := h.blocks
  have hcb := hbk.2.2 cb hbk.1
  have hrb := hR.row.lt
  have r0 := hR.row.cell (j := 0) rfl
  have hncb : rb ≠ cb := fun e => hO.orb.1 (e ▸ hbk.1)
  have HTK := Lib.hid (tick_hc (w := w.alloc (.cells #[.int .i64 2, .int .i64 dst, .int .i64 (sz : Int), .int .i64 fn, .slice A n cap] 71)) 1 (h.below (below1 _ _)) hI.kind hf hI.lo hI.hi (by omega) (by omega))
  have HR := Lib.hid hR
  have HF := Lib.hid hF
  have HO := Lib.hid hO
  have HBK := Lib.hid hbk
  have hrb1 : rb < w.heap.size + 1 := by omega
  have HR0 := Lib.hid (Row.new w #[.int .i64 2, .int .i64 dst, .int .i64 (sz : Int), .int .i64 fn, .slice A n cap] 71)
  rw [hy, e1] at HTK
  have HFD := Lib.hid hFr
  have HTS := Lib.hid (And.intro hts he)
  have HK := Lib.hid hk
  have hbs : base ≤ w.heap.size := by omega
  have hok := evals_ok hI.mem hFr ks hti hts (by rw [evalTs_base]; exact he)
  have HOK := Lib.hid hok
  clear h hR hF hO hFr hI hts hk hbk hy he e1 hI1 hres hok hti
  go_enter Try.func33, Try.ntmps33
  refine wp_letter (fun Q hQ => ?_)
  have HQ := Lib.hid hQ
  clear hQ
  go_wp2_with fail
  refine HTK.out.mono ?_
  rintro e w1 ⟨rfl, hH1, hw1⟩
  have HH1 := Lib.hid hH1
  have hW1 : Wr (fun b => b = cb) w w1 := (Wr.of_below (F := fun b => b = cb) (below1 w (.cells #[.int .i64 2, .int .i64 dst, .int .i64 (sz : Int), .int .i64 fn, .slice A n cap] 71))).trans hw1 (fun _ h => Or.inl h)
  have HW1 := Lib.hid hW1
  have hzw1 := hW1.size
  have hx1 := hw1.size
  simp only [World.size_alloc] at hx1
  have hne0 : ¬ w.heap.size = cb := by omega
  have hR1 := HR.out.wr hW1 hncb (fun g hg e => (HO.out.ogv g hg).1 (e ▸ HBK.out.1))
  have HR1 := Lib.hid hR1
  have HF1 := Lib.hid (HF.out.wr hW1 (fun e => HO.out.ofb.1 (e ▸ HBK.out.1)) (fun e => HO.out.otb.1 (e ▸ HBK.out.1)) (fun g hg e => (HO.out.olv g hg).1 (e ▸ HBK.out.1)))
  have HX1 := Lib.hid (HR0.out.wr hw1 hne0)
  have hx := HX1.out
  have b4 := hx.cell (j := 4) rfl
  have hxl := hx.lt
  have p0 := hR1.row.cell (j := 0) rfl
  have hrbl := hR1.row.lt
  clear hH1 hw1 hW1 hR1 hx r0
  go_wp2_with fail
  refine (trees_hc (s := { s with steps := s.steps + 1 }) ks A n cap HH1.out HR1.out HF1.out HFD.out HTS.out.1 (HK.out.below (HW1.out.below hbs (fun k hk => by subst hk; omega)) (Nat.le_refl _)) hn).mono ?_
  intro e w2 hT
  simp only [HTS.out.2, TreesSays] at hT
  obtain ⟨pv, rfl, hown2, hb2⟩ := hT
  have hzw2 := hb2.size
  have HH2 := Lib.hid (HH1.out.below hb2)
  have HB2 := Lib.hid hb2
  have HOWN2 := Lib.hid hown2
  have HX2 := Lib.hid (HX1.out.below hb2 hxl)
  have HR2 := Lib.hid (HR1.out.below hb2)
  have HF2 := Lib.hid (HF1.out.below hb2)
  have x0 := HX2.out.cell (j := 0) rfl
  have x1 := HX2.out.cell (j := 1) rfl
  have x2 := HX2.out.cell (j := 2) rfl
  have x3 := HX2.out.cell (j := 3) rfl
  have hxl2 := HX2.out.lt
  have p2 := HR2.out.row.cell (j := 0) rfl
  have p3 := HR2.out.row.cell (j := 4) rfl
  have hrb2 := HR2.out.row.lt
  have hrb3 : rb < w2.heap.size + 1 := by omega
  have hxl3 : w.heap.size < w2.heap.size + 1 := by omega
  have HW2 := Lib.hid (HW1.out.trans (Wr.of_below (F := fun _ => False) hb2) (fun _ h => h.elim))
  clear hb2 hown2 b4 p0
  obtain ⟨va, vb, rfl⟩ : ∃ va vb, l = [va, vb] := two_of hl
  obtain ⟨g, gcap, rfl, hg0, hg1, hgv⟩ := ownsRow_vals' HOWN2.out rfl (by simp)
  obtain ⟨v0, v1⟩ := hgv 0 va rfl
  obtain ⟨v2, v3⟩ := hgv 1 vb rfl
  simp only [Nat.zero_mul, Nat.zero_add, Nat.one_mul, List.length_cons, List.length_nil] at v0 v1 v2 v3
  have hg3 : g < w2.heap.size + 1 := by omega
  have hgne : ¬ g = w2.heap.size := by omega
  clear hgv
  have HST := Lib.hid hst
  clear hst
  go_wp2_with fail
  refine still_tailq 12 (by kernel_rfl) (by kernel_rfl) ?_
  simp only [List.take_succ_cons, List.take_zero, List.drop_succ_cons, List.drop_zero]
  repeat (go_big_quiet_step (fail))
  refine wpQuiet_nil ?_
  go_wp2_with fail
  refine (store_hc sz va vb (HH2.out.below (below1 w2 (.cells #[.int .i64 0, .int .i64 0] 55)).drew) (HOK.out va (by simp)) (HOK.out vb (by simp)) hsz).mono ?_
  intro e w3 hS
  have hst2 : storeF s.mem (sz : Int) va vb = some M := HST.out
  simp only [StoredAt, hst2] at hS
  obtain ⟨rfl, hH3, hw3⟩ := hS
  have HH3 := Lib.hid hH3
  have HW3 := Lib.hid hw3
  clear hH3 hw3 hst2
  go_wp2_with fail
  refine HQ.out _ _ _ ?_
  exact bodyPost_ret (v := .bool true) (by simp [results, Try.results33, go_sem]) rfl ⟨rfl, own, fun _ h => h, fun _ h => Or.inl h, HH3.out, fun _ => (HF2.out.below (below1 w2 (.cells #[.int .i64 0, .int .i64 0] 55)).drew).keep HO.out HW3.out, (((HW2.out.mono (fun i hi => Or.inl (Or.inl (hi ▸ HBK.out.1)))).trans (Wr.of_below (F := fun _ => False) (below1 w2 (.cells #[.int .i64 0, .int .i64 0] 55)).drew) (fun _ h => h.elim)).trans HW3.out (fun i hi => Or.inl (Or.inl hi)))⟩

set_option maxRecDepth 100000 in
set_option maxHeartbeats 8000000 in
theorem gstep_store_stuck (base cb hb rb fb tb : Nat) (own : Nat → Prop) (P : Value × Value × Value) (gv lv : Value) (fuel : Int) (s : St) (tp : List V) (lo : List Nat) (ng : Nat) (R : CallR) (dst fn : Int) (sz : Nat) (ks : List T) (A : Option Addr) (n cap : Nat) (w : World)
    (h : HCs w base own cb hb fuel s) (hR : GRun w rb cb hb P gv ng) (hF : GFrame w fb tb tp lv lo) (hO : GOff base own rb fb tb lv gv) (hFr : FrOk (memBase s.mem) tp lo ng) (hI : GInv fuel s) (hf : fuel ≤ 100000000) (hts : TsOk tp.length lo.length ng ks) (hk : KidsV w base ks A n) (hn : n ≤ 1000)
    (hy : (stepF fuel 1 s).1 = true) (l : List V) (he : evalTs s.mem tp lo ks = some l) (hti : TsIn ks) (hl : l.length = 2) (hsz : sz = 1 ∨ sz = 2 ∨ sz = 4 ∨ sz = 8) (hst : storeF s.mem (sz : Int) (l.getD 0 ⟨0, 0⟩) (l.getD 1 ⟨0, 0⟩) = none) :
    Calls Try.prog 33 #[.pointer (some ⟨rb, 0, none⟩), .pointer (some ⟨fb, 0, none⟩), .agg #[.int .i64 2, .int .i64 dst, .int .i64 (sz : Int), .int .i64 fn, .slice A n cap]] w fun e w' => GSays base cb hb fuel fb tb lv lo own (doesF R fuel lo s tp ⟨2, dst, (sz : Int), fn, ks⟩) w e w' := by
  obtain ⟨e1, hI1⟩ := hI.tick (by omega) hy
  rw [doesF_yes hy e1 he]
  have hres : actF R { s with steps := s.steps + 1 } tp ⟨2, dst, (sz : Int), fn, ks⟩ l = (match storeF s.mem (sz : Int) (l.getD 0 ⟨0, 0⟩) (l.getD 1 ⟨0, 0⟩) with | some M => (true, { s with steps := s.steps + 1, mem := M }, tp) | none => (false, { s with steps := s.steps + 1, kind := 3 }, tp)) := by
    unfold actF
    rw [if_neg (show ¬ (2 : Int) = 1 by decide), if_pos rfl]
    rfl
  rw [hres, hst]
  have hbk := h.blocks
  have hcb := hbk.2.2 cb hbk.1
  have hrb := hR.row.lt
  have r0 := hR.row.cell (j := 0) rfl
  have hncb : rb ≠ cb := fun e => hO.orb.1 (e ▸ hbk.1)
  have HTK := Lib.hid (tick_hc (w := w.alloc (.cells #[.int .i64 2, .int .i64 dst, .int .i64 (sz : Int), .int .i64 fn, .slice A n cap] 71)) 1 (h.below (below1 _ _)) hI.kind hf hI.lo hI.hi (by omega) (by omega))
  have HR := Lib.hid hR
  have HF := Lib.hid hF
  have HO := Lib.hid hO
  have HBK := Lib.hid hbk
  have hrb1 : rb < w.heap.size + 1 := by omega
  have HR0 := Lib.hid (Row.new w #[.int .i64 2, .int .i64 dst, .int .i64 (sz : Int), .int .i64 fn, .slice A n cap] 71)
  rw [hy, e1] at HTK
  have HFD := Lib.hid hFr
  have HTS := Lib.hid (And.intro hts he)
  have HK := Lib.hid hk
  have hbs : base ≤ w.heap.size := by omega
  have hok := evals_ok hI.mem hFr ks hti hts (by rw [evalTs_base]; exact he)
  have HOK := Lib.hid hok
  clear h hR hF hO hFr hI hts hk hbk hy he e1 hI1 hres hok hti
  go_enter Try.func33, Try.ntmps33
  refine wp_letter (fun Q hQ => ?_)
  have HQ := Lib.hid hQ
  clear hQ
  go_wp2_with fail
  refine HTK.out.mono ?_
  rintro e w1 ⟨rfl, hH1, hw1⟩
  have HH1 := Lib.hid hH1
  have hW1 : Wr (fun b => b = cb) w w1 := (Wr.of_below (F := fun b => b = cb) (below1 w (.cells #[.int .i64 2, .int .i64 dst, .int .i64 (sz : Int), .int .i64 fn, .slice A n cap] 71))).trans hw1 (fun _ h => Or.inl h)
  have HW1 := Lib.hid hW1
  have hzw1 := hW1.size
  have hx1 := hw1.size
  simp only [World.size_alloc] at hx1
  have hne0 : ¬ w.heap.size = cb := by omega
  have hR1 := HR.out.wr hW1 hncb (fun g hg e => (HO.out.ogv g hg).1 (e ▸ HBK.out.1))
  have HR1 := Lib.hid hR1
  have HF1 := Lib.hid (HF.out.wr hW1 (fun e => HO.out.ofb.1 (e ▸ HBK.out.1)) (fun e => HO.out.otb.1 (e ▸ HBK.out.1)) (fun g hg e => (HO.out.olv g hg).1 (e ▸ HBK.out.1)))
  have HX1 := Lib.hid (HR0.out.wr hw1 hne0)
  have hx := HX1.out
  have b4 := hx.cell (j := 4) rfl
  have hxl := hx.lt
  have p0 := hR1.row.cell (j := 0) rfl
  have hrbl := hR1.row.lt
  clear hH1 hw1 hW1 hR1 hx r0
  go_wp2_with fail
  refine (trees_hc (s := { s with steps := s.steps + 1 }) ks A n cap HH1.out HR1.out HF1.out HFD.out HTS.out.1 (HK.out.below (HW1.out.below hbs (fun k hk => by subst hk; omega)) (Nat.le_refl _)) hn).mono ?_
  intro e w2 hT
  simp only [HTS.out.2, TreesSays] at hT
  obtain ⟨pv, rfl, hown2, hb2⟩ := hT
  have hzw2 := hb2.size
  have HH2 := Lib.hid (HH1.out.below hb2)
  have HB2 := Lib.hid hb2
  have HOWN2 := Lib.hid hown2
  have HX2 := Lib.hid (HX1.out.below hb2 hxl)
  have HR2 := Lib.hid (HR1.out.below hb2)
  have HF2 := Lib.hid (HF1.out.below hb2)
  have x0 := HX2.out.cell (j := 0) rfl
  have x1 := HX2.out.cell (j := 1) rfl
  have x2 := HX2.out.cell (j := 2) rfl
  have x3 := HX2.out.cell (j := 3) rfl
  have hxl2 := HX2.out.lt
  have p2 := HR2.out.row.cell (j := 0) rfl
  have p3 := HR2.out.row.cell (j := 4) rfl
  have hrb2 := HR2.out.row.lt
  have hrb3 : rb < w2.heap.size + 1 := by omega
  have hxl3 : w.heap.size < w2.heap.size + 1 := by omega
  have HW2 := Lib.hid (HW1.out.trans (Wr.of_below (F := fun _ => False) hb2) (fun _ h => h.elim))
  clear hb2 hown2 b4 p0
  obtain ⟨va, vb, rfl⟩ : ∃ va vb, l = [va, vb] := two_of hl
  obtain ⟨g, gcap, rfl, hg0, hg1, hgv⟩ := ownsRow_vals' HOWN2.out rfl (by simp)
  obtain ⟨v0, v1⟩ := hgv 0 va rfl
  obtain ⟨v2, v3⟩ := hgv 1 vb rfl
  simp only [Nat.zero_mul, Nat.zero_add, Nat.one_mul, List.length_cons, List.length_nil] at v0 v1 v2 v3
  have hg3 : g < w2.heap.size + 1 := by omega
  have hgne : ¬ g = w2.heap.size := by omega
  clear hgv
  have HST := Lib.hid hst
  clear hst
  go_wp2_with fail
  refine still_tailq 12 (by kernel_rfl) (by kernel_rfl) ?_
  simp only [List.take_succ_cons, List.take_zero, List.drop_succ_cons, List.drop_zero]
  repeat (go_big_quiet_step (fail))
  refine wpQuiet_nil ?_
  go_wp2_with fail
  refine (store_hc sz va vb (HH2.out.below (below1 w2 (.cells #[.int .i64 0, .int .i64 0] 55)).drew) (HOK.out va (by simp)) (HOK.out vb (by simp)) hsz).mono ?_
  intro e w3 hS
  have hst2 : storeF s.mem (sz : Int) va vb = none := HST.out
  simp only [StoredAt, hst2] at hS
  obtain ⟨rfl, hH3, hw3⟩ := hS
  have hz3 := hw3.size
  simp only [World.size_drew, World.size_alloc] at hz3
  have HH3 := Lib.hid hH3
  have HW3 := Lib.hid hw3
  have hR3 := (HR2.out.below (below1 w2 (.cells #[.int .i64 0, .int .i64 0] 55)).drew).wr hw3 HO.out.orb.1 (fun g hg => (HO.out.ogv g hg).1)
  have k0 := hR3.row.cell (j := 0) rfl
  have kl := hR3.row.lt
  clear hH3 hw3 hst2 hR3
  go_wp2_with fail
  refine (stuck_hc HH3.out).mono ?_
  rintro e w4 ⟨rfl, hH4, hw4⟩
  have HH4 := Lib.hid hH4
  have HW4 := Lib.hid hw4
  clear hH4 hw4
  go_wp2_with fail
  refine HQ.out _ _ _ ?_
  exact bodyPost_ret (v := .bool false) (by simp [results, Try.results33, go_sem]) rfl ⟨rfl, own, fun _ h => h, fun _ h => Or.inl h, HH4.out, fun h => (by cases h), ((((HW2.out.mono (fun i hi => Or.inl (Or.inl (hi ▸ HBK.out.1)))).trans (Wr.of_below (F := fun _ => False) (below1 w2 (.cells #[.int .i64 0, .int .i64 0] 55)).drew) (fun _ h => h.elim)).trans HW3.out (fun i hi => Or.inl (Or.inl hi)))).trans HW4.out (fun i hi => Or.inl (Or.inl (hi ▸ HBK.out.1)))⟩
end Go.Proofs.Ytikbdplllopjlaa
