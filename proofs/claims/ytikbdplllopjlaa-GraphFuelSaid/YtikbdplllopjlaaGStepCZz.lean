/- The graph's machine: a step: a number is put out; an exit; a store. Conditions: as stated. -/
import Derived.Test.YtikbdplllopjlaaGStepBZz
set_option linter.unusedVariables false
set_option linter.unusedSimpArgs false
namespace Go.Proofs.Ytikbdplllopjlaa
open Go.RowKit

theorem GFrame.keep {w w' : World} {base fb tb rb : Nat} {own : Nat → Prop} {tp : List V} {lv gv : Value} {lo : List Nat} (h : GFrame w fb tb tp lv lo) (hO : GOff base own rb fb tb lv gv) (hw : Wr own w w') : GFrame w' fb tb tp lv lo :=
  h.wr hw hO.ofb.1 hO.otb.1 (fun g hg => (hO.olv g hg).1)
theorem int_zero {w : World} {b o : Nat} {v : V} (h : w.cell? ⟨b, o, none⟩ = some (.int .i64 v.obj)) (hv : v.obj = 0) : w.cell? ⟨b, o, none⟩ = some (.int .i64 0) := by
  rw [hv] at h
  exact h
theorem int_zero0 {w : World} {b : Nat} {v : V} (h : w.cell? ⟨b, 0, none⟩ = some (.int .i64 v.obj)) (hv : v.obj = 0) : w.cell? ⟨b, 0, none⟩ = some (.int .i64 0) := int_zero h hv

set_option maxRecDepth 100000 in
set_option maxHeartbeats 8000000 in
theorem gstep_put (base cb hb rb fb tb : Nat) (own : Nat → Prop) (P : Value × Value × Value) (gv lv : Value) (fuel : Int) (s : St) (tp : List V) (lo : List Nat) (ng : Nat) (R : CallR) (dst size fn : Int) (ks : List T) (A : Option Addr) (n cap : Nat) (w : World)
    (h : HCs w base own cb hb fuel s) (hR : GRun w rb cb hb P gv ng) (hF : GFrame w fb tb tp lv lo) (hO : GOff base own rb fb tb lv gv) (hFr : FrOk (memBase s.mem) tp lo ng) (hI : GInv fuel s) (hf : fuel ≤ 100000000) (hts : TsOk tp.length lo.length ng ks) (hk : KidsV w base ks A n) (hn : n ≤ 1000)
    (hy : (stepF fuel 1 s).1 = true) (l : List V) (he : evalTs s.mem tp lo ks = some l) (hl : l.length = 1) (hv : (l.getD 0 ⟨0, 0⟩).obj = 0) :
    Calls Try.prog 33 #[.pointer (some ⟨rb, 0, none⟩), .pointer (some ⟨fb, 0, none⟩), .agg #[.int .i64 4, .int .i64 dst, .int .i64 size, .int .i64 fn, .slice A n cap]] w fun e w' => GSays base cb hb fuel fb tb lv lo own (doesF R fuel lo s tp ⟨4, dst, size, fn, ks⟩) w e w' := by
  obtain ⟨e1, hI1⟩ := hI.tick (by omega) hy
  rw [doesF_yes hy e1 he]
  have hres : actF R { s with steps := s.steps + 1 } tp ⟨4, dst, size, fn, ks⟩ l = (true, { s with steps := s.steps + 1, out := s.out ++ [(l.getD 0 ⟨0, 0⟩).n] }, tp) := by
    unfold actF
    rw [if_neg (show ¬ (4 : Int) = 1 by decide), if_neg (show ¬ (4 : Int) = 2 by decide), if_neg (show ¬ (4 : Int) = 3 by decide), if_neg (show ¬ (4 : Int) = 5 by decide), if_neg (by omega), if_neg (show ¬ (4 : Int) = 6 by decide)]
  rw [hres]
  have hout : s.out.length ≤ 1000000000 := by have := hI.outs; have := hI.hi; omega
  have hbk := h.blocks
  have hcb := hbk.2.2 cb hbk.1
  have hrb := hR.row.lt
  have r0 := hR.row.cell (j := 0) rfl
  have hncb : rb ≠ cb := fun e => hO.orb.1 (e ▸ hbk.1)
  have HTK := Lib.hid (tick_hc (w := w.alloc (.cells #[.int .i64 4, .int .i64 dst, .int .i64 size, .int .i64 fn, .slice A n cap] 71)) 1 (h.below (below1 _ _)) hI.kind hf hI.lo hI.hi (by omega) (by omega))
  have HR := Lib.hid hR
  have HF := Lib.hid hF
  have HO := Lib.hid hO
  have HBK := Lib.hid hbk
  have hrb1 : rb < w.heap.size + 1 := by omega
  have HR0 := Lib.hid (Row.new w #[.int .i64 4, .int .i64 dst, .int .i64 size, .int .i64 fn, .slice A n cap] 71)
  rw [hy, e1] at HTK
  have HFD := Lib.hid hFr
  have HTS := Lib.hid (And.intro hts he)
  have HK := Lib.hid hk
  have hbs : base ≤ w.heap.size := by omega
  clear h hR hF hO hFr hI hts hk hbk hy he e1 hI1 hres
  go_enter Try.func33, Try.ntmps33
  refine wp_letter (fun Q hQ => ?_)
  have HQ := Lib.hid hQ
  clear hQ
  go_wp2_with fail
  refine HTK.out.mono ?_
  rintro e w1 ⟨rfl, hH1, hw1⟩
  have HH1 := Lib.hid hH1
  have hW1 : Wr (fun b => b = cb) w w1 := (Wr.of_below (F := fun b => b = cb) (below1 w (.cells #[.int .i64 4, .int .i64 dst, .int .i64 size, .int .i64 fn, .slice A n cap] 71))).trans hw1 (fun _ h => Or.inl h)
  have HW1 := Lib.hid hW1
  have hzw1 := hW1.size
  have hx1 := hw1.size
  simp only [World.size_alloc] at hx1
  have hne0 : ¬ w.heap.size = cb := by omega
  have hR1 := HR.out.wr hW1 hncb (fun g hg e => (HO.out.ogv g hg).1 (e ▸ HBK.out.1))
  have HR1 := Lib.hid hR1
  have HF1 := Lib.hid (HF.out.wr hW1 (fun e => HO.out.ofb.1 (e ▸ HBK.out.1)) (fun e => HO.out.otb.1 (e ▸ HBK.out.1)) (fun g hg e => (HO.out.olv g hg).1 (e ▸ HBK.out.1)))
  have HX1 := Lib.hid (HR0.out.wr hw1 hne0)
  have hx := HX1.out
  have b4 := hx.cell (j := 4) rfl
  have hxl := hx.lt
  have p0 := hR1.row.cell (j := 0) rfl
  have hrbl := hR1.row.lt
  clear hH1 hw1 hW1 hR1 hx r0
  go_wp2_with fail
  refine (trees_hc (s := { s with steps := s.steps + 1 }) ks A n cap HH1.out HR1.out HF1.out HFD.out HTS.out.1 (HK.out.below (HW1.out.below hbs (fun k hk => by subst hk; omega)) (Nat.le_refl _)) hn).mono ?_
  intro e w2 hT
  simp only [HTS.out.2, TreesSays] at hT
  obtain ⟨pv, rfl, hown2, hb2⟩ := hT
  have hzw2 := hb2.size
  have HH2 := Lib.hid (HH1.out.below hb2)
  have HB2 := Lib.hid hb2
  have HOWN2 := Lib.hid hown2
  have HX2 := Lib.hid (HX1.out.below hb2 hxl)
  have HR2 := Lib.hid (HR1.out.below hb2)
  have HF2 := Lib.hid (HF1.out.below hb2)
  have x0 := HX2.out.cell (j := 0) rfl
  have x1 := HX2.out.cell (j := 1) rfl
  have x2 := HX2.out.cell (j := 2) rfl
  have x3 := HX2.out.cell (j := 3) rfl
  have hxl2 := HX2.out.lt
  have p2 := HR2.out.row.cell (j := 0) rfl
  have p3 := HR2.out.row.cell (j := 4) rfl
  have hrb2 := HR2.out.row.lt
  have hrb3 : rb < w2.heap.size + 1 := by omega
  have hxl3 : w.heap.size < w2.heap.size + 1 := by omega
  have HW2 := Lib.hid (HW1.out.trans (Wr.of_below (F := fun _ => False) hb2) (fun _ h => h.elim))
  clear hb2 hown2 b4 p0
  obtain ⟨v, rfl⟩ : ∃ v, l = [v] := one_of hl
  obtain ⟨g, gcap, rfl, hg0, hg1, hgv⟩ := ownsRow_vals' HOWN2.out rfl (by simp)
  obtain ⟨v0, v1⟩ := hgv 0 v rfl
  simp only [Nat.zero_mul, Nat.zero_add, List.length_singleton] at v0 v1
  have hg3 : g < w2.heap.size + 1 := by omega
  have hgne : ¬ g = w2.heap.size := by omega
  clear hgv
  have v0' := int_zero v0 hv
  clear v0
  go_wp2_with fail
  refine still_tailq 7 (by kernel_rfl) (by kernel_rfl) ?_
  simp only [List.take_succ_cons, List.take_zero, List.drop_succ_cons, List.drop_zero]
  repeat (go_big_quiet_step (fail))
  refine wpQuiet_nil ?_
  go_wp2_with fail
  refine (put_hc v.n (HH2.out.below (below1 w2 (.cells #[.int .i64 0, .int .i64 0] 55)).drew) hout).mono ?_
  rintro e w3 ⟨rfl, own', h1, h2, h3, h4⟩
  have hz4 := h4.size
  simp only [World.size_drew, World.size_alloc] at hz4
  have HH3 := Lib.hid (And.intro h1 (And.intro h2 h3))
  have HW3 := Lib.hid h4
  clear h1 h2 h3 h4
  go_wp2_with fail
  refine HQ.out _ _ _ ?_
  refine bodyPost_ret (v := .bool true) (by simp [results, Try.results33, go_sem]) rfl ⟨rfl, own', HH3.out.1, fun k hk => ?_, HH3.out.2.2, fun _ => (HF2.out.below (below1 w2 (.cells #[.int .i64 0, .int .i64 0] 55)).drew).keep HO.out HW3.out, ?_⟩
  · rcases HH3.out.2.1 k hk with h' | h'
    · exact Or.inl h'
    · simp only [World.size_drew, World.size_alloc] at h'; exact Or.inr (by omega)
  · exact (((HW2.out.mono (fun i hi => Or.inl (Or.inl (hi ▸ HBK.out.1)))).trans (Wr.of_below (F := fun _ => False) (below1 w2 (.cells #[.int .i64 0, .int .i64 0] 55)).drew) (fun _ h => h.elim)).trans HW3.out (fun i hi => Or.inl (Or.inl hi)))

set_option maxRecDepth 100000 in
set_option maxHeartbeats 8000000 in
theorem gstep_put_stuck (base cb hb rb fb tb : Nat) (own : Nat → Prop) (P : Value × Value × Value) (gv lv : Value) (fuel : Int) (s : St) (tp : List V) (lo : List Nat) (ng : Nat) (R : CallR) (dst size fn : Int) (ks : List T) (A : Option Addr) (n cap : Nat) (w : World)
    (h : HCs w base own cb hb fuel s) (hR : GRun w rb cb hb P gv ng) (hF : GFrame w fb tb tp lv lo) (hO : GOff base own rb fb tb lv gv) (hFr : FrOk (memBase s.mem) tp lo ng) (hI : GInv fuel s) (hf : fuel ≤ 100000000) (hts : TsOk tp.length lo.length ng ks) (hk : KidsV w base ks A n) (hn : n ≤ 1000)
    (hy : (stepF fuel 1 s).1 = true) (l : List V) (he : evalTs s.mem tp lo ks = some l) (hl : l.length = 1) (hv : (l.getD 0 ⟨0, 0⟩).obj ≠ 0) :
    Calls Try.prog 33 #[.pointer (some ⟨rb, 0, none⟩), .pointer (some ⟨fb, 0, none⟩), .agg #[.int .i64 4, .int .i64 dst, .int .i64 size, .int .i64 fn, .slice A n cap]] w fun e w' => GSays base cb hb fuel fb tb lv lo own (doesF R fuel lo s tp ⟨4, dst, size, fn, ks⟩) w e w' := by
  obtain ⟨e1, hI1⟩ := hI.tick (by omega) hy
  rw [doesF_yes hy e1 he]
  have hres : actF R { s with steps := s.steps + 1 } tp ⟨4, dst, size, fn, ks⟩ l = (false, { s with steps := s.steps + 1, kind := 3 }, tp) := by
    unfold actF
    rw [if_neg (show ¬ (4 : Int) = 1 by decide), if_neg (show ¬ (4 : Int) = 2 by decide), if_neg (show ¬ (4 : Int) = 3 by decide), if_neg (show ¬ (4 : Int) = 5 by decide), if_pos (by omega)]
  rw [hres]
  have hbk := h.blocks
  have hcb := hbk.2.2 cb hbk.1
  have hrb := hR.row.lt
  have r0 := hR.row.cell (j := 0) rfl
  have hncb : rb ≠ cb := fun e => hO.orb.1 (e ▸ hbk.1)
  have HTK := Lib.hid (tick_hc (w := w.alloc (.cells #[.int .i64 4, .int .i64 dst, .int .i64 size, .int .i64 fn, .slice A n cap] 71)) 1 (h.below (below1 _ _)) hI.kind hf hI.lo hI.hi (by omega) (by omega))
  have HR := Lib.hid hR
  have HF := Lib.hid hF
  have HO := Lib.hid hO
  have HBK := Lib.hid hbk
  have hrb1 : rb < w.heap.size + 1 := by omega
  have HR0 := Lib.hid (Row.new w #[.int .i64 4, .int .i64 dst, .int .i64 size, .int .i64 fn, .slice A n cap] 71)
  rw [hy, e1] at HTK
  have HFD := Lib.hid hFr
  have HTS := Lib.hid (And.intro hts he)
  have HK := Lib.hid hk
  have hbs : base ≤ w.heap.size := by omega
  clear h hR hF hO hFr hI hts hk hbk hy he e1 hI1 hres
  go_enter Try.func33, Try.ntmps33
  refine wp_letter (fun Q hQ => ?_)
  have HQ := Lib.hid hQ
  clear hQ
  go_wp2_with fail
  refine HTK.out.mono ?_
  rintro e w1 ⟨rfl, hH1, hw1⟩
  have HH1 := Lib.hid hH1
  have hW1 : Wr (fun b => b = cb) w w1 := (Wr.of_below (F := fun b => b = cb) (below1 w (.cells #[.int .i64 4, .int .i64 dst, .int .i64 size, .int .i64 fn, .slice A n cap] 71))).trans hw1 (fun _ h => Or.inl h)
  have HW1 := Lib.hid hW1
  have hzw1 := hW1.size
  have hx1 := hw1.size
  simp only [World.size_alloc] at hx1
  have hne0 : ¬ w.heap.size = cb := by omega
  have hR1 := HR.out.wr hW1 hncb (fun g hg e => (HO.out.ogv g hg).1 (e ▸ HBK.out.1))
  have HR1 := Lib.hid hR1
  have HF1 := Lib.hid (HF.out.wr hW1 (fun e => HO.out.ofb.1 (e ▸ HBK.out.1)) (fun e => HO.out.otb.1 (e ▸ HBK.out.1)) (fun g hg e => (HO.out.olv g hg).1 (e ▸ HBK.out.1)))
  have HX1 := Lib.hid (HR0.out.wr hw1 hne0)
  have hx := HX1.out
  have b4 := hx.cell (j := 4) rfl
  have hxl := hx.lt
  have p0 := hR1.row.cell (j := 0) rfl
  have hrbl := hR1.row.lt
  clear hH1 hw1 hW1 hR1 hx r0
  go_wp2_with fail
  refine (trees_hc (s := { s with steps := s.steps + 1 }) ks A n cap HH1.out HR1.out HF1.out HFD.out HTS.out.1 (HK.out.below (HW1.out.below hbs (fun k hk => by subst hk; omega)) (Nat.le_refl _)) hn).mono ?_
  intro e w2 hT
  simp only [HTS.out.2, TreesSays] at hT
  obtain ⟨pv, rfl, hown2, hb2⟩ := hT
  have hzw2 := hb2.size
  have HH2 := Lib.hid (HH1.out.below hb2)
  have HB2 := Lib.hid hb2
  have HOWN2 := Lib.hid hown2
  have HX2 := Lib.hid (HX1.out.below hb2 hxl)
  have HR2 := Lib.hid (HR1.out.below hb2)
  have HF2 := Lib.hid (HF1.out.below hb2)
  have x0 := HX2.out.cell (j := 0) rfl
  have x1 := HX2.out.cell (j := 1) rfl
  have x2 := HX2.out.cell (j := 2) rfl
  have x3 := HX2.out.cell (j := 3) rfl
  have hxl2 := HX2.out.lt
  have p2 := HR2.out.row.cell (j := 0) rfl
  have p3 := HR2.out.row.cell (j := 4) rfl
  have hrb2 := HR2.out.row.lt
  have hrb3 : rb < w2.heap.size + 1 := by omega
  have hxl3 : w.heap.size < w2.heap.size + 1 := by omega
  have HW2 := Lib.hid (HW1.out.trans (Wr.of_below (F := fun _ => False) hb2) (fun _ h => h.elim))
  clear hb2 hown2 b4 p0
  obtain ⟨v, rfl⟩ : ∃ v, l = [v] := one_of hl
  obtain ⟨g, gcap, rfl, hg0, hg1, hgv⟩ := ownsRow_vals' HOWN2.out rfl (by simp)
  obtain ⟨v0, v1⟩ := hgv 0 v rfl
  simp only [Nat.zero_mul, Nat.zero_add, List.length_singleton] at v0 v1
  have hg3 : g < w2.heap.size + 1 := by omega
  have hgne : ¬ g = w2.heap.size := by omega
  clear hgv
  go_wp2_with fail
  refine still_tailq 7 (by kernel_rfl) (by kernel_rfl) ?_
  simp only [List.take_succ_cons, List.take_zero, List.drop_succ_cons, List.drop_zero]
  repeat (go_big_quiet_step (fail))
  refine wpQuiet_nil ?_
  go_wp2_with fail
  refine (putStuck_hc v (HH2.out.below (below1 w2 (.cells #[.int .i64 0, .int .i64 0] 55)).drew) hv).mono ?_
  rintro e w3 ⟨rfl, hH3, hw3⟩
  have HH3 := Lib.hid hH3
  have HW3 := Lib.hid hw3
  clear hH3 hw3
  go_wp2_with fail
  refine HQ.out _ _ _ ?_
  exact bodyPost_ret (v := .bool false) (by simp [results, Try.results33, go_sem]) rfl ⟨rfl, own, fun _ h => h, fun _ h => Or.inl h, HH3.out, fun h => (by cases h), (((HW2.out.mono (fun i hi => Or.inl (Or.inl (hi ▸ HBK.out.1)))).trans (Wr.of_below (F := fun _ => False) (below1 w2 (.cells #[.int .i64 0, .int .i64 0] 55)).drew) (fun _ h => h.elim)).trans HW3.out (fun i hi => Or.inl (Or.inl (hi ▸ HBK.out.1))))⟩

set_option maxRecDepth 100000 in
set_option maxHeartbeats 8000000 in
theorem gstep_exit (base cb hb rb fb tb : Nat) (own : Nat → Prop) (P : Value × Value × Value) (gv lv : Value) (fuel : Int) (s : St) (tp : List V) (lo : List Nat) (ng : Nat) (R : CallR) (dst size fn : Int) (ks : List T) (A : Option Addr) (n cap : Nat) (w : World)
    (h : HCs w base own cb hb fuel s) (hR : GRun w rb cb hb P gv ng) (hF : GFrame w fb tb tp lv lo) (hO : GOff base own rb fb tb lv gv) (hFr : FrOk (memBase s.mem) tp lo ng) (hI : GInv fuel s) (hf : fuel ≤ 100000000) (hts : TsOk tp.length lo.length ng ks) (hk : KidsV w base ks A n) (hn : n ≤ 1000)
    (hy : (stepF fuel 1 s).1 = true) (l : List V) (he : evalTs s.mem tp lo ks = some l) (hl : l.length = 1) :
    Calls Try.prog 33 #[.pointer (some ⟨rb, 0, none⟩), .pointer (some ⟨fb, 0, none⟩), .agg #[.int .i64 6, .int .i64 dst, .int .i64 size, .int .i64 fn, .slice A n cap]] w fun e w' => GSays base cb hb fuel fb tb lv lo own (doesF R fuel lo s tp ⟨6, dst, size, fn, ks⟩) w e w' := by
  obtain ⟨e1, hI1⟩ := hI.tick (by omega) hy
  rw [doesF_yes hy e1 he]
  have hres : actF R { s with steps := s.steps + 1 } tp ⟨6, dst, size, fn, ks⟩ l = (false, (if (l.getD 0 ⟨0, 0⟩).obj > 0 then { s with steps := s.steps + 1, kind := 3 } else { s with steps := s.steps + 1, code := (l.getD 0 ⟨0, 0⟩).n, kind := 1 }), tp) := by
    unfold actF
    rw [if_neg (show ¬ (6 : Int) = 1 by decide), if_neg (show ¬ (6 : Int) = 2 by decide), if_neg (show ¬ (6 : Int) = 3 by decide), if_neg (show ¬ (6 : Int) = 5 by decide)]
    split
    · rfl
    · rw [if_pos rfl]
  rw [hres]
  have hbk := h.blocks
  have hcb := hbk.2.2 cb hbk.1
  have hrb := hR.row.lt
  have r0 := hR.row.cell (j := 0) rfl
  have hncb : rb ≠ cb := fun e => hO.orb.1 (e ▸ hbk.1)
  have HTK := Lib.hid (tick_hc (w := w.alloc (.cells #[.int .i64 6, .int .i64 dst, .int .i64 size, .int .i64 fn, .slice A n cap] 71)) 1 (h.below (below1 _ _)) hI.kind hf hI.lo hI.hi (by omega) (by omega))
  have HR := Lib.hid hR
  have HF := Lib.hid hF
  have HO := Lib.hid hO
  have HBK := Lib.hid hbk
  have hrb1 : rb < w.heap.size + 1 := by omega
  have HR0 := Lib.hid (Row.new w #[.int .i64 6, .int .i64 dst, .int .i64 size, .int .i64 fn, .slice A n cap] 71)
  rw [hy, e1] at HTK
  have HFD := Lib.hid hFr
  have HTS := Lib.hid (And.intro hts he)
  have HK := Lib.hid hk
  have hbs : base ≤ w.heap.size := by omega
  clear h hR hF hO hFr hI hts hk hbk hy he e1 hI1 hres
  go_enter Try.func33, Try.ntmps33
  refine wp_letter (fun Q hQ => ?_)
  have HQ := Lib.hid hQ
  clear hQ
  go_wp2_with fail
  refine HTK.out.mono ?_
  rintro e w1 ⟨rfl, hH1, hw1⟩
  have HH1 := Lib.hid hH1
  have hW1 : Wr (fun b => b = cb) w w1 := (Wr.of_below (F := fun b => b = cb) (below1 w (.cells #[.int .i64 6, .int .i64 dst, .int .i64 size, .int .i64 fn, .slice A n cap] 71))).trans hw1 (fun _ h => Or.inl h)
  have HW1 := Lib.hid hW1
  have hzw1 := hW1.size
  have hx1 := hw1.size
  simp only [World.size_alloc] at hx1
  have hne0 : ¬ w.heap.size = cb := by omega
  have hR1 := HR.out.wr hW1 hncb (fun g hg e => (HO.out.ogv g hg).1 (e ▸ HBK.out.1))
  have HR1 := Lib.hid hR1
  have HF1 := Lib.hid (HF.out.wr hW1 (fun e => HO.out.ofb.1 (e ▸ HBK.out.1)) (fun e => HO.out.otb.1 (e ▸ HBK.out.1)) (fun g hg e => (HO.out.olv g hg).1 (e ▸ HBK.out.1)))
  have HX1 := Lib.hid (HR0.out.wr hw1 hne0)
  have hx := HX1.out
  have b4 := hx.cell (j := 4) rfl
  have hxl := hx.lt
  have p0 := hR1.row.cell (j := 0) rfl
  have hrbl := hR1.row.lt
  clear hH1 hw1 hW1 hR1 hx r0
  go_wp2_with fail
  refine (trees_hc (s := { s with steps := s.steps + 1 }) ks A n cap HH1.out HR1.out HF1.out HFD.out HTS.out.1 (HK.out.below (HW1.out.below hbs (fun k hk => by subst hk; omega)) (Nat.le_refl _)) hn).mono ?_
  intro e w2 hT
  simp only [HTS.out.2, TreesSays] at hT
  obtain ⟨pv, rfl, hown2, hb2⟩ := hT
  have hzw2 := hb2.size
  have HH2 := Lib.hid (HH1.out.below hb2)
  have HB2 := Lib.hid hb2
  have HOWN2 := Lib.hid hown2
  have HX2 := Lib.hid (HX1.out.below hb2 hxl)
  have HR2 := Lib.hid (HR1.out.below hb2)
  have HF2 := Lib.hid (HF1.out.below hb2)
  have x0 := HX2.out.cell (j := 0) rfl
  have x1 := HX2.out.cell (j := 1) rfl
  have x2 := HX2.out.cell (j := 2) rfl
  have x3 := HX2.out.cell (j := 3) rfl
  have hxl2 := HX2.out.lt
  have p2 := HR2.out.row.cell (j := 0) rfl
  have p3 := HR2.out.row.cell (j := 4) rfl
  have hrb2 := HR2.out.row.lt
  have hrb3 : rb < w2.heap.size + 1 := by omega
  have hxl3 : w.heap.size < w2.heap.size + 1 := by omega
  have HW2 := Lib.hid (HW1.out.trans (Wr.of_below (F := fun _ => False) hb2) (fun _ h => h.elim))
  clear hb2 hown2 b4 p0
  obtain ⟨v, rfl⟩ : ∃ v, l = [v] := one_of hl
  obtain ⟨g, gcap, rfl, hg0, hg1, hgv⟩ := ownsRow_vals' HOWN2.out rfl (by simp)
  obtain ⟨v0, v1⟩ := hgv 0 v rfl
  simp only [Nat.zero_mul, Nat.zero_add, List.length_singleton] at v0 v1
  have hg3 : g < w2.heap.size + 1 := by omega
  have hgne : ¬ g = w2.heap.size := by omega
  clear hgv
  go_wp2_with fail
  refine still_tailq 7 (by kernel_rfl) (by kernel_rfl) ?_
  simp only [List.take_succ_cons, List.take_zero, List.drop_succ_cons, List.drop_zero]
  repeat (go_big_quiet_step (fail))
  refine wpQuiet_nil ?_
  go_wp2_with fail
  refine (exit_hc v (HH2.out.below (below1 w2 (.cells #[.int .i64 0, .int .i64 0] 55)).drew)).mono ?_
  rintro e w3 ⟨rfl, hH3, hw3⟩
  have HH3 := Lib.hid hH3
  have HW3 := Lib.hid hw3
  clear hH3 hw3
  go_wp2_with fail
  refine HQ.out _ _ _ ?_
  exact bodyPost_ret (v := .bool false) (by simp [results, Try.results33, go_sem]) rfl ⟨rfl, own, fun _ h => h, fun _ h => Or.inl h, HH3.out, fun h => (by cases h), (((HW2.out.mono (fun i hi => Or.inl (Or.inl (hi ▸ HBK.out.1)))).trans (Wr.of_below (F := fun _ => False) (below1 w2 (.cells #[.int .i64 0, .int .i64 0] 55)).drew) (fun _ h => h.elim)).trans HW3.out (fun i hi => Or.inl (Or.inl (hi ▸ HBK.out.1))))⟩
end Go.Proofs.Ytikbdplllopjlaa
