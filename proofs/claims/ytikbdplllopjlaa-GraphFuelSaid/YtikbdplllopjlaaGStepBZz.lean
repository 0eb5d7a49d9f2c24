/- The graph's machine: a step: a temporary is set; what comes in is read. Conditions: as stated. -/
import Derived.Test.YtikbdplllopjlaaQ07Zz
set_option linter.unusedVariables false
set_option linter.unusedSimpArgs false
namespace Go.Proofs.Ytikbdplllopjlaa
open Go.RowKit

theorem setT_nat {tp : List V} {m : Nat} {v : V} : setT tp (m : Int) v = tp.set m v := by
  unfold setT
  rw [if_pos (by omega)]
  rfl
theorem GFrame.set {w : World} {fb tb : Nat} {tp : List V} {lv : Value} {lo : List Nat} (h : GFrame w fb tb tp lv lo) (k : Nat) (v : V) :
    GFrame ((w.setCell ⟨tb, k * 2, none⟩ (.int .i64 v.obj)).setCell ⟨tb, k * 2 + 1, none⟩ (.int .i64 v.n)) fb tb (tp.set k v) lv lo := by
  obtain ⟨h1, h2, h3, h4, h5, h6⟩ := h
  have hw := wr_pair w tb (k * 2) (k * 2 + 1) (.int .i64 v.obj) (.int .i64 v.n)
  obtain ⟨cs, hr, hv⟩ := id h2
  refine ⟨?_, h2.set k v, ownsRow_wr h3 hw h4, h4, by simpa using h5, h6⟩
  rw [List.length_set]
  exact h1.wr hw (fun e => h1.ne hr (by decide) e)
theorem gend_set {base cb hb fb tb rb : Nat} {own : Nat → Prop} {fuel : Int} {s1 : St} {tp : List V} {lv gv : Value} {lo : List Nat} {w w2 W : World} (h : HCs w2 base own cb hb fuel s1) (hF : GFrame w2 fb tb tp lv lo) (hO : GOff base own rb fb tb lv gv) (hw : Wr (fun b => b = cb) w w2) (hcb : own cb) (hb2 : Below w2.heap.size w2 W) (m : Nat) (v : V) :
    HCs ((W.setCell ⟨tb, m * 2, none⟩ (.int .i64 v.obj)).setCell ⟨tb, m * 2 + 1, none⟩ (.int .i64 v.n)) base own cb hb fuel s1 ∧ GFrame ((W.setCell ⟨tb, m * 2, none⟩ (.int .i64 v.obj)).setCell ⟨tb, m * 2 + 1, none⟩ (.int .i64 v.n)) fb tb (tp.set m v) lv lo ∧
    Wr (fun b => own b ∨ b = tb) w ((W.setCell ⟨tb, m * 2, none⟩ (.int .i64 v.obj)).setCell ⟨tb, m * 2 + 1, none⟩ (.int .i64 v.n)) := by
  have hwp := wr_pair W tb (m * 2) (m * 2 + 1) (.int .i64 v.obj) (.int .i64 v.n)
  exact ⟨(h.below hb2).wr hwp (fun k hk => (by subst hk; exact ⟨hO.otb.2, hO.otb.1⟩)), (hF.below hb2).set m v,
    ((hw.mono (fun i hi => Or.inl (Or.inl (hi ▸ hcb)))).trans (Wr.of_below (F := fun _ => False) hb2) (fun _ h => h.elim)).trans hwp (fun i hi => Or.inl (Or.inr hi))⟩
/-- Writes into blocks that are new since the step began. -/
theorem gend_new {base cb hb fb tb : Nat} {own F : Nat → Prop} {fuel : Int} {s1 : St} {tp tp0 : List V} {lv : Value} {lo : List Nat} {w w3 W : World} (h : HCs w3 base own cb hb fuel s1) (hF : GFrame w3 fb tb tp lv lo) (hF0 : GFrame w fb tb tp0 lv lo) (hown : ∀ k, own k → k < w.heap.size) (hbs : base ≤ w.heap.size)
    (hW : Wr F w3 W) (hFk : ∀ k, F k → w.heap.size ≤ k) : HCs W base own cb hb fuel s1 ∧ GFrame W fb tb tp lv lo := by
  have hl := hF0.lt
  refine ⟨h.wr hW (fun k hk => ⟨by have := hFk k hk; omega, fun ho => by have := hFk k hk; have := hown k ho; omega⟩), hF.wr hW (fun hk => by have := hFk _ hk; omega) (fun hk => by have := hFk _ hk; omega) (fun g hg hk => ?_)⟩
  obtain ⟨_, cs, hr⟩ := ownsRow_row hF0.locs hg
  have := hr.lt
  have := hFk _ hk
  omega

set_option maxRecDepth 100000 in
set_option maxHeartbeats 8000000 in
theorem gstep_set (base cb hb rb fb tb : Nat) (own : Nat → Prop) (P : Value × Value × Value) (gv lv : Value) (fuel : Int) (s : St) (tp : List V) (lo : List Nat) (ng : Nat) (R : CallR) (size fn : Int) (m : Nat) (ks : List T) (A : Option Addr) (n cap : Nat) (w : World)
    (h : HCs w base own cb hb fuel s) (hR : GRun w rb cb hb P gv ng) (hF : GFrame w fb tb tp lv lo) (hO : GOff base own rb fb tb lv gv) (hFr : FrOk (memBase s.mem) tp lo ng) (hI : GInv fuel s) (hf : fuel ≤ 100000000) (hts : TsOk tp.length lo.length ng ks) (hk : KidsV w base ks A n) (hn : n ≤ 1000)
    (hy : (stepF fuel 1 s).1 = true) (l : List V) (he : evalTs s.mem tp lo ks = some l) (hl : l.length = 1) (hmt : m < tp.length) :
    Calls Try.prog 33 #[.pointer (some ⟨rb, 0, none⟩), .pointer (some ⟨fb, 0, none⟩), .agg #[.int .i64 1, .int .i64 (m : Int), .int .i64 size, .int .i64 fn, .slice A n cap]] w fun e w' => GSays base cb hb fuel fb tb lv lo own (doesF R fuel lo s tp ⟨1, (m : Int), size, fn, ks⟩) w e w' := by
  obtain ⟨e1, hI1⟩ := hI.tick (by omega) hy
  rw [doesF_yes hy e1 he]
  have hres : actF R { s with steps := s.steps + 1 } tp ⟨1, (m : Int), size, fn, ks⟩ l = (true, { s with steps := s.steps + 1 }, tp.set m (l.getD 0 ⟨0, 0⟩)) := by
    unfold actF
    rw [if_pos rfl, setT_nat]
  rw [hres]
  have hbk := h.blocks
  have hcb := hbk.2.2 cb hbk.1
  have hrb := hR.row.lt
  have r0 := hR.row.cell (j := 0) rfl
  have hncb : rb ≠ cb := fun e => hO.orb.1 (e ▸ hbk.1)
  have HTK := Lib.hid (tick_hc (w := w.alloc (.cells #[.int .i64 1, .int .i64 (m : Int), .int .i64 size, .int .i64 fn, .slice A n cap] 71)) 1 (h.below (below1 _ _)) hI.kind hf hI.lo hI.hi (by omega) (by omega))
  have HR := Lib.hid hR
  have HF := Lib.hid hF
  have HO := Lib.hid hO
  have HBK := Lib.hid hbk
  have hrb1 : rb < w.heap.size + 1 := by omega
  have HR0 := Lib.hid (Row.new w #[.int .i64 1, .int .i64 (m : Int), .int .i64 size, .int .i64 fn, .slice A n cap] 71)
  rw [hy, e1] at HTK
  have HFD := Lib.hid hFr
  have HTS := Lib.hid (And.intro hts he)
  have HK := Lib.hid hk
  have hbs : base ≤ w.heap.size := by omega
  clear h hR hF hO hFr hI hts hk hbk hy he e1 hI1 hres
  go_enter Try.func33, Try.ntmps33
  refine wp_letter (fun Q hQ => ?_)
  have HQ := Lib.hid hQ
  clear hQ
  go_wp2_with fail
  refine HTK.out.mono ?_
  rintro e w1 ⟨rfl, hH1, hw1⟩
  have HH1 := Lib.hid hH1
  have hW1 : Wr (fun b => b = cb) w w1 := (Wr.of_below (F := fun b => b = cb) (below1 w (.cells #[.int .i64 1, .int .i64 (m : Int), .int .i64 size, .int .i64 fn, .slice A n cap] 71))).trans hw1 (fun _ h => Or.inl h)
  have HW1 := Lib.hid hW1
  have hzw1 := hW1.size
  have hx1 := hw1.size
  simp only [World.size_alloc] at hx1
  have hne0 : ¬ w.heap.size = cb := by omega
  have hR1 := HR.out.wr hW1 hncb (fun g hg e => (HO.out.ogv g hg).1 (e ▸ HBK.out.1))
  have HR1 := Lib.hid hR1
  have HF1 := Lib.hid (HF.out.wr hW1 (fun e => HO.out.ofb.1 (e ▸ HBK.out.1)) (fun e => HO.out.otb.1 (e ▸ HBK.out.1)) (fun g hg e => (HO.out.olv g hg).1 (e ▸ HBK.out.1)))
  have HX1 := Lib.hid (HR0.out.wr hw1 hne0)
  have hx := HX1.out
  have b4 := hx.cell (j := 4) rfl
  have hxl := hx.lt
  have p0 := hR1.row.cell (j := 0) rfl
  have hrbl := hR1.row.lt
  clear hH1 hw1 hW1 hR1 hx r0
  go_wp2_with fail
  refine (trees_hc (s := { s with steps := s.steps + 1 }) ks A n cap HH1.out HR1.out HF1.out HFD.out HTS.out.1 (HK.out.below (HW1.out.below hbs (fun k hk => by subst hk; omega)) (Nat.le_refl _)) hn).mono ?_
  intro e w2 hT
  simp only [HTS.out.2, TreesSays] at hT
  obtain ⟨pv, rfl, hown2, hb2⟩ := hT
  have hzw2 := hb2.size
  have HH2 := Lib.hid (HH1.out.below hb2)
  have HB2 := Lib.hid hb2
  have HOWN2 := Lib.hid hown2
  have HX2 := Lib.hid (HX1.out.below hb2 hxl)
  have HR2 := Lib.hid (HR1.out.below hb2)
  have HF2 := Lib.hid (HF1.out.below hb2)
  have x0 := HX2.out.cell (j := 0) rfl
  have x1 := HX2.out.cell (j := 1) rfl
  have x2 := HX2.out.cell (j := 2) rfl
  have x3 := HX2.out.cell (j := 3) rfl
  have hxl2 := HX2.out.lt
  have p2 := HR2.out.row.cell (j := 0) rfl
  have p3 := HR2.out.row.cell (j := 4) rfl
  have hrb2 := HR2.out.row.lt
  have hrb3 : rb < w2.heap.size + 1 := by omega
  have hxl3 : w.heap.size < w2.heap.size + 1 := by omega
  have HW2 := Lib.hid (HW1.out.trans (Wr.of_below (F := fun _ => False) hb2) (fun _ h => h.elim))
  clear hb2 hown2 b4 p0
  obtain ⟨v, rfl⟩ : ∃ v, l = [v] := one_of hl
  obtain ⟨g, gcap, rfl, hg0, hg1, hgv⟩ := ownsRow_vals' HOWN2.out rfl (by simp)
  obtain ⟨v0, v1⟩ := hgv 0 v rfl
  simp only [Nat.zero_mul, Nat.zero_add, List.length_singleton] at v0 v1
  have hg3 : g < w2.heap.size + 1 := by omega
  have hgne : ¬ g = w2.heap.size := by omega
  clear hgv
  have ft := HF2.out.row.cell (j := 0) rfl
  have hfb2 := HF2.out.row.lt
  have htb2 := HF2.out.lt.2
  obtain ⟨cs, htr, hvi⟩ := id HF2.out.temps
  have hmt2 : m < tp.length := hmt
  obtain ⟨tv0, tv1⟩ := hvi.2 m _ (List.getElem?_eq_getElem hmt2)
  have t0 := htr.cell tv0
  have t1 := htr.cell tv1
  have t2 := htr.free (m * 2)
  have t3 := htr.free (m * 2 + 1)
  have hfb3 : fb < w2.heap.size + 1 := by omega
  have htb3 : tb < w2.heap.size + 1 := by omega
  have htne : ¬ tb = w2.heap.size := by omega
  have hm0 : (0 : Int) ≤ (m : Int) := by omega
  have hm1 : (m : Int) < (tp.length : Int) := by omega
  have htpl : (tp.length : Int) ≤ 1000000 := by have := HF2.out.few; omega
  clear hvi tv0 tv1 htr
  go_wp2_with fail
  refine still_tailq 8 (by kernel_rfl) (by kernel_rfl) ?_
  simp only [List.take_succ_cons, List.take_zero, List.drop_succ_cons, List.drop_zero]
  repeat (go_big_quiet_step (fail))
  refine wpQuiet_nil ?_
  go_wp2_with fail
  refine HQ.out _ _ _ ?_
  obtain ⟨z1, z2, z3⟩ := gend_set HH2.out HF2.out HO.out HW2.out HBK.out.1 (Below.refl _ _) m v
  have hbz := (below1 ((w2.setCell ⟨tb, m * 2, none⟩ (.int .i64 v.obj)).setCell ⟨tb, m * 2 + 1, none⟩ (.int .i64 v.n)) (.cells #[.int .i64 v.obj, .int .i64 v.n] 55)).drew
  exact bodyPost_ret (v := .bool true) (by simp [results, Try.results33, go_sem]) rfl ⟨rfl, own, fun _ h => h, fun _ h => Or.inl h, z1.below hbz, fun _ => z2.below hbz, z3.trans (Wr.of_below (F := fun _ => False) hbz) (fun _ h => h.elim)⟩

set_option maxRecDepth 100000 in
set_option maxHeartbeats 8000000 in
theorem gstep_get (base cb hb rb fb tb : Nat) (own : Nat → Prop) (P : Value × Value × Value) (gv lv : Value) (fuel : Int) (s : St) (tp : List V) (lo : List Nat) (ng : Nat) (R : CallR) (size fn : Int) (m : Nat) (ks : List T) (A : Option Addr) (n cap : Nat) (w : World)
    (h : HCs w base own cb hb fuel s) (hR : GRun w rb cb hb P gv ng) (hF : GFrame w fb tb tp lv lo) (hO : GOff base own rb fb tb lv gv) (hFr : FrOk (memBase s.mem) tp lo ng) (hI : GInv fuel s) (hf : fuel ≤ 100000000) (hts : TsOk tp.length lo.length ng ks) (hk : KidsV w base ks A n) (hn : n ≤ 1000)
    (hy : (stepF fuel 1 s).1 = true) (l : List V) (he : evalTs s.mem tp lo ks = some l) (hmt : m < tp.length) :
    Calls Try.prog 33 #[.pointer (some ⟨rb, 0, none⟩), .pointer (some ⟨fb, 0, none⟩), .agg #[.int .i64 5, .int .i64 (m : Int), .int .i64 size, .int .i64 fn, .slice A n cap]] w fun e w' => GSays base cb hb fuel fb tb lv lo own (doesF R fuel lo s tp ⟨5, (m : Int), size, fn, ks⟩) w e w' := by
  obtain ⟨e1, hI1⟩ := hI.tick (by omega) hy
  rw [doesF_yes hy e1 he]
  have hres : actF R { s with steps := s.steps + 1 } tp ⟨5, (m : Int), size, fn, ks⟩ l = (true, (getF { s with steps := s.steps + 1 }).2, tp.set m ⟨0, (getF { s with steps := s.steps + 1 }).1⟩) := by
    unfold actF getF
    rw [if_neg (show ¬ (5 : Int) = 1 by decide), if_neg (show ¬ (5 : Int) = 2 by decide), if_neg (show ¬ (5 : Int) = 3 by decide), if_pos rfl]
    cases hin : s.inp <;> simp only [hin, setT_nat]
  rw [hres]
  have hbk := h.blocks
  have hcb := hbk.2.2 cb hbk.1
  have hrb := hR.row.lt
  have r0 := hR.row.cell (j := 0) rfl
  have hncb : rb ≠ cb := fun e => hO.orb.1 (e ▸ hbk.1)
  have HTK := Lib.hid (tick_hc (w := w.alloc (.cells #[.int .i64 5, .int .i64 (m : Int), .int .i64 size, .int .i64 fn, .slice A n cap] 71)) 1 (h.below (below1 _ _)) hI.kind hf hI.lo hI.hi (by omega) (by omega))
  have HR := Lib.hid hR
  have HF := Lib.hid hF
  have HO := Lib.hid hO
  have HBK := Lib.hid hbk
  have hrb1 : rb < w.heap.size + 1 := by omega
  have HR0 := Lib.hid (Row.new w #[.int .i64 5, .int .i64 (m : Int), .int .i64 size, .int .i64 fn, .slice A n cap] 71)
  rw [hy, e1] at HTK
  have HFD := Lib.hid hFr
  have HTS := Lib.hid (And.intro hts he)
  have HK := Lib.hid hk
  have hbs : base ≤ w.heap.size := by omega
  clear h hR hF hO hFr hI hts hk hbk hy he e1 hI1 hres
  go_enter Try.func33, Try.ntmps33
  refine wp_letter (fun Q hQ => ?_)
  have HQ := Lib.hid hQ
  clear hQ
  go_wp2_with fail
  refine HTK.out.mono ?_
  rintro e w1 ⟨rfl, hH1, hw1⟩
  have HH1 := Lib.hid hH1
  have hW1 : Wr (fun b => b = cb) w w1 := (Wr.of_below (F := fun b => b = cb) (below1 w (.cells #[.int .i64 5, .int .i64 (m : Int), .int .i64 size, .int .i64 fn, .slice A n cap] 71))).trans hw1 (fun _ h => Or.inl h)
  have HW1 := Lib.hid hW1
  have hzw1 := hW1.size
  have hx1 := hw1.size
  simp only [World.size_alloc] at hx1
  have hne0 : ¬ w.heap.size = cb := by omega
  have hR1 := HR.out.wr hW1 hncb (fun g hg e => (HO.out.ogv g hg).1 (e ▸ HBK.out.1))
  have HR1 := Lib.hid hR1
  have HF1 := Lib.hid (HF.out.wr hW1 (fun e => HO.out.ofb.1 (e ▸ HBK.out.1)) (fun e => HO.out.otb.1 (e ▸ HBK.out.1)) (fun g hg e => (HO.out.olv g hg).1 (e ▸ HBK.out.1)))
  have HX1 := Lib.hid (HR0.out.wr hw1 hne0)
  have hx := HX1.out
  have b4 := hx.cell (j := 4) rfl
  have hxl := hx.lt
  have p0 := hR1.row.cell (j := 0) rfl
  have hrbl := hR1.row.lt
  clear hH1 hw1 hW1 hR1 hx r0
  go_wp2_with fail
  refine (trees_hc (s := { s with steps := s.steps + 1 }) ks A n cap HH1.out HR1.out HF1.out HFD.out HTS.out.1 (HK.out.below (HW1.out.below hbs (fun k hk => by subst hk; omega)) (Nat.le_refl _)) hn).mono ?_
  intro e w2 hT
  simp only [HTS.out.2, TreesSays] at hT
  obtain ⟨pv, rfl, hown2, hb2⟩ := hT
  have hzw2 := hb2.size
  have HH2 := Lib.hid (HH1.out.below hb2)
  have HB2 := Lib.hid hb2
  have HOWN2 := Lib.hid hown2
  have HX2 := Lib.hid (HX1.out.below hb2 hxl)
  have HR2 := Lib.hid (HR1.out.below hb2)
  have HF2 := Lib.hid (HF1.out.below hb2)
  have x0 := HX2.out.cell (j := 0) rfl
  have x1 := HX2.out.cell (j := 1) rfl
  have x2 := HX2.out.cell (j := 2) rfl
  have x3 := HX2.out.cell (j := 3) rfl
  have hxl2 := HX2.out.lt
  have p2 := HR2.out.row.cell (j := 0) rfl
  have p3 := HR2.out.row.cell (j := 4) rfl
  have hrb2 := HR2.out.row.lt
  have hrb3 : rb < w2.heap.size + 1 := by omega
  have hxl3 : w.heap.size < w2.heap.size + 1 := by omega
  have HW2 := Lib.hid (HW1.out.trans (Wr.of_below (F := fun _ => False) hb2) (fun _ h => h.elim))
  clear hb2 hown2 b4 p0
  have ft := HF2.out.row.cell (j := 0) rfl
  have hfb2 := HF2.out.row.lt
  have htb2 := HF2.out.lt.2
  obtain ⟨cs, htr, hvi⟩ := id HF2.out.temps
  have hmt2 : m < tp.length := hmt
  obtain ⟨tv0, tv1⟩ := hvi.2 m _ (List.getElem?_eq_getElem hmt2)
  have t0 := htr.cell tv0
  have t1 := htr.cell tv1
  have t2 := htr.free (m * 2)
  have t3 := htr.free (m * 2 + 1)
  have hfb3 : fb < w2.heap.size + 1 := by omega
  have htb3 : tb < w2.heap.size + 1 := by omega
  have htne : ¬ tb = w2.heap.size := by omega
  have hm0 : (0 : Int) ≤ (m : Int) := by omega
  have hm1 : (m : Int) < (tp.length : Int) := by omega
  have htpl : (tp.length : Int) ≤ 1000000 := by have := HF2.out.few; omega
  clear hvi tv0 tv1 htr
  go_wp2_with fail
  refine (get_hc (HH2.out.below (below1 w2 (.cells #[.int .i64 0, .int .i64 0] 55)))).mono ?_
  rintro e w3 ⟨rfl, hH3, hw3⟩
  obtain ⟨gx, hgx⟩ : ∃ gx, gx = getF { s with steps := s.steps + 1 } := ⟨_, rfl⟩
  rw [← hgx] at hH3 ⊢ HQ
  have HH3 := Lib.hid hH3
  have hz3 := hw3.size
  simp only [World.size_alloc] at hz3
  have hw3' : Wr (fun b => b = cb) w2 w3 := (Wr.of_below (F := fun b => b = cb) (below1 w2 (.cells #[.int .i64 0, .int .i64 0] 55))).trans hw3 (fun _ h => Or.inl h)
  have HW3 := Lib.hid (HW2.out.trans hw3' (fun _ h => Or.inl h))
  have HF3 := Lib.hid (HF2.out.wr hw3' (fun e => HO.out.ofb.1 (e ▸ HBK.out.1)) (fun e => HO.out.otb.1 (e ▸ HBK.out.1)) (fun g hg e => (HO.out.olv g hg).1 (e ▸ HBK.out.1)))
  have hx3 := HX2.out.wr hw3' hne0
  have y1 := hx3.cell (j := 1) rfl
  have hyl := hx3.lt
  have hncw : ¬ w2.heap.size = cb := by omega
  have hbx3 := (Row.new w2 #[.int .i64 0, .int .i64 0] 55).wr hw3 hncw
  have z0 := hbx3.cell (j := 0) rfl
  have z1 := hbx3.cell (j := 1) rfl
  have z2 := hbx3.free 0
  have z3 := hbx3.free 1
  have zl := hbx3.lt
  have u0 := HF3.out.row.cell (j := 0) rfl
  have ul := HF3.out.row.lt
  have ul2 := HF3.out.lt.2
  obtain ⟨cs, htr, hvi⟩ := id HF3.out.temps
  obtain ⟨tv0, tv1⟩ := hvi.2 m _ (List.getElem?_eq_getElem hmt2)
  have u1 := htr.cell tv0
  have u2 := htr.cell tv1
  have u3 := htr.free (m * 2)
  have u4 := htr.free (m * 2 + 1)
  have une : ¬ tb = w2.heap.size := by omega
  have une2 : ¬ w2.heap.size = tb := by omega
  have une3 : ¬ w2.heap.size = fb := by omega
  have une4 : ¬ w2.heap.size = w.heap.size := by omega
  clear hgx hH3 hw3 hw3' hx3 hbx3 hvi htr tv0 tv1 x0 x1 x2 x3 p2 p3 ft t0 t1 t2 t3
  go_wp2_with fail
  refine still_tailq 8 (by kernel_rfl) (by kernel_rfl) ?_
  simp only [List.take_succ_cons, List.take_zero, List.drop_succ_cons, List.drop_zero]
  repeat (go_big_quiet_step (fail))
  refine wpQuiet_nil ?_
  go_wp2_with fail
  refine HQ.out _ _ _ ?_
  have hbxw := wr_pair w3 w2.heap.size 0 1 (.int .i64 0) (.int .i64 gx.1)
  obtain ⟨q1, q2⟩ := gend_new HH3.out HF3.out HF.out (fun k hk => (HBK.out.2.2 k hk).2) hbs hbxw (fun k hk => by omega)
  obtain ⟨q3, q4, q5⟩ := gend_set (w := w3.setCell ⟨w2.heap.size, 0, none⟩ (.int .i64 0) |>.setCell ⟨w2.heap.size, 1, none⟩ (.int .i64 gx.1)) q1 q2 HO.out (Wr.refl _ _) HBK.out.1 (Below.refl _ _) m ⟨0, gx.1⟩
  have q6 := (((HW3.out.mono (G := fun b => own b ∨ b = tb) (fun i hi => Or.inl (Or.inl (hi ▸ HBK.out.1)))).trans hbxw (fun i hi => Or.inr (by omega))).trans q5 (fun _ h => Or.inl h))
  exact bodyPost_ret (v := .bool true) (by simp [results, Try.results33, go_sem]) rfl ⟨rfl, own, fun _ h => h, fun _ h => Or.inl h, q3.below (Below.refl _ _).drew, fun _ => q4.below (Below.refl _ _).drew, q6.drewR⟩
end Go.Proofs.Ytikbdplllopjlaa
