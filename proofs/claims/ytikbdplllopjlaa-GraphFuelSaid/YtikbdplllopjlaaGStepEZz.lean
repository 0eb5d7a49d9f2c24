/- The graph's machine: a step: a call. Conditions: as stated. -/
import Derived.Test.YtikbdplllopjlaaGStepDZz
set_option linter.unusedVariables false
set_option linter.unusedSimpArgs false
namespace Go.Proofs.Ytikbdplllopjlaa
open Go.RowKit

theorem GOff.up {w : World} {base cb hb rb fb tb ng : Nat} {own own' : Nat → Prop} {P : Value × Value × Value} {lv gv : Value} {tp : List V} {lo : List Nat} (h : GOff base own rb fb tb lv gv) (hu : ∀ k, own' k → own k ∨ w.heap.size ≤ k) (hF : GFrame w fb tb tp lv lo) (hR : GRun w rb cb hb P gv ng) : GOff base own' rb fb tb lv gv := by
  have hl := hF.lt
  have hr := hR.row.lt
  have hn : ∀ k, ¬ own k → k < w.heap.size → ¬ own' k := fun k h1 h2 h3 => (hu k h3).elim h1 (fun h => by omega)
  refine ⟨⟨hn _ h.orb.1 hr, h.orb.2⟩, ⟨hn _ h.ofb.1 hl.1, h.ofb.2⟩, ⟨hn _ h.otb.1 hl.2, h.otb.2⟩, fun g hg => ?_, fun g hg => ?_, h.ort⟩
  · obtain ⟨_, cs, hr'⟩ := ownsRow_row hF.locs hg
    exact ⟨hn _ (h.olv g hg).1 hr'.lt, (h.olv g hg).2⟩
  · obtain ⟨_, cs, hr'⟩ := ownsRow_row hR.globs hg
    exact ⟨hn _ (h.ogv g hg).1 hr'.lt, (h.ogv g hg).2⟩
/-- What a call answers. -/
def GCallSays (base cb hb : Nat) (fuel : Int) (own : Nat → Prop) (r : Option V × St) (w : World) (e : Ending) (w' : World) : Prop :=
  AnsV r.1 e ∧ ∃ own' : Nat → Prop, (∀ k, own k → own' k) ∧ (∀ k, own' k → own k ∨ w.heap.size ≤ k) ∧ HCs w' base own' cb hb fuel r.2 ∧ Wr own w w'
/-- Calls at so many calls are walked right. -/
def GCallOk (p : ProgS) (fuel c : Int) (R : CallR) : Prop :=
  ∀ (f : Nat) (g : GraphS) (args : List V) (s : St) (base cb hb rb : Nat) (own : Nat → Prop) (P : Value × Value × Value) (gv : Value) (AA : Option Addr) (an acap : Nat) (w : World),
    p.funcs[f]? = some g → (args.length : Int) = g.params → HCs w base own cb hb fuel s → GRun w rb cb hb P gv p.globs.length → ProgAt w base P p → (¬ own rb ∧ base ≤ rb) → (∀ k, gv.ownBlock = some k → ¬ own k ∧ base ≤ k) → GInv fuel s → s.calls = c → p.globs.length < (memBase s.mem).length → (∀ v, v ∈ args → VOk (memBase s.mem).length v) → args.length = an →
    (∀ j v, args[j]? = some v → ∃ b off, AA = some ⟨b, off, none⟩ ∧ b < w.heap.size ∧ ¬ own b ∧ ValCells w b (off + j * 2) v) →
    Calls Try.prog 13 #[.pointer (some ⟨rb, 0, none⟩), .int .i64 f, .slice AA an acap] w fun e w' => GCallSays base cb hb fuel own (R f args s) w e w'

set_option maxRecDepth 100000 in
set_option maxHeartbeats 8000000 in
theorem gstep_call_over (base cb hb rb fb tb : Nat) (own : Nat → Prop) (P : Value × Value × Value) (gv lv : Value) (fuel : Int) (s : St) (tp : List V) (lo : List Nat) (ng : Nat) (R : CallR) (dst size : Int) (f : Nat) (ks : List T) (A : Option Addr) (n cap : Nat) (w : World)
    (h : HCs w base own cb hb fuel s) (hR : GRun w rb cb hb P gv ng) (hF : GFrame w fb tb tp lv lo) (hO : GOff base own rb fb tb lv gv) (hFr : FrOk (memBase s.mem) tp lo ng) (hI : GInv fuel s) (hf : fuel ≤ 100000000) (hts : TsOk tp.length lo.length ng ks) (hk : KidsV w base ks A n) (hn : n ≤ 1000)
    (hy : (stepF fuel 1 s).1 = true) (l : List V) (he : evalTs s.mem tp lo ks = some l) (p : ProgS) (g : GraphS) (hp : ng = p.globs.length) (hti : TsIn ks) (hg : p.funcs[f]? = some g) (hgl : (l.length : Int) = g.params) (hP : ProgAt w base P p) (hcall : GCallOk p fuel s.calls R) (s2 : St) (hcr : R f l { s with steps := s.steps + 1 } = (none, s2)) :
    Calls Try.prog 33 #[.pointer (some ⟨rb, 0, none⟩), .pointer (some ⟨fb, 0, none⟩), .agg #[.int .i64 3, .int .i64 dst, .int .i64 size, .int .i64 (f : Int), .slice A n cap]] w fun e w' => GSays base cb hb fuel fb tb lv lo own (doesF R fuel lo s tp ⟨3, dst, size, (f : Int), ks⟩) w e w' := by
  obtain ⟨e1, hI1⟩ := hI.tick (by omega) hy
  rw [doesF_yes hy e1 he]
  have hres : actF R { s with steps := s.steps + 1 } tp ⟨3, dst, size, (f : Int), ks⟩ l = (match R f l { s with steps := s.steps + 1 } with | (some v, s') => (true, s', setT tp dst v) | (none, s') => (false, s', tp)) := by
    unfold actF
    rw [if_neg (show ¬ (3 : Int) = 1 by decide), if_neg (show ¬ (3 : Int) = 2 by decide), if_pos rfl]
    cases R (f : Int) l { s with steps := s.steps + 1 } with
    | mk v s' => cases v <;> rfl
  rw [hres, hcr]
  subst hp
  have hbk := h.blocks
  have hcb := hbk.2.2 cb hbk.1
  have hrb := hR.row.lt
  have r0 := hR.row.cell (j := 0) rfl
  have hncb : rb ≠ cb := fun e => hO.orb.1 (e ▸ hbk.1)
  have HTK := Lib.hid (tick_hc (w := w.alloc (.cells #[.int .i64 3, .int .i64 dst, .int .i64 size, .int .i64 (f : Int), .slice A n cap] 71)) 1 (h.below (below1 _ _)) hI.kind hf hI.lo hI.hi (by omega) (by omega))
  have HR := Lib.hid hR
  have HF := Lib.hid hF
  have HO := Lib.hid hO
  have HBK := Lib.hid hbk
  have hrb1 : rb < w.heap.size + 1 := by omega
  have HR0 := Lib.hid (Row.new w #[.int .i64 3, .int .i64 dst, .int .i64 size, .int .i64 (f : Int), .slice A n cap] 71)
  rw [hy, e1] at HTK
  have HFD := Lib.hid hFr
  have HTS := Lib.hid (And.intro hts he)
  have HK := Lib.hid hk
  have hbs : base ≤ w.heap.size := by omega
  have hok := evals_ok hI.mem hFr ks hti hts (by rw [evalTs_base]; exact he)
  have HOK := Lib.hid hok
  have HFG := Lib.hid hFr.globs
  have HI1 := Lib.hid hI1
  have HP := Lib.hid hP
  have HC := Lib.hid hcall
  have HG := Lib.hid (And.intro hg hgl)
  have HTI := Lib.hid hti
  clear h hR hF hO hFr hI hts hk hbk hy he e1 hI1 hres hok hti hg hP hcall
  go_enter Try.func33, Try.ntmps33
  refine wp_letter (fun Q hQ => ?_)
  have HQ := Lib.hid hQ
  clear hQ
  go_wp2_with fail
  refine HTK.out.mono ?_
  rintro e w1 ⟨rfl, hH1, hw1⟩
  have HH1 := Lib.hid hH1
  have hW1 : Wr (fun b => b = cb) w w1 := (Wr.of_below (F := fun b => b = cb) (below1 w (.cells #[.int .i64 3, .int .i64 dst, .int .i64 size, .int .i64 (f : Int), .slice A n cap] 71))).trans hw1 (fun _ h => Or.inl h)
  have HW1 := Lib.hid hW1
  have hzw1 := hW1.size
  have hx1 := hw1.size
  simp only [World.size_alloc] at hx1
  have hne0 : ¬ w.heap.size = cb := by omega
  have hR1 := HR.out.wr hW1 hncb (fun g hg e => (HO.out.ogv g hg).1 (e ▸ HBK.out.1))
  have HR1 := Lib.hid hR1
  have HF1 := Lib.hid (HF.out.wr hW1 (fun e => HO.out.ofb.1 (e ▸ HBK.out.1)) (fun e => HO.out.otb.1 (e ▸ HBK.out.1)) (fun g hg e => (HO.out.olv g hg).1 (e ▸ HBK.out.1)))
  have HX1 := Lib.hid (HR0.out.wr hw1 hne0)
  have hx := HX1.out
  have b4 := hx.cell (j := 4) rfl
  have hxl := hx.lt
  have p0 := hR1.row.cell (j := 0) rfl
  have hrbl := hR1.row.lt
  clear hH1 hw1 hW1 hR1 hx r0
  go_wp2_with fail
  refine (trees_hc (s := { s with steps := s.steps + 1 }) ks A n cap HH1.out HR1.out HF1.out HFD.out HTS.out.1 (HK.out.below (HW1.out.below hbs (fun k hk => by subst hk; omega)) (Nat.le_refl _)) hn).mono ?_
  intro e w2 hT
  simp only [HTS.out.2, TreesSays] at hT
  obtain ⟨pv, rfl, hown2, hb2⟩ := hT
  have hzw2 := hb2.size
  have HH2 := Lib.hid (HH1.out.below hb2)
  have HB2 := Lib.hid hb2
  have HOWN2 := Lib.hid hown2
  have HX2 := Lib.hid (HX1.out.below hb2 hxl)
  have HR2 := Lib.hid (HR1.out.below hb2)
  have HF2 := Lib.hid (HF1.out.below hb2)
  have x0 := HX2.out.cell (j := 0) rfl
  have x1 := HX2.out.cell (j := 1) rfl
  have x2 := HX2.out.cell (j := 2) rfl
  have x3 := HX2.out.cell (j := 3) rfl
  have hxl2 := HX2.out.lt
  have p2 := HR2.out.row.cell (j := 0) rfl
  have p3 := HR2.out.row.cell (j := 4) rfl
  have hrb2 := HR2.out.row.lt
  have hrb3 : rb < w2.heap.size + 1 := by omega
  have hxl3 : w.heap.size < w2.heap.size + 1 := by omega
  have HW2 := Lib.hid (HW1.out.trans (Wr.of_below (F := fun _ => False) hb2) (fun _ h => h.elim))
  clear hb2 hown2 b4 p0
  obtain ⟨PA, pcap, hpv, hpr, hpp⟩ := rowV_own HOWN2.out rfl
  subst hpv
  have hargs : ∀ W, Below w2.heap.size w2 W → ∀ j v, l[j]? = some v → ∃ b off, PA = some ⟨b, off, none⟩ ∧ b < W.heap.size ∧ ¬ own b ∧ ValCells W b (off + j * 2) v := by
    intro W hW j v hj
    obtain ⟨b, off, h1, h2, h3, h4⟩ := hpp j v hj
    have hbn := (HOWN2.out.lt b h3).1
    exact ⟨b, off, h1, by have := hW.size; omega, fun ho => by have := (HBK.out.2.2 b ho).2; omega, h4.below hW h2⟩
  have HCL := Lib.hid (fun W (hW : Below w2.heap.size w2 W) => HC.out f g l { s with steps := s.steps + 1 } base cb hb rb own P gv PA l.length pcap W HG.out.1 HG.out.2 (HH2.out.below hW) (HR2.out.below hW) (HP.out.below ((HW2.out.below hbs (fun k hk => by subst hk; omega)).trans (hW.mono (by omega)))) HO.out.orb (fun k hk => ⟨(HO.out.ogv k hk).1, (HO.out.ogv k hk).2.1⟩) HI1.out rfl HFG.out HOK.out rfl (hargs W hW))
  have HCR := Lib.hid hcr
  clear hpr hpp hargs hcr
  go_wp2_with fail
  refine (HCL.out _ (below1 w2 (.cells #[.int .i64 0, .int .i64 0] 55))).mono ?_
  intro e w3 hS
  rw [HCR.out] at hS
  obtain ⟨⟨y0, y1, rfl⟩, own', h1, h2, h3, h4⟩ := hS
  have hz4 := h4.size
  simp only [World.size_alloc] at hz4
  have hnb : ¬ own w2.heap.size := fun ho => by have := (HBK.out.2.2 _ ho).2; omega
  have hbx := (Row.new w2 #[.int .i64 0, .int .i64 0] 55).wr h4 hnb
  have z0 := hbx.cell (j := 0) rfl
  have z1 := hbx.cell (j := 1) rfl
  have z2 := hbx.free 0
  have z3 := hbx.free 1
  have zl := hbx.lt
  have HH3 := Lib.hid (And.intro h1 (And.intro h2 h3))
  have HW3 := Lib.hid h4
  have hnb2 : ¬ own' w2.heap.size := fun ho => (by
    rcases h2 _ ho with h' | h'
    · exact hnb h'
    · simp only [World.size_alloc] at h'; omega)
  have HNB := Lib.hid hnb2
  clear h1 h2 h3 h4 hbx hnb hnb2
  go_wp2_with fail
  refine HQ.out _ _ _ ?_
  have hwp := wr_pair w3 w2.heap.size 0 1 (.int .i64 y0) (.int .i64 y1)
  refine bodyPost_ret (v := .bool false) (by simp [results, Try.results33, go_sem]) rfl ⟨rfl, own', HH3.out.1, fun k hk => ?_, HH3.out.2.2.wr hwp (fun k hk => (by subst hk; exact ⟨by omega, HNB.out⟩)), fun h => (by cases h), ?_⟩
  · rcases HH3.out.2.1 k hk with h' | h'
    · exact Or.inl h'
    · simp only [World.size_alloc] at h'; exact Or.inr (by omega)
  · exact ((((HW2.out.mono (fun i hi => Or.inl (Or.inl (hi ▸ HBK.out.1)))).trans (Wr.of_below (F := fun _ => False) (below1 w2 (.cells #[.int .i64 0, .int .i64 0] 55))) (fun _ h => h.elim)).trans HW3.out (fun i hi => Or.inl (Or.inl hi)))).trans hwp (fun i hi => Or.inr (by omega))

set_option maxRecDepth 100000 in
set_option maxHeartbeats 8000000 in
theorem gstep_call_drop (base cb hb rb fb tb : Nat) (own : Nat → Prop) (P : Value × Value × Value) (gv lv : Value) (fuel : Int) (s : St) (tp : List V) (lo : List Nat) (ng : Nat) (R : CallR) (size : Int) (f : Nat) (ks : List T) (A : Option Addr) (n cap : Nat) (w : World)
    (h : HCs w base own cb hb fuel s) (hR : GRun w rb cb hb P gv ng) (hF : GFrame w fb tb tp lv lo) (hO : GOff base own rb fb tb lv gv) (hFr : FrOk (memBase s.mem) tp lo ng) (hI : GInv fuel s) (hf : fuel ≤ 100000000) (hts : TsOk tp.length lo.length ng ks) (hk : KidsV w base ks A n) (hn : n ≤ 1000)
    (hy : (stepF fuel 1 s).1 = true) (l : List V) (he : evalTs s.mem tp lo ks = some l) (p : ProgS) (g : GraphS) (hp : ng = p.globs.length) (hti : TsIn ks) (hg : p.funcs[f]? = some g) (hgl : (l.length : Int) = g.params) (hP : ProgAt w base P p) (hcall : GCallOk p fuel s.calls R) (s2 : St) (v : V) (hcr : R f l { s with steps := s.steps + 1 } = (some v, s2)) :
    Calls Try.prog 33 #[.pointer (some ⟨rb, 0, none⟩), .pointer (some ⟨fb, 0, none⟩), .agg #[.int .i64 3, .int .i64 (-1), .int .i64 size, .int .i64 (f : Int), .slice A n cap]] w fun e w' => GSays base cb hb fuel fb tb lv lo own (doesF R fuel lo s tp ⟨3, (-1), size, (f : Int), ks⟩) w e w' := by
  obtain ⟨e1, hI1⟩ := hI.tick (by omega) hy
  rw [doesF_yes hy e1 he]
  have hres : actF R { s with steps := s.steps + 1 } tp ⟨3, (-1), size, (f : Int), ks⟩ l = (match R f l { s with steps := s.steps + 1 } with | (some v, s') => (true, s', setT tp (-1) v) | (none, s') => (false, s', tp)) := by
    unfold actF
    rw [if_neg (show ¬ (3 : Int) = 1 by decide), if_neg (show ¬ (3 : Int) = 2 by decide), if_pos rfl]
    cases R (f : Int) l { s with steps := s.steps + 1 } with
    | mk v s' => cases v <;> rfl
  rw [hres, hcr]
  have hset : setT tp (-1) v = tp := by unfold setT; rw [if_neg (by omega)]
  simp only [hset]
  subst hp
  have hbk := h.blocks
  have hcb := hbk.2.2 cb hbk.1
  have hrb := hR.row.lt
  have r0 := hR.row.cell (j := 0) rfl
  have hncb : rb ≠ cb := fun e => hO.orb.1 (e ▸ hbk.1)
  have HTK := Lib.hid (tick_hc (w := w.alloc (.cells #[.int .i64 3, .int .i64 (-1), .int .i64 size, .int .i64 (f : Int), .slice A n cap] 71)) 1 (h.below (below1 _ _)) hI.kind hf hI.lo hI.hi (by omega) (by omega))
  have HR := Lib.hid hR
  have HF := Lib.hid hF
  have HO := Lib.hid hO
  have HBK := Lib.hid hbk
  have hrb1 : rb < w.heap.size + 1 := by omega
  have HR0 := Lib.hid (Row.new w #[.int .i64 3, .int .i64 (-1), .int .i64 size, .int .i64 (f : Int), .slice A n cap] 71)
  rw [hy, e1] at HTK
  have HFD := Lib.hid hFr
  have HTS := Lib.hid (And.intro hts he)
  have HK := Lib.hid hk
  have hbs : base ≤ w.heap.size := by omega
  have hok := evals_ok hI.mem hFr ks hti hts (by rw [evalTs_base]; exact he)
  have HOK := Lib.hid hok
  have HFG := Lib.hid hFr.globs
  have HI1 := Lib.hid hI1
  have HP := Lib.hid hP
  have HC := Lib.hid hcall
  have HG := Lib.hid (And.intro hg hgl)
  have HTI := Lib.hid hti
  clear h hR hF hO hFr hI hts hk hbk hy he e1 hI1 hres hok hti hg hP hcall hset
  go_enter Try.func33, Try.ntmps33
  refine wp_letter (fun Q hQ => ?_)
  have HQ := Lib.hid hQ
  clear hQ
  go_wp2_with fail
  refine HTK.out.mono ?_
  rintro e w1 ⟨rfl, hH1, hw1⟩
  have HH1 := Lib.hid hH1
  have hW1 : Wr (fun b => b = cb) w w1 := (Wr.of_below (F := fun b => b = cb) (below1 w (.cells #[.int .i64 3, .int .i64 (-1), .int .i64 size, .int .i64 (f : Int), .slice A n cap] 71))).trans hw1 (fun _ h => Or.inl h)
  have HW1 := Lib.hid hW1
  have hzw1 := hW1.size
  have hx1 := hw1.size
  simp only [World.size_alloc] at hx1
  have hne0 : ¬ w.heap.size = cb := by omega
  have hR1 := HR.out.wr hW1 hncb (fun g hg e => (HO.out.ogv g hg).1 (e ▸ HBK.out.1))
  have HR1 := Lib.hid hR1
  have HF1 := Lib.hid (HF.out.wr hW1 (fun e => HO.out.ofb.1 (e ▸ HBK.out.1)) (fun e => HO.out.otb.1 (e ▸ HBK.out.1)) (fun g hg e => (HO.out.olv g hg).1 (e ▸ HBK.out.1)))
  have HX1 := Lib.hid (HR0.out.wr hw1 hne0)
  have hx := HX1.out
  have b4 := hx.cell (j := 4) rfl
  have hxl := hx.lt
  have p0 := hR1.row.cell (j := 0) rfl
  have hrbl := hR1.row.lt
  clear hH1 hw1 hW1 hR1 hx r0
  go_wp2_with fail
  refine (trees_hc (s := { s with steps := s.steps + 1 }) ks A n cap HH1.out HR1.out HF1.out HFD.out HTS.out.1 (HK.out.below (HW1.out.below hbs (fun k hk => by subst hk; omega)) (Nat.le_refl _)) hn).mono ?_
  intro e w2 hT
  simp only [HTS.out.2, TreesSays] at hT
  obtain ⟨pv, rfl, hown2, hb2⟩ := hT
  have hzw2 := hb2.size
  have HH2 := Lib.hid (HH1.out.below hb2)
  have HB2 := Lib.hid hb2
  have HOWN2 := Lib.hid hown2
  have HX2 := Lib.hid (HX1.out.below hb2 hxl)
  have HR2 := Lib.hid (HR1.out.below hb2)
  have HF2 := Lib.hid (HF1.out.below hb2)
  have x0 := HX2.out.cell (j := 0) rfl
  have x1 := HX2.out.cell (j := 1) rfl
  have x2 := HX2.out.cell (j := 2) rfl
  have x3 := HX2.out.cell (j := 3) rfl
  have hxl2 := HX2.out.lt
  have p2 := HR2.out.row.cell (j := 0) rfl
  have p3 := HR2.out.row.cell (j := 4) rfl
  have hrb2 := HR2.out.row.lt
  have hrb3 : rb < w2.heap.size + 1 := by omega
  have hxl3 : w.heap.size < w2.heap.size + 1 := by omega
  have HW2 := Lib.hid (HW1.out.trans (Wr.of_below (F := fun _ => False) hb2) (fun _ h => h.elim))
  clear hb2 hown2 b4 p0
  obtain ⟨PA, pcap, hpv, hpr, hpp⟩ := rowV_own HOWN2.out rfl
  subst hpv
  have hargs : ∀ W, Below w2.heap.size w2 W → ∀ j v, l[j]? = some v → ∃ b off, PA = some ⟨b, off, none⟩ ∧ b < W.heap.size ∧ ¬ own b ∧ ValCells W b (off + j * 2) v := by
    intro W hW j v hj
    obtain ⟨b, off, h1, h2, h3, h4⟩ := hpp j v hj
    have hbn := (HOWN2.out.lt b h3).1
    exact ⟨b, off, h1, by have := hW.size; omega, fun ho => by have := (HBK.out.2.2 b ho).2; omega, h4.below hW h2⟩
  have HCL := Lib.hid (fun W (hW : Below w2.heap.size w2 W) => HC.out f g l { s with steps := s.steps + 1 } base cb hb rb own P gv PA l.length pcap W HG.out.1 HG.out.2 (HH2.out.below hW) (HR2.out.below hW) (HP.out.below ((HW2.out.below hbs (fun k hk => by subst hk; omega)).trans (hW.mono (by omega)))) HO.out.orb (fun k hk => ⟨(HO.out.ogv k hk).1, (HO.out.ogv k hk).2.1⟩) HI1.out rfl HFG.out HOK.out rfl (hargs W hW))
  have HCR := Lib.hid hcr
  clear hpr hpp hargs hcr
  go_wp2_with fail
  refine (HCL.out _ (below1 w2 (.cells #[.int .i64 0, .int .i64 0] 55))).mono ?_
  intro e w3 hS
  rw [HCR.out] at hS
  simp only [GCallSays, AnsV, ansV] at hS
  obtain ⟨rfl, own', h1, h2, h3, h4⟩ := hS
  have hz4 := h4.size
  simp only [World.size_alloc] at hz4
  have hnb : ¬ own w2.heap.size := fun ho => by have := (HBK.out.2.2 _ ho).2; omega
  have hbx := (Row.new w2 #[.int .i64 0, .int .i64 0] 55).wr h4 hnb
  have z0 := hbx.cell (j := 0) rfl
  have z1 := hbx.cell (j := 1) rfl
  have z2 := hbx.free 0
  have z3 := hbx.free 1
  have zl := hbx.lt
  have hnx : ¬ own w.heap.size := fun ho => by have := (HBK.out.2.2 _ ho).2; omega
  have hx3 := (HX2.out.below (below1 w2 (.cells #[.int .i64 0, .int .i64 0] 55)) hxl2).wr h4 hnx
  have y1 := hx3.cell (j := 1) rfl
  have hyl := hx3.lt
  have HH3 := Lib.hid (And.intro h1 (And.intro h2 h3))
  have HW3 := Lib.hid h4
  have hnb2 : ¬ own' w2.heap.size := fun ho => (by
    rcases h2 _ ho with h' | h'
    · exact hnb h'
    · simp only [World.size_alloc] at h'; omega)
  have HNB := Lib.hid hnb2
  have HF3 := Lib.hid ((HF2.out.below (below1 w2 (.cells #[.int .i64 0, .int .i64 0] 55))).keep HO.out h4)
  have HUP := Lib.hid (fun k (hk : own' k) => (by
    rcases h2 k hk with h' | h'
    · exact Or.inl h'
    · simp only [World.size_alloc] at h'; exact Or.inr (by omega) : own k ∨ w.heap.size ≤ k))
  have une4 : ¬ w2.heap.size = w.heap.size := by omega
  clear h1 h2 h3 h4 hbx hnb hnb2 hx3 hnx x0 x1 x2 x3 p2 p3
  go_wp2_with fail
  refine HQ.out _ _ _ ?_
  have hwp := wr_pair w3 w2.heap.size 0 1 (.int .i64 v.obj) (.int .i64 v.n)
  have hl := HF.out.lt
  refine bodyPost_ret (v := .bool true) (by simp [results, Try.results33, go_sem]) rfl ⟨rfl, own', HH3.out.1, HUP.out, HH3.out.2.2.wr hwp (fun k hk => (by subst hk; exact ⟨by omega, HNB.out⟩)), fun _ => HF3.out.wr hwp (by omega) (by omega) (fun g hg => ?_), ?_⟩
  · obtain ⟨_, cs, hr⟩ := ownsRow_row HF.out.locs hg
    have := hr.lt
    omega
  · exact ((((HW2.out.mono (fun i hi => Or.inl (Or.inl (hi ▸ HBK.out.1)))).trans (Wr.of_below (F := fun _ => False) (below1 w2 (.cells #[.int .i64 0, .int .i64 0] 55))) (fun _ h => h.elim)).trans HW3.out (fun i hi => Or.inl (Or.inl hi)))).trans hwp (fun i hi => Or.inr (by omega))

set_option maxRecDepth 100000 in
set_option maxHeartbeats 8000000 in
theorem gstep_call_set (base cb hb rb fb tb : Nat) (own : Nat → Prop) (P : Value × Value × Value) (gv lv : Value) (fuel : Int) (s : St) (tp : List V) (lo : List Nat) (ng : Nat) (R : CallR) (size : Int) (m f : Nat) (ks : List T) (A : Option Addr) (n cap : Nat) (w : World)
    (h : HCs w base own cb hb fuel s) (hR : GRun w rb cb hb P gv ng) (hF : GFrame w fb tb tp lv lo) (hO : GOff base own rb fb tb lv gv) (hFr : FrOk (memBase s.mem) tp lo ng) (hI : GInv fuel s) (hf : fuel ≤ 100000000) (hts : TsOk tp.length lo.length ng ks) (hk : KidsV w base ks A n) (hn : n ≤ 1000)
    (hy : (stepF fuel 1 s).1 = true) (l : List V) (he : evalTs s.mem tp lo ks = some l) (hmt : m < tp.length) (p : ProgS) (g : GraphS) (hp : ng = p.globs.length) (hti : TsIn ks) (hg : p.funcs[f]? = some g) (hgl : (l.length : Int) = g.params) (hP : ProgAt w base P p) (hcall : GCallOk p fuel s.calls R) (s2 : St) (v : V) (hcr : R f l { s with steps := s.steps + 1 } = (some v, s2)) :
    Calls Try.prog 33 #[.pointer (some ⟨rb, 0, none⟩), .pointer (some ⟨fb, 0, none⟩), .agg #[.int .i64 3, .int .i64 (m : Int), .int .i64 size, .int .i64 (f : Int), .slice A n cap]] w fun e w' => GSays base cb hb fuel fb tb lv lo own (doesF R fuel lo s tp ⟨3, (m : Int), size, (f : Int), ks⟩) w e w' := by
  obtain ⟨e1, hI1⟩ := hI.tick (by omega) hy
  rw [doesF_yes hy e1 he]
  have hres : actF R { s with steps := s.steps + 1 } tp ⟨3, (m : Int), size, (f : Int), ks⟩ l = (match R f l { s with steps := s.steps + 1 } with | (some v, s') => (true, s', setT tp (m : Int) v) | (none, s') => (false, s', tp)) := by
    unfold actF
    rw [if_neg (show ¬ (3 : Int) = 1 by decide), if_neg (show ¬ (3 : Int) = 2 by decide), if_pos rfl]
    cases R (f : Int) l { s with steps := s.steps + 1 } with
    | mk v s' => cases v <;> rfl
  rw [hres, hcr]
  simp only [setT_nat]
  subst hp
  have hbk := h.blocks
  have hcb := hbk.2.2 cb hbk.1
  have hrb := hR.row.lt
  have r0 := hR.row.cell (j := 0) rfl
  have hncb : rb ≠ cb := fun e => hO.orb.1 (e ▸ hbk.1)
  have HTK := Lib.hid (tick_hc (w := w.alloc (.cells #[.int .i64 3, .int .i64 (m : Int), .int .i64 size, .int .i64 (f : Int), .slice A n cap] 71)) 1 (h.below (below1 _ _)) hI.kind hf hI.lo hI.hi (by omega) (by omega))
  have HR := Lib.hid hR
  have HF := Lib.hid hF
  have HO := Lib.hid hO
  have HBK := Lib.hid hbk
  have hrb1 : rb < w.heap.size + 1 := by omega
  have HR0 := Lib.hid (Row.new w #[.int .i64 3, .int .i64 (m : Int), .int .i64 size, .int .i64 (f : Int), .slice A n cap] 71)
  rw [hy, e1] at HTK
  have HFD := Lib.hid hFr
  have HTS := Lib.hid (And.intro hts he)
  have HK := Lib.hid hk
  have hbs : base ≤ w.heap.size := by omega
  have hok := evals_ok hI.mem hFr ks hti hts (by rw [evalTs_base]; exact he)
  have HOK := Lib.hid hok
  have HFG := Lib.hid hFr.globs
  have HI1 := Lib.hid hI1
  have HP := Lib.hid hP
  have HC := Lib.hid hcall
  have HG := Lib.hid (And.intro hg hgl)
  have HTI := Lib.hid hti
  clear h hR hF hO hFr hI hts hk hbk hy he e1 hI1 hres hok hti hg hP hcall
  go_enter Try.func33, Try.ntmps33
  refine wp_letter (fun Q hQ => ?_)
  have HQ := Lib.hid hQ
  clear hQ
  go_wp2_with fail
  refine HTK.out.mono ?_
  rintro e w1 ⟨rfl, hH1, hw1⟩
  have HH1 := Lib.hid hH1
  have hW1 : Wr (fun b => b = cb) w w1 := (Wr.of_below (F := fun b => b = cb) (below1 w (.cells #[.int .i64 3, .int .i64 (m : Int), .int .i64 size, .int .i64 (f : Int), .slice A n cap] 71))).trans hw1 (fun _ h => Or.inl h)
  have HW1 := Lib.hid hW1
  have hzw1 := hW1.size
  have hx1 := hw1.size
  simp only [World.size_alloc] at hx1
  have hne0 : ¬ w.heap.size = cb := by omega
  have hR1 := HR.out.wr hW1 hncb (fun g hg e => (HO.out.ogv g hg).1 (e ▸ HBK.out.1))
  have HR1 := Lib.hid hR1
  have HF1 := Lib.hid (HF.out.wr hW1 (fun e => HO.out.ofb.1 (e ▸ HBK.out.1)) (fun e => HO.out.otb.1 (e ▸ HBK.out.1)) (fun g hg e => (HO.out.olv g hg).1 (e ▸ HBK.out.1)))
  have HX1 := Lib.hid (HR0.out.wr hw1 hne0)
  have hx := HX1.out
  have b4 := hx.cell (j := 4) rfl
  have hxl := hx.lt
  have p0 := hR1.row.cell (j := 0) rfl
  have hrbl := hR1.row.lt
  clear hH1 hw1 hW1 hR1 hx r0
  go_wp2_with fail
  refine (trees_hc (s := { s with steps := s.steps + 1 }) ks A n cap HH1.out HR1.out HF1.out HFD.out HTS.out.1 (HK.out.below (HW1.out.below hbs (fun k hk => by subst hk; omega)) (Nat.le_refl _)) hn).mono ?_
  intro e w2 hT
  simp only [HTS.out.2, TreesSays] at hT
  obtain ⟨pv, rfl, hown2, hb2⟩ := hT
  have hzw2 := hb2.size
  have HH2 := Lib.hid (HH1.out.below hb2)
  have HB2 := Lib.hid hb2
  have HOWN2 := Lib.hid hown2
  have HX2 := Lib.hid (HX1.out.below hb2 hxl)
  have HR2 := Lib.hid (HR1.out.below hb2)
  have HF2 := Lib.hid (HF1.out.below hb2)
  have x0 := HX2.out.cell (j := 0) rfl
  have x1 := HX2.out.cell (j := 1) rfl
  have x2 := HX2.out.cell (j := 2) rfl
  have x3 := HX2.out.cell (j := 3) rfl
  have hxl2 := HX2.out.lt
  have p2 := HR2.out.row.cell (j := 0) rfl
  have p3 := HR2.out.row.cell (j := 4) rfl
  have hrb2 := HR2.out.row.lt
  have hrb3 : rb < w2.heap.size + 1 := by omega
  have hxl3 : w.heap.size < w2.heap.size + 1 := by omega
  have HW2 := Lib.hid (HW1.out.trans (Wr.of_below (F := fun _ => False) hb2) (fun _ h => h.elim))
  clear hb2 hown2 b4 p0
  obtain ⟨PA, pcap, hpv, hpr, hpp⟩ := rowV_own HOWN2.out rfl
  subst hpv
  have hargs : ∀ W, Below w2.heap.size w2 W → ∀ j v, l[j]? = some v → ∃ b off, PA = some ⟨b, off, none⟩ ∧ b < W.heap.size ∧ ¬ own b ∧ ValCells W b (off + j * 2) v := by
    intro W hW j v hj
    obtain ⟨b, off, h1, h2, h3, h4⟩ := hpp j v hj
    have hbn := (HOWN2.out.lt b h3).1
    exact ⟨b, off, h1, by have := hW.size; omega, fun ho => by have := (HBK.out.2.2 b ho).2; omega, h4.below hW h2⟩
  have HCL := Lib.hid (fun W (hW : Below w2.heap.size w2 W) => HC.out f g l { s with steps := s.steps + 1 } base cb hb rb own P gv PA l.length pcap W HG.out.1 HG.out.2 (HH2.out.below hW) (HR2.out.below hW) (HP.out.below ((HW2.out.below hbs (fun k hk => by subst hk; omega)).trans (hW.mono (by omega)))) HO.out.orb (fun k hk => ⟨(HO.out.ogv k hk).1, (HO.out.ogv k hk).2.1⟩) HI1.out rfl HFG.out HOK.out rfl (hargs W hW))
  have HCR := Lib.hid hcr
  clear hpr hpp hargs hcr
  go_wp2_with fail
  refine (HCL.out _ (below1 w2 (.cells #[.int .i64 0, .int .i64 0] 55))).mono ?_
  intro e w3 hS
  rw [HCR.out] at hS
  simp only [GCallSays, AnsV, ansV] at hS
  obtain ⟨rfl, own', h1, h2, h3, h4⟩ := hS
  have hz4 := h4.size
  simp only [World.size_alloc] at hz4
  have hnb : ¬ own w2.heap.size := fun ho => by have := (HBK.out.2.2 _ ho).2; omega
  have hbx := (Row.new w2 #[.int .i64 0, .int .i64 0] 55).wr h4 hnb
  have z0 := hbx.cell (j := 0) rfl
  have z1 := hbx.cell (j := 1) rfl
  have z2 := hbx.free 0
  have z3 := hbx.free 1
  have zl := hbx.lt
  have hnx : ¬ own w.heap.size := fun ho => by have := (HBK.out.2.2 _ ho).2; omega
  have hx3 := (HX2.out.below (below1 w2 (.cells #[.int .i64 0, .int .i64 0] 55)) hxl2).wr h4 hnx
  have y1 := hx3.cell (j := 1) rfl
  have hyl := hx3.lt
  have HH3 := Lib.hid (And.intro h1 (And.intro h2 h3))
  have HW3 := Lib.hid h4
  have hnb2 : ¬ own' w2.heap.size := fun ho => (by
    rcases h2 _ ho with h' | h'
    · exact hnb h'
    · simp only [World.size_alloc] at h'; omega)
  have HNB := Lib.hid hnb2
  have HF3 := Lib.hid ((HF2.out.below (below1 w2 (.cells #[.int .i64 0, .int .i64 0] 55))).keep HO.out h4)
  have HUP := Lib.hid (fun k (hk : own' k) => (by
    rcases h2 k hk with h' | h'
    · exact Or.inl h'
    · simp only [World.size_alloc] at h'; exact Or.inr (by omega) : own k ∨ w.heap.size ≤ k))
  have une4 : ¬ w2.heap.size = w.heap.size := by omega
  clear h1 h2 h3 h4 hbx hnb hnb2 hx3 hnx x0 x1 x2 x3 p2 p3
  have u0 := HF3.out.row.cell (j := 0) rfl
  have ul := HF3.out.row.lt
  have ul2 := HF3.out.lt.2
  obtain ⟨cs, htr, hvi⟩ := id HF3.out.temps
  obtain ⟨tv0, tv1⟩ := hvi.2 m _ (List.getElem?_eq_getElem hmt)
  have u1 := htr.cell tv0
  have u2 := htr.cell tv1
  have u3 := htr.free (m * 2)
  have u4 := htr.free (m * 2 + 1)
  have hl := HF.out.lt
  have une : ¬ tb = w2.heap.size := by omega
  have une2 : ¬ w2.heap.size = tb := by omega
  have une3 : ¬ w2.heap.size = fb := by omega
  have hm0 : (0 : Int) ≤ (m : Int) := by omega
  have hm1 : (m : Int) < (tp.length : Int) := by omega
  have htpl : (tp.length : Int) ≤ 1000000 := by have := HF3.out.few; omega
  clear hvi htr tv0 tv1
  go_wp2_with fail
  refine still_tailq 8 (by kernel_rfl) (by kernel_rfl) ?_
  simp only [List.take_succ_cons, List.take_zero, List.drop_succ_cons, List.drop_zero]
  repeat (go_big_quiet_step (fail))
  refine wpQuiet_nil ?_
  go_wp2_with fail
  refine HQ.out _ _ _ ?_
  have hwp := wr_pair w3 w2.heap.size 0 1 (.int .i64 v.obj) (.int .i64 v.n)
  have hO' : GOff base own' rb fb tb lv gv := GOff.up HO.out HUP.out HF.out HR.out
  have q1 := HH3.out.2.2.wr hwp (fun k hk => (by subst hk; exact ⟨by omega, HNB.out⟩))
  have q2 := HF3.out.wr hwp (by omega) (by omega) (fun g hg => (by
    obtain ⟨_, cs, hr⟩ := ownsRow_row HF.out.locs hg
    have := hr.lt
    omega))
  obtain ⟨q3, q4, q5⟩ := gend_set (w := (w3.setCell ⟨w2.heap.size, 0, none⟩ (.int .i64 v.obj)).setCell ⟨w2.heap.size, 1, none⟩ (.int .i64 v.n)) q1 q2 hO' (Wr.refl _ _) (HH3.out.1 _ HBK.out.1) (Below.refl _ _) m v
  have q6 := ((((HW2.out.mono (G := fun b => own b ∨ b = tb) (fun i hi => Or.inl (Or.inl (hi ▸ HBK.out.1)))).trans (Wr.of_below (F := fun _ => False) (below1 w2 (.cells #[.int .i64 0, .int .i64 0] 55))) (fun _ h => h.elim)).trans HW3.out (fun i hi => Or.inl (Or.inl hi)))).trans hwp (fun i hi => Or.inr (by omega))
  have q7 := q6.trans q5 (fun i hi => (by
    rcases hi with hi | hi
    · rcases HUP.out i hi with h' | h'
      · exact Or.inl (Or.inl h')
      · exact Or.inr h'
    · exact Or.inl (Or.inr hi)))
  exact bodyPost_ret (v := .bool true) (by simp [results, Try.results33, go_sem]) rfl ⟨rfl, own', HH3.out.1, HUP.out, q3.below (Below.refl _ _).drew, fun _ => q4.below (Below.refl _ _).drew, q7.drewR⟩
end Go.Proofs.Ytikbdplllopjlaa
