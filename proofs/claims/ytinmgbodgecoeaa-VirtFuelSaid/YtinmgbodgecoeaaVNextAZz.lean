/- virt: next: no fuel; a return; a branch that is not taken. Conditions: as stated. -/
import Derived.Test.YtinmgbodgecoeaaQ09Zz
set_option linter.unusedVariables false
set_option linter.unusedSimpArgs false
namespace Go.Proofs.Ytinmgbodgecoeaa
open Go.RowKit

/-- What stands behind an instruction: does it go on, where, the state, the registers. -/
def nextF (R : CallR) (fuel : Int) (lo : List Nat) (l : List InsS) (s : St) (tp : List V) (k : Nat) (x : InsS) : Bool × Int × St × List V :=
  if (stepF fuel 1 s).1 = false then (false, 0, (stepF fuel 1 s).2, tp)
  else if x.op = 17 then (true, -1, (stepF fuel 1 s).2, tp)
  else if x.op = 15 then (true, (labN l x.n : Nat), (stepF fuel 1 s).2, tp)
  else if x.op = 16 then (true, (if tp.getD x.a.toNat ⟨0, 0⟩ = ⟨0, 0⟩ then ((k + 1 : Nat) : Int) else (labN l x.n : Nat)), (stepF fuel 1 s).2, tp)
  else ((afterF R lo (stepF fuel 1 s).2 tp (stepI x)).1, ((k + 1 : Nat) : Int), (afterF R lo (stepF fuel 1 s).2 tp (stepI x)).2.1, (afterF R lo (stepF fuel 1 s).2 tp (stepI x)).2.2)
def VNextSays (base cb hb : Nat) (fuel : Int) (fb tb mb : Nat) (lv : Value) (lo : List Nat) (own : Nat → Prop) (r : Bool × Int × St × List V) (w : World) (e : Ending) (w' : World) : Prop :=
  (∃ y, e = .returned (.tuple #[.int .i64 y, .bool r.1]) ∧ (r.1 = true → y = r.2.1)) ∧ ∃ own' : Nat → Prop, (∀ k, own k → own' k) ∧ (∀ k, own' k → own k ∨ w.heap.size ≤ k) ∧ HCs w' base own' cb hb fuel r.2.2.1 ∧ (r.1 = true → VFrame w' fb tb r.2.2.2 lv lo mb) ∧ Wr (fun b => own b ∨ b = tb) w w'
set_option maxRecDepth 100000 in
set_option maxHeartbeats 8000000 in
theorem vnext_dry (base cb hb rb fb tb mb : Nat) (own : Nat → Prop) (P : Value × Value × Value) (gv bv lv : Value) (fuel : Int) (s : St) (tp : List V) (lo : List Nat) (ng : Nat) (R : CallR) (l : List InsS) (k : Nat) (x : InsS) (A : Option Addr) (cap : Nat) (w : World)
    (h : HCs w base own cb hb fuel s) (hR : VRun w rb cb hb P gv bv ng) (hF : VFrame w fb tb tp lv lo mb) (hO : VOff base own rb fb tb lv gv) (hI : GInv fuel s) (hf : fuel ≤ 100000000) (hk : k ≤ 10000) (hy : (stepF fuel 1 s).1 = false) :
    Calls Try.prog 25 #[.pointer (some ⟨rb, 0, none⟩), .pointer (some ⟨fb, 0, none⟩), .int .i64 (k : Int), .agg #[.int .i64 x.op, .int .i64 x.dst, .int .i64 x.a, .int .i64 x.b, .int .i64 x.n, .slice A x.arg.length cap]] w fun e w' => VNextSays base cb hb fuel fb tb mb lv lo own (nextF R fuel lo l s tp k x) w e w' := by
  rw [show nextF R fuel lo l s tp k x = (false, 0, (stepF fuel 1 s).2, tp) by unfold nextF; rw [if_pos hy]]
  have hbk := h.blocks
  have hcb := hbk.2.2 cb hbk.1
  have hrb := hR.row.lt
  have r0 := hR.row.cell (j := 0) rfl
  have hncb : rb ≠ cb := fun e => hO.orb.1 (e ▸ hbk.1)
  have HTK := Lib.hid (tick_hc (w := w.alloc (.cells #[.int .i64 x.op, .int .i64 x.dst, .int .i64 x.a, .int .i64 x.b, .int .i64 x.n, .slice A x.arg.length cap] 68)) 1 (h.below (below1 _ _)) hI.kind hf hI.lo hI.hi (by omega) (by omega))
  have HR := Lib.hid hR
  have HF := Lib.hid hF
  have HO := Lib.hid hO
  have HBK := Lib.hid hbk
  have hrb1 : rb < w.heap.size + 1 := by omega
  have HX0 := Lib.hid (Row.new w #[.int .i64 x.op, .int .i64 x.dst, .int .i64 x.a, .int .i64 x.b, .int .i64 x.n, .slice A x.arg.length cap] 68)
  rw [hy] at HTK
  obtain ⟨s1, hs1⟩ : ∃ s1, s1 = (stepF fuel 1 s).2 := ⟨_, rfl⟩
  rw [← hs1] at HTK ⊢
  clear h hR hF hO hI hbk hy hs1
  go_enter Try.func25, Try.ntmps25
  refine wp_letter (fun Q hQ => ?_)
  have HQ := Lib.hid hQ
  clear hQ
  go_wp2_with fail
  refine HTK.out.mono ?_
  rintro e w1 ⟨rfl, hH1, hw1⟩
  have HH1 := Lib.hid hH1
  have hW1 : Wr (fun b => b = cb) w w1 := (Wr.of_below (F := fun b => b = cb) (below1 w (.cells #[.int .i64 x.op, .int .i64 x.dst, .int .i64 x.a, .int .i64 x.b, .int .i64 x.n, .slice A x.arg.length cap] 68))).trans hw1 (fun _ h => Or.inl h)
  have HW1 := Lib.hid hW1
  clear hH1 hw1 hW1
  go_wp2_with fail
  refine HQ.out _ _ _ ?_
  exact bodyPost_ret (v := .tuple #[.int .i64 0, .bool false]) (by simp [results, Try.results25, go_sem]) rfl ⟨⟨0, rfl, fun h => (by cases h)⟩, own, fun _ h => h, fun _ h => Or.inl h, HH1.out, fun h => (by cases h), HW1.out.mono (fun i hi => Or.inl (Or.inl (hi ▸ HBK.out.1)))⟩
set_option maxRecDepth 100000 in
set_option maxHeartbeats 8000000 in
theorem vnext_ret (base cb hb rb fb tb mb : Nat) (own : Nat → Prop) (P : Value × Value × Value) (gv bv lv : Value) (fuel : Int) (s : St) (tp : List V) (lo : List Nat) (ng : Nat) (R : CallR) (l : List InsS) (k : Nat) (x : InsS) (A : Option Addr) (cap : Nat) (w : World)
    (h : HCs w base own cb hb fuel s) (hR : VRun w rb cb hb P gv bv ng) (hF : VFrame w fb tb tp lv lo mb) (hO : VOff base own rb fb tb lv gv) (hI : GInv fuel s) (hf : fuel ≤ 100000000) (hk : k ≤ 10000) (hy : (stepF fuel 1 s).1 = true) (hop : x.op = 17) :
    Calls Try.prog 25 #[.pointer (some ⟨rb, 0, none⟩), .pointer (some ⟨fb, 0, none⟩), .int .i64 (k : Int), .agg #[.int .i64 x.op, .int .i64 x.dst, .int .i64 x.a, .int .i64 x.b, .int .i64 x.n, .slice A x.arg.length cap]] w fun e w' => VNextSays base cb hb fuel fb tb mb lv lo own (nextF R fuel lo l s tp k x) w e w' := by
  rw [show nextF R fuel lo l s tp k x = (true, -1, (stepF fuel 1 s).2, tp) by unfold nextF; rw [if_neg (by rw [hy]; simp), if_pos hop], hop]
  have hbk := h.blocks
  have hcb := hbk.2.2 cb hbk.1
  have hrb := hR.row.lt
  have r0 := hR.row.cell (j := 0) rfl
  have hncb : rb ≠ cb := fun e => hO.orb.1 (e ▸ hbk.1)
  have HTK := Lib.hid (tick_hc (w := w.alloc (.cells #[.int .i64 17, .int .i64 x.dst, .int .i64 x.a, .int .i64 x.b, .int .i64 x.n, .slice A x.arg.length cap] 68)) 1 (h.below (below1 _ _)) hI.kind hf hI.lo hI.hi (by omega) (by omega))
  have HR := Lib.hid hR
  have HF := Lib.hid hF
  have HO := Lib.hid hO
  have HBK := Lib.hid hbk
  have hrb1 : rb < w.heap.size + 1 := by omega
  have HX0 := Lib.hid (Row.new w #[.int .i64 17, .int .i64 x.dst, .int .i64 x.a, .int .i64 x.b, .int .i64 x.n, .slice A x.arg.length cap] 68)
  rw [hy] at HTK
  obtain ⟨s1, hs1⟩ : ∃ s1, s1 = (stepF fuel 1 s).2 := ⟨_, rfl⟩
  rw [← hs1] at HTK ⊢
  clear h hR hF hO hI hbk hy hs1
  go_enter Try.func25, Try.ntmps25
  refine wp_letter (fun Q hQ => ?_)
  have HQ := Lib.hid hQ
  clear hQ
  go_wp2_with fail
  refine HTK.out.mono ?_
  rintro e w1 ⟨rfl, hH1, hw1⟩
  have HH1 := Lib.hid hH1
  have hW1 : Wr (fun b => b = cb) w w1 := (Wr.of_below (F := fun b => b = cb) (below1 w (.cells #[.int .i64 17, .int .i64 x.dst, .int .i64 x.a, .int .i64 x.b, .int .i64 x.n, .slice A x.arg.length cap] 68))).trans hw1 (fun _ h => Or.inl h)
  have HW1 := Lib.hid hW1
  have hzw1 := hW1.size
  have hne0 : ¬ w.heap.size = cb := by omega
  have HX1 := Lib.hid (HX0.out.wr hw1 hne0)
  have HR1 := Lib.hid (HR.out.wr hW1 hncb (fun g hg e => (HO.out.ogv g hg).1 (e ▸ HBK.out.1)))
  have HF1 := Lib.hid (HF.out.wr hW1 (fun e => HO.out.ofb.1 (e ▸ HBK.out.1)) (fun e => HO.out.otb.1 (e ▸ HBK.out.1)) (fun g hg e => (HO.out.olv g hg).1 (e ▸ HBK.out.1)))
  have x0 := HX1.out.cell (j := 0) rfl
  have xl := HX1.out.lt
  have hrbl := HR1.out.row.lt
  clear hH1 hw1 hW1
  go_wp2_with fail
  refine HQ.out _ _ _ ?_
  exact bodyPost_ret (v := .tuple #[.int .i64 (-1), .bool true]) (by simp [results, Try.results25, go_sem]) rfl ⟨⟨-1, rfl, fun _ => rfl⟩, own, fun _ h => h, fun _ h => Or.inl h, HH1.out, fun _ => HF1.out, HW1.out.mono (fun i hi => Or.inl (Or.inl (hi ▸ HBK.out.1)))⟩
set_option maxRecDepth 100000 in
set_option maxHeartbeats 8000000 in
theorem vnext_jump (base cb hb rb fb tb mb : Nat) (own : Nat → Prop) (P : Value × Value × Value) (gv bv lv : Value) (fuel : Int) (s : St) (tp : List V) (lo : List Nat) (ng : Nat) (R : CallR) (l : List InsS) (k : Nat) (x : InsS) (A : Option Addr) (cap : Nat) (w : World)
    (h : HCs w base own cb hb fuel s) (hR : VRun w rb cb hb P gv bv ng) (hF : VFrame w fb tb tp lv lo mb) (hO : VOff base own rb fb tb lv gv) (hI : GInv fuel s) (hf : fuel ≤ 100000000) (hk : k ≤ 10000) (hy : (stepF fuel 1 s).1 = true) (hop : x.op = 15) (nl : Nat) (hlab : LabM w mb nl (labO l)) (hmb : ¬ own mb) (hli : labI l x.n = true) (hx64 : In64 x.n) :
    Calls Try.prog 25 #[.pointer (some ⟨rb, 0, none⟩), .pointer (some ⟨fb, 0, none⟩), .int .i64 (k : Int), .agg #[.int .i64 x.op, .int .i64 x.dst, .int .i64 x.a, .int .i64 x.b, .int .i64 x.n, .slice A x.arg.length cap]] w fun e w' => VNextSays base cb hb fuel fb tb mb lv lo own (nextF R fuel lo l s tp k x) w e w' := by
  rw [show nextF R fuel lo l s tp k x = (true, ((labN l x.n : Nat) : Int), (stepF fuel 1 s).2, tp) by unfold nextF; rw [if_neg (by rw [hy]; simp), if_neg (by omega), if_pos hop], hop]
  have hbk := h.blocks
  have hcb := hbk.2.2 cb hbk.1
  have hrb := hR.row.lt
  have r0 := hR.row.cell (j := 0) rfl
  have hncb : rb ≠ cb := fun e => hO.orb.1 (e ▸ hbk.1)
  have HTK := Lib.hid (tick_hc (w := w.alloc (.cells #[.int .i64 15, .int .i64 x.dst, .int .i64 x.a, .int .i64 x.b, .int .i64 x.n, .slice A x.arg.length cap] 68)) 1 (h.below (below1 _ _)) hI.kind hf hI.lo hI.hi (by omega) (by omega))
  have HR := Lib.hid hR
  have HF := Lib.hid hF
  have HO := Lib.hid hO
  have HBK := Lib.hid hbk
  have hrb1 : rb < w.heap.size + 1 := by omega
  have HX0 := Lib.hid (Row.new w #[.int .i64 15, .int .i64 x.dst, .int .i64 x.a, .int .i64 x.b, .int .i64 x.n, .slice A x.arg.length cap] 68)
  rw [hy] at HTK
  obtain ⟨s1, hs1⟩ : ∃ s1, s1 = (stepF fuel 1 s).2 := ⟨_, rfl⟩
  rw [← hs1] at HTK ⊢
  have HLAB := Lib.hid hlab
  have HLK := Lib.hid (fun W (hW : LabM W mb nl (labO l)) => (show (Instr.lookup 56 (.map (some mb)) (.int .i64 x.n) false).run Try.prog W = .ok (.int .i64 (labN l x.n : Nat)) W from by have := hW.look hx64; rw [this, show labO l x.n = some (labN l x.n) from by unfold labO; rw [if_pos hli]]; rfl))
  have HMB := Lib.hid (show mb ≠ cb from fun e => hmb (e ▸ hbk.1))
  clear h hR hF hO hI hbk hy hs1 hlab hmb hli hx64
  go_enter Try.func25, Try.ntmps25
  refine wp_letter (fun Q hQ => ?_)
  have HQ := Lib.hid hQ
  clear hQ
  go_wp2_with fail
  refine HTK.out.mono ?_
  rintro e w1 ⟨rfl, hH1, hw1⟩
  have HH1 := Lib.hid hH1
  have hW1 : Wr (fun b => b = cb) w w1 := (Wr.of_below (F := fun b => b = cb) (below1 w (.cells #[.int .i64 15, .int .i64 x.dst, .int .i64 x.a, .int .i64 x.b, .int .i64 x.n, .slice A x.arg.length cap] 68))).trans hw1 (fun _ h => Or.inl h)
  have HW1 := Lib.hid hW1
  have hzw1 := hW1.size
  have hne0 : ¬ w.heap.size = cb := by omega
  have HX1 := Lib.hid (HX0.out.wr hw1 hne0)
  have HR1 := Lib.hid (HR.out.wr hW1 hncb (fun g hg e => (HO.out.ogv g hg).1 (e ▸ HBK.out.1)))
  have HF1 := Lib.hid (HF.out.wr hW1 (fun e => HO.out.ofb.1 (e ▸ HBK.out.1)) (fun e => HO.out.otb.1 (e ▸ HBK.out.1)) (fun g hg e => (HO.out.olv g hg).1 (e ▸ HBK.out.1)))
  have x0 := HX1.out.cell (j := 0) rfl
  have xl := HX1.out.lt
  have hrbl := HR1.out.row.lt
  have x4 := HX1.out.cell (j := 4) rfl
  have ft := HF1.out.row.cell (j := 2) rfl
  have hfb1 := HF1.out.row.lt
  have hlk := HLK.out w1.drew (HLAB.out.wr HW1.out.drewR HMB.out)
  clear hH1 hw1 hW1
  go_wp2_with fail
  refine still_tailq 6 (by kernel_rfl) (by kernel_rfl) ?_
  simp only [List.take_succ_cons, List.take_zero, List.drop_succ_cons, List.drop_zero]
  repeat (go_big_quiet_step (fail))
  refine wpQuiet_nil ?_
  go_wp2_with fail
  refine HQ.out _ _ _ ?_
  exact bodyPost_ret (v := .tuple #[.int .i64 (labN l x.n : Nat), .bool true]) (by simp [results, Try.results25, go_sem]) rfl ⟨⟨_, rfl, fun _ => rfl⟩, own, fun _ h => h, fun _ h => Or.inl h, HH1.out.below (Below.refl _ _).drew, fun _ => HF1.out.below (Below.refl _ _).drew, (HW1.out.mono (fun i hi => Or.inl (Or.inl (hi ▸ HBK.out.1)))).drewR⟩
set_option maxRecDepth 100000 in
set_option maxHeartbeats 8000000 in
theorem vnext_stay (base cb hb rb fb tb mb : Nat) (own : Nat → Prop) (P : Value × Value × Value) (gv bv lv : Value) (fuel : Int) (s : St) (tp : List V) (lo : List Nat) (ng : Nat) (R : CallR) (l : List InsS) (k : Nat) (x : InsS) (A : Option Addr) (cap : Nat) (w : World)
    (h : HCs w base own cb hb fuel s) (hR : VRun w rb cb hb P gv bv ng) (hF : VFrame w fb tb tp lv lo mb) (hO : VOff base own rb fb tb lv gv) (hI : GInv fuel s) (hf : fuel ≤ 100000000) (hk : k ≤ 10000) (hy : (stepF fuel 1 s).1 = true) (hop : x.op = 16) (ma : Nat) (hxa : x.a = (ma : Int)) (hma : ma < tp.length) (hz : tp.getD ma ⟨0, 0⟩ = ⟨0, 0⟩) :
    Calls Try.prog 25 #[.pointer (some ⟨rb, 0, none⟩), .pointer (some ⟨fb, 0, none⟩), .int .i64 (k : Int), .agg #[.int .i64 x.op, .int .i64 x.dst, .int .i64 x.a, .int .i64 x.b, .int .i64 x.n, .slice A x.arg.length cap]] w fun e w' => VNextSays base cb hb fuel fb tb mb lv lo own (nextF R fuel lo l s tp k x) w e w' := by
  rw [show nextF R fuel lo l s tp k x = (true, ((k + 1 : Nat) : Int), (stepF fuel 1 s).2, tp) by unfold nextF; rw [if_neg (by rw [hy]; simp), if_neg (by omega), if_neg (by omega), if_pos hop, hxa, Int.toNat_natCast]; rw [if_pos hz], hop, hxa]
  have hbk := h.blocks
  have hcb := hbk.2.2 cb hbk.1
  have hrb := hR.row.lt
  have r0 := hR.row.cell (j := 0) rfl
  have hncb : rb ≠ cb := fun e => hO.orb.1 (e ▸ hbk.1)
  have HTK := Lib.hid (tick_hc (w := w.alloc (.cells #[.int .i64 16, .int .i64 x.dst, .int .i64 (ma : Int), .int .i64 x.b, .int .i64 x.n, .slice A x.arg.length cap] 68)) 1 (h.below (below1 _ _)) hI.kind hf hI.lo hI.hi (by omega) (by omega))
  have HR := Lib.hid hR
  have HF := Lib.hid hF
  have HO := Lib.hid hO
  have HBK := Lib.hid hbk
  have hrb1 : rb < w.heap.size + 1 := by omega
  have HX0 := Lib.hid (Row.new w #[.int .i64 16, .int .i64 x.dst, .int .i64 (ma : Int), .int .i64 x.b, .int .i64 x.n, .slice A x.arg.length cap] 68)
  rw [hy] at HTK
  obtain ⟨s1, hs1⟩ : ∃ s1, s1 = (stepF fuel 1 s).2 := ⟨_, rfl⟩
  rw [← hs1] at HTK ⊢
  obtain ⟨v, hv⟩ : ∃ v, tp[ma]? = some v := ⟨_, List.getElem?_eq_getElem hma⟩
  have hgd : tp.getD ma ⟨0, 0⟩ = v := by rw [List.getD_eq_getElem?_getD, hv]; rfl
  rw [hz] at hgd
  subst hgd
  clear h hR hF hO hI hbk hy hs1 hz
  go_enter Try.func25, Try.ntmps25
  refine wp_letter (fun Q hQ => ?_)
  have HQ := Lib.hid hQ
  clear hQ
  go_wp2_with fail
  refine HTK.out.mono ?_
  rintro e w1 ⟨rfl, hH1, hw1⟩
  have HH1 := Lib.hid hH1
  have hW1 : Wr (fun b => b = cb) w w1 := (Wr.of_below (F := fun b => b = cb) (below1 w (.cells #[.int .i64 16, .int .i64 x.dst, .int .i64 (ma : Int), .int .i64 x.b, .int .i64 x.n, .slice A x.arg.length cap] 68))).trans hw1 (fun _ h => Or.inl h)
  have HW1 := Lib.hid hW1
  have hzw1 := hW1.size
  have hne0 : ¬ w.heap.size = cb := by omega
  have HX1 := Lib.hid (HX0.out.wr hw1 hne0)
  have HR1 := Lib.hid (HR.out.wr hW1 hncb (fun g hg e => (HO.out.ogv g hg).1 (e ▸ HBK.out.1)))
  have HF1 := Lib.hid (HF.out.wr hW1 (fun e => HO.out.ofb.1 (e ▸ HBK.out.1)) (fun e => HO.out.otb.1 (e ▸ HBK.out.1)) (fun g hg e => (HO.out.olv g hg).1 (e ▸ HBK.out.1)))
  have x0 := HX1.out.cell (j := 0) rfl
  have xl := HX1.out.lt
  have hrbl := HR1.out.row.lt
  have x2 := HX1.out.cell (j := 2) rfl
  have ft := HF1.out.row.cell (j := 0) rfl
  have hfb1 := HF1.out.row.lt
  have htb1 := HF1.out.lt.2
  obtain ⟨cs, htr, hvi⟩ := id HF1.out.temps
  obtain ⟨tv0, tv1⟩ := hvi.2 ma _ hv
  have t0 := htr.cell tv0
  have t1 := htr.cell tv1
  have hm0 : (0 : Int) ≤ (ma : Int) := by omega
  have hm1 : (ma : Int) < (tp.length : Int) := by omega
  have htpl : (tp.length : Int) ≤ 1000000 := by have := HF1.out.few; omega
  clear hH1 hw1 hW1 htr hvi tv0 tv1 hv
  have t0 := num_zero t0 rfl
  simp only at t1
  have KS := Lib.hid (fun W (hW : Below w1.heap.size w1 W) => (⟨cell_below ft hW hfb1, cell_below x2 hW xl, cell_below t0 hW htb1, cell_below t1 hW htb1⟩ : W.cell? ⟨fb, 0, none⟩ = some (.slice (some ⟨tb, 0, none⟩) tp.length tp.length) ∧ W.cell? ⟨w.heap.size, 2, none⟩ = some (.int .i64 (ma : Int)) ∧ W.cell? ⟨tb, ma * 2, none⟩ = some (.int .i64 0) ∧ W.cell? ⟨tb, ma * 2 + 1, none⟩ = some (.int .i64 0)))
  go_wp2_with fail
  go_region_held3 (fun w' => w'.cell? ⟨fb, 0, none⟩ = some (.slice (some ⟨tb, 0, none⟩) tp.length tp.length) ∧ w'.cell? ⟨w.heap.size, 2, none⟩ = some (.int .i64 (ma : Int)) ∧ w'.cell? ⟨tb, ma * 2, none⟩ = some (.int .i64 0) ∧ w'.cell? ⟨tb, ma * 2 + 1, none⟩ = some (.int .i64 0)) (first | exact KS.out _ (Below.refl _ _).drew | exact KS.out _ (Below.refl _ _) | go_keep) (fail)
  go_wp2_with fail
  refine HQ.out _ _ _ ?_
  have hbz := (below1 w1 (.cells #[.int .i64 0, .int .i64 0] 60)).drew
  exact bodyPost_ret (v := .tuple #[.int .i64 ((k : Int) + 1), .bool true]) (by simp [results, Try.results25, go_sem]) rfl ⟨⟨_, rfl, fun _ => by simp⟩, own, fun _ h => h, fun _ h => Or.inl h, HH1.out.below hbz, fun _ => HF1.out.below hbz, (HW1.out.mono (fun i hi => Or.inl (Or.inl (hi ▸ HBK.out.1)))).trans (Wr.of_below (F := fun _ => False) hbz) (fun _ h => h.elim)⟩
set_option maxRecDepth 100000 in
set_option maxHeartbeats 8000000 in
theorem vnext_go_obj (base cb hb rb fb tb mb : Nat) (own : Nat → Prop) (P : Value × Value × Value) (gv bv lv : Value) (fuel : Int) (s : St) (tp : List V) (lo : List Nat) (ng : Nat) (R : CallR) (l : List InsS) (k : Nat) (x : InsS) (A : Option Addr) (cap : Nat) (w : World)
    (h : HCs w base own cb hb fuel s) (hR : VRun w rb cb hb P gv bv ng) (hF : VFrame w fb tb tp lv lo mb) (hO : VOff base own rb fb tb lv gv) (hI : GInv fuel s) (hf : fuel ≤ 100000000) (hk : k ≤ 10000) (hy : (stepF fuel 1 s).1 = true) (hop : x.op = 16) (ma : Nat) (hxa : x.a = (ma : Int)) (hma : ma < tp.length) (hz : 0 < (tp.getD ma ⟨0, 0⟩).obj) (nl : Nat) (hlab : LabM w mb nl (labO l)) (hmb : ¬ own mb) (hli : labI l x.n = true) (hx64 : In64 x.n) :
    Calls Try.prog 25 #[.pointer (some ⟨rb, 0, none⟩), .pointer (some ⟨fb, 0, none⟩), .int .i64 (k : Int), .agg #[.int .i64 x.op, .int .i64 x.dst, .int .i64 x.a, .int .i64 x.b, .int .i64 x.n, .slice A x.arg.length cap]] w fun e w' => VNextSays base cb hb fuel fb tb mb lv lo own (nextF R fuel lo l s tp k x) w e w' := by
  rw [show nextF R fuel lo l s tp k x = (true, ((labN l x.n : Nat) : Int), (stepF fuel 1 s).2, tp) by unfold nextF; rw [if_neg (by rw [hy]; simp), if_neg (by omega), if_neg (by omega), if_pos hop, hxa, Int.toNat_natCast]; rw [if_neg (show ¬ tp.getD ma ⟨0, 0⟩ = ⟨0, 0⟩ by intro e; rw [e] at hz; simp at hz)], hop, hxa]
  have hbk := h.blocks
  have hcb := hbk.2.2 cb hbk.1
  have hrb := hR.row.lt
  have r0 := hR.row.cell (j := 0) rfl
  have hncb : rb ≠ cb := fun e => hO.orb.1 (e ▸ hbk.1)
  have HTK := Lib.hid (tick_hc (w := w.alloc (.cells #[.int .i64 16, .int .i64 x.dst, .int .i64 (ma : Int), .int .i64 x.b, .int .i64 x.n, .slice A x.arg.length cap] 68)) 1 (h.below (below1 _ _)) hI.kind hf hI.lo hI.hi (by omega) (by omega))
  have HR := Lib.hid hR
  have HF := Lib.hid hF
  have HO := Lib.hid hO
  have HBK := Lib.hid hbk
  have hrb1 : rb < w.heap.size + 1 := by omega
  have HX0 := Lib.hid (Row.new w #[.int .i64 16, .int .i64 x.dst, .int .i64 (ma : Int), .int .i64 x.b, .int .i64 x.n, .slice A x.arg.length cap] 68)
  rw [hy] at HTK
  obtain ⟨s1, hs1⟩ : ∃ s1, s1 = (stepF fuel 1 s).2 := ⟨_, rfl⟩
  rw [← hs1] at HTK ⊢
  obtain ⟨v, hv⟩ : ∃ v, tp[ma]? = some v := ⟨_, List.getElem?_eq_getElem hma⟩
  have hgd : tp.getD ma ⟨0, 0⟩ = v := by rw [List.getD_eq_getElem?_getD, hv]; rfl
  rw [hgd] at hz
  have HLAB := Lib.hid hlab
  have HLK := Lib.hid (fun W (hW : LabM W mb nl (labO l)) => (show (Instr.lookup 56 (.map (some mb)) (.int .i64 x.n) false).run Try.prog W = .ok (.int .i64 (labN l x.n : Nat)) W from by have := hW.look hx64; rw [this, show labO l x.n = some (labN l x.n) from by unfold labO; rw [if_pos hli]]; rfl))
  have HMB := Lib.hid (show mb ≠ cb from fun e => hmb (e ▸ hbk.1))
  clear h hR hF hO hI hbk hy hs1 hgd hlab hmb hli hx64
  go_enter Try.func25, Try.ntmps25
  refine wp_letter (fun Q hQ => ?_)
  have HQ := Lib.hid hQ
  clear hQ
  go_wp2_with fail
  refine HTK.out.mono ?_
  rintro e w1 ⟨rfl, hH1, hw1⟩
  have HH1 := Lib.hid hH1
  have hW1 : Wr (fun b => b = cb) w w1 := (Wr.of_below (F := fun b => b = cb) (below1 w (.cells #[.int .i64 16, .int .i64 x.dst, .int .i64 (ma : Int), .int .i64 x.b, .int .i64 x.n, .slice A x.arg.length cap] 68))).trans hw1 (fun _ h => Or.inl h)
  have HW1 := Lib.hid hW1
  have hzw1 := hW1.size
  have hne0 : ¬ w.heap.size = cb := by omega
  have HX1 := Lib.hid (HX0.out.wr hw1 hne0)
  have HR1 := Lib.hid (HR.out.wr hW1 hncb (fun g hg e => (HO.out.ogv g hg).1 (e ▸ HBK.out.1)))
  have HF1 := Lib.hid (HF.out.wr hW1 (fun e => HO.out.ofb.1 (e ▸ HBK.out.1)) (fun e => HO.out.otb.1 (e ▸ HBK.out.1)) (fun g hg e => (HO.out.olv g hg).1 (e ▸ HBK.out.1)))
  have x0 := HX1.out.cell (j := 0) rfl
  have xl := HX1.out.lt
  have hrbl := HR1.out.row.lt
  have x2 := HX1.out.cell (j := 2) rfl
  have ft := HF1.out.row.cell (j := 0) rfl
  have hfb1 := HF1.out.row.lt
  have htb1 := HF1.out.lt.2
  obtain ⟨cs, htr, hvi⟩ := id HF1.out.temps
  obtain ⟨tv0, tv1⟩ := hvi.2 ma _ hv
  have t0 := htr.cell tv0
  have t1 := htr.cell tv1
  have hm0 : (0 : Int) ≤ (ma : Int) := by omega
  have hm1 : (ma : Int) < (tp.length : Int) := by omega
  have htpl : (tp.length : Int) ≤ 1000000 := by have := HF1.out.few; omega
  have x4 := HX1.out.cell (j := 4) rfl
  have fm := HF1.out.row.cell (j := 2) rfl
  clear hH1 hw1 hW1 htr hvi tv0 tv1 hv
  have hz0 : decide ((0 : Int) < (v.obj : Int)) = true := by simp; omega
  have hz1 : decide (0 < v.obj) = true := by simp; omega
  have KS := Lib.hid (fun W (hW : Below w1.heap.size w1 W) => (⟨cell_below ft hW hfb1, cell_below x2 hW xl, cell_below t0 hW htb1, cell_below t1 hW htb1⟩ : W.cell? ⟨fb, 0, none⟩ = some (.slice (some ⟨tb, 0, none⟩) tp.length tp.length) ∧ W.cell? ⟨w.heap.size, 2, none⟩ = some (.int .i64 (ma : Int)) ∧ W.cell? ⟨tb, ma * 2, none⟩ = some (.int .i64 v.obj) ∧ W.cell? ⟨tb, ma * 2 + 1, none⟩ = some (.int .i64 v.n)))
  have hbz := (below1 w1 (.cells #[.int .i64 v.obj, .int .i64 v.n] 60)).drew
  have HBZ := Lib.hid hbz
  have x4b := cell_below x4 hbz xl
  have fmb := cell_below fm hbz hfb1
  have hlk := HLK.out (w1.alloc (.cells #[.int .i64 v.obj, .int .i64 v.n] 60)).drew ((HLAB.out.wr HW1.out HMB.out).wr (Wr.of_below (F := fun _ => False) hbz) (fun h => h))
  have hlk2 := HLK.out (w1.alloc (.cells #[.int .i64 v.obj, .int .i64 v.n] 60)).drew.drew ((HLAB.out.wr HW1.out HMB.out).wr (Wr.of_below (F := fun _ => False) hbz.drew) (fun h => h))
  have xl2 : w.heap.size < w1.heap.size + 1 := by omega
  have hfb2 : fb < w1.heap.size + 1 := by omega
  clear hbz
  go_wp2_with fail
  go_region_held3 (fun w' => w'.cell? ⟨fb, 0, none⟩ = some (.slice (some ⟨tb, 0, none⟩) tp.length tp.length) ∧ w'.cell? ⟨w.heap.size, 2, none⟩ = some (.int .i64 (ma : Int)) ∧ w'.cell? ⟨tb, ma * 2, none⟩ = some (.int .i64 v.obj) ∧ w'.cell? ⟨tb, ma * 2 + 1, none⟩ = some (.int .i64 v.n)) (first | exact KS.out _ (Below.refl _ _).drew | exact KS.out _ (Below.refl _ _) | go_keep) (fail)
  go_wp2_with fail
  refine still_tailq 6 (by kernel_rfl) (by kernel_rfl) ?_
  simp only [List.take_succ_cons, List.take_zero, List.drop_succ_cons, List.drop_zero]
  repeat (go_big_quiet_step (fail))
  refine wpQuiet_nil ?_
  go_wp2_with fail
  refine HQ.out _ _ _ ?_
  exact bodyPost_ret (v := .tuple #[.int .i64 (labN l x.n : Nat), .bool true]) (by simp [results, Try.results25, go_sem]) rfl ⟨⟨_, rfl, fun _ => rfl⟩, own, fun _ h => h, fun _ h => Or.inl h, HH1.out.below HBZ.out.drew, fun _ => HF1.out.below HBZ.out.drew, ((HW1.out.mono (fun i hi => Or.inl (Or.inl (hi ▸ HBK.out.1)))).trans (Wr.of_below (F := fun _ => False) HBZ.out.drew) (fun _ h => h.elim))⟩
set_option maxRecDepth 100000 in
set_option maxHeartbeats 8000000 in
theorem vnext_go_num (base cb hb rb fb tb mb : Nat) (own : Nat → Prop) (P : Value × Value × Value) (gv bv lv : Value) (fuel : Int) (s : St) (tp : List V) (lo : List Nat) (ng : Nat) (R : CallR) (l : List InsS) (k : Nat) (x : InsS) (A : Option Addr) (cap : Nat) (w : World)
    (h : HCs w base own cb hb fuel s) (hR : VRun w rb cb hb P gv bv ng) (hF : VFrame w fb tb tp lv lo mb) (hO : VOff base own rb fb tb lv gv) (hI : GInv fuel s) (hf : fuel ≤ 100000000) (hk : k ≤ 10000) (hy : (stepF fuel 1 s).1 = true) (hop : x.op = 16) (ma : Nat) (hxa : x.a = (ma : Int)) (hma : ma < tp.length) (hz : (tp.getD ma ⟨0, 0⟩).obj = 0 ∧ (tp.getD ma ⟨0, 0⟩).n ≠ 0) (nl : Nat) (hlab : LabM w mb nl (labO l)) (hmb : ¬ own mb) (hli : labI l x.n = true) (hx64 : In64 x.n) :
    Calls Try.prog 25 #[.pointer (some ⟨rb, 0, none⟩), .pointer (some ⟨fb, 0, none⟩), .int .i64 (k : Int), .agg #[.int .i64 x.op, .int .i64 x.dst, .int .i64 x.a, .int .i64 x.b, .int .i64 x.n, .slice A x.arg.length cap]] w fun e w' => VNextSays base cb hb fuel fb tb mb lv lo own (nextF R fuel lo l s tp k x) w e w' := by
  rw [show nextF R fuel lo l s tp k x = (true, ((labN l x.n : Nat) : Int), (stepF fuel 1 s).2, tp) by unfold nextF; rw [if_neg (by rw [hy]; simp), if_neg (by omega), if_neg (by omega), if_pos hop, hxa, Int.toNat_natCast]; rw [if_neg (show ¬ tp.getD ma ⟨0, 0⟩ = ⟨0, 0⟩ by intro e; rw [e] at hz; simp at hz)], hop, hxa]
  have hbk := h.blocks
  have hcb := hbk.2.2 cb hbk.1
  have hrb := hR.row.lt
  have r0 := hR.row.cell (j := 0) rfl
  have hncb : rb ≠ cb := fun e => hO.orb.1 (e ▸ hbk.1)
  have HTK := Lib.hid (tick_hc (w := w.alloc (.cells #[.int .i64 16, .int .i64 x.dst, .int .i64 (ma : Int), .int .i64 x.b, .int .i64 x.n, .slice A x.arg.length cap] 68)) 1 (h.below (below1 _ _)) hI.kind hf hI.lo hI.hi (by omega) (by omega))
  have HR := Lib.hid hR
  have HF := Lib.hid hF
  have HO := Lib.hid hO
  have HBK := Lib.hid hbk
  have hrb1 : rb < w.heap.size + 1 := by omega
  have HX0 := Lib.hid (Row.new w #[.int .i64 16, .int .i64 x.dst, .int .i64 (ma : Int), .int .i64 x.b, .int .i64 x.n, .slice A x.arg.length cap] 68)
  rw [hy] at HTK
  obtain ⟨s1, hs1⟩ : ∃ s1, s1 = (stepF fuel 1 s).2 := ⟨_, rfl⟩
  rw [← hs1] at HTK ⊢
  obtain ⟨v, hv⟩ : ∃ v, tp[ma]? = some v := ⟨_, List.getElem?_eq_getElem hma⟩
  have hgd : tp.getD ma ⟨0, 0⟩ = v := by rw [List.getD_eq_getElem?_getD, hv]; rfl
  rw [hgd] at hz
  have HLAB := Lib.hid hlab
  have HLK := Lib.hid (fun W (hW : LabM W mb nl (labO l)) => (show (Instr.lookup 56 (.map (some mb)) (.int .i64 x.n) false).run Try.prog W = .ok (.int .i64 (labN l x.n : Nat)) W from by have := hW.look hx64; rw [this, show labO l x.n = some (labN l x.n) from by unfold labO; rw [if_pos hli]]; rfl))
  have HMB := Lib.hid (show mb ≠ cb from fun e => hmb (e ▸ hbk.1))
  clear h hR hF hO hI hbk hy hs1 hgd hlab hmb hli hx64
  go_enter Try.func25, Try.ntmps25
  refine wp_letter (fun Q hQ => ?_)
  have HQ := Lib.hid hQ
  clear hQ
  go_wp2_with fail
  refine HTK.out.mono ?_
  rintro e w1 ⟨rfl, hH1, hw1⟩
  have HH1 := Lib.hid hH1
  have hW1 : Wr (fun b => b = cb) w w1 := (Wr.of_below (F := fun b => b = cb) (below1 w (.cells #[.int .i64 16, .int .i64 x.dst, .int .i64 (ma : Int), .int .i64 x.b, .int .i64 x.n, .slice A x.arg.length cap] 68))).trans hw1 (fun _ h => Or.inl h)
  have HW1 := Lib.hid hW1
  have hzw1 := hW1.size
  have hne0 : ¬ w.heap.size = cb := by omega
  have HX1 := Lib.hid (HX0.out.wr hw1 hne0)
  have HR1 := Lib.hid (HR.out.wr hW1 hncb (fun g hg e => (HO.out.ogv g hg).1 (e ▸ HBK.out.1)))
  have HF1 := Lib.hid (HF.out.wr hW1 (fun e => HO.out.ofb.1 (e ▸ HBK.out.1)) (fun e => HO.out.otb.1 (e ▸ HBK.out.1)) (fun g hg e => (HO.out.olv g hg).1 (e ▸ HBK.out.1)))
  have x0 := HX1.out.cell (j := 0) rfl
  have xl := HX1.out.lt
  have hrbl := HR1.out.row.lt
  have x2 := HX1.out.cell (j := 2) rfl
  have ft := HF1.out.row.cell (j := 0) rfl
  have hfb1 := HF1.out.row.lt
  have htb1 := HF1.out.lt.2
  obtain ⟨cs, htr, hvi⟩ := id HF1.out.temps
  obtain ⟨tv0, tv1⟩ := hvi.2 ma _ hv
  have t0 := htr.cell tv0
  have t1 := htr.cell tv1
  have hm0 : (0 : Int) ≤ (ma : Int) := by omega
  have hm1 : (ma : Int) < (tp.length : Int) := by omega
  have htpl : (tp.length : Int) ≤ 1000000 := by have := HF1.out.few; omega
  have x4 := HX1.out.cell (j := 4) rfl
  have fm := HF1.out.row.cell (j := 2) rfl
  clear hH1 hw1 hW1 htr hvi tv0 tv1 hv
  obtain ⟨hz0, hz1⟩ := hz
  have t0 := num_zero t0 hz0
  have hz2 : (v.n == 0) = false := by simp; exact hz1
  have hz3 : (v.n != 0) = true := by simp; exact hz1
  have KS := Lib.hid (fun W (hW : Below w1.heap.size w1 W) => (⟨cell_below ft hW hfb1, cell_below x2 hW xl, cell_below t0 hW htb1, cell_below t1 hW htb1⟩ : W.cell? ⟨fb, 0, none⟩ = some (.slice (some ⟨tb, 0, none⟩) tp.length tp.length) ∧ W.cell? ⟨w.heap.size, 2, none⟩ = some (.int .i64 (ma : Int)) ∧ W.cell? ⟨tb, ma * 2, none⟩ = some (.int .i64 0) ∧ W.cell? ⟨tb, ma * 2 + 1, none⟩ = some (.int .i64 v.n)))
  have hbz := (below1 w1 (.cells #[.int .i64 0, .int .i64 v.n] 60)).drew
  have HBZ := Lib.hid hbz
  have x4b := cell_below x4 hbz xl
  have fmb := cell_below fm hbz hfb1
  have hlk := HLK.out (w1.alloc (.cells #[.int .i64 0, .int .i64 v.n] 60)).drew ((HLAB.out.wr HW1.out HMB.out).wr (Wr.of_below (F := fun _ => False) hbz) (fun h => h))
  have hlk2 := HLK.out (w1.alloc (.cells #[.int .i64 0, .int .i64 v.n] 60)).drew.drew ((HLAB.out.wr HW1.out HMB.out).wr (Wr.of_below (F := fun _ => False) hbz.drew) (fun h => h))
  have xl2 : w.heap.size < w1.heap.size + 1 := by omega
  have hfb2 : fb < w1.heap.size + 1 := by omega
  clear hbz
  go_wp2_with fail
  go_region_held3 (fun w' => w'.cell? ⟨fb, 0, none⟩ = some (.slice (some ⟨tb, 0, none⟩) tp.length tp.length) ∧ w'.cell? ⟨w.heap.size, 2, none⟩ = some (.int .i64 (ma : Int)) ∧ w'.cell? ⟨tb, ma * 2, none⟩ = some (.int .i64 0) ∧ w'.cell? ⟨tb, ma * 2 + 1, none⟩ = some (.int .i64 v.n)) (first | exact KS.out _ (Below.refl _ _).drew | exact KS.out _ (Below.refl _ _) | go_keep) (fail)
  go_wp2_with fail
  refine still_tailq 6 (by kernel_rfl) (by kernel_rfl) ?_
  simp only [List.take_succ_cons, List.take_zero, List.drop_succ_cons, List.drop_zero]
  repeat (go_big_quiet_step (fail))
  refine wpQuiet_nil ?_
  go_wp2_with fail
  refine HQ.out _ _ _ ?_
  exact bodyPost_ret (v := .tuple #[.int .i64 (labN l x.n : Nat), .bool true]) (by simp [results, Try.results25, go_sem]) rfl ⟨⟨_, rfl, fun _ => rfl⟩, own, fun _ h => h, fun _ h => Or.inl h, HH1.out.below HBZ.out.drew, fun _ => HF1.out.below HBZ.out.drew, ((HW1.out.mono (fun i hi => Or.inl (Or.inl (hi ▸ HBK.out.1)))).trans (Wr.of_below (F := fun _ => False) HBZ.out.drew) (fun _ h => h.elim))⟩
set_option maxRecDepth 100000 in
set_option maxHeartbeats 8000000 in
theorem vnext_on (base cb hb rb fb tb mb : Nat) (own : Nat → Prop) (P : Value × Value × Value) (gv bv lv : Value) (fuel : Int) (s : St) (tp : List V) (lo : List Nat) (ng : Nat) (R : CallR) (l : List InsS) (k : Nat) (x : InsS) (A : Option Addr) (cap : Nat) (w : World)
    (h : HCs w base own cb hb fuel s) (hR : VRun w rb cb hb P gv bv ng) (hF : VFrame w fb tb tp lv lo mb) (hO : VOff base own rb fb tb lv gv) (hI : GInv fuel s) (hf : fuel ≤ 100000000) (hk : k ≤ 10000) (hy : (stepF fuel 1 s).1 = true) (hop : x.op ≠ 15 ∧ x.op ≠ 16 ∧ x.op ≠ 17)
    (hdoes : ∀ W, HCs W base own cb hb fuel (stepF fuel 1 s).2 → VRun W rb cb hb P gv bv ng → VFrame W fb tb tp lv lo mb → Wr (fun b => b = cb) w W → Calls Try.prog 33 #[.pointer (some ⟨rb, 0, none⟩), .pointer (some ⟨fb, 0, none⟩), .agg #[.int .i64 x.op, .int .i64 x.dst, .int .i64 x.a, .int .i64 x.b, .int .i64 x.n, .slice A x.arg.length cap]] W fun e w' => VSays base cb hb fuel fb tb mb lv lo own (afterF R lo (stepF fuel 1 s).2 tp (stepI x)) W e w') :
    Calls Try.prog 25 #[.pointer (some ⟨rb, 0, none⟩), .pointer (some ⟨fb, 0, none⟩), .int .i64 (k : Int), .agg #[.int .i64 x.op, .int .i64 x.dst, .int .i64 x.a, .int .i64 x.b, .int .i64 x.n, .slice A x.arg.length cap]] w fun e w' => VNextSays base cb hb fuel fb tb mb lv lo own (nextF R fuel lo l s tp k x) w e w' := by
  rw [show nextF R fuel lo l s tp k x = ((afterF R lo (stepF fuel 1 s).2 tp (stepI x)).1, ((k + 1 : Nat) : Int), (afterF R lo (stepF fuel 1 s).2 tp (stepI x)).2.1, (afterF R lo (stepF fuel 1 s).2 tp (stepI x)).2.2) by unfold nextF; rw [if_neg (by rw [hy]; simp), if_neg hop.2.2, if_neg hop.1, if_neg hop.2.1]]
  have hbk := h.blocks
  have hcb := hbk.2.2 cb hbk.1
  have hrb := hR.row.lt
  have r0 := hR.row.cell (j := 0) rfl
  have hncb : rb ≠ cb := fun e => hO.orb.1 (e ▸ hbk.1)
  have HTK := Lib.hid (tick_hc (w := w.alloc (.cells #[.int .i64 x.op, .int .i64 x.dst, .int .i64 x.a, .int .i64 x.b, .int .i64 x.n, .slice A x.arg.length cap] 68)) 1 (h.below (below1 _ _)) hI.kind hf hI.lo hI.hi (by omega) (by omega))
  have HR := Lib.hid hR
  have HF := Lib.hid hF
  have HO := Lib.hid hO
  have HBK := Lib.hid hbk
  have hrb1 : rb < w.heap.size + 1 := by omega
  have HX0 := Lib.hid (Row.new w #[.int .i64 x.op, .int .i64 x.dst, .int .i64 x.a, .int .i64 x.b, .int .i64 x.n, .slice A x.arg.length cap] 68)
  rw [hy] at HTK
  obtain ⟨s1, hs1⟩ : ∃ s1, s1 = (stepF fuel 1 s).2 := ⟨_, rfl⟩
  rw [← hs1] at HTK ⊢
  rw [← hs1] at hdoes
  obtain ⟨r, hr⟩ : ∃ r, r = afterF R lo s1 tp (stepI x) := ⟨_, rfl⟩
  rw [← hr] at hdoes ⊢
  have HDO := Lib.hid hdoes
  have t15 : (x.op == 15) = false := by simp; exact hop.1
  have t16 : (x.op == 16) = false := by simp; exact hop.2.1
  have t17 : (x.op == 17) = false := by simp; exact hop.2.2
  clear h hR hF hO hI hbk hy hs1 hr hdoes hop
  go_enter Try.func25, Try.ntmps25
  refine wp_letter (fun Q hQ => ?_)
  have HQ := Lib.hid hQ
  clear hQ
  go_wp2_with fail
  refine HTK.out.mono ?_
  rintro e w1 ⟨rfl, hH1, hw1⟩
  have HH1 := Lib.hid hH1
  have hW1 : Wr (fun b => b = cb) w w1 := (Wr.of_below (F := fun b => b = cb) (below1 w (.cells #[.int .i64 x.op, .int .i64 x.dst, .int .i64 x.a, .int .i64 x.b, .int .i64 x.n, .slice A x.arg.length cap] 68))).trans hw1 (fun _ h => Or.inl h)
  have HW1 := Lib.hid hW1
  have hzw1 := hW1.size
  have hne0 : ¬ w.heap.size = cb := by omega
  have HX1 := Lib.hid (HX0.out.wr hw1 hne0)
  have HR1 := Lib.hid (HR.out.wr hW1 hncb (fun g hg e => (HO.out.ogv g hg).1 (e ▸ HBK.out.1)))
  have HF1 := Lib.hid (HF.out.wr hW1 (fun e => HO.out.ofb.1 (e ▸ HBK.out.1)) (fun e => HO.out.otb.1 (e ▸ HBK.out.1)) (fun g hg e => (HO.out.olv g hg).1 (e ▸ HBK.out.1)))
  have x0 := HX1.out.cell (j := 0) rfl
  have xl := HX1.out.lt
  have hrbl := HR1.out.row.lt
  have x1 := HX1.out.cell (j := 1) rfl
  have x2 := HX1.out.cell (j := 2) rfl
  have x3 := HX1.out.cell (j := 3) rfl
  have x4 := HX1.out.cell (j := 4) rfl
  have x5 := HX1.out.cell (j := 5) rfl
  have HD1 := Lib.hid (HDO.out w1 HH1.out HR1.out HF1.out HW1.out)
  clear hH1 hw1 hW1 HDO
  have hk0 : (0 : Int) ≤ (k : Int) := by omega
  go_wp2_with fail
  refine HD1.out.mono ?_
  rintro e w2 ⟨rfl, own', h1, h2, h3, h4, h5⟩
  have HS := Lib.hid (And.intro h1 (And.intro h2 (And.intro h3 (And.intro h4 h5))))
  clear h1 h2 h3 h4 h5
  go_wp2_with fail
  refine HQ.out _ _ _ ?_
  exact bodyPost_ret (v := .tuple #[.int .i64 ((k : Int) + 1), .bool r.1]) (by simp [results, Try.results25, go_sem]) rfl ⟨⟨_, rfl, fun _ => by simp⟩, own', HS.out.1, fun q hq => (HS.out.2.1 q hq).imp id (fun h => Nat.le_trans HW1.out.size h), HS.out.2.2.1, HS.out.2.2.2.1, (HW1.out.mono (fun i hi => Or.inl (Or.inl (hi ▸ HBK.out.1)))).trans HS.out.2.2.2.2 (fun i hi => Or.inl hi)⟩
end Go.Proofs.Ytinmgbodgecoeaa
