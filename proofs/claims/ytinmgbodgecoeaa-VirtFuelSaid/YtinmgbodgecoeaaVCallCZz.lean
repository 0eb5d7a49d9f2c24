/- virt: a call that begins. Conditions: as stated. -/
import Derived.Test.YtinmgbodgecoeaaQ10Zz
import Derived.WalkLawsBesides
import Derived.Outline
import Derived.Deep.Cut
import Derived.Deep.DeepCutAuto
set_option linter.unusedVariables false
set_option linter.unusedSimpArgs false
namespace Go.Proofs.Ytinmgbodgecoeaa
open Go.RowKit

set_option maxRecDepth 1000000 in
set_option maxHeartbeats 16000000 in
theorem vcall_go (base cb hb rb : Nat) (own : Nat → Prop) (P : Value × Value × Value) (gv bv : Value) (fuel : Int) (p : VirtS) (s : St) (f : Nat) (g : CodeS) (args : List V) (AA : Option Addr) (an acap : Nat) (w : World)
    (hg : p.funcs[f]? = some g) (hfn : FnOkG (virtG p) (codeG g)) (hins : ∀ x, x ∈ g.ins → InsOk g p.globs.length p.funcs.length (parV p) x) (hlast : lastB g = true) (hpa : ∀ c, c ∈ p.funcs → c.params ≤ 4) (hvin : VirtIn p) (hmem : g ∈ p.funcs) (hil : g.ins.length ≤ 8000) (hf : fuel ≤ 100000000) (hal : (args.length : Int) = g.params) (h : HCs w base own cb hb fuel s) (hR : VRun w rb cb hb P gv bv p.globs.length) (hP : VirtAt w base P p) (horb : ¬ own rb ∧ base ≤ rb) (hogv : ∀ k, gv.ownBlock = some k → ¬ own k ∧ base ≤ k) (hI : GInv fuel s) (hgl : p.globs.length < (memBase s.mem).length) (hva : ∀ v, v ∈ args → VOk (memBase s.mem).length v) (han : args.length = an)
    (hL : VLabs w base own w.heap.size bv p) (hargs : ∀ j v, args[j]? = some v → ∃ b off, AA = some ⟨b, off, none⟩ ∧ b < w.heap.size ∧ ¬ own b ∧ ValCells w b (off + j * 2) v) (R : CallR) (hc : s.calls < 64) (hy : (stepF fuel (countsF g.locs) { s with calls := s.calls + 1, deep := max s.deep (s.calls + 1) }).1 = true) (hcall : VCallOk p fuel (s.calls + 1) R) (hRK : ∀ c, RKept (virtG p) fuel c R) (nt0 : Nat) (hnt0 : g.regs = nt0) :
    Calls Try.prog 13 #[.pointer (some ⟨rb, 0, none⟩), .int .i64 f, .slice AA an acap] w fun e w' => VCallSays base cb hb fuel own (blocksF R fuel (numsF s.mem g.locs.length) (blocksI g.ins) (fuel - (s.steps + countsF g.locs) + 1).toNat 0 { s with calls := s.calls + 1, deep := max s.deep (s.calls + 1), steps := s.steps + countsF g.locs, mem := makesF s.mem g.locs } (startF nt0 args)) w e w' := by
  subst han
  obtain ⟨lb, loff, lbc, hbv, hlb1, hlb2, hlb3, hlbs⟩ := hL.lie
  subst hbv
  obtain ⟨mb, mln, hm1, hm2, hm3, hm4, hm5⟩ := hlbs f g hg
  have HLB := Lib.hid hL
  have HM1 := Lib.hid hm1
  have HM2 := Lib.hid hm2
  have HRR6 := Lib.hid (show w.cell? ⟨rb, 6, none⟩ = some (.slice (some ⟨lb, loff, none⟩) p.funcs.length lbc) from hR.row.cell (j := 6) rfl)
  clear hL hlbs hm1 hm2
  have hbk := h.blocks
  have hcb := hbk.2.2 cb hbk.1
  have hpos : base ≤ w.heap.size := by omega
  obtain ⟨GA, gcap, hPf, hfl, _⟩ := id hP.2.1
  have hfk : f < p.funcs.length := by
    rcases Nat.lt_or_ge f p.funcs.length with h' | h'
    · exact h'
    · rw [List.getElem?_eq_none h'] at hg; cases hg
  have hPs := hPf ▸ hP.2.1
  obtain ⟨gb, goff, g', rfl, hgb, hg', g0, g1, ⟨LV, g2, hlo⟩, ⟨BV, g3, hbl⟩, _, _⟩ := hPs.get hfk
  obtain rfl : g' = g := by rw [hg] at hg'; injection hg' with e; exact e.symm
  obtain ⟨LA, lcap, rfl⟩ : ∃ LA lcap, LV = .slice LA g'.locs.length lcap := (by obtain ⟨A', c', h, _⟩ := hlo; exact ⟨_, _, h⟩)
  obtain ⟨BA, bcap, rfl⟩ : ∃ BA bcap, BV = .slice BA g'.ins.length bcap := (by obtain ⟨A', c', h, _⟩ := hbl; exact ⟨_, _, h⟩)
  obtain ⟨g, rfl⟩ : ∃ g, g = g' := ⟨_, rfl⟩
  simp only [Nat.add_zero] at g0 g1 g2 g3
  obtain ⟨nt, hnt, hnt2, hblk⟩ := hfn.nt
  rw [show g.regs = (nt : Int) from hnt] at g1
  have hobs : ∀ o, o ∈ g.locs → ObOk o := fun o ho => (hfn.obs o ho).1
  have hll : g.locs.length ≤ 400 := hfn.locs
  have hcbd := countsF_bd hobs
  have hfk2 : (f : Int) < (p.funcs.length : Int) := by omega
  have r0 : w.cell? ⟨rb, 0, none⟩ = some (.pointer (some ⟨cb, 0, none⟩)) := hR.row.cell (j := 0) rfl
  have r2 : w.cell? ⟨rb, 2, none⟩ = some (.slice (some ⟨gb, goff, none⟩) p.funcs.length gcap) := hPf ▸ hR.row.cell (j := 2) rfl
  have hrb := hR.row.lt
  have hgbl : gb < w.heap.size := by omega
  have HB2 := Lib.hid (below2 w (.cells #[.int .i64 0, .int .i64 0] 60) (.cells #[.int .i64 g.params, .int .i64 (nt0 : Nat), .slice LA g.locs.length lcap, .slice BA g.ins.length bcap] 55))
  have HEL := Lib.hid (elements_any base g.locs LA g.locs.length lcap ((w.alloc (.cells #[.int .i64 0, .int .i64 0] 60)).alloc (.cells #[.int .i64 g.params, .int .i64 (nt0 : Nat), .slice LA g.locs.length lcap, .slice BA g.ins.length bcap] 55)).drew (hlo.below (HB2.out.drew.mono hpos) (Nat.le_refl _) (fun _ _ h => h.below (HB2.out.drew.mono hpos) (Nat.le_refl _))) (by simp; omega) hobs (by omega))
  have HH := Lib.hid (fun W (hW : Below w.heap.size w W) => h.below hW)
  have hv0 := (Row.new w #[.int .i64 0, .int .i64 0] 60).alloc (.cells #[.int .i64 g.params, .int .i64 (nt0 : Nat), .slice LA g.locs.length lcap, .slice BA g.ins.length bcap] 55)
  have HV0 := Lib.hid hv0
  have HBK := Lib.hid hbk
  have hg0 := Row.new (w.alloc (.cells #[.int .i64 0, .int .i64 0] 60)) #[.int .i64 g.params, .int .i64 (nt0 : Nat), .slice LA g.locs.length lcap, .slice BA g.ins.length bcap] 55
  rw [World.size_alloc] at hg0
  have HG0 := Lib.hid hg0
  have HR0 := Lib.hid r0
  have KS := Lib.hid (fun (W : World) (hbw : Below ((w.alloc (.cells #[.int .i64 0, .int .i64 0] 60)).alloc (.cells #[.int .i64 g.params, .int .i64 (nt0 : Nat), .slice LA g.locs.length lcap, .slice BA g.ins.length bcap] 55)).heap.size ((w.alloc (.cells #[.int .i64 0, .int .i64 0] 60)).alloc (.cells #[.int .i64 g.params, .int .i64 (nt0 : Nat), .slice LA g.locs.length lcap, .slice BA g.ins.length bcap] 55)) W) => (⟨cell_below HR0.out (HB2.out.trans (hbw.mono HB2.out.size)) hrb, (HG0.out.below hbw HG0.out.lt).cell (j := 2) rfl⟩ : W.cell? ⟨rb, 0, none⟩ = some (.pointer (some ⟨cb, 0, none⟩)) ∧ W.cell? ⟨w.heap.size + 1, 2, none⟩ = some (.slice LA g.locs.length lcap)))
  have hncb1 : ¬ rb = cb := fun e => horb.1 (e ▸ hbk.1)
  have KS3 := Lib.hid (fun (W w' : World) (hbw : Below ((w.alloc (.cells #[.int .i64 0, .int .i64 0] 60)).alloc (.cells #[.int .i64 g.params, .int .i64 (nt0 : Nat), .slice LA g.locs.length lcap, .slice BA g.ins.length bcap] 55)).heap.size ((w.alloc (.cells #[.int .i64 0, .int .i64 0] 60)).alloc (.cells #[.int .i64 g.params, .int .i64 (nt0 : Nat), .slice LA g.locs.length lcap, .slice BA g.ins.length bcap] 55)) W) (hw : Wr (fun b => b = cb) W w') => (⟨(World.cell?_of_block (a := ⟨rb, 0, none⟩) (hw.block rb (by have := HB2.out.size; have := hbw.size; show rb < _; omega) hncb1)).trans (KS.out W hbw).1, (((HG0.out.below hbw HG0.out.lt)).wr hw (by omega)).cell (j := 2) rfl⟩ : w'.cell? ⟨rb, 0, none⟩ = some (.pointer (some ⟨cb, 0, none⟩)) ∧ w'.cell? ⟨w.heap.size + 1, 2, none⟩ = some (.slice LA g.locs.length lcap)))
  obtain rfl : nt0 = nt := by have : g.regs = (nt : Int) := hnt; omega
  obtain ⟨hy0, hy1, hy2⟩ := stepF_yes hy
  simp only at hy1 hy2
  have HEN := Lib.hid (fun W (hW : Below ((w.alloc (.cells #[.int .i64 0, .int .i64 0] 60)).alloc (.cells #[.int .i64 g.params, .int .i64 (nt0 : Nat), .slice LA g.locs.length lcap, .slice BA g.ins.length bcap] 55)).heap.size ((w.alloc (.cells #[.int .i64 0, .int .i64 0] 60)).alloc (.cells #[.int .i64 g.params, .int .i64 (nt0 : Nat), .slice LA g.locs.length lcap, .slice BA g.ins.length bcap] 55)) W) => (hy ▸ hy2 ▸ enter_hc (countsF g.locs) (HH.out W (HB2.out.trans (hW.mono HB2.out.size))) hI.kind hI.calls hc hf hI.lo hI.hi (by omega) (by omega) : Calls _ _ _ _ fun e w' => ClkEnd base own cb hb fuel { s with calls := s.calls + 1, deep := max s.deep (s.calls + 1), steps := s.steps + countsF g.locs } true W e w'))
  obtain ⟨Z, hZ, hmk⟩ := make_vals nt0 (by omega)
  have HZ := Lib.hid hZ
  have hmany := hI.many
  have hsteps := hI.hi
  have hlob := Lib.hid (show SliceAt w base 3 (ObE w base) g.locs (.slice LA g.locs.length lcap) from hlo)
  have HOBS := Lib.hid hobs
  have rr4 : w.cell? ⟨rb, 4, none⟩ = some (.pointer (some ⟨hb, 0, none⟩)) := hR.row.cell (j := 4) rfl
  have HRR4 := Lib.hid rr4
  have HNG := Lib.hid (show ∀ g, gv.ownBlock = some g → g < w.heap.size from fun g hg => by obtain ⟨_, cs, hr⟩ := ownsRow_row hR.globs hg; exact hr.lt)
  have HRN := Lib.hid hR
  have HINV := Lib.hid hI
  have HFN := Lib.hid hfn
  have HBLS := Lib.hid hbl
  have HPR := Lib.hid hP
  have HARG := Lib.hid hargs
  have HVA := Lib.hid hva
  have HOGV := Lib.hid hogv
  have HORB := Lib.hid horb
  have HHY := Lib.hid hy1
  have HCA := Lib.hid hcall
  have HRK := Lib.hid hRK
  have HNT := Lib.hid hnt0
  have HINS := Lib.hid hins
  have HLAST := Lib.hid hlast
  have HPA := Lib.hid hpa
  have HVIN := Lib.hid (hvin.ins g hmem)
  clear hins hlast hpa hvin hmem
  have HGL := Lib.hid hgl
  have HBL := Lib.hid hblk
  clear h hR hP hg hfn horb hogv hI hgl hva hargs hbk hg0 hv0 hPf hPs hlo hbl hobs hg' hfl rr4 hcall hRK hy hy0 hy1 hy2 hZ hblk
  go_enter Try.func13, Try.ntmps13
  refine wp_letter (fun Q hQ => ?_)
  have HQ := Lib.hid hQ
  clear hQ
  go_wp2_with fail
  go_region_held3 (fun w' => w'.cell? ⟨rb, 0, none⟩ = some (.pointer (some ⟨cb, 0, none⟩)) ∧ w'.cell? ⟨w.heap.size + 1, 2, none⟩ = some (.slice LA g.locs.length lcap)) (first | exact KS.out _ (Below.refl _ _).drew | exact KS.out _ ((Below.refl _ _).drew.trans hb1) | exact KS3.out _ _ ((Below.refl _ _).drew.trans hb1) hw2 | go_keep) ((first | (go_at_call 24; refine HEL.out.mono ?_; rintro e w1 ⟨rfl, hb1⟩) | (go_at_call 23; refine (HEN.out _ ((Below.refl _ _).drew.trans hb1)).mono ?_; rintro e w2 ⟨rfl, hH2, hw2⟩)))
  have HB1 := Lib.hid (HB2.out.drew.trans (hb1.mono HB2.out.drew.size))
  have hzb := HB1.out.size
  have hzw := hw2.size
  have hv2 := ((HV0.out.drew).below hb1 HV0.out.lt).wr hw2 (by omega)
  have hg2 := ((HG0.out.drew).below hb1 HG0.out.lt).wr hw2 (by omega)
  have q1 : w2.cell? ⟨w.heap.size + 1, 1, none⟩ = some (.int .i64 (nt0 : Nat)) := hg2.cell (j := 1) rfl
  have q2 : w2.cell? ⟨w.heap.size + 1, 2, none⟩ = some (.slice LA g.locs.length lcap) := hg2.cell (j := 2) rfl
  have HV2 := Lib.hid hv2
  have HG2 := Lib.hid hg2
  have HH2 := Lib.hid hH2
  have HW2 := Lib.hid (((Wr.of_below (F := own) HB1.out).trans hw2 (fun k hk => Or.inl (hk ▸ HBK.out.1))) : Wr own w w2)
  have hz2 : w.heap.size + 2 ≤ w2.heap.size := by have := HB2.out.drew.size; have := hb1.size; simp only [World.size_drew, World.size_alloc] at this; omega
  have hp4 : w2.cell? ⟨rb, 4, none⟩ = some (.pointer (some ⟨hb, 0, none⟩)) := (World.cell?_of_block (a := ⟨rb, 4, none⟩) (HW2.out.block rb hrb HORB.out.1)).trans HRR4.out
  have HP4 := Lib.hid hp4
  have HP6 := Lib.hid ((World.cell?_of_block (a := ⟨rb, 6, none⟩) (HW2.out.block rb hrb HORB.out.1)).trans HRR6.out)
  have HP7 := Lib.hid ((World.cell?_of_block (a := ⟨lb, loff + f, none⟩) (HW2.out.block lb hlb3 hlb1)).trans HM1.out)
  clear hH2 hw2 hv2 hg2 HV0 HG0 hb1
  go_upto_region 4 with fail
  go_cut [9] from 30 to 48 (fun v9 wx => ∃ (fb tb : Nat) (own3 : Nat → Prop) (lv : Value), v9 = .pointer (some ⟨fb, 0, none⟩) ∧ HCs wx base own3 cb hb fuel { s with calls := s.calls + 1, deep := max s.deep (s.calls + 1), steps := s.steps + countsF g.locs, mem := makesF s.mem g.locs } ∧ (∀ k, own k → own3 k) ∧ (∀ k, own3 k → own k ∨ w.heap.size + 2 ≤ k) ∧ Row wx fb #[.slice (some ⟨tb, 0, none⟩) nt0 nt0, lv, .map (some mb)] 81 ∧ VRow wx tb (List.replicate nt0 ⟨0, 0⟩) ∧ wx.ownsRow (w.heap.size + 2) 60 2 lv g.locs.length (flatV (locV (numsF s.mem g.locs.length))) ∧ (∀ k, lv.ownBlock = some k → ¬ own3 k ∧ k ≠ tb) ∧ w.heap.size + 2 ≤ fb ∧ w.heap.size + 2 ≤ tb ∧ ¬ own3 fb ∧ ¬ own3 tb ∧ Wr own w wx ∧ Row wx w.heap.size #[.int .i64 0, .int .i64 0] 60 ∧ Row wx (w.heap.size + 1) #[.int .i64 g.params, .int .i64 (nt0 : Nat), .slice LA g.locs.length lcap, .slice BA g.ins.length bcap] 55)
  case first =>
    have HALL := Lib.hid (fun W (hW : Below w2.heap.size w2 W) => (all_hc (s := { s with calls := s.calls + 1, deep := max s.deep (s.calls + 1), steps := s.steps + countsF g.locs }) g.locs LA g.locs.length lcap (HH2.out.below hW) HOBS.out (hlob.out.below ((HW2.out.below hpos (fun k hk => (HBK.out.2.2 k hk).1)).trans (hW.mono (by omega))) (Nat.le_refl _) (fun _ _ h => h.below ((HW2.out.below hpos (fun k hk => (HBK.out.2.2 k hk).1)).trans (hW.mono (by omega))) (Nat.le_refl _))) (by omega) (by show (memBase s.mem).length ≤ _; omega)).mono (R' := fun e w' => ∃ (A : Option Addr) (cp : Nat) (own' : Nat → Prop), e = .returned (.slice A g.locs.length cp) ∧ (∀ k, own k → own' k) ∧ (∀ k, own' k → own k ∨ W.heap.size ≤ k) ∧ HCs w' base own' cb hb fuel { s with calls := s.calls + 1, deep := max s.deep (s.calls + 1), steps := s.steps + countsF g.locs, mem := makesF s.mem g.locs } ∧ w'.ownsRow W.heap.size 60 2 (.slice A g.locs.length cp) g.locs.length (flatV (locV (numsF s.mem g.locs.length))) ∧ (∀ g', (Value.slice A g.locs.length cp).ownBlock = some g' → ¬ own' g') ∧ Wr own W w') (fun e w' ⟨pv, own', a1, a2, a3, a4, a5, a6, a7⟩ => by
      obtain ⟨A, cp, e1⟩ : ∃ A cp, pv = .slice A g.locs.length cp := by
        rcases a5.2 with ⟨e, e'⟩ | ⟨gg, cap, cur, e, _⟩
        · exact ⟨none, 0, by rw [e, e']⟩
        · exact ⟨_, _, e⟩
      subst e1
      exact ⟨A, cp, own', a1, a2, a3, a4, a5, a6, a7⟩))
    have KS5 := Lib.hid (fun (W : World) (hW : Wr own w2 W) => (⟨(World.cell?_of_block (a := ⟨rb, 4, none⟩) (hW.block rb (by have := HB2.out.size; omega) HORB.out.1)).trans HP4.out, (HG2.out.wr hW (fun ho => by have := (HBK.out.2.2 _ ho).2; omega)).cell (j := 1) rfl, (HG2.out.wr hW (fun ho => by have := (HBK.out.2.2 _ ho).2; omega)).cell (j := 2) rfl, (World.cell?_of_block (a := ⟨rb, 6, none⟩) (hW.block rb (by have := HB2.out.size; omega) HORB.out.1)).trans HP6.out, (World.cell?_of_block (a := ⟨lb, loff + f, none⟩) (hW.block lb (by have := HB2.out.size; omega) hlb1)).trans HP7.out⟩ : W.cell? ⟨rb, 4, none⟩ = some (.pointer (some ⟨hb, 0, none⟩)) ∧ W.cell? ⟨w.heap.size + 1, 1, none⟩ = some (.int .i64 (nt0 : Nat)) ∧ W.cell? ⟨w.heap.size + 1, 2, none⟩ = some (.slice LA g.locs.length lcap) ∧ W.cell? ⟨rb, 6, none⟩ = some (.slice (some ⟨lb, loff, none⟩) p.funcs.length lbc) ∧ W.cell? ⟨lb, loff + f, none⟩ = some (.map (some mb))))
    go_region_held3 (fun w' => w'.cell? ⟨rb, 4, none⟩ = some (.pointer (some ⟨hb, 0, none⟩)) ∧ w'.cell? ⟨w.heap.size + 1, 1, none⟩ = some (.int .i64 (nt0 : Nat)) ∧ w'.cell? ⟨w.heap.size + 1, 2, none⟩ = some (.slice LA g.locs.length lcap) ∧ w'.cell? ⟨rb, 6, none⟩ = some (.slice (some ⟨lb, loff, none⟩) p.funcs.length lbc) ∧ w'.cell? ⟨lb, loff + f, none⟩ = some (.map (some mb))) (first | exact KS5.out _ (Wr.refl _ _).drewR | exact KS5.out _ ((Wr.refl _ _).allocR _).drewR | exact KS5.out _ hw3 | exact KS5.out _ (hw3.allocR _) | exact KS5.out _ ((hw3.allocR _).allocR _) | go_keep) ((first | (go_at_call 12; refine (HALL.out _ (Below.refl _ _).drew).mono ?_; rintro e w3 ⟨LV, lvc, own3, rfl, b1, b2, b3, b4, b5, b6⟩; have hw3 : Wr own w2 w3 := (Wr.refl _ _).drewR.trans b6 (fun _ h => Or.inl h); have hord : w2.heap.size = w2.heap.size := rfl) | (go_at_call 12; refine (HALL.out _ (below1 _ _).drew).mono ?_; rintro e w3 ⟨LV, lvc, own3, rfl, b1, b2, b3, b4, b5, b6⟩; have hw3 : Wr own w2 w3 := ((Wr.refl _ _).allocR _).drewR.trans b6 (fun _ h => Or.inl h))))
    all_goals (go_wp2_with fail)
    all_goals go_meet
    · have z1 : w2.heap.size + 1 ≤ w3.heap.size := by have := b6.size; simpa using this
      have hZr : Row w3 w2.heap.size Z 60 := ((Row.new w2 Z 60).drew).wr b6 (fun ho => by have := (HBK.out.2.2 _ ho).2; omega)
      have hbl3 := b3.blocks.2.2
      refine ⟨w3.heap.size, w2.heap.size, own3, _, rfl, b3.below (below1 _ _), b1, fun k hk => ?_, Row.new _ _ _, ⟨Z, hZr.alloc _, HZ.out⟩, ownsRow_base (ownsRow_wr b4 (Wr.of_below (F := fun _ => False) (below1 _ _)) (fun _ _ h => h)) (by simp; omega), fun k hk => ⟨b5 k hk, fun e => ?_⟩, by omega, by omega, fun ho => by have := (hbl3 _ ho).2; omega, fun ho => ?_, (HW2.out.trans hw3 (fun _ h => Or.inl h)).allocR _, (HV2.out.wr hw3 (fun ho => by have := (HBK.out.2.2 _ ho).2; omega)).alloc _, (HG2.out.wr hw3 (fun ho => by have := (HBK.out.2.2 _ ho).2; omega)).alloc _⟩
      · rcases b2 k hk with h' | h'
        · exact Or.inl h'
        · simp at h'; exact Or.inr (by omega)
      · have := (b4.lt k hk).1
        simp at this
        omega
      · rcases b2 _ ho with h' | h'
        · have := (HBK.out.2.2 _ h').2; omega
        · simp at h'; omega
    · have z1 : w2.heap.size ≤ w3.heap.size := by have := b6.size; simpa using this
      have hbl3 := b3.blocks.2.2
      refine ⟨w3.heap.size + 1, w3.heap.size, own3, _, rfl, b3.below (below2 _ _ _), b1, fun k hk => ?_, (by have := Row.new (w3.alloc (.cells Z 60)) #[.slice (some ⟨w3.heap.size, 0, none⟩) nt0 nt0, .slice LV g.locs.length lvc, .map (some mb)] 81; simpa using this), ⟨Z, (Row.new _ _ _).alloc _, HZ.out⟩, ownsRow_base (ownsRow_wr b4 (Wr.of_below (F := fun _ => False) (below2 _ _ _)) (fun _ _ h => h)) (by simp; omega), fun k hk => ⟨b5 k hk, fun e => ?_⟩, by omega, by omega, fun ho => by have := (hbl3 _ ho).2; omega, fun ho => by have := (hbl3 _ ho).2; omega, ((HW2.out.trans hw3 (fun _ h => Or.inl h)).allocR _).allocR _, ((HV2.out.wr hw3 (fun ho => by have := (HBK.out.2.2 _ ho).2; omega)).alloc _).alloc _, ((HG2.out.wr hw3 (fun ho => by have := (HBK.out.2.2 _ ho).2; omega)).alloc _).alloc _⟩
      · rcases b2 k hk with h' | h'
        · exact Or.inl h'
        · simp at h'; exact Or.inr (by omega)
      · obtain ⟨_, cs, hr⟩ := ownsRow_row b4 hk
        have := hr.lt
        omega
  case rest =>
    obtain ⟨fb, tb, own3, lv, rfl, hH3, b1, b2, hFr0, hTr0, hLv, hlvn, hfb, htb, hfo, hto, hW3, hV3, hG3⟩ := hcut
    have f0 := hFr0.cell (j := 0) rfl
    have f1 := hFr0.cell (j := 1) rfl
    have fl := hFr0.lt
    have hnb := hH3.blocks
    obtain ⟨cur, hcur, hcv⟩ := hTr0
    have hrb3 := hW3.size
    have hfne : fb ≠ tb := hFr0.ne hcur (by decide)
    have HFR0 := Lib.hid hFr0
    have HH3 := Lib.hid hH3
    have HB := Lib.hid (And.intro b1 b2)
    have HLV := Lib.hid hLv
    have HLN := Lib.hid hlvn
    have HFO := Lib.hid (And.intro hfo hto)
    have HW3 := Lib.hid hW3
    have HV3 := Lib.hid hV3
    have HG3 := Lib.hid hG3
    have hlen0 : args.length ≤ nt0 := by have h1 : 0 ≤ g.params ∧ g.params ≤ g.regs := HFN.out.params; omega
    have hcursz : args.length * 2 ≤ cur.size := by have := hcv.1; simp only [List.length_replicate] at this; omega
    have hsrc : ∀ j v, args[j]? = some v → ∃ b off, AA = some ⟨b, off, none⟩ ∧ ValCells wc b (off + j * 2) v := by
      intro j v hj
      obtain ⟨b, off, e1, e2, e3, e4⟩ := HARG.out j v hj
      exact ⟨b, off, e1, e4.wr1 hW3 e3 e2⟩
    have HSRC := Lib.hid hsrc
    have HCV := Lib.hid hcv
    have HCUR := Lib.hid hcur
    have hmin : args.length = Nat.min args.length nt0 := by exact (Nat.min_eq_left (by omega)).symm
    have HMIN := Lib.hid hmin
    clear hFr0 hH3 b1 b2 hLv hlvn hfo hto hW3 hV3 hG3 hcur hcv hsrc hmin
    go_wp2_with (with_reducible refine wpList_copy_vals rfl (.tmp 52) (.tmp 53) 49 49 rfl 60 Try.underlying49 rfl tb nt0 nt0 AA args.length acap rfl rfl cur 60 args HCUR.out HMIN.out HSRC.out hcursz ?_)
    intro w4 hr4 hw4
    obtain ⟨k1, k2, k3, k4, k5⟩ := call_start_ok (p := virtG p) HFN.out HNT.out HINV.out HVA.out hlen0 HGL.out hf (by show s.steps + countsF g.locs ≤ fuel; have := HHY.out; omega)
    have hrbtb : rb ≠ tb := by omega
    obtain ⟨gc0, hgc0⟩ : ∃ gc0 : Array Value, gc0 = #[.int .i64 g.params, .int .i64 (nt0 : Nat), .slice LA g.locs.length lcap, .slice BA g.ins.length bcap] := ⟨_, rfl⟩
    have hC0 : VIn base cb hb rb fb tb own fuel P gv (.slice (some ⟨lb, loff, none⟩) p.funcs.length lbc) lv mb mln (labO g.ins) p (numsF s.mem g.locs.length) p.globs.length nt0 (s.calls + 1) gc0 w own3 { s with calls := s.calls + 1, deep := max s.deep (s.calls + 1), steps := s.steps + countsF g.locs, mem := makesF s.mem g.locs } (startF nt0 args) w4 := by
      have hwl := (VLabs.wr HLB.out HW3.out (fun k hk => Or.inl hk) (Nat.le_refl _)).wr hw4 (fun k hk => Or.inr (by subst hk; omega)) hrb3
      refine ⟨HB.out.1, fun k hk => HB.out.2 k hk, HH3.out.wr hw4 (fun k hk => (by subst hk; exact ⟨by omega, HFO.out.2⟩)), (HRN.out.wr HW3.out HORB.out.1 (fun g hg => (HOGV.out g hg).1)).wr hw4 hrbtb (fun g hg => by have := HNG.out g hg; omega), ⟨?_, ⟨_, hr4, start_vals HCV.out hlen0⟩, ?_, fun g' hg' => (HLN.out g' hg').2, by rw [k3]; omega, by rw [show (numsF s.mem g.locs.length).length = g.locs.length from k4]; omega⟩, ⟨⟨fun ho => ?_, HORB.out.2⟩, ⟨HFO.out.1, by omega⟩, ⟨HFO.out.2, by omega⟩, fun g' hg' => ⟨(HLN.out g' hg').1, ?_⟩, fun g' hg' => ⟨fun ho => ?_, (HOGV.out g' hg').2, by have := HNG.out g' hg'; omega⟩, hrbtb⟩, k2, k1, rfl, k3, (by rw [hgc0]; exact HG3.out.wr hw4 (by omega)), HBK.out.1, fun k hk => (HBK.out.2.2 k hk).2, hpos, ⟨hfb, htb, fun g' hg' => (HLV.out.lt g' hg').1⟩, hwl.up (fun k hk => by rcases HB.out.2 k hk with h' | h'; exact Or.inl h'; exact Or.inr (by omega)), (HM2.out.wr HW3.out hm3).wr hw4 (by omega), ⟨fun ho => by rcases HB.out.2 _ ho with h' | h'; exact hm3 h'; omega, hm5⟩, HW3.out.trans hw4 (fun k hk => Or.inr (by omega))⟩
      · rw [k3]; exact HFR0.out.wr hw4 hfne
      · rw [show (numsF s.mem g.locs.length).length = g.locs.length from k4]; exact ownsRow_base (ownsRow_wr HLV.out hw4 (fun g' hg' => (HLN.out g' hg').2)) (Nat.zero_le _)
      · rcases HB.out.2 _ ho with h' | h'
        · exact HORB.out.1 h'
        · omega
      · have := (HLV.out.lt g' hg').1; omega
      · rcases HB.out.2 _ ho with h' | h'
        · exact (HOGV.out g' hg').1 h'
        · have := HNG.out g' hg'; omega
    have HC0 := Lib.hid hC0
    have HGC := Lib.hid hgc0
    have HV4 := Lib.hid (HV3.out.wr hw4 (by omega))
    have HRBW := Lib.hid (show rb ≠ w.heap.size ∧ ∀ g', gv.ownBlock = some g' → g' ≠ w.heap.size from ⟨by omega, fun g' hg' => by have := HNG.out g' hg'; omega⟩)
    have hs0 : s.steps + countsF g.locs ≤ fuel := by have := HHY.out; omega
    have hst0 := HINV.out.lo
    have hone : 0 < (blocksI g.ins).length := HFN.out.one
    rw [blocksI_len] at hone
    have hcs0 := HINV.out.calls
    obtain ⟨T, hT⟩ : ∃ T, T = blocksF R fuel (numsF s.mem g.locs.length) (blocksI g.ins) (fuel - (s.steps + countsF g.locs) + 1).toNat 0 { s with calls := s.calls + 1, deep := max s.deep (s.calls + 1), steps := s.steps + countsF g.locs, mem := makesF s.mem g.locs } (startF nt0 args) := ⟨_, rfl⟩
    rw [← hT] at HQ
    have HT := Lib.hid hT
    clear hr4 hw4 k1 k2 k3 k4 k5 hC0 hT HFR0 HH3 HLV HLN HFO HW3 HV3 HG3 HCV HCUR HSRC f0 f1 fl hnb hcursz HLB HM1 HM2 HRR6 HP6 HP7 HG2 HV2 HW2 HH2 HP4 HB1 hgc0
    go_wp2_with fail
    go_loopw [7, 10] (fun _ a wr => ∃ (own2 : Nat → Prop) (st : St) (tp : List V) (gas k : Nat), VIn base cb hb rb fb tb own fuel P gv (.slice (some ⟨lb, loff, none⟩) p.funcs.length lbc) lv mb mln (labO g.ins) p (numsF s.mem g.locs.length) p.globs.length nt0 (s.calls + 1) gc0 w own2 st tp wr ∧ Row wr w.heap.size #[.int .i64 0, .int .i64 0] 60 ∧ a = .int .i64 (k : Nat) ∧ k < g.ins.length ∧ (fuel - st.steps).toNat < gas ∧ blocksF R fuel (numsF s.mem g.locs.length) (blocksI g.ins) gas (k : Nat) st tp = T)
      (fun _ a wr => (fuel - intOf ((wr.cell? ⟨cb, 3, none⟩).getD undef)).toNat * (g.ins.length + 1) + (g.ins.length - (intOf a).toNat))
    case atStart => exact ⟨own3, _, _, _, 0, HC0.out, HV4.out, rfl, hone, by show (fuel - (s.steps + countsF g.locs)).toNat < (fuel - (s.steps + countsF g.locs) + 1).toNat; omega, HT.out.symm⟩
    case round =>
      obtain ⟨own2, st, tp, gas, k, hC, hv, rfl, hk, hgas, heq⟩ := hrel
      have HC := Lib.hid hC
      have HVR := Lib.hid hv
      have hzr := hC.wr.size
      have hgcr := hC.box
      rw [HGC.out] at hgcr
      have e3 : wr.cell? ⟨w.heap.size + 1, 3, none⟩ = some (.slice BA g.ins.length bcap) := hgcr.cell (j := 3) rfl
      have hbl := hC.box.lt
      obtain ⟨gas', rfl⟩ : ∃ g', gas = g' + 1 := ⟨gas - 1, by omega⟩
      have HEQ := Lib.hid heq
      have hBr := hC.bas
      obtain ⟨bb, boff, x, rfl, hbb, hbk, b0, b1, b2, b3, b4, ⟨sv, b5, hst⟩, hx0, hx1, hx2, hx3, hx4⟩ := (HBLS.out.below hBr (Nat.le_refl _) (fun _ _ h => h.below hBr (Nat.le_refl _))).get hk
      simp only [Nat.add_zero] at b0 b1 b2 b3 b4 b5
      obtain ⟨SA, scap, hsv⟩ : ∃ SA scap, sv = .slice SA x.arg.length scap := (by obtain ⟨A', c', h, _⟩ := hst; exact ⟨_, _, h⟩)
      subst hsv
      have hxm := List.mem_of_getElem? hbk
      have hiok := HINS.out x hxm
      have hlen := hC.len
      have hlol := numsF_length s.mem g.locs.length
      have hkle : k ≤ 10000 := by omega
      have HCW := Lib.hid (hC.below (below1 wr (.cells #[.int .i64 x.op, .int .i64 x.dst, .int .i64 x.a, .int .i64 x.b, .int .i64 x.n, .slice SA x.arg.length scap] 68)))
      have HVW := Lib.hid (hv.alloc (.cells #[.int .i64 x.op, .int .i64 x.dst, .int .i64 x.a, .int .i64 x.b, .int .i64 x.n, .slice SA x.arg.length scap] 68))
      have HXW := Lib.hid (Row.new wr #[.int .i64 x.op, .int .i64 x.dst, .int .i64 x.a, .int .i64 x.b, .int .i64 x.n, .slice SA x.arg.length scap] 68)
      have hbW := hBr.trans ((below1 wr (.cells #[.int .i64 x.op, .int .i64 x.dst, .int .i64 x.a, .int .i64 x.b, .int .i64 x.n, .slice SA x.arg.length scap] 68)).mono (show base ≤ wr.heap.size by omega))
      have hBA := Lib.hid (vnext_any base cb hb rb fb tb mb mln own2 P gv (.slice (some ⟨lb, loff, none⟩) p.funcs.length lbc) lv fuel st tp (numsF s.mem g.locs.length) R p g k x SA scap (wr.alloc (.cells #[.int .i64 x.op, .int .i64 x.dst, .int .i64 x.a, .int .i64 x.b, .int .i64 x.n, .slice SA x.arg.length scap] 68)) hiok hkle (by rw [hlen]; exact HNT.out) hlol.symm hx3 hx4 (hst.below ((below1 wr _).mono (by omega)) (Nat.le_refl _)) HPA.out HCW.out.hc HCW.out.run HCW.out.fr HCW.out.off HCW.out.frok HCW.out.inv hf HCW.out.lab HCW.out.lim.1 (HPR.out.below hbW) (HCW.out.labs.mono HCW.out.siz) (by rw [HCW.out.calls]; exact HCA.out))
      have HBK2 := Lib.hid hbk
      have HIOK := Lib.hid hiok
      have HXM := Lib.hid hxm
      have HLEN := Lib.hid hlen
      have hkb : (k : Int) < (g.ins.length : Int) := by omega
      have hbbl : bb < wr.heap.size := by omega
      clear hC hv heq hbk hst hiok hxm hBr hlen hgcr hbW hx0 hx1 hx2 hx3 hx4
      go_wp2_with fail
      refine hBA.out.mono ?_
      rintro e w5 ⟨⟨y, rfl, hy⟩, own5, c1, c2, c3, c4, c5⟩
      obtain ⟨ok, j, st', tp', hnf⟩ : ∃ ok j st' tp', nextF R fuel (numsF s.mem g.locs.length) g.ins st tp k x = (ok, j, st', tp') := ⟨_, _, _, _, rfl⟩
      have HNF := Lib.hid hnf
      rw [hnf] at hy c3 c4 ⊢
      simp only at hy c3 c4 ⊢
      obtain ⟨a1, a2, a3, a4, a5⟩ := HCW.out.after own5 c1 c2 c5
      have hnw := HCW.out.nown
      have hr5 := a4 _ _ HVW.out
      have r0 := hr5.cell (j := 0) rfl
      have r1 := hr5.cell (j := 1) rfl
      have r2 := hr5.free 0
      have r3 := hr5.free 1
      have r4 := hr5.lt
      have HA1 := Lib.hid a1
      have HA2 := Lib.hid a2
      have HA3 := Lib.hid a3
      have HR5 := Lib.hid hr5
      have HC3 := Lib.hid c3
      have HC4 := Lib.hid c4
      have HC12 := Lib.hid (And.intro c1 (And.intro c2 c5))
      have h0n : ¬ own5 w.heap.size := fun ho => by rcases a2 _ ho with h' | h'; exact hnw.1 (HCW.out.up _ h'); omega
      have HNW := Lib.hid h0n
      have HHYY := Lib.hid hy
      clear a1 a2 a3 a4 a5 hr5 c1 c2 c3 c4 c5 hnf h0n hnw hy b0 b1 b2 b3 b4 b5 e3 hbl
      cases ok with
      | false =>
        go_wp2_with fail
        have hr9 : Row ((w5.setCell ⟨w.heap.size, 0, none⟩ (.int .i64 0)).setCell ⟨w.heap.size, 1, none⟩ (.int .i64 0)) w.heap.size #[.int .i64 0, .int .i64 0] 60 := (HR5.out.set 0 _).set 1 _
        have s0 := hr9.cell (j := 0) rfl
        have s1 := hr9.cell (j := 1) rfl
        clear hr9
        refine HQ.out _ _ _ ?_
        refine bodyPost_ret (v := .tuple #[.agg #[.int .i64 0, .int .i64 0], .bool false]) (by simp [results, Try.results13, go_sem, s0, s1]) rfl ?_
        have hgf := goI_false (R := R) (fuel := fuel) (lo := numsF s.mem g.locs.length) (s := st) (tp := tp) HBK2.out gas' (by rw [HNF.out])
        rw [HNF.out] at hgf
        have hTT : T = (none, st') := by rw [← HEQ.out, hgf]
        rw [hTT]
        have hwx : Wr (fun i => i = w.heap.size) w5 ((w5.setCell ⟨w.heap.size, 0, none⟩ (.int .i64 0)).setCell ⟨w.heap.size, 1, none⟩ (.int .i64 0)) := setcells_wrV _ _ _ _
        refine ⟨⟨0, 0, rfl⟩, own5, HA1.out, fun k hk => (by rcases HA2.out k hk with h' | h'; exact Or.inl h'; exact Or.inr (by omega)), HC3.out.wr hwx (fun k hk => (by subst hk; exact ⟨hpos, HNW.out⟩)), HA3.out.trans hwx (fun k hk => Or.inr (by omega))⟩
      | true =>
        obtain rfl : y = j := HHYY.out rfl
        have hkp := next_kept (p := virtG p) (nt := nt0) (nl := g.locs.length) (R := R) (fuel := fuel) (lo := numsF s.mem g.locs.length) (l := g.ins) (x := x) (k := k) (s := st) (tp := tp) HRK.out HC.out.inv HC.out.frok HLEN.out (numsF_length s.mem g.locs.length) (fun hst => stepI_ok HVIN.out HNT.out HPA.out HXM.out hst HIOK.out) (by rw [HNF.out])
        rw [HNF.out] at hkp
        simp only at hkp
        have HKP := Lib.hid hkp
        have HNX := Lib.hid (HCW.out.next own5 HC12.out.1 HC12.out.2.1 HC12.out.2.2 HC3.out (HC4.out rfl) hkp.1 hkp.2.1 hkp.2.2.1)
        clear hkp
        by_cases h17 : x.op = 17
        · obtain ⟨ge1, ge2, ge3⟩ := goI_end (R := R) (fuel := fuel) (lo := numsF s.mem g.locs.length) (s := st) (tp := tp) HBK2.out gas' h17 (by rw [HNF.out])
          rw [HNF.out] at ge1 ge2 ge3
          simp only at ge1 ge2 ge3
          subst ge2
          subst ge3
          have HGE := Lib.hid ge1
          clear ge1
          have hx5 := HXW.out.wr HC12.out.2.2 (fun ho => by rcases ho with h' | h'; exact absurd (HC.out.dn _ h') (fun hh => by rcases hh with h'' | h''; have := HC.out.owl _ h''; omega; have := (HC.out.hc.blocks.2.2 _ h').2; omega); have := HC.out.fr.lt.2; omega)
          have x2 := hx5.cell (j := 2) rfl
          have hxl := hx5.lt
          have hfr := HNX.out.fr
          have f0 := hfr.row.cell (j := 0) rfl
          have fl := hfr.row.lt
          have htl := hfr.lt.2
          have ha := HIOK.out.a (by omega)
          obtain ⟨ma, hma⟩ := Int.eq_ofNat_of_zero_le ha.1
          have hnt5 := HNX.out.len
          have hgr := HNT.out
          have hma2 : ma < tp'.length := by omega
          rw [hma] at x2
          obtain ⟨v, hv⟩ : ∃ v, tp'[ma]? = some v := ⟨_, List.getElem?_eq_getElem hma2⟩
          obtain ⟨cs, htr, hvi⟩ := id hfr.temps
          obtain ⟨tv0, tv1⟩ := hvi.2 ma v hv
          have t0 := htr.cell tv0
          have t1 := htr.cell tv1
          have hgd : tp'.getD x.a.toNat ⟨0, 0⟩ = v := by rw [hma, Int.toNat_natCast, List.getD_eq_getElem?_getD, hv]; rfl
          have HGD := Lib.hid hgd
          have hma3 : (ma : Int) < (tp'.length : Int) := by omega
          have hma0 : (0 : Int) ≤ (ma : Int) := by omega
          have htpl : (tp'.length : Int) ≤ 1000000 := by have := hfr.few; omega
          clear hx5 hfr htr hvi tv0 tv1 hv hgd hnt5 hgr ha
          go_wp2_with fail
          refine still_tailq 8 (by kernel_rfl) (by kernel_rfl) ?_
          simp only [List.take_succ_cons, List.take_zero, List.drop_succ_cons, List.drop_zero]
          repeat (go_big_quiet_step (fail))
          refine wpQuiet_nil ?_
          go_wp2_with fail
          have HC6 := Lib.hid ((HNX.out.box1 (setcells_wrV w5 w.heap.size (.int .i64 v.obj) (.int .i64 v.n)) HRBW.out.1 HRBW.out.2).below (Below.refl _ _).drew)
          have HVR6 := Lib.hid ((((HR5.out.set 0 (.int .i64 v.obj)).set 1 (.int .i64 v.n))).drew)
          obtain ⟨w6, hw6⟩ : ∃ w6, w6 = ((w5.setCell ⟨w.heap.size, 0, none⟩ (.int .i64 v.obj)).setCell ⟨w.heap.size, 1, none⟩ (.int .i64 v.n)).drew := ⟨_, rfl⟩
          rw [← hw6] at HC6 HVR6 ⊢
          have hcal : st'.calls = s.calls + 1 := HNX.out.calls
          clear hw6 f0 fl htl x2 hxl t0 t1 r0 r1 r2 r3 r4 HNX HR5 HC HCW HC3 HC4 HC12 HXW HVW
          obtain ⟨FA, fcap, hflv, _, hfp⟩ := rowV_own HC6.out.fr.locs (by rw [locV_length])
          rw [numsF_length] at hflv
          have hfr1 := HC6.out.fr.row.cell (j := 1) rfl
          have hfr2 : w6.cell? ⟨fb, 1, none⟩ = some (.slice FA g.locs.length fcap) := hflv ▸ hfr1
          have hfbl := HC6.out.fr.row.lt
          have h4 := HC6.out.run.row.cell (j := 4) rfl
          have hrl := HC6.out.run.row.lt
          have HKL := Lib.hid (kill_hc (numsF s.mem g.locs.length) FA g.locs.length fcap (HC6.out.hc.below (Below.refl _ _).drew) (fun x hx => ⟨numsF_posV hx, HC6.out.frok.locs x hx⟩) (numsF_length _ _) (by omega) (fun j v hj => (by obtain ⟨b, off, e1, e2, e3, e4⟩ := hfp j v hj; exact ⟨b, off, e1, e2, (HC6.out.off.olv b e3).1, e4⟩)))
          have hnw := HC6.out.nown
          have HNW6 := Lib.hid hnw
          have hz6 := HC6.out.siz
          clear hfp hfr1 hflv hnw
          go_wp2_with fail
          refine still_tailq 8 (by kernel_rfl) (by kernel_rfl) ?_
          simp only [List.take_succ_cons, List.take_zero, List.drop_succ_cons, List.drop_zero]
          repeat (go_big_quiet_step (fail))
          refine wpQuiet_nil ?_
          go_wp2_with fail
          refine HKL.out.mono ?_
          rintro e w7 ⟨rfl, hH7, hw7⟩
          have hru := (HC6.out.run.below (Below.refl _ _).drew).wr hw7 HC6.out.off.orb.1 (fun g' hg' => (HC6.out.off.ogv g' hg').1)
          have p0 := hru.row.cell (j := 0) rfl
          have prl := hru.row.lt
          have HLV := Lib.hid (leave_hc hH7 (by show 1 ≤ st'.calls; omega) (by show st'.calls ≤ 64; omega))
          have HV7 := Lib.hid (HVR6.out.drew.wr hw7 HNW6.out.1)
          have HW7 := Lib.hid (HC6.out.wr.drewR.trans hw7 (fun k hk => (by rcases HC6.out.dn k hk with h' | h'; exact Or.inl h'; exact Or.inr (by omega))))
          clear hH7 hw7 hru hfr2 h4
          go_wp2_with fail
          refine HLV.out.mono ?_
          rintro e w8 ⟨rfl, hH8, hw8⟩
          have hv8 := HV7.out.wr hw8 (by omega)
          have r0 := hv8.cell (j := 0) rfl
          have r1 := hv8.cell (j := 1) rfl
          have r2 := hv8.free 0
          have r3 := hv8.free 1
          have r4 := hv8.lt
          have HH8 := Lib.hid hH8
          have HW8 := Lib.hid hw8
          clear hH8 hw8 hv8 p0
          go_wp2_with fail
          refine HQ.out _ _ _ ?_
          refine bodyPost_ret (v := .tuple #[.agg #[.int .i64 v.obj, .int .i64 v.n], .bool true]) (by simp [results, Try.results13, go_sem, r0, r1]) rfl ?_
          rw [← HEQ.out, HGE.out, HGD.out]
          exact ⟨rfl, own5, HC6.out.up, fun k hk => (by rcases HC6.out.dn k hk with h' | h'; exact Or.inl h'; exact Or.inr (by omega)), HH8.out.wr (setcells_wrV _ _ _ _) (fun k hk => (by subst hk; exact ⟨hpos, HNW6.out.1⟩)), (HW7.out.trans HW8.out (fun k hk => Or.inl (hk ▸ HBK.out.1))).trans (setcells_wrV _ _ _ _) (fun k hk => Or.inr (by omega))⟩
        · obtain ⟨g', k', gt1, gt2, gt3, gt4, gt5⟩ := goI_true (R := R) (fuel := fuel) (lo := numsF s.mem g.locs.length) (s := st) (tp := tp) HBK2.out (fun a b c => last_more HLAST.out HBK2.out a b c) (fun h => lab_lt_of HIOK.out h) gas' h17 (by rw [HNF.out])
          rw [HNF.out] at gt1 gt5
          simp only at gt1 gt5
          subst gt1
          have HGT := Lib.hid (And.intro gt3 (And.intro gt4 gt5))
          clear gt3 gt4 gt5
          go_wp2_with fail
          go_roundw
          case rel =>
            refine ⟨own5, st', tp', g', k', HNX.out, HR5.out, rfl, gt2, ?_, ?_⟩
            · have h1 := HKP.out.2.2.2
              have h2 := HKP.out.1.inv.hi
              have h4 := HKP.out.1.steps
              by_cases hs : Straight x
              · have := (HGT.out.1 hs).1; omega
              · have := HGT.out.2.1 hs; have := h1 hs; omega
            · rw [← HGT.out.2.2]; exact HEQ.out
          case measure =>
            have hnx := HNX.out.hc.stepsV
            have hnw := HC.out.hc.stepsV
            rw [hnx, hnw]
            show (fuel - st'.steps).toNat * (g.ins.length + 1) + (g.ins.length - (k' : Int).toNat) < (fuel - st.steps).toNat * (g.ins.length + 1) + (g.ins.length - (k : Int).toNat)
            have h1 := HKP.out.2.2.2
            have h2 := HKP.out.1.inv.hi
            have h4 := HKP.out.1.steps
            rw [Int.toNat_natCast, Int.toNat_natCast]
            by_cases hs : Straight x
            · have h5 := (HGT.out.1 hs).2
              have h6 : (fuel - st'.steps).toNat * (g.ins.length + 1) ≤ (fuel - st.steps).toNat * (g.ins.length + 1) := Nat.mul_le_mul_right _ (by omega)
              omega
            · have h5 := h1 hs
              obtain ⟨d, hd⟩ : ∃ d, (fuel - st.steps).toNat = (fuel - st'.steps).toNat + 1 + d := ⟨(fuel - st.steps).toNat - (fuel - st'.steps).toNat - 1, by omega⟩
              rw [hd, Nat.add_mul, Nat.add_mul]
              omega
end Go.Proofs.Ytinmgbodgecoeaa
