/- The graph's machine: a call that begins. Conditions: as stated. -/
import Derived.Test.YtikbdplllopjlaaQ09Zz
import Derived.WalkLawsBesides
import Derived.Outline
import Derived.Deep.Cut
import Derived.Deep.DeepCutAuto
set_option linter.unusedVariables false
set_option linter.unusedSimpArgs false
namespace Go.Proofs.Ytikbdplllopjlaa
open Go.RowKit

set_option maxRecDepth 1000000 in
set_option maxHeartbeats 16000000 in
theorem gcall_go (base cb hb rb : Nat) (own : Nat → Prop) (P : Value × Value × Value) (gv : Value) (fuel : Int) (p : ProgS) (s : St) (f : Nat) (g : GraphS) (args : List V) (AA : Option Addr) (an acap : Nat) (w : World)
    (hg : p.funcs[f]? = some g) (hfn : FnOkG p g) (hf : fuel ≤ 100000000) (hal : (args.length : Int) = g.params) (h : HCs w base own cb hb fuel s) (hR : GRun w rb cb hb P gv p.globs.length) (hP : ProgAt w base P p) (horb : ¬ own rb ∧ base ≤ rb) (hogv : ∀ k, gv.ownBlock = some k → ¬ own k ∧ base ≤ k) (hI : GInv fuel s) (hgl : p.globs.length < (memBase s.mem).length) (hva : ∀ v, v ∈ args → VOk (memBase s.mem).length v) (han : args.length = an)
    (hargs : ∀ j v, args[j]? = some v → ∃ b off, AA = some ⟨b, off, none⟩ ∧ b < w.heap.size ∧ ¬ own b ∧ ValCells w b (off + j * 2) v) (R : CallR) (hc : s.calls < 64) (hy : (stepF fuel (countsF g.locs) { s with calls := s.calls + 1, deep := max s.deep (s.calls + 1) }).1 = true) (hcall : GCallOk p fuel (s.calls + 1) R) (hRK : ∀ c, RKept p fuel c R) (nt0 : Nat) (hnt0 : g.temps = nt0) :
    Calls Try.prog 13 #[.pointer (some ⟨rb, 0, none⟩), .int .i64 f, .slice AA an acap] w fun e w' => GCallSays base cb hb fuel own (blocksF R fuel (numsF s.mem g.locs.length) g.blocks (fuel - (s.steps + countsF g.locs) + 1).toNat 0 { s with calls := s.calls + 1, deep := max s.deep (s.calls + 1), steps := s.steps + countsF g.locs, mem := makesF s.mem g.locs } (startF nt0 args)) w e w' := by
  subst han
  have hbk := h.blocks
  have hcb := hbk.2.2 cb hbk.1
  have hpos : base ≤ w.heap.size := by omega
  obtain ⟨GA, gcap, hPf, hfl, _⟩ := id hP.2.1
  have hfk : f < p.funcs.length := by
    rcases Nat.lt_or_ge f p.funcs.length with h' | h'
    · exact h'
    · rw [List.getElem?_eq_none h'] at hg; cases hg
  have hPs := hPf ▸ hP.2.1
  obtain ⟨gb, goff, g', rfl, hgb, hg', g0, g1, ⟨LV, g2, hlo⟩, ⟨BV, g3, hbl⟩, _, _⟩ := hPs.get hfk
  obtain rfl : g' = g := by rw [hg] at hg'; injection hg' with e; exact e.symm
  obtain ⟨LA, lcap, rfl⟩ : ∃ LA lcap, LV = .slice LA g'.locs.length lcap := (by obtain ⟨A', c', h, _⟩ := hlo; exact ⟨_, _, h⟩)
  obtain ⟨BA, bcap, rfl⟩ : ∃ BA bcap, BV = .slice BA g'.blocks.length bcap := (by obtain ⟨A', c', h, _⟩ := hbl; exact ⟨_, _, h⟩)
  obtain ⟨g, rfl⟩ : ∃ g, g = g' := ⟨_, rfl⟩
  simp only [Nat.add_zero] at g0 g1 g2 g3
  obtain ⟨nt, hnt, hnt2, hblk⟩ := hfn.nt
  rw [hnt] at g1
  have hobs : ∀ o, o ∈ g.locs → ObOk o := fun o ho => (hfn.obs o ho).1
  have hll := hfn.locs
  have hcbd := countsF_bd hobs
  have hfk2 : (f : Int) < (p.funcs.length : Int) := by omega
  have r0 : w.cell? ⟨rb, 0, none⟩ = some (.pointer (some ⟨cb, 0, none⟩)) := hR.row.cell (j := 0) rfl
  have r2 : w.cell? ⟨rb, 2, none⟩ = some (.slice (some ⟨gb, goff, none⟩) p.funcs.length gcap) := hPf ▸ hR.row.cell (j := 2) rfl
  have hrb := hR.row.lt
  have hgbl : gb < w.heap.size := by omega
  have HB2 := Lib.hid (below2 w (.cells #[.int .i64 0, .int .i64 0] 55) (.cells #[.int .i64 g.params, .int .i64 (nt0 : Nat), .slice LA g.locs.length lcap, .slice BA g.blocks.length bcap] 68))
  have HEL := Lib.hid (elements_any base g.locs LA g.locs.length lcap ((w.alloc (.cells #[.int .i64 0, .int .i64 0] 55)).alloc (.cells #[.int .i64 g.params, .int .i64 (nt0 : Nat), .slice LA g.locs.length lcap, .slice BA g.blocks.length bcap] 68)).drew (hlo.below (HB2.out.drew.mono hpos) (Nat.le_refl _) (fun _ _ h => h.below (HB2.out.drew.mono hpos) (Nat.le_refl _))) (by simp; omega) hobs (by omega))
  have HH := Lib.hid (fun W (hW : Below w.heap.size w W) => h.below hW)
  have hv0 := (Row.new w #[.int .i64 0, .int .i64 0] 55).alloc (.cells #[.int .i64 g.params, .int .i64 (nt0 : Nat), .slice LA g.locs.length lcap, .slice BA g.blocks.length bcap] 68)
  have HV0 := Lib.hid hv0
  have HBK := Lib.hid hbk
  have hg0 := Row.new (w.alloc (.cells #[.int .i64 0, .int .i64 0] 55)) #[.int .i64 g.params, .int .i64 (nt0 : Nat), .slice LA g.locs.length lcap, .slice BA g.blocks.length bcap] 68
  rw [World.size_alloc] at hg0
  have HG0 := Lib.hid hg0
  have HR0 := Lib.hid r0
  have KS := Lib.hid (fun (W : World) (hbw : Below ((w.alloc (.cells #[.int .i64 0, .int .i64 0] 55)).alloc (.cells #[.int .i64 g.params, .int .i64 (nt0 : Nat), .slice LA g.locs.length lcap, .slice BA g.blocks.length bcap] 68)).heap.size ((w.alloc (.cells #[.int .i64 0, .int .i64 0] 55)).alloc (.cells #[.int .i64 g.params, .int .i64 (nt0 : Nat), .slice LA g.locs.length lcap, .slice BA g.blocks.length bcap] 68)) W) => (⟨cell_below HR0.out (HB2.out.trans (hbw.mono HB2.out.size)) hrb, (HG0.out.below hbw HG0.out.lt).cell (j := 2) rfl⟩ : W.cell? ⟨rb, 0, none⟩ = some (.pointer (some ⟨cb, 0, none⟩)) ∧ W.cell? ⟨w.heap.size + 1, 2, none⟩ = some (.slice LA g.locs.length lcap)))
  have hncb1 : ¬ rb = cb := fun e => horb.1 (e ▸ hbk.1)
  have KS3 := Lib.hid (fun (W w' : World) (hbw : Below ((w.alloc (.cells #[.int .i64 0, .int .i64 0] 55)).alloc (.cells #[.int .i64 g.params, .int .i64 (nt0 : Nat), .slice LA g.locs.length lcap, .slice BA g.blocks.length bcap] 68)).heap.size ((w.alloc (.cells #[.int .i64 0, .int .i64 0] 55)).alloc (.cells #[.int .i64 g.params, .int .i64 (nt0 : Nat), .slice LA g.locs.length lcap, .slice BA g.blocks.length bcap] 68)) W) (hw : Wr (fun b => b = cb) W w') => (⟨(World.cell?_of_block (a := ⟨rb, 0, none⟩) (hw.block rb (by have := HB2.out.size; have := hbw.size; show rb < _; omega) hncb1)).trans (KS.out W hbw).1, (((HG0.out.below hbw HG0.out.lt)).wr hw (by omega)).cell (j := 2) rfl⟩ : w'.cell? ⟨rb, 0, none⟩ = some (.pointer (some ⟨cb, 0, none⟩)) ∧ w'.cell? ⟨w.heap.size + 1, 2, none⟩ = some (.slice LA g.locs.length lcap)))
  obtain rfl : nt0 = nt := by omega
  obtain ⟨hy0, hy1, hy2⟩ := stepF_yes hy
  simp only at hy1 hy2
  have HEN := Lib.hid (fun W (hW : Below ((w.alloc (.cells #[.int .i64 0, .int .i64 0] 55)).alloc (.cells #[.int .i64 g.params, .int .i64 (nt0 : Nat), .slice LA g.locs.length lcap, .slice BA g.blocks.length bcap] 68)).heap.size ((w.alloc (.cells #[.int .i64 0, .int .i64 0] 55)).alloc (.cells #[.int .i64 g.params, .int .i64 (nt0 : Nat), .slice LA g.locs.length lcap, .slice BA g.blocks.length bcap] 68)) W) => (hy ▸ hy2 ▸ enter_hc (countsF g.locs) (HH.out W (HB2.out.trans (hW.mono HB2.out.size))) hI.kind hI.calls hc hf hI.lo hI.hi (by omega) (by omega) : Calls _ _ _ _ fun e w' => ClkEnd base own cb hb fuel { s with calls := s.calls + 1, deep := max s.deep (s.calls + 1), steps := s.steps + countsF g.locs } true W e w'))
  obtain ⟨Z, hZ, hmk⟩ := make_vals nt0 (by omega)
  have HZ := Lib.hid hZ
  have hmany := hI.many
  have hsteps := hI.hi
  have hlob := Lib.hid (show SliceAt w base 3 (ObE w base) g.locs (.slice LA g.locs.length lcap) from hlo)
  have HOBS := Lib.hid hobs
  have rr4 : w.cell? ⟨rb, 4, none⟩ = some (.pointer (some ⟨hb, 0, none⟩)) := hR.row.cell (j := 4) rfl
  have HRR4 := Lib.hid rr4
  have HNG := Lib.hid (show ∀ g, gv.ownBlock = some g → g < w.heap.size from fun g hg => by obtain ⟨_, cs, hr⟩ := ownsRow_row hR.globs hg; exact hr.lt)
  have HRN := Lib.hid hR
  have HINV := Lib.hid hI
  have HFN := Lib.hid hfn
  have HBLS := Lib.hid hbl
  have HPR := Lib.hid hP
  have HARG := Lib.hid hargs
  have HVA := Lib.hid hva
  have HOGV := Lib.hid hogv
  have HORB := Lib.hid horb
  have HHY := Lib.hid hy1
  have HCA := Lib.hid hcall
  have HRK := Lib.hid hRK
  have HNT := Lib.hid hnt0
  have HGL := Lib.hid hgl
  have HBL := Lib.hid hblk
  clear h hR hP hg hfn horb hogv hI hgl hva hargs hbk hg0 hv0 hPf hPs hlo hbl hobs hg' hfl rr4 hcall hRK hy hy0 hy1 hy2 hZ hblk
  go_enter Try.func13, Try.ntmps13
  refine wp_letter (fun Q hQ => ?_)
  have HQ := Lib.hid hQ
  clear hQ
  go_wp2_with fail
  go_region_held3 (fun w' => w'.cell? ⟨rb, 0, none⟩ = some (.pointer (some ⟨cb, 0, none⟩)) ∧ w'.cell? ⟨w.heap.size + 1, 2, none⟩ = some (.slice LA g.locs.length lcap)) (first | exact KS.out _ (Below.refl _ _).drew | exact KS.out _ ((Below.refl _ _).drew.trans hb1) | exact KS3.out _ _ ((Below.refl _ _).drew.trans hb1) hw2 | go_keep) ((first | (go_at_call 23; refine HEL.out.mono ?_; rintro e w1 ⟨rfl, hb1⟩) | (go_at_call 22; refine (HEN.out _ ((Below.refl _ _).drew.trans hb1)).mono ?_; rintro e w2 ⟨rfl, hH2, hw2⟩)))
  have HB1 := Lib.hid (HB2.out.drew.trans (hb1.mono HB2.out.drew.size))
  have hzb := HB1.out.size
  have hzw := hw2.size
  have hv2 := ((HV0.out.drew).below hb1 HV0.out.lt).wr hw2 (by omega)
  have hg2 := ((HG0.out.drew).below hb1 HG0.out.lt).wr hw2 (by omega)
  have q1 : w2.cell? ⟨w.heap.size + 1, 1, none⟩ = some (.int .i64 (nt0 : Nat)) := hg2.cell (j := 1) rfl
  have q2 : w2.cell? ⟨w.heap.size + 1, 2, none⟩ = some (.slice LA g.locs.length lcap) := hg2.cell (j := 2) rfl
  have HV2 := Lib.hid hv2
  have HG2 := Lib.hid hg2
  have HH2 := Lib.hid hH2
  have HW2 := Lib.hid (((Wr.of_below (F := own) HB1.out).trans hw2 (fun k hk => Or.inl (hk ▸ HBK.out.1))) : Wr own w w2)
  have hz2 : w.heap.size + 2 ≤ w2.heap.size := by have := HB2.out.drew.size; have := hb1.size; simp only [World.size_drew, World.size_alloc] at this; omega
  have hp4 : w2.cell? ⟨rb, 4, none⟩ = some (.pointer (some ⟨hb, 0, none⟩)) := (World.cell?_of_block (a := ⟨rb, 4, none⟩) (HW2.out.block rb hrb HORB.out.1)).trans HRR4.out
  have HP4 := Lib.hid hp4
  clear hH2 hw2 hv2 hg2 HV0 HG0 hb1
  go_upto_region 4 with fail
  go_cut [9] from 29 to 41 (fun v9 wx => ∃ (fb tb : Nat) (own3 : Nat → Prop) (lv : Value), v9 = .pointer (some ⟨fb, 0, none⟩) ∧ HCs wx base own3 cb hb fuel { s with calls := s.calls + 1, deep := max s.deep (s.calls + 1), steps := s.steps + countsF g.locs, mem := makesF s.mem g.locs } ∧ (∀ k, own k → own3 k) ∧ (∀ k, own3 k → own k ∨ w.heap.size + 2 ≤ k) ∧ Row wx fb #[.slice (some ⟨tb, 0, none⟩) nt0 nt0, lv] 84 ∧ VRow wx tb (List.replicate nt0 ⟨0, 0⟩) ∧ wx.ownsRow (w.heap.size + 2) 55 2 lv g.locs.length (flatV (locV (numsF s.mem g.locs.length))) ∧ (∀ k, lv.ownBlock = some k → ¬ own3 k ∧ k ≠ tb) ∧ w.heap.size + 2 ≤ fb ∧ w.heap.size + 2 ≤ tb ∧ ¬ own3 fb ∧ ¬ own3 tb ∧ Wr own w wx ∧ Row wx w.heap.size #[.int .i64 0, .int .i64 0] 55 ∧ Row wx (w.heap.size + 1) #[.int .i64 g.params, .int .i64 (nt0 : Nat), .slice LA g.locs.length lcap, .slice BA g.blocks.length bcap] 68)
  case first =>
    have HALL := Lib.hid (fun W (hW : Below w2.heap.size w2 W) => (all_hc (s := { s with calls := s.calls + 1, deep := max s.deep (s.calls + 1), steps := s.steps + countsF g.locs }) g.locs LA g.locs.length lcap (HH2.out.below hW) HOBS.out (hlob.out.below ((HW2.out.below hpos (fun k hk => (HBK.out.2.2 k hk).1)).trans (hW.mono (by omega))) (Nat.le_refl _) (fun _ _ h => h.below ((HW2.out.below hpos (fun k hk => (HBK.out.2.2 k hk).1)).trans (hW.mono (by omega))) (Nat.le_refl _))) (by omega) (by show (memBase s.mem).length ≤ _; omega)).mono (R' := fun e w' => ∃ (A : Option Addr) (cp : Nat) (own' : Nat → Prop), e = .returned (.slice A g.locs.length cp) ∧ (∀ k, own k → own' k) ∧ (∀ k, own' k → own k ∨ W.heap.size ≤ k) ∧ HCs w' base own' cb hb fuel { s with calls := s.calls + 1, deep := max s.deep (s.calls + 1), steps := s.steps + countsF g.locs, mem := makesF s.mem g.locs } ∧ w'.ownsRow W.heap.size 55 2 (.slice A g.locs.length cp) g.locs.length (flatV (locV (numsF s.mem g.locs.length))) ∧ (∀ g', (Value.slice A g.locs.length cp).ownBlock = some g' → ¬ own' g') ∧ Wr own W w') (fun e w' ⟨pv, own', a1, a2, a3, a4, a5, a6, a7⟩ => by
      obtain ⟨A, cp, e1⟩ : ∃ A cp, pv = .slice A g.locs.length cp := by
        rcases a5.2 with ⟨e, e'⟩ | ⟨gg, cap, cur, e, _⟩
        · exact ⟨none, 0, by rw [e, e']⟩
        · exact ⟨_, _, e⟩
      subst e1
      exact ⟨A, cp, own', a1, a2, a3, a4, a5, a6, a7⟩))
    have KS5 := Lib.hid (fun (W : World) (hW : Wr own w2 W) => (⟨(World.cell?_of_block (a := ⟨rb, 4, none⟩) (hW.block rb (by have := HB2.out.size; omega) HORB.out.1)).trans HP4.out, (HG2.out.wr hW (fun ho => by have := (HBK.out.2.2 _ ho).2; omega)).cell (j := 1) rfl, (HG2.out.wr hW (fun ho => by have := (HBK.out.2.2 _ ho).2; omega)).cell (j := 2) rfl⟩ : W.cell? ⟨rb, 4, none⟩ = some (.pointer (some ⟨hb, 0, none⟩)) ∧ W.cell? ⟨w.heap.size + 1, 1, none⟩ = some (.int .i64 (nt0 : Nat)) ∧ W.cell? ⟨w.heap.size + 1, 2, none⟩ = some (.slice LA g.locs.length lcap)))
    go_region_held3 (fun w' => w'.cell? ⟨rb, 4, none⟩ = some (.pointer (some ⟨hb, 0, none⟩)) ∧ w'.cell? ⟨w.heap.size + 1, 1, none⟩ = some (.int .i64 (nt0 : Nat)) ∧ w'.cell? ⟨w.heap.size + 1, 2, none⟩ = some (.slice LA g.locs.length lcap)) (first | exact KS5.out _ (Wr.refl _ _).drewR | exact KS5.out _ ((Wr.refl _ _).allocR _).drewR | exact KS5.out _ hw3 | exact KS5.out _ (hw3.allocR _) | exact KS5.out _ ((hw3.allocR _).allocR _) | go_keep) ((first | (go_at_call 12; refine (HALL.out _ (Below.refl _ _).drew).mono ?_; rintro e w3 ⟨LV, lvc, own3, rfl, b1, b2, b3, b4, b5, b6⟩; have hw3 : Wr own w2 w3 := (Wr.refl _ _).drewR.trans b6 (fun _ h => Or.inl h); have hord : w2.heap.size = w2.heap.size := rfl) | (go_at_call 12; refine (HALL.out _ (below1 _ _).drew).mono ?_; rintro e w3 ⟨LV, lvc, own3, rfl, b1, b2, b3, b4, b5, b6⟩; have hw3 : Wr own w2 w3 := ((Wr.refl _ _).allocR _).drewR.trans b6 (fun _ h => Or.inl h))))
    all_goals (go_wp2_with fail)
    all_goals go_meet
    · have z1 : w2.heap.size + 1 ≤ w3.heap.size := by have := b6.size; simpa using this
      have hZr : Row w3 w2.heap.size Z 55 := ((Row.new w2 Z 55).drew).wr b6 (fun ho => by have := (HBK.out.2.2 _ ho).2; omega)
      have hbl3 := b3.blocks.2.2
      refine ⟨w3.heap.size, w2.heap.size, own3, _, rfl, b3.below (below1 _ _), b1, fun k hk => ?_, Row.new _ _ _, ⟨Z, hZr.alloc _, HZ.out⟩, ownsRow_base (ownsRow_wr b4 (Wr.of_below (F := fun _ => False) (below1 _ _)) (fun _ _ h => h)) (by simp; omega), fun k hk => ⟨b5 k hk, fun e => ?_⟩, by omega, by omega, fun ho => by have := (hbl3 _ ho).2; omega, fun ho => ?_, (HW2.out.trans hw3 (fun _ h => Or.inl h)).allocR _, (HV2.out.wr hw3 (fun ho => by have := (HBK.out.2.2 _ ho).2; omega)).alloc _, (HG2.out.wr hw3 (fun ho => by have := (HBK.out.2.2 _ ho).2; omega)).alloc _⟩
      · rcases b2 k hk with h' | h'
        · exact Or.inl h'
        · simp at h'; exact Or.inr (by omega)
      · have := (b4.lt k hk).1
        simp at this
        omega
      · rcases b2 _ ho with h' | h'
        · have := (HBK.out.2.2 _ h').2; omega
        · simp at h'; omega
    · have z1 : w2.heap.size ≤ w3.heap.size := by have := b6.size; simpa using this
      have hbl3 := b3.blocks.2.2
      refine ⟨w3.heap.size + 1, w3.heap.size, own3, _, rfl, b3.below (below2 _ _ _), b1, fun k hk => ?_, (by have := Row.new (w3.alloc (.cells Z 55)) #[.slice (some ⟨w3.heap.size, 0, none⟩) nt0 nt0, .slice LV g.locs.length lvc] 84; simpa using this), ⟨Z, (Row.new _ _ _).alloc _, HZ.out⟩, ownsRow_base (ownsRow_wr b4 (Wr.of_below (F := fun _ => False) (below2 _ _ _)) (fun _ _ h => h)) (by simp; omega), fun k hk => ⟨b5 k hk, fun e => ?_⟩, by omega, by omega, fun ho => by have := (hbl3 _ ho).2; omega, fun ho => by have := (hbl3 _ ho).2; omega, ((HW2.out.trans hw3 (fun _ h => Or.inl h)).allocR _).allocR _, ((HV2.out.wr hw3 (fun ho => by have := (HBK.out.2.2 _ ho).2; omega)).alloc _).alloc _, ((HG2.out.wr hw3 (fun ho => by have := (HBK.out.2.2 _ ho).2; omega)).alloc _).alloc _⟩
      · rcases b2 k hk with h' | h'
        · exact Or.inl h'
        · simp at h'; exact Or.inr (by omega)
      · obtain ⟨_, cs, hr⟩ := ownsRow_row b4 hk
        have := hr.lt
        omega
  case rest =>
    obtain ⟨fb, tb, own3, lv, rfl, hH3, b1, b2, hFr0, hTr0, hLv, hlvn, hfb, htb, hfo, hto, hW3, hV3, hG3⟩ := hcut
    have f0 := hFr0.cell (j := 0) rfl
    have f1 := hFr0.cell (j := 1) rfl
    have fl := hFr0.lt
    have hnb := hH3.blocks
    obtain ⟨cur, hcur, hcv⟩ := hTr0
    have hrb3 := hW3.size
    have hfne : fb ≠ tb := hFr0.ne hcur (by decide)
    have HFR0 := Lib.hid hFr0
    have HH3 := Lib.hid hH3
    have HB := Lib.hid (And.intro b1 b2)
    have HLV := Lib.hid hLv
    have HLN := Lib.hid hlvn
    have HFO := Lib.hid (And.intro hfo hto)
    have HW3 := Lib.hid hW3
    have HV3 := Lib.hid hV3
    have HG3 := Lib.hid hG3
    have hlen0 : args.length ≤ nt0 := by have := HFN.out.params; omega
    have hcursz : args.length * 2 ≤ cur.size := by have := hcv.1; simp only [List.length_replicate] at this; omega
    have hsrc : ∀ j v, args[j]? = some v → ∃ b off, AA = some ⟨b, off, none⟩ ∧ ValCells wc b (off + j * 2) v := by
      intro j v hj
      obtain ⟨b, off, e1, e2, e3, e4⟩ := HARG.out j v hj
      exact ⟨b, off, e1, e4.wr1 hW3 e3 e2⟩
    have HSRC := Lib.hid hsrc
    have HCV := Lib.hid hcv
    have HCUR := Lib.hid hcur
    have hmin : args.length = Nat.min args.length nt0 := by exact (Nat.min_eq_left (by omega)).symm
    have HMIN := Lib.hid hmin
    clear hFr0 hH3 b1 b2 hLv hlvn hfo hto hW3 hV3 hG3 hcur hcv hsrc hmin
    go_wp2_with (with_reducible refine wpList_copy_vals rfl (.tmp 44) (.tmp 45) 50 50 rfl 55 Try.underlying50 rfl tb nt0 nt0 AA args.length acap rfl rfl cur 55 args HCUR.out HMIN.out HSRC.out hcursz ?_)
    intro w4 hr4 hw4
    obtain ⟨k1, k2, k3, k4, k5⟩ := call_start_ok (p := p) HFN.out HNT.out HINV.out HVA.out hlen0 HGL.out hf (by have := HHY.out; omega)
    have hrbtb : rb ≠ tb := by omega
    have hC0 : CIn base cb hb rb fb tb own fuel P gv lv (numsF s.mem g.locs.length) p.globs.length nt0 (s.calls + 1) #[.int .i64 g.params, .int .i64 (nt0 : Nat), .slice LA g.locs.length lcap, .slice BA g.blocks.length bcap] w own3 { s with calls := s.calls + 1, deep := max s.deep (s.calls + 1), steps := s.steps + countsF g.locs, mem := makesF s.mem g.locs } (startF nt0 args) w4 := by
      refine ⟨HB.out.1, HB.out.2, HH3.out.wr hw4 (fun k hk => (by subst hk; exact ⟨by omega, HFO.out.2⟩)), (HRN.out.wr HW3.out HORB.out.1 (fun g hg => (HOGV.out g hg).1)).wr hw4 hrbtb (fun g hg => by have := HNG.out g hg; omega), ⟨?_, ⟨_, hr4, start_vals HCV.out hlen0⟩, ?_, fun g' hg' => (HLN.out g' hg').2, by rw [k3]; omega, by rw [k4]; omega⟩, ⟨⟨fun ho => ?_, HORB.out.2⟩, ⟨HFO.out.1, by omega⟩, ⟨HFO.out.2, by omega⟩, fun g' hg' => ⟨(HLN.out g' hg').1, ?_⟩, fun g' hg' => ⟨fun ho => ?_, (HOGV.out g' hg').2, by have := HNG.out g' hg'; omega⟩, hrbtb⟩, k2, k1, rfl, k3, HG3.out.wr hw4 (by omega), HBK.out.1, fun k hk => (HBK.out.2.2 k hk).2, hpos, ⟨hfb, htb, fun g' hg' => (HLV.out.lt g' hg').1⟩, HW3.out.trans hw4 (fun k hk => Or.inr (by omega))⟩
      · rw [k3]; exact HFR0.out.wr hw4 hfne
      · rw [k4]; exact ownsRow_base (ownsRow_wr HLV.out hw4 (fun g' hg' => (HLN.out g' hg').2)) (Nat.zero_le _)
      · rcases HB.out.2 _ ho with h' | h'
        · exact HORB.out.1 h'
        · omega
      · have := (HLV.out.lt g' hg').1; omega
      · rcases HB.out.2 _ ho with h' | h'
        · exact (HOGV.out g' hg').1 h'
        · have := HNG.out g' hg'; omega
    have HC0 := Lib.hid hC0
    have HV4 := Lib.hid (HV3.out.wr hw4 (by omega))
    have HK5 := Lib.hid k5
    have HRBW := Lib.hid (show rb ≠ w.heap.size ∧ ∀ g', gv.ownBlock = some g' → g' ≠ w.heap.size from ⟨by omega, fun g' hg' => by have := HNG.out g' hg'; omega⟩)
    have hs0 : s.steps + countsF g.locs ≤ fuel := by have := HHY.out; omega
    have hst0 := HINV.out.lo
    have hone := HFN.out.one
    have hcs0 := HINV.out.calls
    obtain ⟨T, hT⟩ : ∃ T, T = blocksF R fuel (numsF s.mem g.locs.length) g.blocks (fuel - (s.steps + countsF g.locs) + 1).toNat 0 { s with calls := s.calls + 1, deep := max s.deep (s.calls + 1), steps := s.steps + countsF g.locs, mem := makesF s.mem g.locs } (startF nt0 args) := ⟨_, rfl⟩
    rw [← hT] at HQ
    have HT := Lib.hid hT
    clear hr4 hw4 k1 k2 k3 k4 k5 hC0 hT HFR0 HH3 HLV HLN HFO HW3 HV3 HG3 HCV HCUR HSRC f0 f1 fl hnb hcursz
    go_wp2_with fail
    go_loopw [7, 10] (fun _ a wr => ∃ (own2 : Nat → Prop) (st : St) (tp : List V) (y0 y1 : Int), CIn base cb hb rb fb tb own fuel P gv lv (numsF s.mem g.locs.length) p.globs.length nt0 (s.calls + 1) #[.int .i64 g.params, .int .i64 (nt0 : Nat), .slice LA g.locs.length lcap, .slice BA g.blocks.length bcap] w own2 st tp wr ∧ Row wr w.heap.size #[.int .i64 y0, .int .i64 y1] 55 ∧ (memBase s.mem).length + g.locs.length ≤ (memBase st.mem).length ∧
        ((∃ gas k : Nat, a = .int .i64 k ∧ k < g.blocks.length ∧ (fuel - st.steps).toNat < gas ∧ blocksF R fuel (numsF s.mem g.locs.length) g.blocks gas k st tp = T) ∨ (∃ v : V, a = .int .i64 (-1) ∧ y0 = v.obj ∧ y1 = v.n ∧ T = (some v, { st with mem := killF st.mem (numsF s.mem g.locs.length), calls := st.calls - 1 }))))
      (fun _ a wr => if intOf a < 0 then 0 else (fuel - intOf ((wr.cell? ⟨cb, 3, none⟩).getD undef)).toNat + 1)
    case atStart => exact ⟨own3, _, _, 0, 0, HC0.out, HV4.out, by rw [HK5.out]; exact Nat.le_refl _, Or.inl ⟨_, 0, rfl, by omega, by show (fuel - (s.steps + countsF g.locs)).toNat < _; omega, HT.out.symm⟩⟩
    case round =>
      obtain ⟨own2, st, tp, y0, y1, hC, hv, hml, hmode⟩ := hrel
      have HC := Lib.hid hC
      have HVR := Lib.hid hv
      have HML := Lib.hid hml
      have hzr := hC.wr.size
      have e3 : wr.cell? ⟨w.heap.size + 1, 3, none⟩ = some (.slice BA g.blocks.length bcap) := hC.box.cell (j := 3) rfl
      have hbl := hC.box.lt
      have v0 := hv.cell (j := 0) rfl
      have v1 := hv.cell (j := 1) rfl
      have v2 := hv.free 0
      have v3 := hv.free 1
      have vl := hv.lt
      rcases hmode with ⟨gas, k, rfl, hk, hgas, heq⟩ | ⟨v, rfl, rfl, rfl, heq⟩
      · obtain ⟨gas', rfl⟩ : ∃ g', gas = g' + 1 := ⟨gas - 1, by omega⟩
        have HEQ := Lib.hid heq
        have hBr := hC.bas
        obtain ⟨bb, boff, b, rfl, hbb, hbk, ⟨sv, b0, hst⟩, b1, ⟨cv0, cv1, cv2, b2, b3, b4, hct⟩, b5, b6, _, _, _⟩ := (HBLS.out.below hBr (Nat.le_refl _) (fun _ _ h => h.below hBr (Nat.le_refl _))).get hk
        simp only [Nat.add_zero] at b0 b1 b2 b3 b4 b5 b6
        obtain ⟨SA, scap, hsv⟩ : ∃ SA scap, sv = .slice SA b.steps.length scap := (by obtain ⟨A', c', h, _⟩ := hst; exact ⟨_, _, h⟩)
        subst hsv
        obtain ⟨ca, cb', CA, cl, cc, rfl, rfl, rfl⟩ := hct.shape
        have hbok := HBL.out b (List.mem_of_getElem? hbk)
        have hlen := hC.len
        have hlol := numsF_length s.mem g.locs.length
        have hBA := Lib.hid (fun W (hW : Below wr.heap.size wr W) => gblock_any base cb hb rb fb tb own2 P gv lv fuel st tp (numsF s.mem g.locs.length) R p g b SA CA b.steps.length scap cl cc ca cb' W (hC.hc.below hW) (hC.run.below hW) (hC.fr.below hW) hC.off hC.frok hC.inv hf hlol (by rw [hlen]; exact hbok) (hst.below (hW.mono (by omega)) (Nat.le_refl _) (fun _ _ h => h.below (hW.mono (by omega)) (Nat.le_refl _))) (hct.below (hW.mono (by omega)) (Nat.le_refl _)) (HPR.out.below (hBr.trans (hW.mono (by omega)))) (by rw [hC.calls]; exact HCA.out) HRK.out)
        have HBK2 := Lib.hid hbk
        have HBOK := Lib.hid hbok
        have HLEN := Lib.hid hlen
        have hkb : (k : Int) < (g.blocks.length : Int) := by omega
        have hbbl : bb < wr.heap.size := by omega
        clear hC hv hml heq hbk hst hct hbok hBr hlen
        go_wp2_with fail
        refine (hBA.out _ (Below.refl _ _)).mono ?_
        rintro e w5 ⟨k', z0, z1, ok, rfl, hans, own5, c1, c2, c3, c4, c5⟩
        obtain ⟨go, st', tp', hbf⟩ : ∃ go st' tp', blockF R fuel (numsF s.mem g.locs.length) st tp b = (go, st', tp') := ⟨_, _, _, rfl⟩
        rw [hbf] at hans c3 c4
        simp only at hans c3 c4
        obtain ⟨a1, a2, a3, a4, a5⟩ := HC.out.after own5 c1 c2 c5
        have hr5 := a4 _ _ HVR.out
        have r0 := hr5.cell (j := 0) rfl
        have r1 := hr5.cell (j := 1) rfl
        have r2 := hr5.free 0
        have r3 := hr5.free 1
        have r4 := hr5.lt
        have HA1 := Lib.hid a1
        have HA2 := Lib.hid a2
        have HA3 := Lib.hid a3
        have HR5 := Lib.hid hr5
        have HC3 := Lib.hid c3
        have HC4 := Lib.hid c4
        have HC12 := Lib.hid (And.intro c1 (And.intro c2 c5))
        have HBF := Lib.hid hbf
        have hfl := HC.out.nown
        have h0n : ¬ own5 w.heap.size := fun ho => by rcases a2 _ ho with h' | h'; exact hfl.1 (HC.out.up _ h'); omega
        have HNW := Lib.hid h0n
        clear a1 a2 a3 a4 a5 hr5 c1 c2 c3 c4 c5 hbf h0n hfl b0 b1 b2 b3 b4 b5 b6 v0 v1 v2 v3 e3
        cases go with
        | over =>
          simp only [BlkAns] at hans
          subst hans
          go_wp2_with fail
          have hr9 : Row ((((w5.setCell ⟨w.heap.size, 0, none⟩ (.int .i64 z0)).setCell ⟨w.heap.size, 1, none⟩ (.int .i64 z1)).setCell ⟨w.heap.size, 0, none⟩ (.int .i64 z0)).setCell ⟨w.heap.size, 1, none⟩ (.int .i64 z1)) w.heap.size #[.int .i64 z0, .int .i64 z1] 55 := (((HR5.out.set 0 _).set 1 _).set 0 _).set 1 _
          have s0 := hr9.cell (j := 0) rfl
          have s1 := hr9.cell (j := 1) rfl
          clear hr9
          refine HQ.out _ _ _ ?_
          refine bodyPost_ret (v := .tuple #[.agg #[.int .i64 z0, .int .i64 z1], .bool false]) (by simp [results, Try.results13, go_sem, r0, r1, s0, s1]) rfl ?_
          have hTT : T = (none, st') := by rw [← HEQ.out, blocksF_over HBK2.out HBF.out]
          rw [hTT]
          have hwx : Wr (fun i => i = w.heap.size) w5 (((w5.setCell ⟨w.heap.size, 0, none⟩ (.int .i64 z0)).setCell ⟨w.heap.size, 1, none⟩ (.int .i64 z1)).setCell ⟨w.heap.size, 0, none⟩ (.int .i64 z0) |>.setCell ⟨w.heap.size, 1, none⟩ (.int .i64 z1)) := (setcells_wr _ _ _ _).trans (setcells_wr _ _ _ _) (fun _ h => Or.inl h)
          refine ⟨⟨z0, z1, rfl⟩, own5, HA1.out, fun k hk => (by rcases HA2.out k hk with h' | h'; exact Or.inl h'; exact Or.inr (by omega)), HC3.out.wr hwx (fun k hk => (by subst hk; exact ⟨hpos, HNW.out⟩)), HA3.out.trans hwx (fun k hk => Or.inr (by omega))⟩
        | next j =>
          simp only [BlkAns] at hans
          obtain ⟨rfl, rfl⟩ := hans
          obtain ⟨d1, d2, d3, d4, d5, _⟩ := block_kept (p := p) HRK.out HC.out.inv HC.out.frok HLEN.out (numsF_length s.mem g.locs.length) HBOK.out HBF.out (by simp)
          obtain ⟨j0, j1⟩ := d5 _ rfl
          obtain ⟨jn, rfl⟩ := Int.eq_ofNat_of_zero_le j0
          have HD := Lib.hid (And.intro d1 (And.intro d2 (And.intro d3 d4)))
          clear d1 d2 d3 d5 j0
          go_wp2_with fail
          go_roundw
          case rel =>
            have hnx := (HC.out.next own5 HC12.out.1 HC12.out.2.1 HC12.out.2.2 HC3.out (HC4.out (by simp)) HD.out.1 HD.out.2.1 (by rw [HD.out.2.2.1])).box1 (setcells_wr w5 w.heap.size (.int .i64 z0) (.int .i64 z1)) HRBW.out.1 HRBW.out.2
            refine ⟨own5, st', tp', z0, z1, hnx, (HR5.out.set 0 _).set 1 _, by have := HD.out.1.grow; have := HML.out; omega, Or.inl ⟨gas', jn, rfl, by omega, by have := HD.out.1.inv.hi; have := HC.out.inv.hi; omega, ?_⟩⟩
            rw [← HEQ.out, blocksF_next HBK2.out HBF.out]
          case measure =>
            have hnx := ((HC.out.next own5 HC12.out.1 HC12.out.2.1 HC12.out.2.2 HC3.out (HC4.out (by simp)) HD.out.1 HD.out.2.1 (by rw [HD.out.2.2.1])).box1 (setcells_wr w5 w.heap.size (.int .i64 z0) (.int .i64 z1)) HRBW.out.1 HRBW.out.2).hc.steps
            have hnw := HC.out.hc.steps
            have := HD.out.1.inv.hi
            have hd4 := HD.out.2.2.2
            rw [hnx, hnw]
            show (if (jn : Int) < 0 then 0 else (fuel - st'.steps).toNat + 1) < (if (k : Int) < 0 then 0 else (fuel - st.steps).toNat + 1)
            rw [if_neg (by omega), if_neg (by omega)]
            omega
        | ret v =>
          simp only [BlkAns] at hans
          obtain ⟨rfl, rfl, rfl, rfl⟩ := hans
          obtain ⟨d1, d2, d3, d4, _, _⟩ := block_kept (p := p) HRK.out HC.out.inv HC.out.frok HLEN.out (numsF_length s.mem g.locs.length) HBOK.out HBF.out (by simp)
          have HD := Lib.hid (And.intro d1 (And.intro d2 (And.intro d3 d4)))
          clear d1 d2 d3
          go_wp2_with fail
          go_roundw
          case rel =>
            have hnx := (HC.out.next own5 HC12.out.1 HC12.out.2.1 HC12.out.2.2 HC3.out (HC4.out (by simp)) HD.out.1 HD.out.2.1 (by rw [HD.out.2.2.1])).box1 (setcells_wr w5 w.heap.size (.int .i64 v.obj) (.int .i64 v.n)) HRBW.out.1 HRBW.out.2
            refine ⟨own5, st', tp', v.obj, v.n, hnx, (HR5.out.set 0 _).set 1 _, by have := HD.out.1.grow; have := HML.out; omega, Or.inr ⟨v, rfl, rfl, rfl, ?_⟩⟩
            rw [← HEQ.out, blocksF_ret HBK2.out HBF.out]
          case measure =>
            show 0 < (if (k : Int) < 0 then 0 else _)
            rw [if_neg (by omega)]
            omega
      · have HEQ := Lib.hid heq
        obtain ⟨FA, fcap, hflv, _, hfp⟩ := rowV_own hC.fr.locs (by rw [locV_length])
        rw [numsF_length] at hflv
        have hfr1 := hC.fr.row.cell (j := 1) rfl
        have hfr2 : wr.cell? ⟨fb, 1, none⟩ = some (.slice FA g.locs.length fcap) := hflv ▸ hfr1
        have hfbl := hC.fr.row.lt
        have h4 := hC.run.row.cell (j := 4) rfl
        have hrl := hC.run.row.lt
        have HKL := Lib.hid (kill_hc (numsF s.mem g.locs.length) FA g.locs.length fcap (hC.hc.below (Below.refl _ _).drew) (fun x hx => ⟨numsF_pos hx, hC.frok.locs x hx⟩) (numsF_length _ _) (by omega) (fun j v hj => (by obtain ⟨b, off, e1, e2, e3, e4⟩ := hfp j v hj; exact ⟨b, off, e1, e2, (hC.off.olv b e3).1, e4⟩)))
        have HFP := Lib.hid hfp
        have hnw := hC.nown
        have HNW := Lib.hid hnw
        clear hC hv heq hfp hfr1 hflv e3 hnw
        go_wp2_with fail
        refine still_tailq 8 (by kernel_rfl) (by kernel_rfl) ?_
        simp only [List.take_succ_cons, List.take_zero, List.drop_succ_cons, List.drop_zero]
        repeat (go_big_quiet_step (fail))
        refine wpQuiet_nil ?_
        go_wp2_with fail
        refine HKL.out.mono ?_
        rintro e w6 ⟨rfl, hH6, hw6⟩
        have hru := (HC.out.run.below (Below.refl _ _).drew).wr hw6 HC.out.off.orb.1 (fun g' hg' => (HC.out.off.ogv g' hg').1)
        have p0 := hru.row.cell (j := 0) rfl
        have prl := hru.row.lt
        have hcl : st.calls = s.calls + 1 := HC.out.calls
        have HLV := Lib.hid (leave_hc hH6 (by show 1 ≤ st.calls; omega) (by show st.calls ≤ 64; omega))
        have HV6 := Lib.hid (HVR.out.drew.wr hw6 HNW.out.1)
        have HW6 := Lib.hid (HC.out.wr.drewR.trans hw6 (fun k hk => (by rcases HC.out.dn k hk with h' | h'; exact Or.inl h'; exact Or.inr (by omega))))
        clear hH6 hw6 hru v0 v1 v2 v3 vl hfr2 h4
        go_wp2_with fail
        refine HLV.out.mono ?_
        rintro e w7 ⟨rfl, hH7, hw7⟩
        have hv7 := HV6.out.wr hw7 (by omega)
        have r0 := hv7.cell (j := 0) rfl
        have r1 := hv7.cell (j := 1) rfl
        have r2 := hv7.free 0
        have r3 := hv7.free 1
        have r4 := hv7.lt
        have HH7 := Lib.hid hH7
        have HW7 := Lib.hid hw7
        clear hH7 hw7 hv7 p0
        go_wp2_with fail
        refine HQ.out _ _ _ ?_
        refine bodyPost_ret (v := .tuple #[.agg #[.int .i64 v.obj, .int .i64 v.n], .bool true]) (by simp [results, Try.results13, go_sem, r0, r1]) rfl ?_
        rw [HEQ.out]
        exact ⟨rfl, own2, HC.out.up, fun k hk => (by rcases HC.out.dn k hk with h' | h'; exact Or.inl h'; exact Or.inr (by omega)), HH7.out.wr (setcells_wr _ _ _ _) (fun k hk => (by subst hk; exact ⟨hpos, HNW.out.1⟩)), (HW6.out.trans HW7.out (fun k hk => Or.inl (hk ▸ HBK.out.1))).trans (setcells_wr _ _ _ _) (fun k hk => Or.inr (by omega))⟩
end Go.Proofs.Ytikbdplllopjlaa
