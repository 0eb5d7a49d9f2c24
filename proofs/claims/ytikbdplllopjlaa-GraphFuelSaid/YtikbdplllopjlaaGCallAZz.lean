/- The graph's machine: calls that do not begin. Conditions: as stated. -/
import Derived.Test.YtikbdplllopjlaaGBlkBZz
import Derived.Test.YtikbdplllopjlaaQ08Zz
import Derived.Deep.RegionHeld3
set_option linter.unusedVariables false
set_option linter.unusedSimpArgs false
namespace Go.Proofs.Ytikbdplllopjlaa
open Go.RowKit

set_option maxRecDepth 100000 in
set_option maxHeartbeats 8000000 in
theorem gcall_over (base cb hb rb : Nat) (own : Nat → Prop) (P : Value × Value × Value) (gv : Value) (fuel : Int) (p : ProgS) (s : St) (f : Nat) (g : GraphS) (args : List V) (AA : Option Addr) (an acap : Nat) (w : World)
    (hg : p.funcs[f]? = some g) (hfn : FnOkG p g) (hf : fuel ≤ 100000000) (hal : (args.length : Int) = g.params) (h : HCs w base own cb hb fuel s) (hR : GRun w rb cb hb P gv p.globs.length) (hP : ProgAt w base P p) (horb : ¬ own rb ∧ base ≤ rb) (hogv : ∀ k, gv.ownBlock = some k → ¬ own k ∧ base ≤ k) (hI : GInv fuel s) (hgl : p.globs.length < (memBase s.mem).length) (hva : ∀ v, v ∈ args → VOk (memBase s.mem).length v) (han : args.length = an)
    (hargs : ∀ j v, args[j]? = some v → ∃ b off, AA = some ⟨b, off, none⟩ ∧ b < w.heap.size ∧ ¬ own b ∧ ValCells w b (off + j * 2) v) (hc : s.calls = 64) :
    Calls Try.prog 13 #[.pointer (some ⟨rb, 0, none⟩), .int .i64 f, .slice AA an acap] w fun e w' => GCallSays base cb hb fuel own (none, { s with kind := 4 }) w e w' := by
  have hbk := h.blocks
  have hcb := hbk.2.2 cb hbk.1
  have hpos : base ≤ w.heap.size := by omega
  obtain ⟨GA, gcap, hPf, hfl, _⟩ := id hP.2.1
  have hfk : f < p.funcs.length := by
    rcases Nat.lt_or_ge f p.funcs.length with h' | h'
    · exact h'
    · rw [List.getElem?_eq_none h'] at hg; cases hg
  have hPs := hPf ▸ hP.2.1
  obtain ⟨gb, goff, g', rfl, hgb, hg', g0, g1, ⟨LV, g2, hlo⟩, ⟨BV, g3, hbl⟩, _, _⟩ := hPs.get hfk
  obtain rfl : g' = g := by rw [hg] at hg'; injection hg' with e; exact e.symm
  obtain ⟨LA, lcap, rfl⟩ : ∃ LA lcap, LV = .slice LA g'.locs.length lcap := (by obtain ⟨A', c', h, _⟩ := hlo; exact ⟨_, _, h⟩)
  obtain ⟨BA, bcap, rfl⟩ : ∃ BA bcap, BV = .slice BA g'.blocks.length bcap := (by obtain ⟨A', c', h, _⟩ := hbl; exact ⟨_, _, h⟩)
  obtain ⟨g, rfl⟩ : ∃ g, g = g' := ⟨_, rfl⟩
  simp only [Nat.add_zero] at g0 g1 g2 g3
  have hobs : ∀ o, o ∈ g.locs → ObOk o := fun o ho => (hfn.obs o ho).1
  have hll := hfn.locs
  have hcbd := countsF_bd hobs
  have hfk2 : (f : Int) < (p.funcs.length : Int) := by omega
  have r0 : w.cell? ⟨rb, 0, none⟩ = some (.pointer (some ⟨cb, 0, none⟩)) := hR.row.cell (j := 0) rfl
  have r2 : w.cell? ⟨rb, 2, none⟩ = some (.slice (some ⟨gb, goff, none⟩) p.funcs.length gcap) := hPf ▸ hR.row.cell (j := 2) rfl
  have hrb := hR.row.lt
  have hgbl : gb < w.heap.size := by omega
  have HB2 := Lib.hid (below2 w (.cells #[.int .i64 0, .int .i64 0] 55) (.cells #[.int .i64 g.params, .int .i64 g.temps, .slice LA g.locs.length lcap, .slice BA g.blocks.length bcap] 68))
  have HEL := Lib.hid (elements_any base g.locs LA g.locs.length lcap ((w.alloc (.cells #[.int .i64 0, .int .i64 0] 55)).alloc (.cells #[.int .i64 g.params, .int .i64 g.temps, .slice LA g.locs.length lcap, .slice BA g.blocks.length bcap] 68)).drew (hlo.below (HB2.out.drew.mono hpos) (Nat.le_refl _) (fun _ _ h => h.below (HB2.out.drew.mono hpos) (Nat.le_refl _))) (by simp; omega) hobs (by omega))
  have HH := Lib.hid (fun W (hW : Below w.heap.size w W) => h.below hW)
  have hv0 := (Row.new w #[.int .i64 0, .int .i64 0] 55).alloc (.cells #[.int .i64 g.params, .int .i64 g.temps, .slice LA g.locs.length lcap, .slice BA g.blocks.length bcap] 68)
  have HV0 := Lib.hid hv0
  have HBK := Lib.hid hbk
  have hg0 := Row.new (w.alloc (.cells #[.int .i64 0, .int .i64 0] 55)) #[.int .i64 g.params, .int .i64 g.temps, .slice LA g.locs.length lcap, .slice BA g.blocks.length bcap] 68
  rw [World.size_alloc] at hg0
  have HG0 := Lib.hid hg0
  have HR0 := Lib.hid r0
  have KS := Lib.hid (fun (W : World) (hbw : Below ((w.alloc (.cells #[.int .i64 0, .int .i64 0] 55)).alloc (.cells #[.int .i64 g.params, .int .i64 g.temps, .slice LA g.locs.length lcap, .slice BA g.blocks.length bcap] 68)).heap.size ((w.alloc (.cells #[.int .i64 0, .int .i64 0] 55)).alloc (.cells #[.int .i64 g.params, .int .i64 g.temps, .slice LA g.locs.length lcap, .slice BA g.blocks.length bcap] 68)) W) => (⟨cell_below HR0.out (HB2.out.trans (hbw.mono HB2.out.size)) hrb, (HG0.out.below hbw HG0.out.lt).cell (j := 2) rfl⟩ : W.cell? ⟨rb, 0, none⟩ = some (.pointer (some ⟨cb, 0, none⟩)) ∧ W.cell? ⟨w.heap.size + 1, 2, none⟩ = some (.slice LA g.locs.length lcap)))
  have hncb1 : ¬ rb = cb := fun e => horb.1 (e ▸ hbk.1)
  have KS3 := Lib.hid (fun (W w' : World) (hbw : Below ((w.alloc (.cells #[.int .i64 0, .int .i64 0] 55)).alloc (.cells #[.int .i64 g.params, .int .i64 g.temps, .slice LA g.locs.length lcap, .slice BA g.blocks.length bcap] 68)).heap.size ((w.alloc (.cells #[.int .i64 0, .int .i64 0] 55)).alloc (.cells #[.int .i64 g.params, .int .i64 g.temps, .slice LA g.locs.length lcap, .slice BA g.blocks.length bcap] 68)) W) (hw : Wr (fun b => b = cb) W w') => (⟨(World.cell?_of_block (a := ⟨rb, 0, none⟩) (hw.block rb (by have := HB2.out.size; have := hbw.size; show rb < _; omega) hncb1)).trans (KS.out W hbw).1, (((HG0.out.below hbw HG0.out.lt)).wr hw (by omega)).cell (j := 2) rfl⟩ : w'.cell? ⟨rb, 0, none⟩ = some (.pointer (some ⟨cb, 0, none⟩)) ∧ w'.cell? ⟨w.heap.size + 1, 2, none⟩ = some (.slice LA g.locs.length lcap)))
  have HEN := Lib.hid (fun W (hW : Below ((w.alloc (.cells #[.int .i64 0, .int .i64 0] 55)).alloc (.cells #[.int .i64 g.params, .int .i64 g.temps, .slice LA g.locs.length lcap, .slice BA g.blocks.length bcap] 68)).heap.size ((w.alloc (.cells #[.int .i64 0, .int .i64 0] 55)).alloc (.cells #[.int .i64 g.params, .int .i64 g.temps, .slice LA g.locs.length lcap, .slice BA g.blocks.length bcap] 68)) W) => over_hc (countsF g.locs) (HH.out W (HB2.out.trans (hW.mono HB2.out.size))) hc)
  clear h hR hP hg hfn horb hogv hI hgl hva hargs hbk hg0 hv0 hPf hPs hlo hbl hobs hg' hfl
  go_enter Try.func13, Try.ntmps13
  refine wp_letter (fun Q hQ => ?_)
  have HQ := Lib.hid hQ
  clear hQ
  go_wp2_with fail
  go_region_held3 (fun w' => w'.cell? ⟨rb, 0, none⟩ = some (.pointer (some ⟨cb, 0, none⟩)) ∧ w'.cell? ⟨w.heap.size + 1, 2, none⟩ = some (.slice LA g.locs.length lcap)) (first | exact KS.out _ (Below.refl _ _).drew | exact KS.out _ ((Below.refl _ _).drew.trans hb1) | exact KS3.out _ _ ((Below.refl _ _).drew.trans hb1) hw2 | go_keep) ((first | (go_at_call 23; refine HEL.out.mono ?_; rintro e w1 ⟨rfl, hb1⟩) | (go_at_call 22; refine (HEN.out _ ((Below.refl _ _).drew.trans hb1)).mono ?_; rintro e w2 ⟨rfl, hH2, hw2⟩)))
  have HB1 := Lib.hid (HB2.out.drew.trans (hb1.mono HB2.out.drew.size))
  have hzb := HB1.out.size
  have hv2 := ((HV0.out.drew).below hb1 HV0.out.lt).wr hw2 (by omega)
  have c0 := hv2.cell (j := 0) rfl
  have c1 := hv2.cell (j := 1) rfl
  have c2 := hv2.free 0
  have c3 := hv2.free 1
  have cl := hv2.lt
  have HH2 := Lib.hid hH2
  have HW2 := Lib.hid hw2
  clear hH2 hw2 hv2 HV0 hb1
  go_wp2_with fail
  refine HQ.out _ _ _ ?_
  refine bodyPost_ret (v := .tuple #[.agg #[.int .i64 0, .int .i64 0], .bool false]) (by simp [results, Try.results13, go_sem, c0, c1]) rfl ⟨⟨0, 0, rfl⟩, own, fun _ h => h, fun _ h => Or.inl h, ?_, ?_⟩
  · exact HH2.out.wr (setcells_wr w2 w.heap.size (.int .i64 0) (.int .i64 0)) (fun k hk => (by subst hk; exact ⟨hpos, fun ho => by have := (HBK.out.2.2 _ ho).2; omega⟩))
  · exact (((Wr.of_below (F := own) HB1.out).trans HW2.out (fun k hk => Or.inl (hk ▸ HBK.out.1)))).trans (setcells_wr w2 w.heap.size (.int .i64 0) (.int .i64 0)) (fun k hk => Or.inr (by omega))

set_option maxRecDepth 100000 in
set_option maxHeartbeats 8000000 in
theorem gcall_dry (base cb hb rb : Nat) (own : Nat → Prop) (P : Value × Value × Value) (gv : Value) (fuel : Int) (p : ProgS) (s : St) (f : Nat) (g : GraphS) (args : List V) (AA : Option Addr) (an acap : Nat) (w : World)
    (hg : p.funcs[f]? = some g) (hfn : FnOkG p g) (hf : fuel ≤ 100000000) (hal : (args.length : Int) = g.params) (h : HCs w base own cb hb fuel s) (hR : GRun w rb cb hb P gv p.globs.length) (hP : ProgAt w base P p) (horb : ¬ own rb ∧ base ≤ rb) (hogv : ∀ k, gv.ownBlock = some k → ¬ own k ∧ base ≤ k) (hI : GInv fuel s) (hgl : p.globs.length < (memBase s.mem).length) (hva : ∀ v, v ∈ args → VOk (memBase s.mem).length v) (han : args.length = an)
    (hargs : ∀ j v, args[j]? = some v → ∃ b off, AA = some ⟨b, off, none⟩ ∧ b < w.heap.size ∧ ¬ own b ∧ ValCells w b (off + j * 2) v) (hc : s.calls < 64) (hy : (stepF fuel (countsF g.locs) { s with calls := s.calls + 1, deep := max s.deep (s.calls + 1) }).1 = false) :
    Calls Try.prog 13 #[.pointer (some ⟨rb, 0, none⟩), .int .i64 f, .slice AA an acap] w fun e w' => GCallSays base cb hb fuel own (none, (stepF fuel (countsF g.locs) { s with calls := s.calls + 1, deep := max s.deep (s.calls + 1) }).2) w e w' := by
  have hbk := h.blocks
  have hcb := hbk.2.2 cb hbk.1
  have hpos : base ≤ w.heap.size := by omega
  obtain ⟨GA, gcap, hPf, hfl, _⟩ := id hP.2.1
  have hfk : f < p.funcs.length := by
    rcases Nat.lt_or_ge f p.funcs.length with h' | h'
    · exact h'
    · rw [List.getElem?_eq_none h'] at hg; cases hg
  have hPs := hPf ▸ hP.2.1
  obtain ⟨gb, goff, g', rfl, hgb, hg', g0, g1, ⟨LV, g2, hlo⟩, ⟨BV, g3, hbl⟩, _, _⟩ := hPs.get hfk
  obtain rfl : g' = g := by rw [hg] at hg'; injection hg' with e; exact e.symm
  obtain ⟨LA, lcap, rfl⟩ : ∃ LA lcap, LV = .slice LA g'.locs.length lcap := (by obtain ⟨A', c', h, _⟩ := hlo; exact ⟨_, _, h⟩)
  obtain ⟨BA, bcap, rfl⟩ : ∃ BA bcap, BV = .slice BA g'.blocks.length bcap := (by obtain ⟨A', c', h, _⟩ := hbl; exact ⟨_, _, h⟩)
  obtain ⟨g, rfl⟩ : ∃ g, g = g' := ⟨_, rfl⟩
  simp only [Nat.add_zero] at g0 g1 g2 g3
  have hobs : ∀ o, o ∈ g.locs → ObOk o := fun o ho => (hfn.obs o ho).1
  have hll := hfn.locs
  have hcbd := countsF_bd hobs
  have hfk2 : (f : Int) < (p.funcs.length : Int) := by omega
  have r0 : w.cell? ⟨rb, 0, none⟩ = some (.pointer (some ⟨cb, 0, none⟩)) := hR.row.cell (j := 0) rfl
  have r2 : w.cell? ⟨rb, 2, none⟩ = some (.slice (some ⟨gb, goff, none⟩) p.funcs.length gcap) := hPf ▸ hR.row.cell (j := 2) rfl
  have hrb := hR.row.lt
  have hgbl : gb < w.heap.size := by omega
  have HB2 := Lib.hid (below2 w (.cells #[.int .i64 0, .int .i64 0] 55) (.cells #[.int .i64 g.params, .int .i64 g.temps, .slice LA g.locs.length lcap, .slice BA g.blocks.length bcap] 68))
  have HEL := Lib.hid (elements_any base g.locs LA g.locs.length lcap ((w.alloc (.cells #[.int .i64 0, .int .i64 0] 55)).alloc (.cells #[.int .i64 g.params, .int .i64 g.temps, .slice LA g.locs.length lcap, .slice BA g.blocks.length bcap] 68)).drew (hlo.below (HB2.out.drew.mono hpos) (Nat.le_refl _) (fun _ _ h => h.below (HB2.out.drew.mono hpos) (Nat.le_refl _))) (by simp; omega) hobs (by omega))
  have HH := Lib.hid (fun W (hW : Below w.heap.size w W) => h.below hW)
  have hv0 := (Row.new w #[.int .i64 0, .int .i64 0] 55).alloc (.cells #[.int .i64 g.params, .int .i64 g.temps, .slice LA g.locs.length lcap, .slice BA g.blocks.length bcap] 68)
  have HV0 := Lib.hid hv0
  have HBK := Lib.hid hbk
  have hg0 := Row.new (w.alloc (.cells #[.int .i64 0, .int .i64 0] 55)) #[.int .i64 g.params, .int .i64 g.temps, .slice LA g.locs.length lcap, .slice BA g.blocks.length bcap] 68
  rw [World.size_alloc] at hg0
  have HG0 := Lib.hid hg0
  have HR0 := Lib.hid r0
  have KS := Lib.hid (fun (W : World) (hbw : Below ((w.alloc (.cells #[.int .i64 0, .int .i64 0] 55)).alloc (.cells #[.int .i64 g.params, .int .i64 g.temps, .slice LA g.locs.length lcap, .slice BA g.blocks.length bcap] 68)).heap.size ((w.alloc (.cells #[.int .i64 0, .int .i64 0] 55)).alloc (.cells #[.int .i64 g.params, .int .i64 g.temps, .slice LA g.locs.length lcap, .slice BA g.blocks.length bcap] 68)) W) => (⟨cell_below HR0.out (HB2.out.trans (hbw.mono HB2.out.size)) hrb, (HG0.out.below hbw HG0.out.lt).cell (j := 2) rfl⟩ : W.cell? ⟨rb, 0, none⟩ = some (.pointer (some ⟨cb, 0, none⟩)) ∧ W.cell? ⟨w.heap.size + 1, 2, none⟩ = some (.slice LA g.locs.length lcap)))
  have hncb1 : ¬ rb = cb := fun e => horb.1 (e ▸ hbk.1)
  have KS3 := Lib.hid (fun (W w' : World) (hbw : Below ((w.alloc (.cells #[.int .i64 0, .int .i64 0] 55)).alloc (.cells #[.int .i64 g.params, .int .i64 g.temps, .slice LA g.locs.length lcap, .slice BA g.blocks.length bcap] 68)).heap.size ((w.alloc (.cells #[.int .i64 0, .int .i64 0] 55)).alloc (.cells #[.int .i64 g.params, .int .i64 g.temps, .slice LA g.locs.length lcap, .slice BA g.blocks.length bcap] 68)) W) (hw : Wr (fun b => b = cb) W w') => (⟨(World.cell?_of_block (a := ⟨rb, 0, none⟩) (hw.block rb (by have := HB2.out.size; have := hbw.size; show rb < _; omega) hncb1)).trans (KS.out W hbw).1, (((HG0.out.below hbw HG0.out.lt)).wr hw (by omega)).cell (j := 2) rfl⟩ : w'.cell? ⟨rb, 0, none⟩ = some (.pointer (some ⟨cb, 0, none⟩)) ∧ w'.cell? ⟨w.heap.size + 1, 2, none⟩ = some (.slice LA g.locs.length lcap)))
  have HEN := Lib.hid (fun W (hW : Below ((w.alloc (.cells #[.int .i64 0, .int .i64 0] 55)).alloc (.cells #[.int .i64 g.params, .int .i64 g.temps, .slice LA g.locs.length lcap, .slice BA g.blocks.length bcap] 68)).heap.size ((w.alloc (.cells #[.int .i64 0, .int .i64 0] 55)).alloc (.cells #[.int .i64 g.params, .int .i64 g.temps, .slice LA g.locs.length lcap, .slice BA g.blocks.length bcap] 68)) W) => hy ▸ enter_hc (countsF g.locs) (HH.out W (HB2.out.trans (hW.mono HB2.out.size))) hI.kind hI.calls hc hf hI.lo hI.hi (by omega) (by omega))
  clear h hR hP hg hfn horb hogv hI hgl hva hargs hbk hg0 hv0 hPf hPs hlo hbl hobs hg' hfl
  go_enter Try.func13, Try.ntmps13
  refine wp_letter (fun Q hQ => ?_)
  have HQ := Lib.hid hQ
  clear hQ
  go_wp2_with fail
  go_region_held3 (fun w' => w'.cell? ⟨rb, 0, none⟩ = some (.pointer (some ⟨cb, 0, none⟩)) ∧ w'.cell? ⟨w.heap.size + 1, 2, none⟩ = some (.slice LA g.locs.length lcap)) (first | exact KS.out _ (Below.refl _ _).drew | exact KS.out _ ((Below.refl _ _).drew.trans hb1) | exact KS3.out _ _ ((Below.refl _ _).drew.trans hb1) hw2 | go_keep) ((first | (go_at_call 23; refine HEL.out.mono ?_; rintro e w1 ⟨rfl, hb1⟩) | (go_at_call 22; refine (HEN.out _ ((Below.refl _ _).drew.trans hb1)).mono ?_; rintro e w2 ⟨rfl, hH2, hw2⟩)))
  have HB1 := Lib.hid (HB2.out.drew.trans (hb1.mono HB2.out.drew.size))
  have hzb := HB1.out.size
  have hv2 := ((HV0.out.drew).below hb1 HV0.out.lt).wr hw2 (by omega)
  have c0 := hv2.cell (j := 0) rfl
  have c1 := hv2.cell (j := 1) rfl
  have c2 := hv2.free 0
  have c3 := hv2.free 1
  have cl := hv2.lt
  have HH2 := Lib.hid hH2
  have HW2 := Lib.hid hw2
  clear hH2 hw2 hv2 HV0 hb1
  go_wp2_with fail
  refine HQ.out _ _ _ ?_
  refine bodyPost_ret (v := .tuple #[.agg #[.int .i64 0, .int .i64 0], .bool false]) (by simp [results, Try.results13, go_sem, c0, c1]) rfl ⟨⟨0, 0, rfl⟩, own, fun _ h => h, fun _ h => Or.inl h, ?_, ?_⟩
  · exact HH2.out.wr (setcells_wr w2 w.heap.size (.int .i64 0) (.int .i64 0)) (fun k hk => (by subst hk; exact ⟨hpos, fun ho => by have := (HBK.out.2.2 _ ho).2; omega⟩))
  · exact (((Wr.of_below (F := own) HB1.out).trans HW2.out (fun k hk => Or.inl (hk ▸ HBK.out.1)))).trans (setcells_wr w2 w.heap.size (.int .i64 0) (.int .i64 0)) (fun k hk => Or.inr (by omega))
end Go.Proofs.Ytikbdplllopjlaa
