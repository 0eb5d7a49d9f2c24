/- virt.Run, of a program that may be. Conditions: as stated. -/
import Derived.Test.YtinmgbodgecoeaaQ07Zz
import Derived.Test.YtinmgbodgecoeaaVCallDZz
import Derived.Test.YtinmgbodgecoeaaQ10Zz
import Derived.Deep.RegionHeld3
set_option linter.unusedVariables false
set_option linter.unusedSimpArgs false
namespace Go.Proofs.Ytinmgbodgecoeaa
open Go.RowKit

theorem VirtAt.up {w : World} {B B' : Nat} {P : Value × Value × Value} {p : VirtS} (h : VirtAt w B P p) (hB : B ≤ B') : VirtAt w B' P p :=
  ⟨h.1.below (Below.refl _ _) hB fun _ _ h => h.below (Below.refl _ _) hB, h.2.1.below (Below.refl _ _) hB fun _ _ h => h.below (Below.refl _ _) hB, h.2.2⟩
/-- The labels of the first functions, as the run has kept them so far. -/
def LabRow (w : World) (N k : Nat) (xs : List Value) (v : VirtS) : Prop := ∀ (f : Nat) (c : CodeS), f < k → v.funcs[f]? = some c → ∃ mb n, xs[f]? = some (.map (some mb)) ∧ LabM w mb n (labO c.ins) ∧ N ≤ mb
theorem LabRow.wr {F : Nat → Prop} {w w' : World} {N k : Nat} {xs : List Value} {v : VirtS} (h : LabRow w N k xs v) (hw : Wr F w w') (hF : ∀ i, F i → ∃ cs t, Row w i cs t) : LabRow w' N k xs v := fun f c hf hc => by
  obtain ⟨mb, n, h1, h2, h3⟩ := h f c hf hc
  exact ⟨mb, n, h1, h2.wr hw (fun hx => by obtain ⟨cs, t, hr⟩ := hF _ hx; exact h2.ne hr rfl), h3⟩
theorem LabRow.next {w : World} {N k : Nat} {xs : List Value} {v : VirtS} {c : CodeS} {mb n : Nat} (h : LabRow w N k xs v) (hx : xs.length = k) (hc : v.funcs[k]? = some c) (hm : LabM w mb n (labO c.ins)) (hN : N ≤ mb) : LabRow w N (k + 1) (xs ++ [.map (some mb)]) v := fun f g hf hg => by
  by_cases he : f = k
  · subst he
    obtain rfl : c = g := Option.some.inj (hc.symm.trans hg)
    exact ⟨mb, n, by rw [List.getElem?_append_right (by omega), hx, Nat.sub_self]; rfl, hm, hN⟩
  · obtain ⟨mb', n', h1, h2, h3⟩ := h f g (by omega) hg
    exact ⟨mb', n', by rw [List.getElem?_append_left (by omega)]; exact h1, h2, h3⟩
theorem own_cell1 {w : World} {base : Nat} {e : TypeId} {A : Option Addr} {n c f : Nat} {xs : List Value} {v : Value} (h : w.ownsRow base e 1 (.slice A n c) n xs) (hf : xs[f]? = some v) : ∃ g, A = some ⟨g, 0, none⟩ ∧ base ≤ g ∧ g < w.heap.size ∧ w.cell? ⟨g, 0 + f, none⟩ = some v := by
  obtain ⟨hl, ⟨he, hn⟩ | ⟨g, cap, cur, he, hg, hr, _, _, _, ht⟩⟩ := h
  · subst hn
    simp at hl
    subst hl
    simp at hf
  · injection he with e1 e2 e3
    have hrow : Row w g cur e := hr
    refine ⟨g, e1, hg, hrow.lt, hrow.cell ?_⟩
    rw [Nat.zero_add, ← Array.getElem?_toList]
    have : f < n * 1 := by rw [← hl]; exact (List.getElem?_eq_some_iff.1 hf).1
    rw [← ht, List.getElem?_take] at hf
    rw [if_pos this] at hf
    exact hf
/-- The labels of every function, ahead of the first call. -/
theorem LabRow.labs {F own : Nat → Prop} {w X : World} {base B0 N : Nat} {A : Option Addr} {c : Nat} {t : TypeId} {xs : List Value} {v : VirtS} (h : LabRow w N v.funcs.length xs v) (ho : w.ownsRow B0 t 1 (.slice A v.funcs.length c) v.funcs.length xs) (hB0 : N ≤ B0) (hpos : 0 < v.funcs.length) (hw : Wr F w X) (hF : ∀ k, F k → k < N) (hown : ∀ k, own k → k < N ∨ w.heap.size ≤ k) (hb : base ≤ N) : VLabs X base own X.heap.size (.slice A v.funcs.length c) v := by
  have hx0 : ∃ x, xs[0]? = some x := ⟨_, List.getElem?_eq_getElem (by rw [ho.1]; omega)⟩
  obtain ⟨x, hx⟩ := hx0
  obtain ⟨lb, rfl, h1, h2, _⟩ := own_cell1 ho hx
  have hsz := hw.size
  have hno : ∀ k, N ≤ k → k < w.heap.size → ¬ own k := fun k h1 h2 h3 => by rcases hown k h3 with h' | h' <;> omega
  refine ⟨lb, 0, c, rfl, hno lb (by omega) h2, by omega, by omega, fun f g hg => ?_⟩
  obtain ⟨mb, n, g1, g2, g3⟩ := h f g (List.getElem?_eq_some_iff.1 hg).1 hg
  obtain ⟨lb', he, _, _, hcell⟩ := own_cell1 ho g1
  injection he with he
  injection he with he
  subst he
  have hlt := g2.lt
  exact ⟨mb, n, (World.cell?_of_block (a := ⟨lb, 0 + f, none⟩) (hw.block lb (by omega) (fun h => by have := hF _ h; omega))).trans hcell, g2.wr hw (fun h => by have := hF _ h; omega), hno mb g3 hlt, by omega, by omega⟩

set_option maxRecDepth 1000000 in
set_option maxHeartbeats 16000000 in
theorem vrun_any (B : Nat) (p : VirtS) (inp : List Int) (f : Nat) (g : CodeS) (GA FA IA : Option Addr) (gcap fcap icap : Nat) (fuel : Int) (w : World)
    (hB : B ≤ w.heap.size) (hP : VirtAt w B (.slice GA p.globs.length gcap, .slice FA p.funcs.length fcap, .int .i64 (f : Nat)) p) (hin : InW w B (.slice IA inp.length icap) inp) (hok : ProgOkG (virtG p)) (hvm : vmayB p = true) (hvin : VirtIn p) (hmain : p.main = (f : Nat)) (hg : p.funcs[f]? = some g) (hg0 : g.params = 0) (hf0 : 0 ≤ fuel) (hf : fuel ≤ 2000000)
    (hmay : ∀ W, Below w.heap.size w W → Calls Try.prog 10 #[.agg #[.slice GA p.globs.length gcap, .slice FA p.funcs.length fcap, .int .i64 (f : Nat)]] W fun e w' => e = .returned (.bool true) ∧ Below W.heap.size W w') :
    Calls Try.prog 5 #[.agg #[.slice GA p.globs.length gcap, .slice FA p.funcs.length fcap, .int .i64 (f : Nat)], .slice IA inp.length icap, .int .i64 fuel] w fun e w' => GRunSays (runF (virtG p) inp fuel) w.heap.size w e w' := by
  have hB2 := below2 w (.cells #[.slice GA p.globs.length gcap, .slice FA p.funcs.length fcap, .int .i64 (f : Nat)] 35) (.cells #[.int .i64 0, .int .i64 0, .slice none 0 0, .int .i64 0, .int .i64 0] 28)
  have HB2 := Lib.hid hB2
  have hpb := (Row.new w #[.slice GA p.globs.length gcap, .slice FA p.funcs.length fcap, .int .i64 (f : Nat)] 35).alloc (.cells #[.int .i64 0, .int .i64 0, .slice none 0 0, .int .i64 0, .int .i64 0] 28)
  have hob := Row.new (w.alloc (.cells #[.slice GA p.globs.length gcap, .slice FA p.funcs.length fcap, .int .i64 (f : Nat)] 35)) #[.int .i64 0, .int .i64 0, .slice none 0 0, .int .i64 0, .int .i64 0] 28
  rw [World.size_alloc] at hob
  have HPB := Lib.hid hpb
  have HOB := Lib.hid hob
  have HMAY := Lib.hid (hmay _ hB2)
  have HP := Lib.hid hP
  have HIN := Lib.hid hin
  have HOK := Lib.hid hok
  have HG := Lib.hid (And.intro hg hg0)
  have HMAIN := Lib.hid hmain
  have hf1 : ¬ fuel < 0 := by omega
  have hf2 : ¬ fuel > 2000000 := by omega
  have hgl16 : p.globs.length ≤ 16 := hok.gfew
  have HVM := Lib.hid hvm
  have HVI := Lib.hid hvin
  have hpos : 0 < p.funcs.length := by rcases Nat.eq_zero_or_pos p.funcs.length with h | h; rw [List.getElem?_eq_none (by omega)] at hg; cases hg; exact h
  have hfew : p.funcs.length ≤ 8 := by have h' := hvm; unfold vmayB at h'; split at h'; (rename_i hh; have := hh.2.2.1; omega); cases h'
  clear hpb hob hmay hP hin hok hvm hvin hg hg0 hmain hB2
  go_enter Try.func5, Try.ntmps5
  refine wp_letter (fun Q hQ => ?_)
  have HQ := Lib.hid hQ
  clear hQ
  go_wp2_with fail
  refine HMAY.out.mono ?_
  rintro e w1 ⟨rfl, hb1⟩
  have hpb1 := HPB.out.below hb1 HPB.out.lt
  have hob1 := HOB.out.below hb1 HOB.out.lt
  have hz1 := hb1.size
  simp only [World.size_alloc] at hz1
  have HBW := Lib.hid (HB2.out.trans (hb1.mono HB2.out.size))
  have HPB1 := Lib.hid hpb1
  have HOB1 := Lib.hid hob1
  have pl := hpb1.lt
  have pl1 : w.heap.size < w1.heap.size + 1 := by omega
  have pl2 : w.heap.size < w1.heap.size + 1 + 1 := by omega
  have i0 := hpb1.cell (j := 0) rfl
  have i1 := hpb1.cell (j := 1) rfl
  have i2 := hpb1.cell (j := 2) rfl
  clear hb1 hpb1 hob1
  go_wp2_with fail
  obtain ⟨W, hW⟩ : ∃ W, W = (((w1.alloc (.cells #[.int .i64 0, .int .i64 0, .slice none 0 0, .int .i64 0, .int .i64 0, .int .i64 fuel, .slice IA inp.length icap, .int .i64 0] 44)).alloc (.cells #[.slice none 0 0] 48)).alloc (.cells #[.pointer (some ⟨w1.heap.size, 0, none⟩), .slice GA p.globs.length gcap, .slice FA p.funcs.length fcap, .int .i64 (f : Nat), .pointer (some ⟨w1.heap.size + 1, 0, none⟩), .slice none 0 0, .slice none 0 0] 52)) := ⟨_, rfl⟩
  rw [← hW]
  have hH : HCs W w1.heap.size (fun k => k = w1.heap.size ∨ k = w1.heap.size + 1) w1.heap.size (w1.heap.size + 1) fuel (s00 inp) := by
    have hin1 : InW w1 B (.slice IA inp.length icap) inp := HIN.out.below (fun b o hb => World.cell?_of_block (a := ⟨b, o, none⟩) (HBW.out.block b (by omega)))
    have := (s00_hc (fuel := fuel) (show B ≤ w1.heap.size by omega) hin1).below (below1 _ (.cells #[.pointer (some ⟨w1.heap.size, 0, none⟩), .slice GA p.globs.length gcap, .slice FA p.funcs.length fcap, .int .i64 (f : Nat), .pointer (some ⟨w1.heap.size + 1, 0, none⟩), .slice none 0 0, .slice none 0 0] 52))
    rw [hW]
    exact this
  have hr0 : Row W (w1.heap.size + 1 + 1) #[.pointer (some ⟨w1.heap.size, 0, none⟩), .slice GA p.globs.length gcap, .slice FA p.funcs.length fcap, .int .i64 (f : Nat), .pointer (some ⟨w1.heap.size + 1, 0, none⟩), .slice none 0 0, .slice none 0 0] 52 := by
    rw [hW]
    exact Row.new' _ _ (by simp)
  have hBW0 : Below w1.heap.size w1 W := by rw [hW]; exact below3 w1 _ _ _
  have hzW0 : W.heap.size = w1.heap.size + 3 := by rw [hW]; simp
  have HHW := Lib.hid hH
  have HRW := Lib.hid hr0
  have HBW0 := Lib.hid hBW0
  clear hW hH hr0 hBW0 i0 i1 i2 pl pl1 pl2
  go_loopw [37] (fun i wr => ∃ (k : Nat) (ln : Option Addr) (lcap : Nat) (xs : List Value), i = .int .i64 (k : Nat) ∧ k ≤ p.funcs.length ∧ Row wr (w1.heap.size + 1 + 1) #[.pointer (some ⟨w1.heap.size, 0, none⟩), .slice GA p.globs.length gcap, .slice FA p.funcs.length fcap, .int .i64 (f : Nat), .pointer (some ⟨w1.heap.size + 1, 0, none⟩), .slice none 0 0, .slice ln k lcap] 52 ∧ wr.ownsRow (w1.heap.size + 3) 56 1 (.slice ln k lcap) k xs ∧ LabRow wr (w1.heap.size + 3) k xs p ∧ Wr (fun i => i = w1.heap.size + 1 + 1) W wr) (fun i _ => p.funcs.length - (intOf i).toNat)
  case atStart => exact ⟨0, none, 0, [], rfl, Nat.zero_le _, HRW.out, World.ownsRow_nil _ _ _ _, fun f c hf => absurd hf (by omega), Wr.refl _ _⟩
  case round =>
    obtain ⟨k, ln, lcap, xs, rfl, hk, hrow, hown, hlabs, hwr⟩ := hrel
    have hzw := hwr.size
    have hBW1 : Below w1.heap.size w1 wr := HBW0.out.trans (hwr.below (by omega) (fun k hk => by have : k = w1.heap.size + 1 + 1 := hk; omega))
    have hBB : Below B w wr := (HBW.out.mono hB).trans (hBW1.mono (by omega))
    have HROW := Lib.hid hrow
    have HOWN := Lib.hid hown
    have HLABS := Lib.hid hlabs
    have HWR := Lib.hid hwr
    have HBW1 := Lib.hid hBW1
    have hpl2 := (HPB1.out.below hBW1 HPB1.out.lt).lt
    have i0 := (HPB1.out.below hBW1 HPB1.out.lt).cell (j := 0) rfl
    have i1 := (HPB1.out.below hBW1 HPB1.out.lt).cell (j := 1) rfl
    have i2 := (HPB1.out.below hBW1 HPB1.out.lt).cell (j := 2) rfl
    by_cases hlt : k < p.funcs.length
    · obtain ⟨fb, foff, c, hFA, hfb, hfk, hGE⟩ := (HP.out.2.1.below hBB (Nat.le_refl _) (fun _ _ h => h.below hBB (Nat.le_refl _))).get hlt
      obtain ⟨z0, z1, ⟨lv, z2, hlv⟩, ⟨bv, z3, hbv⟩, _, _⟩ := hGE
      simp only [Nat.add_zero] at z0 z1 z2 z3
      obtain ⟨⟨LA, lc, hlv0, _⟩, ⟨BA, bc, hbv0, _⟩⟩ := And.intro hlv hbv
      subst hlv0 hbv0
      have hcm := List.mem_of_getElem? hfk
      have hhd := (codeB_ok (vmay_codes HVM.out hcm)).1
      have hlen8 : c.ins.length ≤ 8000 := by have := hhd.2.2.2.2.2.2.1; omega
      have hlay := hhd.2.2.2.2.2.2.2
      have hb1 := below1 wr (.cells #[.int .i64 c.params, .int .i64 c.regs, .slice LA c.locs.length lc, .slice BA c.ins.length bc] 55)
      have HLB := Lib.hid (fun Wx (hW : Below (wr.alloc (.cells #[.int .i64 c.params, .int .i64 c.regs, .slice LA c.locs.length lc, .slice BA c.ins.length bc] 55)).heap.size (wr.alloc (.cells #[.int .i64 c.params, .int .i64 c.regs, .slice LA c.locs.length lc, .slice BA c.ins.length bc] 55)) Wx) => vlabels_any c LA lc BA bc B Wx (by have := hW.size; simp at this; omega) (hbv.below (((hb1.mono (by omega)).trans (hW.mono (by simp; omega)))) (Nat.le_refl _) (fun _ _ h => h.below (((hb1.mono (by omega)).trans (hW.mono (by simp; omega)))) (Nat.le_refl _))) hlen8 hlay)
      have HFK := Lib.hid hfk
      have hkl : (k : Int) < (p.funcs.length : Int) := by omega
      have hfbl : fb < wr.heap.size := by omega
      rw [hFA] at i1 hrow ⊢
      have HFA := Lib.hid hFA
      clear hrow hown hlabs hwr hlv hbv hcm hhd hlay hb1 hFA hBW1 hBB hfk
      go_wp2_with fail
      refine vrl_region (w1.heap.size + 1 + 1) wr.heap.size (w1.heap.size + 3) _ _ _ _ _ _ c LA lc BA bc ln k lcap xs (wr.alloc (.cells #[.int .i64 c.params, .int .i64 c.regs, .slice LA c.locs.length lc, .slice BA c.ins.length bc] 55)) (HROW.out.alloc _) (Row.new _ _ _) (ownsRow_wr HOWN.out (Wr.of_below (F := fun _ => False) (below1 _ _)) (fun _ _ h => h)) (by simp; omega) (by omega) HLB.out _ _ _ _ _ _ _ _ _ _ _ _ _ _ _ _ _ _ _ _ _ _ _ _ _ _ _ _ _ _ _ _ _ _ _ _ _ _ _ _ _ _ _ _ _ _ _ _ _ _ _ _ _ _ _ _ _ _ _ _ _ _ _ _ _ _ _ _ _ _ _ _ _ _ _ _ _ _ _ _ _ (fun Wa W' g cap mb n Y hba hm hmb r1 r2 r3 => ?_)
      have hba0 := (below1 wr (.cells #[.int .i64 c.params, .int .i64 c.regs, .slice LA c.locs.length lc, .slice BA c.ins.length bc] 55)).trans (hba.mono (below1 wr (.cells #[.int .i64 c.params, .int .i64 c.regs, .slice LA c.locs.length lc, .slice BA c.ins.length bc] 55)).size)
      have hza := hba0.size
      have hrb : Row Wa (w1.heap.size + 1 + 1) #[.pointer (some ⟨w1.heap.size, 0, none⟩), .slice GA p.globs.length gcap, .slice FA p.funcs.length fcap, .int .i64 (f : Nat), .pointer (some ⟨w1.heap.size + 1, 0, none⟩), .slice none 0 0, .slice ln k lcap] 52 := HROW.out.below hba0 HROW.out.lt
      have hob : ∀ j, (Value.slice ln k lcap).ownBlock = some j → w1.heap.size + 3 ≤ j ∧ ∃ cs, Row Wa j cs 56 := fun j hj => by
        obtain ⟨h1, cs, h2⟩ := ownsRow_row HOWN.out hj
        exact ⟨h1, cs, h2.below hba0 h2.lt⟩
      have hwg := Wr.grown (F := fun i => (Value.slice ln k lcap).ownBlock = some i) r2 (fun i hi => hi)
      have hrb2 := (hrb.wr hwg (fun h => by have := (hob _ h).1; omega)).set 6 (.slice (some ⟨g, 0, none⟩) (k + 1) cap)
      have hgg : w1.heap.size + 3 ≤ g := by
        rcases r3 with h | h
        · exact (hob _ h).1
        · have := HWR.out.size; omega
      have hws := Wr.cell1 W' (w1.heap.size + 1 + 1) 6 (.slice (some ⟨g, 0, none⟩) (k + 1) cap)
      have hxl : xs.length = k := by have := HOWN.out.1; omega
      have hla : LabRow Wa (w1.heap.size + 3) k xs p := HLABS.out.wr (Wr.of_below (F := fun _ => False) hba0) (fun _ h => h.elim)
      have hln := (hla.next hxl HFK.out hm (by have : (wr.alloc (.cells #[.int .i64 c.params, .int .i64 c.regs, .slice LA c.locs.length lc, .slice BA c.ins.length bc] 55)).heap.size ≤ mb := hmb; simp at this; omega)).wr hwg (fun i hi => by obtain ⟨_, cs, h2⟩ := hob i hi; exact ⟨cs, _, h2⟩)
      have HLN := Lib.hid (hln.wr hws (fun i hi => ⟨_, _, hi ▸ (hrb.wr hwg (fun h => by have := (hob _ h).1; omega))⟩))
      have HR2 := Lib.hid hrb2
      have HO2 := Lib.hid (ownsRow_wr r1 hws (fun i hi h => by have h1 : i = w1.heap.size + 1 + 1 := h; have h2 : g = i := Option.some.inj hi; omega))
      have HW2 := Lib.hid (((HWR.out.trans (Wr.of_below (F := fun _ => False) hba0) (fun _ h => h.elim)).trans hwg (fun i hi => Or.inr (by have := (hob _ hi).1; omega))).trans hws (fun _ h => Or.inl h))
      clear hba hm hmb r1 r2 r3 hba0 hrb hob hwg hrb2 hws hla hln i0 i1 i2 z0 z1 z2 z3
      go_wp2_with fail
      go_roundw
      case rel => exact ⟨k + 1, some ⟨g, 0, none⟩, cap, _, by go_num, hlt, (by first | exact HR2.out | (rw [← HFA.out]; exact HR2.out)), HO2.out, HLN.out, HW2.out⟩
      case measure => simp [intOf]; omega
    · obtain rfl : k = p.funcs.length := by omega
      have hH : HCs wr w1.heap.size (fun k => k = w1.heap.size ∨ k = w1.heap.size + 1) w1.heap.size (w1.heap.size + 1) fuel (s00 inp) := HHW.out.wr hwr (fun k hk => ⟨by have : k = w1.heap.size + 1 + 1 := hk; omega, fun h => by have : k = w1.heap.size + 1 + 1 := hk; rcases h with h | h <;> omega⟩)
      have hr := hrow
      have hBW3 := hBW1
      have hzW : wr.heap.size ≥ w1.heap.size + 3 := by omega
      clear hrow hown hlabs hwr hBW1 hBB i0 i1 i2 hpl2
      have hP1 := (HP.out.below ((HBW.out.mono hB).trans (hBW3.mono (by omega)))).up (show B ≤ w1.heap.size by omega)
      have hobs := HOK.out.globs
      have HALL := Lib.hid (all_hc (w := wr.drew) (s := s00 inp) p.globs GA p.globs.length gcap (hH.below (Below.refl _ _).drew) (fun o ho => (hobs o ho).1) (hP1.1.below (Below.refl _ _).drew (Nat.le_refl _) (fun _ _ h => h.below (Below.refl _ _).drew (Nat.le_refl _))) (by omega) (by show (memBase ([] : List MO)).length ≤ _; exact (by decide : (1 : Nat) ≤ 900000000)))
      have HP1 := Lib.hid hP1
      have q2 := hr.cell (j := 4) rfl
      have ql := hr.lt
      have HR := Lib.hid hr
      have HBW3 := Lib.hid (HBW.out.trans (hBW3.mono (by omega)))
      have hpb2 := HPB1.out.below hBW3 HPB1.out.lt
      have HPB2 := Lib.hid hpb2
      have HOB2 := Lib.hid (HOB1.out.below hBW3 HOB1.out.lt)
      have j0 := hpb2.cell (j := 0) rfl
      have j2 := hpb2.cell (j := 2) rfl
      have jl := hpb2.lt
      clear hH hr hBW3 hP1 hobs hpb2
      have KS := Lib.hid (fun (W' : World) (hw : Wr (fun k => k = w1.heap.size ∨ k = w1.heap.size + 1) wr W') => (⟨(HR.out.wr hw (fun h => by rcases h with h' | h' <;> omega)).cell (j := 4) rfl, (HPB2.out.wr hw (fun h => by rcases h with h' | h' <;> omega)).cell (j := 0) rfl⟩ : W'.cell? ⟨(w1.heap.size + 1 + 1), 4, none⟩ = some (.pointer (some ⟨w1.heap.size + 1, 0, none⟩)) ∧ W'.cell? ⟨w.heap.size, 0, none⟩ = some (.slice GA p.globs.length gcap)))
      have KS2 := Lib.hid (fun (W' : World) (v : Value) (hw : Wr (fun k => k = w1.heap.size ∨ k = w1.heap.size + 1) wr W') => (⟨((HR.out.wr hw (fun h => by rcases h with h' | h' <;> omega)).set 5 v).cell (j := 4) rfl, ((HPB2.out.wr hw (fun h => by rcases h with h' | h' <;> omega)).other (by omega) 5 v).cell (j := 0) rfl⟩ : (W'.setCell ⟨(w1.heap.size + 1 + 1), 5, none⟩ v).cell? ⟨(w1.heap.size + 1 + 1), 4, none⟩ = some (.pointer (some ⟨w1.heap.size + 1, 0, none⟩)) ∧ (W'.setCell ⟨(w1.heap.size + 1 + 1), 5, none⟩ v).cell? ⟨w.heap.size, 0, none⟩ = some (.slice GA p.globs.length gcap)))
      have HNO := Lib.hid (show ∀ k, w1.heap.size + 1 < k → ¬ (fun k => k = w1.heap.size ∨ k = w1.heap.size + 1) k from fun k hk h => by rcases h with h | h <;> omega)
      go_wp2_with fail
      go_region_held3 (fun w' => w'.cell? ⟨(w1.heap.size + 1 + 1), 4, none⟩ = some (.pointer (some ⟨w1.heap.size + 1, 0, none⟩)) ∧ w'.cell? ⟨w.heap.size, 0, none⟩ = some (.slice GA p.globs.length gcap)) (first | exact KS.out _ (Wr.refl _ _).drewR | exact KS.out _ ((Wr.refl _ _).drewR.trans b6 (fun _ h => Or.inl h)) | exact KS2.out _ _ ((Wr.refl _ _).drewR.trans b6 (fun _ h => Or.inl h)) | go_keep) ((go_at_call 12; refine HALL.out.mono ?_; rintro e w4 ⟨gv0, own4, rfl, b1, b2, b3, b4, b5, b6⟩; obtain ⟨GV, gvc, rfl⟩ := slice_of_own b4; have hr4 := HR.out.drew.wr b6 (HNO.out _ (by omega)); have n0 := hr4.cell (j := 5) rfl; have n1 := hr4.free 5; have nl := hr4.lt))
      have hXw : Wr (fun k => k = (w1.heap.size + 1 + 1)) w4 (w4.setCell ⟨(w1.heap.size + 1 + 1), 5, none⟩ (.slice GV p.globs.length gvc)) := Wr.setCell w4 ⟨(w1.heap.size + 1 + 1), 5, none⟩ _ rfl
      have hXr : Row (w4.setCell ⟨(w1.heap.size + 1 + 1), 5, none⟩ (.slice GV p.globs.length gvc)) (w1.heap.size + 1 + 1) #[.pointer (some ⟨w1.heap.size, 0, none⟩), .slice GA p.globs.length gcap, .slice FA p.funcs.length fcap, .int .i64 (f : Nat), .pointer (some ⟨w1.heap.size + 1, 0, none⟩), .slice GV p.globs.length gvc, .slice ln p.funcs.length lcap] 52 := hr4.set 5 _
      have HB4 := Lib.hid (And.intro b1 (And.intro b2 (And.intro b3 (And.intro b4 (And.intro b5 b6)))))
      have hbl4 := HB4.out.2.2.1.blocks.2.2
      have hrn4 : ¬ own4 (w1.heap.size + 1 + 1) := fun ho => by
        rcases HB4.out.2.1 _ ho with h' | h'
        · rcases h' with h' | h' <;> omega
        · simp at h'; omega
      have hg4 : ∀ k, (Value.slice GV p.globs.length gvc).ownBlock = some k → ¬ own4 k ∧ w1.heap.size + 3 ≤ k := fun k hk => ⟨b5 k hk, by have := (b4.lt k hk).1; simp at this; omega⟩
      have hX3 := b3.wr hXw (fun k hk => (by subst hk; exact ⟨by omega, hrn4⟩))
      have hXg : VRun (w4.setCell ⟨(w1.heap.size + 1 + 1), 5, none⟩ (.slice GV p.globs.length gvc)) (w1.heap.size + 1 + 1) w1.heap.size (w1.heap.size + 1) (.slice GA p.globs.length gcap, .slice FA p.funcs.length fcap, .int .i64 (f : Nat)) (.slice GV p.globs.length gvc) (.slice ln p.funcs.length lcap) p.globs.length := by
        refine ⟨hXr, ?_, by omega⟩
        have := ownsRow_base (ownsRow_wr b4 hXw (fun k hk => by have := (hg4 k hk).2; omega)) (Nat.zero_le _)
        rw [globV_nums]
        exact this
      obtain ⟨hI0, hl0⟩ := s00_inv (fuel := fuel) hf0 HIN.out.in64 HOK.out.globs HOK.out.gfew
      have hl0 : (memBase (makesF [] p.globs)).length = p.globs.length + 1 := hl0
      have hPX : VirtAt (w4.setCell ⟨(w1.heap.size + 1 + 1), 5, none⟩ (.slice GV p.globs.length gvc)) w1.heap.size (.slice GA p.globs.length gcap, .slice FA p.funcs.length fcap, .int .i64 (f : Nat)) p := HP1.out.below (((Below.refl _ wr).drew.mono (Nat.le_refl _)).trans (b6.below (by simp; omega) (fun k hk => (by rcases hk with h' | h' <;> omega))) |>.trans (hXw.below (by have := b6.size; simp at this; omega) (fun k hk => by omega)))
      have hVL : VLabs (w4.setCell ⟨(w1.heap.size + 1 + 1), 5, none⟩ (.slice GV p.globs.length gvc)) w1.heap.size own4 (w4.setCell ⟨(w1.heap.size + 1 + 1), 5, none⟩ (.slice GV p.globs.length gvc)).heap.size (.slice ln p.funcs.length lcap) p :=
        HLABS.out.labs (F := fun k => (k = w1.heap.size ∨ k = w1.heap.size + 1) ∨ k = w1.heap.size + 1 + 1) HOWN.out (Nat.le_refl _) hpos (((Wr.refl (fun k => (k = w1.heap.size ∨ k = w1.heap.size + 1) ∨ k = w1.heap.size + 1 + 1) wr).drewR.trans b6 (fun k hk => Or.inl (Or.inl hk))).trans hXw (fun k hk => Or.inl (Or.inr hk))) (fun k hk => by rcases hk with (h | h) | h <;> omega) (fun k hk => by
          rcases b2 k hk with h | h
          · exact Or.inl (by rcases h with h | h <;> omega)
          · exact Or.inr (by simpa using h)) (by omega)
      have hCL := vcall_all HVI.out HVM.out (show fuel ≤ 100000000 by omega) 64 0 rfl f g [] { s00 inp with mem := makesF [] p.globs } w1.heap.size w1.heap.size (w1.heap.size + 1) (w1.heap.size + 1 + 1) own4 _ _ _ none 0 0 _ HG.out.1 (by rw [HG.out.2]; rfl) hX3 hXg hPX hVL ⟨hrn4, by omega⟩ (fun k hk => ⟨(hg4 k hk).1, by have := (hg4 k hk).2; omega⟩) hI0 rfl (by show p.globs.length < (memBase (makesF [] p.globs)).length; omega) (fun v hv => (by simp at hv)) rfl (fun j v hj => (by simp at hj))
      have HCL := Lib.hid hCL
      have hWX : Wr (fun _ => False) w (w4.setCell ⟨(w1.heap.size + 1 + 1), 5, none⟩ (.slice GV p.globs.length gvc)) := (((Wr.of_below HBW3.out).drewR).trans b6 (fun k hk => Or.inr (by rcases hk with h' | h' <;> omega))).trans hXw (fun k hk => Or.inr (by omega))
      have HWX := Lib.hid hWX
      have HXR := Lib.hid hXr
      have HRN := Lib.hid hrn4
      have hpb4 := HPB2.out.drew.wr b6 (fun h => by rcases h with h' | h' <;> omega)
      have m2 := hpb4.cell (j := 2) rfl
      have m3 := hpb4.lt
      have HOB4 := Lib.hid ((HOB2.out.drew.wr b6 (fun h => by rcases h with h' | h' <;> omega)).wr hXw (by omega))
      have hne5 : ¬ w.heap.size = (w1.heap.size + 1 + 1) := by omega
      have hz4 := b6.size
      simp only [World.size_drew] at hz4
      clear b1 b2 b3 b4 b5 b6 hr4 hXw hXr hbl4 hrn4 hg4 hX3 hXg hVL hI0 hl0 hPX hCL hWX hpb4 j0 j2 jl HALL HP1 HIN KS KS2 HNO
      go_wp2_with fail
      refine HCL.out.mono ?_
      intro e w5 hS
      obtain ⟨r, s2, hcr⟩ : ∃ r s2, callF (virtG p) fuel 64 f [] { s00 inp with mem := makesF [] p.globs } = (r, s2) := ⟨_, _, rfl⟩
      have HRF := Lib.hid (show runF (virtG p) inp fuel = endF (r, s2) by rw [runF_main (p := virtG p) HMAIN.out]; exact congrArg endF hcr)
      rw [hcr] at hS
      obtain ⟨hans, own5, c1, c2, c3, c4⟩ := hS
      have hXz : (w4.setCell ⟨(w1.heap.size + 1 + 1), 5, none⟩ (.slice GV p.globs.length gvc)).heap.size = w4.heap.size := by simp
      have hr5 := HXR.out.wr c4 HRN.out
      have hob5 := HOB4.out.wr c4 (fun ho => (by
        rcases HB4.out.2.1 _ ho with h' | h'
        · rcases h' with h' | h' <;> omega
        · simp at h'; omega))
      have hown5 : ∀ k, own5 k → w1.heap.size ≤ k := fun k hk => (c3.blocks.2.2 k hk).1
      have hw5 := HWX.out.trans c4 (fun k hk => Or.inr (by have := HB4.out.2.2.1.blocks.2.2 k hk; omega))
      have hrn5 : ¬ own5 (w1.heap.size + 1 + 1) := fun ho => by
        rcases c2 _ ho with h' | h'
        · exact HRN.out h'
        · rw [hXz] at h'; omega
      have hon5 : ¬ own5 (w.heap.size + 1) := fun ho => by have := hown5 _ ho; omega
      have p5 := hr5.cell (j := 0) rfl
      have pl5 := hr5.lt
      have HR5 := Lib.hid hr5
      have HOB5 := Lib.hid hob5
      have HC3 := Lib.hid c3
      have HW5 := Lib.hid hw5
      have HRN5 := Lib.hid (And.intro hrn5 hon5)
      clear c1 c2 c3 c4 hr5 hob5 hown5 hw5 hrn5 hon5 hcr HB4 hXz m2 m3
      cases r with
      | none =>
        obtain ⟨y0, y1, rfl⟩ := hans
        obtain ⟨inv6, outv6, memv6, rb6, hh⟩ := HC3.out
        obtain ⟨OA, oc, hov⟩ : ∃ OA oc, outv6 = .slice OA s2.out.length oc := by
          rcases hh.out.2 with ⟨e, e'⟩ | ⟨gg, cap, cur, e, _⟩
          · exact ⟨none, 0, by rw [e, e']⟩
          · exact ⟨_, _, e⟩
        subst hov
        have HOUT := Lib.hid hh.out
        have HEN := Lib.hid (fun W' (hW : Below w5.heap.size w5 W') => gend_any w1.heap.size fuel s2 inv6 (.slice OA s2.out.length oc) OA s2.out.length oc W' (hh.clk.below hW hh.clk.lt) rfl)
        clear hh
        by_cases hk3 : s2.kind = 3
        · rw [if_pos hk3] at HEN
          have HK3 := Lib.hid hk3
          clear hk3
          go_wp2_with fail
          refine (HEN.out _ (below1 w5 (.cells #[.int .i64 y0, .int .i64 y1] 60))).mono ?_
          rintro e w7 ⟨rfl, hb7⟩
          have hob7 := (HOB5.out.below (below1 w5 (.cells #[.int .i64 y0, .int .i64 y1] 60)) HOB5.out.lt).below hb7 (HOB5.out.below (below1 w5 (.cells #[.int .i64 y0, .int .i64 y1] 60)) HOB5.out.lt).lt
          have HB7 := Lib.hid ((below1 w5 (.cells #[.int .i64 y0, .int .i64 y1] 60)).trans (hb7.mono (below1 w5 (.cells #[.int .i64 y0, .int .i64 y1] 60)).size))
          have z7 := HB7.out.size
          have r0 := hob7.cell (j := 0) rfl
          have r1 := hob7.cell (j := 1) rfl
          have r2 := hob7.cell (j := 2) rfl
          have r3 := hob7.cell (j := 3) rfl
          have r4 := hob7.cell (j := 4) rfl
          have s0 := hob7.free 0
          have s1 := hob7.free 1
          have s2' := hob7.free 2
          have s3' := hob7.free 3
          have s4 := hob7.free 4
          have rl := hob7.lt
          have HO7 := Lib.hid hob7
          clear hb7 hob7
          go_wp2_with fail
          refine HQ.out _ _ _ ?_
          refine bodyPost_ret (v := .tuple #[.agg #[.int .i64 3, .int .i64 0, .slice none 0 0, .int .i64 0, .int .i64 0], .int .i64 0]) (by simp [results, Try.results5, go_sem, r0, r1, r2, r3, r4]) rfl ?_
          rw [HRF.out, show endF (none, s2) = ⟨3, 0, [], 0, 0⟩ from by unfold endF; rw [if_pos HK3.out]]
          exact ⟨.slice none 0 0, rfl, World.ownsRow_nil _ _ _ _, ((HW5.out.trans (Wr.of_below (F := fun _ => False) HB7.out) (fun _ h => h.elim)).trans (setcells5 w7 (w.heap.size + 1) _ _ _ _ _) (fun k hk => Or.inr (by omega))).below (Nat.le_refl _) (fun _ h => h.elim)⟩
        · rw [if_neg hk3] at HEN
          have HK3 := Lib.hid hk3
          clear hk3
          go_wp2_with fail
          refine (HEN.out _ (below1 w5 (.cells #[.int .i64 y0, .int .i64 y1] 60))).mono ?_
          rintro e w7 ⟨rfl, hb7⟩
          have hob7 := (HOB5.out.below (below1 w5 (.cells #[.int .i64 y0, .int .i64 y1] 60)) HOB5.out.lt).below hb7 (HOB5.out.below (below1 w5 (.cells #[.int .i64 y0, .int .i64 y1] 60)) HOB5.out.lt).lt
          have HB7 := Lib.hid ((below1 w5 (.cells #[.int .i64 y0, .int .i64 y1] 60)).trans (hb7.mono (below1 w5 (.cells #[.int .i64 y0, .int .i64 y1] 60)).size))
          have z7 := HB7.out.size
          have r0 := hob7.cell (j := 0) rfl
          have r1 := hob7.cell (j := 1) rfl
          have r2 := hob7.cell (j := 2) rfl
          have r3 := hob7.cell (j := 3) rfl
          have r4 := hob7.cell (j := 4) rfl
          have s0 := hob7.free 0
          have s1 := hob7.free 1
          have s2' := hob7.free 2
          have s3' := hob7.free 3
          have s4 := hob7.free 4
          have rl := hob7.lt
          have HO7 := Lib.hid hob7
          clear hb7 hob7
          go_wp2_with fail
          refine HQ.out _ _ _ ?_
          have hlst := (((((HO7.out.set 0 (.int .i64 s2.kind)).set 1 (.int .i64 s2.code)).set 2 (.slice OA s2.out.length oc)).set 3 (.int .i64 s2.steps)).set 4 (.int .i64 s2.deep))
          have t0 := hlst.cell (j := 0) rfl
          have t1 := hlst.cell (j := 1) rfl
          have t2 := hlst.cell (j := 2) rfl
          have t3 := hlst.cell (j := 3) rfl
          have t4 := hlst.cell (j := 4) rfl
          clear hlst
          refine bodyPost_ret (v := .tuple #[.agg #[.int .i64 s2.kind, .int .i64 s2.code, .slice OA s2.out.length oc, .int .i64 s2.steps, .int .i64 s2.deep], .int .i64 0]) (by simp [results, Try.results5, go_sem, r0, r1, r2, r3, r4, t0, t1, t2, t3, t4]) rfl ?_
          rw [HRF.out, show endF (none, s2) = ⟨s2.kind, s2.code, s2.out, s2.steps, s2.deep⟩ from by unfold endF; rw [if_neg HK3.out]]
          have hwf := setcells5 w7 (w.heap.size + 1) (.int .i64 s2.kind) (.int .i64 s2.code) (.slice OA s2.out.length oc) (.int .i64 s2.steps) (.int .i64 s2.deep)
          refine ⟨.slice OA s2.out.length oc, rfl, ?_, ((HW5.out.trans (Wr.of_below (F := fun _ => False) HB7.out) (fun _ h => h.elim)).trans hwf (fun k hk => Or.inr (by omega))).below (Nat.le_refl _) (fun _ h => h.elim)⟩
          exact ownsRow_wr (ownsRow_wr (ownsRow_base HOUT.out (by omega)) (Wr.of_below (F := fun _ => False) HB7.out) (fun _ _ h => h)) hwf (fun k hk => by have := (HOUT.out.lt k hk).1; omega)
      | some v =>
        simp only [AnsV, ansV] at hans
        subst hans
        have HEX := Lib.hid (fun W' (hW : Below w5.heap.size w5 W') => exit_hc v (HC3.out.below hW))
        go_wp2_with fail
        refine still_tailq 5 (by kernel_rfl) (by kernel_rfl) ?_
        simp only [List.take_succ_cons, List.take_zero, List.drop_succ_cons, List.drop_zero]
        repeat (go_big_quiet_step (fail))
        refine wpQuiet_nil ?_
        go_wp2_with fail
        refine (HEX.out _ (below1 _ _).drew).mono ?_
        rintro e w6 ⟨rfl, hH6, hw6⟩
        have hz6 := hw6.size
        simp only [World.size_drew, World.size_alloc] at hz6
        have hbx := (below1 w5 (.cells #[.int .i64 v.obj, .int .i64 v.n] 60)).drew
        have hr6 := (HR5.out.below hbx HR5.out.lt).wr hw6 (by omega)
        have p6 := hr6.cell (j := 0) rfl
        have pl6 := hr6.lt
        have HOB6 := Lib.hid ((HOB5.out.below hbx HOB5.out.lt).wr hw6 (by omega))
        have HH6 := Lib.hid hH6
        have HW6 := Lib.hid ((HW5.out.trans (Wr.of_below (F := fun _ => False) hbx) (fun _ h => h.elim)).trans hw6 (fun k hk => Or.inr (by omega)))
        obtain ⟨s3, hs3⟩ : ∃ s3, s3 = (if v.obj > 0 then { s2 with kind := 3 } else { s2 with code := v.n, kind := 1 }) := ⟨_, rfl⟩
        rw [← hs3] at HH6
        have HRF2 := Lib.hid (show runF (virtG p) inp fuel = endF (none, s3) by rw [HRF.out, endF_ret, hs3])
        clear hH6 hw6 hr6 hs3 hbx p5 pl5
        obtain ⟨inv6, outv6, memv6, rb6, hh⟩ := HH6.out
        obtain ⟨OA, oc, hov⟩ : ∃ OA oc, outv6 = .slice OA s3.out.length oc := by
          rcases hh.out.2 with ⟨e, e'⟩ | ⟨gg, cap, cur, e, _⟩
          · exact ⟨none, 0, by rw [e, e']⟩
          · exact ⟨_, _, e⟩
        subst hov
        have HOUT := Lib.hid hh.out
        have HEN := Lib.hid (fun W' (hW : Below w6.heap.size w6 W') => gend_any w1.heap.size fuel s3 inv6 (.slice OA s3.out.length oc) OA s3.out.length oc W' (hh.clk.below hW hh.clk.lt) rfl)
        clear hh
        by_cases hk3 : s3.kind = 3
        · rw [if_pos hk3] at HEN
          have HK3 := Lib.hid hk3
          clear hk3
          go_wp2_with fail
          refine (HEN.out _ (Below.refl w6.heap.size w6)).mono ?_
          rintro e w7 ⟨rfl, hb7⟩
          have hob7 := (HOB6.out.below (Below.refl w6.heap.size w6) HOB6.out.lt).below hb7 (HOB6.out.below (Below.refl w6.heap.size w6) HOB6.out.lt).lt
          have HB7 := Lib.hid ((Below.refl w6.heap.size w6).trans (hb7.mono (Below.refl w6.heap.size w6).size))
          have z7 := HB7.out.size
          have r0 := hob7.cell (j := 0) rfl
          have r1 := hob7.cell (j := 1) rfl
          have r2 := hob7.cell (j := 2) rfl
          have r3 := hob7.cell (j := 3) rfl
          have r4 := hob7.cell (j := 4) rfl
          have s0 := hob7.free 0
          have s1 := hob7.free 1
          have s2' := hob7.free 2
          have s3' := hob7.free 3
          have s4 := hob7.free 4
          have rl := hob7.lt
          have HO7 := Lib.hid hob7
          clear hb7 hob7
          go_wp2_with fail
          refine HQ.out _ _ _ ?_
          refine bodyPost_ret (v := .tuple #[.agg #[.int .i64 3, .int .i64 0, .slice none 0 0, .int .i64 0, .int .i64 0], .int .i64 0]) (by simp [results, Try.results5, go_sem, r0, r1, r2, r3, r4]) rfl ?_
          rw [HRF2.out, show endF (none, s3) = ⟨3, 0, [], 0, 0⟩ from by unfold endF; rw [if_pos HK3.out]]
          exact ⟨.slice none 0 0, rfl, World.ownsRow_nil _ _ _ _, ((HW6.out.trans (Wr.of_below (F := fun _ => False) HB7.out) (fun _ h => h.elim)).trans (setcells5 w7 (w.heap.size + 1) _ _ _ _ _) (fun k hk => Or.inr (by omega))).below (Nat.le_refl _) (fun _ h => h.elim)⟩
        · rw [if_neg hk3] at HEN
          have HK3 := Lib.hid hk3
          clear hk3
          go_wp2_with fail
          refine (HEN.out _ (Below.refl w6.heap.size w6)).mono ?_
          rintro e w7 ⟨rfl, hb7⟩
          have hob7 := (HOB6.out.below (Below.refl w6.heap.size w6) HOB6.out.lt).below hb7 (HOB6.out.below (Below.refl w6.heap.size w6) HOB6.out.lt).lt
          have HB7 := Lib.hid ((Below.refl w6.heap.size w6).trans (hb7.mono (Below.refl w6.heap.size w6).size))
          have z7 := HB7.out.size
          have r0 := hob7.cell (j := 0) rfl
          have r1 := hob7.cell (j := 1) rfl
          have r2 := hob7.cell (j := 2) rfl
          have r3 := hob7.cell (j := 3) rfl
          have r4 := hob7.cell (j := 4) rfl
          have s0 := hob7.free 0
          have s1 := hob7.free 1
          have s2' := hob7.free 2
          have s3' := hob7.free 3
          have s4 := hob7.free 4
          have rl := hob7.lt
          have HO7 := Lib.hid hob7
          clear hb7 hob7
          go_wp2_with fail
          refine HQ.out _ _ _ ?_
          have hlst := (((((HO7.out.set 0 (.int .i64 s3.kind)).set 1 (.int .i64 s3.code)).set 2 (.slice OA s3.out.length oc)).set 3 (.int .i64 s3.steps)).set 4 (.int .i64 s3.deep))
          have t0 := hlst.cell (j := 0) rfl
          have t1 := hlst.cell (j := 1) rfl
          have t2 := hlst.cell (j := 2) rfl
          have t3 := hlst.cell (j := 3) rfl
          have t4 := hlst.cell (j := 4) rfl
          clear hlst
          refine bodyPost_ret (v := .tuple #[.agg #[.int .i64 s3.kind, .int .i64 s3.code, .slice OA s3.out.length oc, .int .i64 s3.steps, .int .i64 s3.deep], .int .i64 0]) (by simp [results, Try.results5, go_sem, r0, r1, r2, r3, r4, t0, t1, t2, t3, t4]) rfl ?_
          rw [HRF2.out, show endF (none, s3) = ⟨s3.kind, s3.code, s3.out, s3.steps, s3.deep⟩ from by unfold endF; rw [if_neg HK3.out]]
          have hwf := setcells5 w7 (w.heap.size + 1) (.int .i64 s3.kind) (.int .i64 s3.code) (.slice OA s3.out.length oc) (.int .i64 s3.steps) (.int .i64 s3.deep)
          refine ⟨.slice OA s3.out.length oc, rfl, ?_, ((HW6.out.trans (Wr.of_below (F := fun _ => False) HB7.out) (fun _ h => h.elim)).trans hwf (fun k hk => Or.inr (by omega))).below (Nat.le_refl _) (fun _ h => h.elim)⟩
          exact ownsRow_wr (ownsRow_wr (ownsRow_base HOUT.out (by omega)) (Wr.of_below (F := fun _ => False) HB7.out) (fun _ _ h => h)) hwf (fun k hk => by have := (HOUT.out.lt k hk).1; omega)
end Go.Proofs.Ytinmgbodgecoeaa
