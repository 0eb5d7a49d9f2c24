/- live.Sets. Conditions: as stated. -/
import Derived.Test.YtlenilbkifofjaaDoorLvNZz
set_option linter.unusedVariables false
set_option linter.unusedSimpArgs false
namespace Go.Proofs.YtlenilbkifofjaaDoor
open Go.RowKit

theorem RowE.base {α : Type} {E : World → Nat → (Nat → Option Value) → α → Prop} {sz : Nat} (hE : Mono E sz) {ty : TypeId} {b0 b1 : Nat} {w : World} {lv : Value} {l : List α} {xs : List Value} (h : RowE E ty sz b1 w lv l xs) (hb : b0 ≤ b1) : RowE E ty sz b0 w lv l xs := by
  obtain ⟨⟨h1, h2⟩, h3⟩ := h
  refine ⟨⟨h1, ?_⟩, fun i x hi => hE _ _ _ _ _ _ _ (only_mono fun k hk _ => ⟨⟨by omega, hk.2⟩, rfl⟩) (Nat.le_refl _) (fun _ _ _ h => h) (h3 i x hi)⟩
  rcases h2 with h2 | ⟨g, cap, cur, hv, hg, r⟩
  · exact Or.inl h2
  · exact Or.inr ⟨g, cap, cur, hv, by omega, r⟩
/-- Rows of numbers. -/
def RowsE (w : World) (B : Nat) (c : Nat → Option Value) (l : List Int) : Prop := ∃ v, c 0 = some v ∧ LongsAt w B l v
theorem RowsE.mono : Mono RowsE 1 := fun _ _ _ _ _ _ _ hs hB hc ⟨v, h1, h2⟩ => ⟨v, hc _ _ (by decide) h1, h2.sub hs hB⟩
/-- The rows as memory holds them. -/
def wordsW (w : World) (b nw : Nat) : List Nat := (List.range nw).map fun j => match w.cell? ⟨b, j, none⟩ with | some (.int _ x) => x.toNat | _ => 0
def rowsW (w : World) (rb n nw : Nat) : List (List Int) := (List.range n).map fun k => match w.cell? ⟨rb, k, none⟩ with | some (.slice (some a) _ _) => listW 0 (wordsW w a.block nw) | _ => []
theorem WordsAt.words {w : World} {b : Nat} {ws : List Nat} (h : WordsAt w b ws) : wordsW w b ws.length = ws := by
  refine List.ext_getElem (by simp [wordsW]) fun j h1 h2 => ?_
  have := (h.word (List.getElem?_eq_getElem h2)).1
  simp [wordsW, this]
theorem SetsAt.rows {w : World} {rb nw : Nat} {wss : List (List Nat)} (h : SetsAt w rb nw wss) (hs : Sets nw wss) : rowsW w rb wss.length nw = wss.map (listW 0) := by
  refine List.ext_getElem (by simp [rowsW]) fun k h1 h2 => ?_
  have hk : k < wss.length := by simpa using h2
  obtain ⟨b, g0, hb⟩ := h.get hk
  have hl := (hs.getD hk).1
  have e : wss.getD k [] = wss[k] := by rw [List.getD_eq_getElem?_getD, List.getElem?_eq_getElem hk]; rfl
  rw [e] at hb hl
  have hw := hb.words
  rw [hl] at hw
  simp [rowsW, g0, hw]
theorem SetsAt.wrRow {w w' : World} {rb nw : Nat} {wss : List (List Nat)} {k b : Nat} {s : List Nat} (h : SetsAt w rb nw wss) (hk : k < wss.length) (hb : WordsAt w b s) : SetsAt (w.setCell ⟨rb, k, none⟩ (.slice (some ⟨b, 0, none⟩) nw nw)) rb nw (wss.set k s) := by
  obtain ⟨cs, h1, h2, h3⟩ := h
  have hne : ∀ {g : Nat} {ws : List Nat}, WordsAt w g ws → g ≠ rb := fun hg => by
    obtain ⟨cs', hr, _⟩ := hg
    exact hr.ne h1 (by decide)
  have hkeep : ∀ {g : Nat} {ws : List Nat}, WordsAt w g ws → WordsAt (w.setCell ⟨rb, k, none⟩ (.slice (some ⟨b, 0, none⟩) nw nw)) g ws := fun hg => hg.wr (Wr.cell1 w rb k _) (fun e => hne hg e)
  refine ⟨_, h1.set k _, by simp [h2], fun j hj => ?_⟩
  rw [List.length_set] at hj
  by_cases e : k = j
  · subst e
    refine ⟨b, by rw [Array.getElem?_setIfInBounds_self_of_lt (by omega)], ?_⟩
    rw [List.getD_eq_getElem?_getD, List.getElem?_set_self hk]
    exact hkeep hb
  · obtain ⟨g, h4, h5⟩ := h3 j hj
    refine ⟨g, by rw [Array.getElem?_setIfInBounds_ne e]; exact h4, ?_⟩
    rw [List.getD_eq_getElem?_getD, List.getElem?_set_ne e, ← List.getD_eq_getElem?_getD]
    exact hkeep h5
/-- The rows made so far. -/
def PartAt (w : World) (rb nw n k : Nat) : Prop := ∃ cs, Row w rb cs 82 ∧ cs.size = n ∧ ∀ j, j < k → ∃ b, cs[j]? = some (.slice (some ⟨b, 0, none⟩) nw nw) ∧ WordsAt w b (List.replicate nw 0)
theorem PartAt.next {w : World} {rb nw n k b : Nat} (h : PartAt w rb nw n k) (hk : k < n) (hb : WordsAt w b (List.replicate nw 0)) : PartAt (w.setCell ⟨rb, k, none⟩ (.slice (some ⟨b, 0, none⟩) nw nw)) rb nw n (k + 1) := by
  obtain ⟨cs, h1, h2, h3⟩ := h
  have hne : ∀ {g : Nat} {ws : List Nat}, WordsAt w g ws → g ≠ rb := fun hg => by
    obtain ⟨cs', hr, _⟩ := hg
    exact hr.ne h1 (by decide)
  have hkeep : ∀ {g : Nat} {ws : List Nat}, WordsAt w g ws → WordsAt (w.setCell ⟨rb, k, none⟩ (.slice (some ⟨b, 0, none⟩) nw nw)) g ws := fun hg => hg.wr (Wr.cell1 w rb k _) (fun e => hne hg e)
  refine ⟨_, h1.set k _, by simp [h2], fun j hj => ?_⟩
  by_cases e : k = j
  · subst e
    exact ⟨b, by rw [Array.getElem?_setIfInBounds_self_of_lt (by omega)], hkeep hb⟩
  · obtain ⟨g, h4, h5⟩ := h3 j (by omega)
    exact ⟨g, by rw [Array.getElem?_setIfInBounds_ne e]; exact h4, hkeep h5⟩
theorem PartAt.below {w w' : World} {rb nw n k : Nat} (h : PartAt w rb nw n k) (hb : Below w.heap.size w w') : PartAt w' rb nw n k := by
  obtain ⟨cs, h1, h2, h3⟩ := h
  refine ⟨cs, h1.below hb h1.lt, h2, fun j hj => ?_⟩
  obtain ⟨b, h4, h5⟩ := h3 j hj
  exact ⟨b, h4, h5.below hb h5.lt⟩
theorem PartAt.sets {w : World} {rb nw n : Nat} (h : PartAt w rb nw n n) : SetsAt w rb nw (List.replicate n (List.replicate nw 0)) := by
  obtain ⟨cs, h1, h2, h3⟩ := h
  refine ⟨cs, h1, by simp [h2], fun j hj => ?_⟩
  rw [List.length_replicate] at hj
  obtain ⟨b, h4, h5⟩ := h3 j hj
  exact ⟨b, h4, by rw [List.getD_eq_getElem?_getD, List.getElem?_replicate, if_pos hj]; exact h5⟩
/-- A search under way, and that nothing else was written. -/
structure Seek (w0 w : World) (cb fb rb mb mn nw B : Nat) (c : CodeS) (LA : Option Addr) (lc : Nat) (BA : Option Addr) (bc : Nat) (wss : List (List Nat)) : Prop where
  flow : FlowAt w fb rb mb mn nw c LA lc BA bc wss
  box : Row w cb #[.int .i64 c.params, .int .i64 c.regs, .slice LA c.locs.length lc, .slice BA c.ins.length bc] 33
  below : Below w0.heap.size w0 w
  fresh : w0.heap.size ≤ rb
  sets : Sets nw wss
  len : wss.length = c.ins.length + 1
  plain : Flow c.ins (nw * 64) (wss.map (listW 0))
section
variable {w0 w w' : World} {cb fb rb mb mn nw B lc bc : Nat} {c : CodeS} {LA BA : Option Addr} {wss : List (List Nat)}
theorem Seek.next (h : Seek w0 w cb fb rb mb mn nw B c LA lc BA bc wss) (hb : Below w.heap.size w w') : Seek w0 w' cb fb rb mb mn nw B c LA lc BA bc wss :=
  ⟨h.flow.below hb, h.box.below hb h.box.lt, h.below.trans (hb.mono h.below.size), h.fresh, h.sets, h.len, h.plain⟩
theorem Seek.set {k b : Nat} {s : List Nat} (h : Seek w0 w cb fb rb mb mn nw B c LA lc BA bc wss) (hk : k < c.ins.length) (hb : WordsAt w b s) (hl : s.length = nw) (h64 : In64W s) (hm : ∀ r, r ∈ listW 0 s ↔ LiveF c.ins (memR (wss.map (listW 0))) k r) :
    Seek w0 (w.setCell ⟨rb, k, none⟩ (.slice (some ⟨b, 0, none⟩) nw nw)) cb fb rb mb mn nw B c LA lc BA bc (wss.set k s) := by
  have hkw : k < wss.length := by rw [h.len]; omega
  have hw := Wr.cell1 w rb k (.slice (some ⟨b, 0, none⟩) nw nw)
  obtain ⟨cs, hr, _⟩ := id h.flow.sets
  refine ⟨⟨?_, h.flow.sets.wrRow (w' := w) hkw hb, h.flow.labs.wr hw (fun e => h.flow.labs.ne hr e)⟩, h.box.wr hw (fun e => h.box.ne hr (by decide) e), h.below.trans (hw.below h.below.size (fun i hi => by have : i = rb := hi; have := h.fresh; omega)), h.fresh, fun ws hws => ?_, by rw [List.length_set]; exact h.len, ?_⟩
  · rw [List.length_set]
    exact h.flow.row.wr hw (fun e => h.flow.row.ne hr (by decide) e)
  · rcases List.mem_or_eq_of_mem_set hws with h1 | rfl
    · exact h.sets _ h1
    · exact ⟨hl, h64⟩
  · rw [List.map_set]
    refine h.plain.set hk listW_rise (fun y hy => ?_) hm
    have := listW_low hy
    rw [hl] at this
    omega
theorem Seek.room (h : Seek w0 w cb fb rb mb mn nw B c LA lc BA bc wss) : roomL (nw * 64) (rowsW w rb (c.ins.length + 1) nw) = roomL (nw * 64) (wss.map (listW 0)) := by
  rw [← h.len, h.flow.sets.rows h.sets]
end
def flagN : Value → Nat
  | .bool true => 1
  | _ => 0
/-- Nothing turns from a place on. -/
def Still (l : List InsS) (wss : List (List Nat)) (k : Nat) : Prop := ∀ j, k ≤ j → j < l.length → ∀ r, LiveF l (memR (wss.map (listW 0))) j r → memR (wss.map (listW 0)) j r
theorem lists_info : (Tryd.prog.info? 35).map (fun i => (i.zero, i.size, i.bytes)) = some (some (.slice none 0 0), 1, 24) := by kernel_rfl
/-- What Sets answers. -/
def SetsSays (l : List InsS) (w : World) (e : Ending) (w' : World) : Prop := ∃ rows, IsLive l rows ∧ ListEnd RowsE 1 rows w e w'
set_option maxRecDepth 100000 in
set_option maxHeartbeats 32000000 in
theorem lsets_any (c : CodeS) (LA : Option Addr) (lc : Nat) (BA : Option Addr) (bc R B : Nat) (w : World) (hB : B ≤ w.heap.size) (hK : SliceAt w B 6 (InsE w B) c.ins (.slice BA c.ins.length bc)) (hN : Named c.ins) (hRg : ∀ x, x ∈ c.ins → RegsIn R x)
    (hreg : c.regs = (R : Int)) (hR8 : R ≤ 8000) (h8 : c.ins.length ≤ 8000) (hlay : layB [] c.ins = true) (hal : ∀ x, x ∈ c.ins → x.arg.length * 8 ≤ 140737488351232) (hT : TabAt 0 Lib.deBruijn64tab w) (hg : 0 < w.heap.size) :
    Calls Tryd.prog 26 #[.agg #[.int .i64 c.params, .int .i64 c.regs, .slice LA c.locs.length lc, .slice BA c.ins.length bc]] w fun e w' => SetsSays c.ins w e w' := by
  obtain ⟨q, hq⟩ : ∃ q, q = R / 64 := ⟨_, rfl⟩
  obtain ⟨nw, hnw⟩ : ∃ nw, nw = q + 1 := ⟨_, rfl⟩
  obtain ⟨m, hm⟩ : ∃ m, m = c.ins.length + 1 := ⟨_, rfl⟩
  have hnw8 : nw ≤ 1000 := by omega
  have hRn : R ≤ nw * 64 := by omega
  obtain ⟨Z, hZ, hmk⟩ := make_rows m (by omega)
  obtain ⟨Z2, hZ2, hZ20, hmk2⟩ := make_words nw hnw8
  have HBX := Lib.hid (Row.new w #[.int .i64 c.params, .int .i64 c.regs, .slice LA c.locs.length lc, .slice BA c.ins.length bc] 33)
  have HB0 := Lib.hid (below1 w (.cells #[.int .i64 c.params, .int .i64 c.regs, .slice LA c.locs.length lc, .slice BA c.ins.length bc] 33))
  have HLB := Lib.hid (fun W (hW : Below w.heap.size w W) => vlabels_any c LA lc BA bc B W (by have := hW.size; omega) (hK.below (hW.mono hB) (Nat.le_refl _) (fun _ _ h => h.below (hW.mono hB) (Nat.le_refl _))) h8 hlay)
  have HKW := Lib.hid (fun W (hW : Below w.heap.size w W) => (hK.below (hW.mono hB) (Nat.le_refl _) (fun _ _ h => h.below (hW.mono hB) (Nat.le_refl _)) : SliceAt W B 6 (InsE W B) c.ins (.slice BA c.ins.length bc)))
  have HTW := Lib.hid (fun W (hW : Below w.heap.size w W) => tab_below hT hW hg)
  have HWA := Lib.hid (fun W => made_words W nw Z2 hZ2 hZ20)
  have HMK := Lib.hid hmk
  have HMK2 := Lib.hid hmk2
  have HN := Lib.hid hN
  have HRG := Lib.hid hRg
  have HAL := Lib.hid hal
  have HQ8 := Lib.hid (show (0 ≤ c.regs ∧ c.regs ≤ 8000) ∧ c.regs.tdiv 64 = (q : Int) ∧ q ≤ 8000 ∧ (q : Int) + 1 = (nw : Int) from by
    rw [Int.tdiv_eq_ediv_of_nonneg (by omega)]
    omega)
  have HM := Lib.hid (show c.ins.length ≤ 8000 ∧ (c.ins.length : Int) + 1 = (m : Int) from by omega)
  have HMN := Lib.hid hm
  have hm8 : m ≤ 8001 := by omega
  clear hK hN hRg hreg hlay hal hT hmk hmk2 hZ2 hZ20 hq hnw hm
  obtain ⟨i0, hi, hz0, hz1, hz2⟩ := info_parts lists_info
  go_enter Tryd.func26, Tryd.ntmps26
  refine wp_letter (fun Q hQ => ?_)
  have HQ := Lib.hid hQ
  clear hQ
  go_wp2_with fail
  refine lsA_region c LA BA lc bc w.heap.size c.ins.length m Z _ HBX.out (fun W hW => HLB.out W (HB0.out.trans (hW.mono HB0.out.size))) HMK.out HM.out _ _ _ _ _ _ _ _ _ _ _ _ _ _ _ _ _ _ _ _ _ _ _ _ _ _ _ _ _ _ _ _ _ _ _ _ _ _ _ _ _ _ _ _ _ _ _ _ _ _ _ _ _ _ _ _ _ _ _ _ _ _ _ _ _ _ _ _ _ _ _ _ _ _ _ _ _ _ _ _ _ _ _ _ _ ?_
  intro W mb mn rb y15 y16 y17 y18 y19 y20 hbW hlW hrn hrW
  obtain ⟨fb, hfb⟩ : ∃ fb, fb = W.heap.size := ⟨_, rfl⟩
  obtain ⟨W1, hW1⟩ : ∃ W1, W1 = W.alloc (.cells #[.int .i64 c.params, .int .i64 c.regs, .slice LA c.locs.length lc, .slice BA c.ins.length bc, .map (some mb), .slice (some ⟨rb, 0, none⟩) m m] 80) := ⟨_, rfl⟩
  rw [← hfb, ← hW1]
  have hb1 : Below W.heap.size W W1 := by rw [hW1]; exact below1 W _
  have hfrow : Row W1 fb #[.int .i64 c.params, .int .i64 c.regs, .slice LA c.locs.length lc, .slice BA c.ins.length bc, .map (some mb), .slice (some ⟨rb, 0, none⟩) m m] 80 := by rw [hW1, hfb]; exact Row.new W _ _
  have HB1 := Lib.hid (HB0.out.trans ((hbW.trans (hb1.mono hbW.size)).mono HB0.out.size))
  have HBX1 := Lib.hid ((HBX.out.below hbW HBX.out.lt).below hb1 (HBX.out.below hbW HBX.out.lt).lt)
  have HFR := Lib.hid hfrow
  have HLW := Lib.hid (hlW.below hb1)
  have HRW := Lib.hid (hrW.below hb1 hrW.lt)
  have HRF := Lib.hid (show w.heap.size ≤ rb from by have := HB0.out.size; omega)
  clear hbW hlW hrn hrW hfb hW1 hb1 hfrow
  have f5 := HFR.out.cell (j := 5) rfl
  have fl := HFR.out.lt
  go_wp2_with fail
  go_loopw [28] (fun i wr => ∃ k : Nat, i = .int .i64 (k : Nat) ∧ k ≤ m ∧ PartAt wr rb nw m k ∧ Wr (fun j => j = rb) W1 wr) (fun i _ => m - (intOf i).toNat)
  case atStart => exact ⟨0, rfl, Nat.zero_le _, ⟨Z, HRW.out, hZ, fun j hj => by omega⟩, Wr.refl _ _⟩
  case round =>
    obtain ⟨k, rfl, hk, hp, hw⟩ := hrel
    obtain ⟨cs, hcr, hcs, _⟩ := id hp
    have hbx := HBX1.out.wr hw (fun e => HBX1.out.ne HRW.out (by decide) e)
    have hfr := HFR.out.wr hw (fun e => HFR.out.ne HRW.out (by decide) e)
    by_cases hlt : k < m
    · have hkm : (k : Int) < (m : Int) := by omega
      have HP := Lib.hid hp
      have HW := Lib.hid hw
      have HC := Lib.hid hcr
      obtain ⟨v0, hv0⟩ : ∃ v0, cs[k]? = some v0 := ⟨_, Array.getElem?_eq_getElem (by omega)⟩
      have HRB := Lib.hid (show rb < wr.heap.size ∧ wr.frozen? ⟨rb, k, none⟩ = false ∧ ∃ v0, wr.cell? ⟨rb, k, none⟩ = some v0 from ⟨hcr.lt, hcr.free k, v0, hcr.cell hv0⟩)
      have HBX2 := Lib.hid hbx
      have HFR2 := Lib.hid hfr
      clear hp hw hcr hbx hfr hv0 hcs
      go_wp2_with fail
      refine lsB_region c LA BA lc bc w.heap.size fb rb mb m k q nw Z2 _ HBX2.out HFR2.out HMK2.out HWA.out HQ8.out hlt HRB.out _ _ _ _ _ _ _ _ _ _ _ _ _ _ _ _ _ _ _ _ _ _ _ _ _ _ _ _ _ _ _ _ _ _ _ _ _ _ _ _ _ _ _ _ _ _ _ _ _ _ _ _ _ _ _ _ _ _ _ _ _ _ _ _ _ _ _ _ _ _ _ _ _ _ _ _ _ _ _ _ _ _ _ _ ?_
      intro W2 b y31 y32 y33 y34 y35 y36 y37 y38 y39 y40 y41 hb2 hbl hwb
      have HP2 := Lib.hid ((HP.out.below hb2).next hlt hwb)
      have HW2 := Lib.hid ((HW.out.trans (Wr.of_below (F := fun _ => False) hb2) (fun _ h => h.elim)).trans (Wr.cell1 W2 rb k (.slice (some ⟨b, 0, none⟩) nw nw)) (fun _ h => Or.inl h))
      clear hb2 hbl hwb
      go_wp2_with fail
      go_roundw
      case rel => exact ⟨k + 1, by go_num, hlt, HP2.out, HW2.out⟩
      case measure => simp [intOf]; omega
    · obtain rfl : k = m := by omega
      have hlen : (List.replicate k (List.replicate nw 0)).length = c.ins.length + 1 := by rw [List.length_replicate, HMN.out]
      have hmap : (List.replicate k (List.replicate nw 0)).map (listW 0) = List.replicate (c.ins.length + 1) [] := by rw [List.map_replicate, listW_zero, HMN.out]
      have HSK := Lib.hid (show Seek w wr w.heap.size fb rb mb mn nw B c LA lc BA bc (List.replicate k (List.replicate nw 0)) from
        ⟨⟨by rw [List.length_replicate]; exact hfr, hp.sets, HLW.out.wr hw (fun e => HLW.out.ne HRW.out e)⟩, hbx, HB1.out.trans (hw.below HB1.out.size (fun i hi => by have : i = rb := hi; have := HRF.out; omega)), HRF.out, fun ws hws => by rw [List.eq_of_mem_replicate hws]; exact ⟨by simp, zero_64⟩, hlen, by rw [hmap]; exact Flow.start _ _⟩)
      obtain ⟨wss0, hws0⟩ : ∃ wss0, wss0 = List.replicate k (List.replicate nw 0) := ⟨_, rfl⟩
      rw [← hws0] at HSK
      obtain ⟨w5, rfl⟩ : ∃ w5 : World, w5 = wr := ⟨_, rfl⟩
      clear hp hw hcr hbx hfr hcs hlen hmap hws0 hk hlt f5 fl
      have hnl : c.ins.length ≤ 8000 := h8
      go_wp2_with fail
      go_loopw [6] (fun ch wr => ∃ (wss : List (List Nat)) (b : Bool), ch = .bool b ∧ Seek w wr w.heap.size fb rb mb mn nw B c LA lc BA bc wss ∧ (b = false → Still c.ins wss 0)) (fun ch wr => roomL (nw * 64) (rowsW wr rb (c.ins.length + 1) nw) + flagN ch)
      case atStart => exact ⟨wss0, true, rfl, HSK.out, fun h => by cases h⟩
      case round =>
        obtain ⟨wss, b, rfl, hsk, hst⟩ := hrel
        have HSK2 := Lib.hid hsk
        have HRO := Lib.hid hsk.room
        obtain ⟨w6, rfl⟩ : ∃ w6 : World, w6 = wr := ⟨_, rfl⟩
        cases b with
        | false =>
          have HIS := Lib.hid (hsk.plain.done (fun k hk r hr => hst rfl k (Nat.zero_le _) hk r hr))
          have f5 := hsk.flow.row.cell (j := 5) rfl
          have fl := hsk.flow.row.lt
          have hwl8 : wss.length ≤ 8001 := by have := hsk.len; omega
          clear hsk hst
          go_wp2_with fail
          go_loopw [9, 75] (fun r i wr => ∃ (k : Nat) (LA' : Option Addr) (ln lc' : Nat) (xs : List Value), k ≤ wss.length ∧ i = .int .i64 k ∧ r = .slice LA' ln lc' ∧ RowE RowsE 35 1 w6.heap.size wr (.slice LA' ln lc') ((wss.map (listW 0)).take k) xs ∧ Below w6.heap.size w6 wr) (fun _ i _ => wss.length - (intOf i).toNat)
          case atStart => exact ⟨0, none, 0, 0, [], by omega, rfl, rfl, RowE.nil _ _ _ _ _, Below.refl _ _⟩
          case round =>
            obtain ⟨k, LA', ln, lc', xs, hk, rfl, rfl, hR, hbw⟩ := hrel
            have HR := Lib.hid hR
            have HBW := Lib.hid hbw
            have hzw := hbw.size
            have hzw0 := HSK2.out.below.size
            have htl : ((wss.map (listW 0)).take k).length = k := by simp; omega
            have HTL := Lib.hid htl
            by_cases hlt : k < wss.length
            · have hS := HSK2.out.flow.sets.below hbw
              obtain ⟨tb, g0, htb⟩ := hS.get hlt
              have gl := hS.lt
              have hgood := HSK2.out.sets.getD hlt
              have HLI := llist_any tb (wss.getD k []) nw wr htb (by rw [hgood.1]; omega) (HTW.out wr (HSK2.out.below.trans (hbw.mono hzw0))) (by omega)
              rw [hgood.1] at HLI
              have HLI := Lib.hid HLI
              have HG := Lib.hid hgood
              have hklt : (k : Int) < (wss.length : Int) := by omega
              have HK1 := Lib.hid (show (wss.map (listW 0))[k]? = some (listW 0 (wss.getD k [])) from by rw [List.getElem?_map, List.getD_eq_getElem?_getD, List.getElem?_eq_getElem hlt]; rfl)
              clear hR hbw hS htb hgood htl
              go_wp2_with fail
              refine HLI.out.mono ?_
              rintro e w7 ⟨A9, c9, rfl, hs9, _, hb9⟩
              have hz9 := hb9.size
              have HS9 := Lib.hid hs9
              have HB9 := Lib.hid hb9
              obtain ⟨ls, hls⟩ : ∃ ls, ls = listW 0 (wss.getD k []) := ⟨_, rfl⟩
              rw [← hls] at HS9 HK1
              rw [← hls]
              clear hs9 hb9 g0 gl hls
              go_wp2_with (at_builtin; refine wpList_append_lies _ rfl (.tmp 79) (.tmp 82) 42 rfl w6.heap.size 35 i0 (.slice none 0 0) 1 24 Tryd.underlying42 hi hz0 hz1 hz2 rfl (by decide) _ k xs rfl (by have h := HR.out.own; rw [HTL.out] at h; exact (ownsRow_wr h ((Wr.of_below (F := fun _ => False) HB9.out).allocR _) (fun _ _ h => h))) ⟨w7.heap.size, 0, none⟩ 1 1 [.slice A9 ls.length c9] rfl rfl ?c1 ?c2 (by decide) ?c3 ?c4 ?c5 _ rfl ?_)
              case c1 => exact cells_new _ _ _
              case c2 => intro u hu; simp at hu; rcases hu with rfl; rfl
              case c3 => unfold maxLen; omega
              case c4 => omega
              case c5 => first | omega | (simp <;> omega)
              · intro g cap' w8 hown3 hgrow hat hglt
                have HN8 := Lib.hid (show RowE RowsE 35 1 w6.heap.size w8 (.slice (some ⟨g, 0, none⟩) (k + 1) cap') ((wss.map (listW 0)).take (k + 1)) (xs ++ [.slice A9 ls.length c9]) from by
                  have h := RowE.next RowsE.mono HR.out (by omega) HB9.out (us := [.slice A9 ls.length c9]) (x := ls) ⟨_, rfl, HS9.out⟩ rfl (below1 w7 _) (by rw [HTL.out]; exact hown3) hgrow (by simpa using hat)
                  rw [HTL.out] at h
                  rw [take_succ_of HK1.out]
                  exact h)
                have HBN := Lib.hid (show Below w6.heap.size w6 w8 from (HBW.out.trans (HB9.out.mono hzw)).trans (((Below.refl _ _).alloc (by omega) _).grown hgrow (by first | omega | (simp <;> omega)) (fun g hg => by have := (HR.out.lt hg); omega)))
                clear hown3 hgrow hat
                go_wp2_with fail
                go_roundw
                case rel => exact ⟨k + 1, _, _, _, _, by omega, by go_num, rfl, HN8.out, HBN.out⟩
                case measure => simp [intOf]; omega
            · obtain rfl : k = wss.length := by omega
              rw [List.take_of_length_le (by simp)] at hR
              have HR2 := Lib.hid hR
              clear hR hbw
              go_wp2_with fail
              refine HQ.out _ _ _ ?_
              exact bodyPost_ret (v := .slice LA' ln lc') (by simp [results, Tryd.results26, go_sem]) rfl ⟨_, HIS.out, ListEnd.of_row RowsE.mono (HR2.out.base RowsE.mono HSK2.out.below.size) (HSK2.out.below.trans (HBW.out.mono HSK2.out.below.size))⟩
        | true =>
          clear hsk hst
          go_wp2_with fail
          go_loopw [6, 7] (fun ch a wr => ∃ (k : Nat) (wss' : List (List Nat)) (b : Bool), a = .int .i64 ((k : Int) - 1) ∧ k ≤ c.ins.length ∧ ch = .bool b ∧ Seek w wr w.heap.size fb rb mb mn nw B c LA lc BA bc wss' ∧ (b = false → wss' = wss ∧ Still c.ins wss k) ∧ (b = true → roomL (nw * 64) (wss'.map (listW 0)) < roomL (nw * 64) (wss.map (listW 0)))) (fun _ a _ => (intOf a + 1).toNat)
          case atStart => exact ⟨c.ins.length, wss, false, by go_num, Nat.le_refl _, rfl, HSK2.out, fun _ => ⟨rfl, fun j h1 h2 => by omega⟩, fun h => by cases h⟩
          case round =>
            obtain ⟨k, wss', b, rfl, hk, rfl, hsk, hf, ht⟩ := hrel
            have HF := Lib.hid hf
            have HTT := Lib.hid ht
            have HSK3 := Lib.hid hsk
            cases k with
            | zero =>
              have hkk : ((0 : Nat) : Int) - 1 = -1 := rfl
              rw [hkk]
              clear hsk hf ht hkk
              go_wp2_with fail
              go_roundw
              case rel => exact ⟨wss', b, rfl, HSK3.out, fun h => by obtain ⟨h1, h2⟩ := HF.out h; rw [h1]; exact h2⟩
              case measure =>
                rw [HSK3.out.room, HRO.out]
                cases b with
                | false => rw [(HF.out rfl).1]; simp [flagN]
                | true => have := HTT.out rfl; simp [flagN]; omega
            | succ j =>
              have hkk : ((j + 1 : Nat) : Int) - 1 = (j : Int) := by omega
              rw [hkk]
              have hjn : j < c.ins.length := by omega
              obtain ⟨x, hx⟩ : ∃ x, c.ins[j]? = some x := ⟨_, List.getElem?_eq_getElem hjn⟩
              have hxm := List.mem_of_getElem? hx
              have hjw : j < wss'.length := by rw [hsk.len]; omega
              have HAH := lahead_any c LA lc BA bc fb rb mb mn nw R B j wss' x wr (by have := hsk.below.size; omega) (HKW.out wr hsk.below) hsk.flow HN.out hsk.sets hsk.len h8 hx (HRG.out x hxm) hRn hnw8 (HAL.out x hxm)
              obtain ⟨hgl, hg64, hgm⟩ := aheadW_good hsk.sets hsk.len hRn (HRG.out x hxm) hx (fun n hn => by rw [hsk.len]; exact next_lt HN.out hjn n hn)
              obtain ⟨s, hs⟩ : ∃ s, s = aheadW c.ins nw wss' j x := ⟨_, rfl⟩
              rw [← hs] at HAH hgl hg64 hgm
              unfold NewWords at HAH
              rw [hgl] at HAH
              have HAH := Lib.hid HAH
              have HGM := Lib.hid (And.intro hgl (And.intro hg64 hgm))
              have hj0 : (0 : Int) ≤ (j : Int) := by omega
              have hjw2 : (j : Int) < (wss'.length : Int) := by omega
              clear hsk hf ht hkk hx hxm hgl hg64 hgm hs
              go_wp2_with fail
              refine HAH.out.mono ?_
              rintro e w7 ⟨sb, hsb, rfl, hws, hb7⟩
              have HSK7 := Lib.hid (HSK3.out.next hb7)
              have HWS := Lib.hid hws
              have f5 := HSK7.out.flow.row.cell (j := 5) rfl
              have fl := HSK7.out.flow.row.lt
              obtain ⟨tb, g0, htb⟩ := HSK7.out.flow.sets.get hjw
              have gl := HSK7.out.flow.sets.lt
              have HTB := Lib.hid htb
              have hgood := HSK7.out.sets.getD hjw
              have HEQ := lequal_any sb tb s (wss'.getD j []) nw nw w7 HWS.out htb (by rw [HGM.out.1, hgood.1]) (by rw [HGM.out.1]; omega)
              rw [HGM.out.1, hgood.1] at HEQ
              have HEQ := Lib.hid HEQ
              clear hws hb7 htb hgood
              go_wp2_with fail
              refine HEQ.out.mono ?_
              rintro e w8 ⟨rfl, hb8⟩
              have HSK8 := Lib.hid (HSK7.out.next hb8)
              have HWS8 := Lib.hid (HWS.out.below hb8 HWS.out.lt)
              clear hb8 f5 fl g0 gl
              by_cases hse : s = wss'.getD j []
              · have hd : decide (s = wss'.getD j []) = true := decide_eq_true hse
                rw [hd]
                have HSE := Lib.hid hse
                clear hse hd
                go_wp2_with fail
                go_roundw
                case rel =>
                  refine ⟨j, wss', b, rfl, by omega, rfl, HSK8.out, fun h => ?_, HTT.out⟩
                  obtain ⟨h1, h2⟩ := HF.out h
                  refine ⟨h1, fun i hi1 hi2 r hr => ?_⟩
                  by_cases hij : i = j
                  · subst hij
                    rw [← h1] at hr ⊢
                    have := (HGM.out.2.2 r).2 hr
                    rw [HSE.out] at this
                    exact memR_map.2 ⟨hjw, this⟩
                  · exact h2 i (by omega) hi2 r hr
                case measure => first | (simp [intOf]; done) | (simp [intOf]; omega)
              · have hd : decide (s = wss'.getD j []) = false := decide_eq_false hse
                rw [hd]
                have HSE := Lib.hid hse
                obtain ⟨cs8, hr8, hc8, hh8⟩ := id HSK8.out.flow.sets
                obtain ⟨b8, hb8, _⟩ := hh8 j hjw
                have f5 := HSK8.out.flow.row.cell (j := 5) rfl
                have fl := HSK8.out.flow.row.lt
                have g0 := hr8.cell hb8
                have g1 := hr8.free j
                have gl := hr8.lt
                have HSK9 := Lib.hid (HSK8.out.set hjn HWS8.out HGM.out.1 HGM.out.2.1 HGM.out.2.2)
                have HTN := Lib.hid (HSK8.out.plain.turn hjn (x := listW 0 s) listW_rise (fun y hy => by have := listW_low hy; rw [HGM.out.1] at this; omega) HGM.out.2.2 (fun e => by
                  simp only [List.getElem_map] at e
                  have hjg := HSK8.out.sets.getD hjw
                  rw [List.getD_eq_getElem?_getD, List.getElem?_eq_getElem hjw, Option.getD_some] at hjg
                  have := listW_ext (by rw [HGM.out.1, hjg.1]) HGM.out.2.1 hjg.2 e
                  exact HSE.out (by rw [List.getD_eq_getElem?_getD, List.getElem?_eq_getElem hjw, Option.getD_some]; exact this)))
                clear hse hd hr8 hc8 hh8 hb8
                go_wp2_with fail
                go_roundw
                case rel =>
                  refine ⟨j, wss'.set j s, true, rfl, by omega, rfl, HSK9.out, (fun h => by cases h), (fun _ => ?_)⟩
                  have h1 := HTN.out
                  rw [← List.map_set] at h1
                  cases b with
                  | false => rw [(HF.out rfl).1] at h1 ⊢; exact h1
                  | true => exact Nat.lt_trans h1 (HTT.out rfl)
                case measure => first | (simp [intOf]; done) | (simp [intOf]; omega)
end Go.Proofs.YtlenilbkifofjaaDoor
