/- live.Live. Conditions: as stated. -/
import Derived.Test.YtlenilbkifofjaaDoorLvOZz
import Derived.Test.YtlenilbkifofjaaDoorLvRZz
import Derived.Test.YtlenilbkifofjaaDoorLvSZz
set_option linter.unusedVariables false
set_option linter.unusedSimpArgs false
namespace Go.Proofs.YtlenilbkifofjaaDoor
open Go.RowKit

/-- What Live answers. -/
def LiveSays (c : CodeS) (w : World) (e : Ending) (w' : World) : Prop :=
  (aloneB c = true → ∃ rows A cap, IsLive c.ins rows ∧ e = .returned (.tuple #[.slice A rows.length cap, .int .i64 0]) ∧ SliceAt w' w'.heap.size 1 (RowsE w' w'.heap.size) rows (.slice A rows.length cap)) ∧
  (aloneB c = false → e = .returned (.tuple #[.slice none 0 0, .int .i64 1])) ∧ Below w.heap.size w w'
set_option maxRecDepth 100000 in
set_option maxHeartbeats 8000000 in
theorem llive_any (c : CodeS) (LA : Option Addr) (lc : Nat) (BA : Option Addr) (bc B : Nat) (w : World) (hB : B ≤ w.heap.size) (hL : SliceAt w B 3 (ObE w B) c.locs (.slice LA c.locs.length lc)) (hK : SliceAt w B 6 (InsE w B) c.ins (.slice BA c.ins.length bc))
    (hal : ∀ x, x ∈ c.ins → x.arg.length * 8 ≤ 140737488351232) (hT : TabAt 0 Lib.deBruijn64tab w) (hg : 0 < w.heap.size) :
    Calls Tryd.prog 13 #[.agg #[.int .i64 c.params, .int .i64 c.regs, .slice LA c.locs.length lc, .slice BA c.ins.length bc]] w fun e w' => LiveSays c w e w' := by
  have HB1 := Lib.hid (below1 w (.cells #[.int .i64 c.params, .int .i64 c.regs, .slice LA c.locs.length lc, .slice BA c.ins.length bc] 33))
  have HBX := Lib.hid (Row.new w #[.int .i64 c.params, .int .i64 c.regs, .slice LA c.locs.length lc, .slice BA c.ins.length bc] 33)
  have HA := Lib.hid (fun W (hW : Below w.heap.size w W) => lalone_any c LA lc BA bc B W (by have := hW.size; omega) (hL.below (hW.mono hB) (Nat.le_refl _) (fun _ _ h => h.below (hW.mono hB) (Nat.le_refl _))) (hK.below (hW.mono hB) (Nat.le_refl _) (fun _ _ h => h.below (hW.mono hB) (Nat.le_refl _))))
  cases ha : aloneB c with
  | false =>
    have HF := Lib.hid ha
    rw [ha] at HA
    clear hL hK hal hT ha
    go_enter Tryd.func13, Tryd.ntmps13
    refine wp_letter (fun Q hQ => ?_)
    have HQ := Lib.hid hQ
    clear hQ
    go_wp2_with fail
    refine (HA.out _ HB1.out).mono ?_
    rintro e w1 ⟨rfl, hb1⟩
    have HB2 := Lib.hid (HB1.out.trans (hb1.mono HB1.out.size))
    clear hb1
    go_wp2_with fail
    refine HQ.out _ _ _ ?_
    exact bodyPost_ret (v := .tuple #[.slice none 0 0, .int .i64 1]) (by simp [results, Tryd.results13, go_sem]) rfl ⟨fun h => (by rw [HF.out] at h; cases h), fun _ => rfl, HB2.out⟩
  | true =>
    have HF := Lib.hid ha
    rw [ha] at HA
    obtain ⟨⟨h1, h2, h3, h4, _, h5, h6, h7⟩, _⟩ := alone_all ha
    have HS := Lib.hid (fun W (hW : Below w.heap.size w W) => lsets_any c LA lc BA bc c.regs.toNat B W (by have := hW.size; omega) (hK.below (hW.mono hB) (Nat.le_refl _) (fun _ _ h => h.below (hW.mono hB) (Nat.le_refl _))) (alone_named ha) (fun x hx => alone_regs ha hx) (by omega) (by omega) (by omega) h7 hal (tab_below hT hW hg) (by have := hW.size; omega))
    clear hL hK hal hT ha h1 h2 h3 h4 h5 h6 h7
    go_enter Tryd.func13, Tryd.ntmps13
    refine wp_letter (fun Q hQ => ?_)
    have HQ := Lib.hid hQ
    clear hQ
    go_wp2_with fail
    refine (HA.out _ HB1.out).mono ?_
    rintro e w1 ⟨rfl, hb1⟩
    have HB2 := Lib.hid (HB1.out.trans (hb1.mono HB1.out.size))
    have hbx := HBX.out.below hb1 HBX.out.lt
    have x0 := hbx.cell (j := 0) rfl
    have x1 := hbx.cell (j := 1) rfl
    have x2 := hbx.cell (j := 2) rfl
    have x3 := hbx.cell (j := 3) rfl
    have xl := hbx.lt
    clear hb1 hbx
    go_wp2_with fail
    refine (HS.out _ HB2.out).mono ?_
    rintro e w2 ⟨rows, hl, A, cap, rfl, hs, _, hb2⟩
    have HL := Lib.hid hl
    have HSL := Lib.hid (SliceAt.sub RowsE.mono hs (only_sub _ _) (Nat.le_refl _))
    have HB3 := Lib.hid (HB2.out.trans (hb2.mono HB2.out.size))
    clear hl hs hb2 x0 x1 x2 x3 xl
    go_wp2_with fail
    refine HQ.out _ _ _ ?_
    exact bodyPost_ret (v := .tuple #[.slice A rows.length cap, .int .i64 0]) (by simp [results, Tryd.results13, go_sem]) rfl ⟨fun _ => ⟨rows, A, cap, HL.out, rfl, HSL.out⟩, fun h => (by rw [HF.out] at h; cases h), HB3.out⟩
end Go.Proofs.YtlenilbkifofjaaDoor
