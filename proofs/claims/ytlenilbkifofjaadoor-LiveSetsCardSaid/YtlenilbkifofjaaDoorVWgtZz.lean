/- VirtWeight: it answers some number. Conditions: as stated. -/
import Derived.Test.YtlenilbkifofjaaDoorVAskCZz
import Derived.Test.YtlenilbkifofjaaDoorQ03Zz
set_option linter.unusedVariables false
set_option linter.unusedSimpArgs false
namespace Go.Proofs.YtlenilbkifofjaaDoor
open Go.RowKit

set_option maxRecDepth 100000 in
set_option maxHeartbeats 16000000 in
theorem vwgt_any (p : VirtS) (P : Value × Value × Value) (B : Nat) (w : World) (hB : B ≤ w.heap.size) (hP : VirtAt w B P p) (hgl : p.globs.length ≤ 200000000000000) (hlo : ∀ g, g ∈ p.funcs → g.locs.length ≤ 200000000000000 ∧ g.ins.length ≤ 200000000000000 ∧ ∀ x, x ∈ g.ins → x.arg.length ≤ 200000000000000) :
    Calls Tryd.prog 18 #[.agg #[P.1, P.2.1, P.2.2]] w fun e w' => ∃ n : Int, e = .returned (.int .i64 n) ∧ 0 ≤ n ∧ n ≤ 1000000000000000 ∧ Below w.heap.size w w' := by
  obtain ⟨GA, gc, FA, fc, rfl⟩ := hP.shape
  have hfl := hP.2.1.len.2
  have HP := Lib.hid hP
  have HLO := Lib.hid hlo
  clear hP hlo
  go_enter Tryd.func18, Tryd.ntmps18
  refine wp_letter (fun Q hQ => ?_)
  have HQ := Lib.hid hQ
  clear hQ
  go_wp2_with fail
  go_loopw [3, 4] (fun nn i wr => ∃ (k : Nat) (n : Int), nn = .int .i64 n ∧ i = .int .i64 (k : Nat) ∧ k ≤ p.funcs.length ∧ 0 ≤ n ∧ n ≤ 1000000000000000 ∧ Below w.heap.size w wr ∧ Row wr w.heap.size #[.slice GA p.globs.length gc, .slice FA p.funcs.length fc, .int .i64 p.main] 30) (fun _ i _ => p.funcs.length - (intOf i).toNat)
  case atStart => exact ⟨0, p.globs.length, rfl, rfl, Nat.zero_le _, by omega, by omega, below1 w _, Row.new w _ _⟩
  case round =>
    obtain ⟨k1, n1, rfl, rfl, hk1, hn01, hn11, hb1, hp1⟩ := hrel
    obtain ⟨w1, rfl⟩ : ∃ w1 : World, w1 = wr := ⟨_, rfl⟩
    have hz1 := hb1.size
    have HB1 := Lib.hid hb1
    have HP1 := Lib.hid hp1
    have p1 := hp1.cell (j := 1) rfl
    have pl := hp1.lt
    clear hb1 hp1
    by_cases hgo : k1 < p.funcs.length ∧ n1 < 1048576
    · obtain ⟨hlt1, hnl1⟩ := hgo
      have hd3 : decide ((k1 : Int) < (p.funcs.length : Int)) = true := by simpa using hlt1
      have hd4 : decide (n1 < 1048576) = true := by simpa using hnl1
      have hkl1 : (k1 : Int) < (p.funcs.length : Int) := by omega
      obtain ⟨fb, foff, g, hfa, hfb, hfk, z0, z1, ⟨lv, z2, hlv⟩, ⟨bv, z3, hbv⟩, _, _⟩ := HP.out.2.1.get hlt1
      subst hfa
      obtain ⟨⟨LA, lc, hlv0, _⟩, ⟨BA, bc, hbv0, _⟩⟩ := And.intro hlv hbv
      subst hlv0 hbv0
      obtain ⟨hll, hil, hax⟩ := HLO.out g (List.mem_of_getElem? hfk)
      have HBL := Lib.hid hbv
      have HAX := Lib.hid hax
      have HG := Lib.hid (fun (W : World) (hW : Below w.heap.size w W) => (⟨(hW.cell (p := ⟨fb, _, none⟩) (show fb < w.heap.size by omega)).trans z2, (hW.cell (p := ⟨fb, _, none⟩) (show fb < w.heap.size by omega)).trans z3⟩ : W.cell? ⟨fb, foff + k1 * 4 + 2, none⟩ = some (.slice LA g.locs.length lc) ∧ W.cell? ⟨fb, foff + k1 * 4 + 3, none⟩ = some (.slice BA g.ins.length bc)))
      have z2' := (HG.out w1 HB1.out).1
      have z3' := (HG.out w1 HB1.out).2
      have hfbl : fb < w1.heap.size := by omega
      clear hlv hbv hfk z0 z1 z2 z3 hax
      go_wp2_with fail
      refine still_tailq 18 (by kernel_rfl) (by kernel_rfl) ?_
      simp only [List.take_succ_cons, List.take_zero, List.drop_succ_cons, List.drop_zero]
      repeat (go_big_quiet_step (fail))
      refine wpQuiet_nil ?_
      go_wp2_with fail
      go_loopw [3, 5] (fun nn i wr => ∃ (k : Nat) (n : Int), nn = .int .i64 n ∧ i = .int .i64 (k : Nat) ∧ k ≤ g.ins.length ∧ 0 ≤ n ∧ n ≤ 1000000000000000 ∧ Below w.heap.size w wr ∧ Row wr w.heap.size #[.slice GA p.globs.length gc, .slice (some ⟨fb, foff, none⟩) p.funcs.length fc, .int .i64 p.main] 30) (fun _ i _ => g.ins.length - (intOf i).toNat)
      case atStart => exact ⟨0, n1 + 1 + g.locs.length + g.ins.length, by go_num, rfl, Nat.zero_le _, by omega, by omega, HB1.out.drew, HP1.out.drew⟩
      case round =>
        obtain ⟨k2, n2, rfl, rfl, hk2, hn02, hn12, hb2, hp2⟩ := hrel
        obtain ⟨w2, rfl⟩ : ∃ w2 : World, w2 = wr := ⟨_, rfl⟩
        have hz2 := hb2.size
        have HB2 := Lib.hid hb2
        have HP2 := Lib.hid hp2
        have p1 := hp2.cell (j := 1) rfl
        have pl := hp2.lt
        have z3 := (HG.out w2 hb2).2
        have hfbl2 : fb < w2.heap.size := by omega
        have hkl1' : (k1 : Int) < (p.funcs.length : Int) := by omega
        clear hb2 hp2
        by_cases hgo : k2 < g.ins.length ∧ n2 < 1048576
        · obtain ⟨hlt2, hnl2⟩ := hgo
          have hd3 : decide ((k2 : Int) < (g.ins.length : Int)) = true := by simpa using hlt2
          have hd4 : decide (n2 < 1048576) = true := by simpa using hnl2
          have hkl2 : (k2 : Int) < (g.ins.length : Int) := by omega
          obtain ⟨bb, boff, x, hba, hbb, hbk, _, _, _, _, _, ⟨sv, b5, hst⟩, _⟩ := HBL.out.get hlt2
          obtain ⟨SA, scap, hsv⟩ : ∃ SA scap, sv = .slice SA x.arg.length scap := (by obtain ⟨A', c', h, _⟩ := hst; exact ⟨_, _, h⟩)
          subst hsv hba
          have harg := HAX.out x (List.mem_of_getElem? hbk)
          have b5' := (HB2.out.cell (p := ⟨bb, _, none⟩) (show bb < w.heap.size by omega)).trans b5
          have hbbl : bb < w2.heap.size := by omega
          clear hbk hst b5
          go_wp2_with fail
          try (refine still_tailq 13 (by kernel_rfl) (by kernel_rfl) ?_
               simp only [List.take_succ_cons, List.take_zero, List.drop_succ_cons, List.drop_zero]
               repeat (go_big_quiet_step (fail))
               refine wpQuiet_nil ?_
               go_wp2_with fail)
          go_roundw
          case rel => exact ⟨k2 + 1, n2 + x.arg.length, by go_num, by go_num, by omega, by omega, by omega, (by first | exact HB2.out | exact HB2.out.drew), (by first | exact HP2.out | exact HP2.out.drew)⟩
          case measure => simp [intOf]; omega
        · have hor : decide (k2 < g.ins.length) = false ∨ (decide (k2 < g.ins.length) = true ∧ decide (n2 < 1048576) = false) := by
            by_cases hlt : k2 < g.ins.length
            · exact Or.inr ⟨by simpa using hlt, by simp; exact Int.not_lt.1 (fun h => hgo ⟨hlt, h⟩)⟩
            · exact Or.inl (by simp; omega)
          clear hgo
          rcases hor with hd | ⟨hd, hd2⟩
          all_goals
            go_wp2_with fail
            go_roundw
            case rel => exact ⟨k1 + 1, n2, by go_num, by go_num, by omega, by omega, by omega, HB2.out, HP2.out⟩
            case measure => simp [intOf]; omega
    · have hor : decide (k1 < p.funcs.length) = false ∨ (decide (k1 < p.funcs.length) = true ∧ decide (n1 < 1048576) = false) := by
        by_cases hlt : k1 < p.funcs.length
        · exact Or.inr ⟨by simpa using hlt, by simp; exact Int.not_lt.1 (fun h => hgo ⟨hlt, h⟩)⟩
        · exact Or.inl (by simp; omega)
      clear hgo
      rcases hor with hd | ⟨hd, hd2⟩
      all_goals
        go_wp2_with fail
        refine HQ.out _ _ _ ?_
        exact bodyPost_ret (v := .int .i64 n1) (by simp [results, Tryd.results18, go_sem]) rfl ⟨n1, rfl, by omega, by omega, HB1.out⟩
end Go.Proofs.YtlenilbkifofjaaDoor
