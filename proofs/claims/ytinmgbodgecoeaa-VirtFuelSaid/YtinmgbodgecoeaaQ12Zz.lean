/- VirtWeight: it answers some number. Conditions: as stated. gantletlaw14.Heavy: it answers. Conditions: as stated. EqLongs, EqOutcome: of what reads the same. Conditions: as stated. What is read as trees lies in memory as trees. No condition. What is read as programs lies in memory as programs. No condition. How long a program's lists may be: what memory may hold. No program in sight. No condition. How long a program's lists may be: what memory may hold. No program in sight. No condition. What is read as programs, as asks of programs, lies in memory as programs, and its lists are of a size that memory may hold. No condition. -/
import Derived.Test.YtinmgbodgecoeaaVAskCZz
import Derived.Test.YtinmgbodgecoeaaQ03Zz
import Derived.Test.YtinmgbodgecoeaaQ01Zz
import Derived.Test.YtinmgbodgecoeaaQ02Zz
import Derived.SizedLaws
import Derived.Deep.Slices
import Derived.Deep.Strs
import Derived.ProofKit
set_option linter.unusedVariables false
set_option linter.unusedSimpArgs false
namespace Go.Proofs.Ytinmgbodgecoeaa
open Go.RowKit

set_option maxRecDepth 100000 in
set_option maxHeartbeats 16000000 in
theorem vwgt_any (p : VirtS) (P : Value × Value × Value) (B : Nat) (w : World) (hB : B ≤ w.heap.size) (hP : VirtAt w B P p) (hgl : p.globs.length ≤ 200000000000000) (hlo : ∀ g, g ∈ p.funcs → g.locs.length ≤ 200000000000000 ∧ g.ins.length ≤ 200000000000000 ∧ ∀ x, x ∈ g.ins → x.arg.length ≤ 200000000000000) :
    Calls Try.prog 9 #[.agg #[P.1, P.2.1, P.2.2]] w fun e w' => ∃ n : Int, e = .returned (.int .i64 n) ∧ 0 ≤ n ∧ n ≤ 1000000000000000 ∧ Below w.heap.size w w' := by
  obtain ⟨GA, gc, FA, fc, rfl⟩ := hP.shape
  have hfl := hP.2.1.len.2
  have HP := Lib.hid hP
  have HLO := Lib.hid hlo
  clear hP hlo
  go_enter Try.func9, Try.ntmps9
  refine wp_letter (fun Q hQ => ?_)
  have HQ := Lib.hid hQ
  clear hQ
  go_wp2_with fail
  go_loopw [3, 4] (fun nn i wr => ∃ (k : Nat) (n : Int), nn = .int .i64 n ∧ i = .int .i64 (k : Nat) ∧ k ≤ p.funcs.length ∧ 0 ≤ n ∧ n ≤ 1000000000000000 ∧ Below w.heap.size w wr ∧ Row wr w.heap.size #[.slice GA p.globs.length gc, .slice FA p.funcs.length fc, .int .i64 p.main] 35) (fun _ i _ => p.funcs.length - (intOf i).toNat)
  case atStart => exact ⟨0, p.globs.length, rfl, rfl, Nat.zero_le _, by omega, by omega, below1 w _, Row.new w _ _⟩
  case round =>
    obtain ⟨k1, n1, rfl, rfl, hk1, hn01, hn11, hb1, hp1⟩ := hrel
    obtain ⟨w1, rfl⟩ : ∃ w1 : World, w1 = wr := ⟨_, rfl⟩
    have hz1 := hb1.size
    have HB1 := Lib.hid hb1
    have HP1 := Lib.hid hp1
    have p1 := hp1.cell (j := 1) rfl
    have pl := hp1.lt
    clear hb1 hp1
    by_cases hgo : k1 < p.funcs.length ∧ n1 < 1048576
    · obtain ⟨hlt1, hnl1⟩ := hgo
      have hd3 : decide ((k1 : Int) < (p.funcs.length : Int)) = true := by simpa using hlt1
      have hd4 : decide (n1 < 1048576) = true := by simpa using hnl1
      have hkl1 : (k1 : Int) < (p.funcs.length : Int) := by omega
      obtain ⟨fb, foff, g, hfa, hfb, hfk, z0, z1, ⟨lv, z2, hlv⟩, ⟨bv, z3, hbv⟩, _, _⟩ := HP.out.2.1.get hlt1
      subst hfa
      obtain ⟨⟨LA, lc, hlv0, _⟩, ⟨BA, bc, hbv0, _⟩⟩ := And.intro hlv hbv
      subst hlv0 hbv0
      obtain ⟨hll, hil, hax⟩ := HLO.out g (List.mem_of_getElem? hfk)
      have HBL := Lib.hid hbv
      have HAX := Lib.hid hax
      have HG := Lib.hid (fun (W : World) (hW : Below w.heap.size w W) => (⟨(hW.cell (p := ⟨fb, _, none⟩) (show fb < w.heap.size by omega)).trans z2, (hW.cell (p := ⟨fb, _, none⟩) (show fb < w.heap.size by omega)).trans z3⟩ : W.cell? ⟨fb, foff + k1 * 4 + 2, none⟩ = some (.slice LA g.locs.length lc) ∧ W.cell? ⟨fb, foff + k1 * 4 + 3, none⟩ = some (.slice BA g.ins.length bc)))
      have z2' := (HG.out w1 HB1.out).1
      have z3' := (HG.out w1 HB1.out).2
      have hfbl : fb < w1.heap.size := by omega
      clear hlv hbv hfk z0 z1 z2 z3 hax
      go_wp2_with fail
      refine still_tailq 18 (by kernel_rfl) (by kernel_rfl) ?_
      simp only [List.take_succ_cons, List.take_zero, List.drop_succ_cons, List.drop_zero]
      repeat (go_big_quiet_step (fail))
      refine wpQuiet_nil ?_
      go_wp2_with fail
      go_loopw [3, 5] (fun nn i wr => ∃ (k : Nat) (n : Int), nn = .int .i64 n ∧ i = .int .i64 (k : Nat) ∧ k ≤ g.ins.length ∧ 0 ≤ n ∧ n ≤ 1000000000000000 ∧ Below w.heap.size w wr ∧ Row wr w.heap.size #[.slice GA p.globs.length gc, .slice (some ⟨fb, foff, none⟩) p.funcs.length fc, .int .i64 p.main] 35) (fun _ i _ => g.ins.length - (intOf i).toNat)
      case atStart => exact ⟨0, n1 + 1 + g.locs.length + g.ins.length, by go_num, rfl, Nat.zero_le _, by omega, by omega, HB1.out.drew, HP1.out.drew⟩
      case round =>
        obtain ⟨k2, n2, rfl, rfl, hk2, hn02, hn12, hb2, hp2⟩ := hrel
        obtain ⟨w2, rfl⟩ : ∃ w2 : World, w2 = wr := ⟨_, rfl⟩
        have hz2 := hb2.size
        have HB2 := Lib.hid hb2
        have HP2 := Lib.hid hp2
        have p1 := hp2.cell (j := 1) rfl
        have pl := hp2.lt
        have z3 := (HG.out w2 hb2).2
        have hfbl2 : fb < w2.heap.size := by omega
        have hkl1' : (k1 : Int) < (p.funcs.length : Int) := by omega
        clear hb2 hp2
        by_cases hgo : k2 < g.ins.length ∧ n2 < 1048576
        · obtain ⟨hlt2, hnl2⟩ := hgo
          have hd3 : decide ((k2 : Int) < (g.ins.length : Int)) = true := by simpa using hlt2
          have hd4 : decide (n2 < 1048576) = true := by simpa using hnl2
          have hkl2 : (k2 : Int) < (g.ins.length : Int) := by omega
          obtain ⟨bb, boff, x, hba, hbb, hbk, _, _, _, _, _, ⟨sv, b5, hst⟩, _⟩ := HBL.out.get hlt2
          obtain ⟨SA, scap, hsv⟩ : ∃ SA scap, sv = .slice SA x.arg.length scap := (by obtain ⟨A', c', h, _⟩ := hst; exact ⟨_, _, h⟩)
          subst hsv hba
          have harg := HAX.out x (List.mem_of_getElem? hbk)
          have b5' := (HB2.out.cell (p := ⟨bb, _, none⟩) (show bb < w.heap.size by omega)).trans b5
          have hbbl : bb < w2.heap.size := by omega
          clear hbk hst b5
          go_wp2_with fail
          try (refine still_tailq 13 (by kernel_rfl) (by kernel_rfl) ?_
               simp only [List.take_succ_cons, List.take_zero, List.drop_succ_cons, List.drop_zero]
               repeat (go_big_quiet_step (fail))
               refine wpQuiet_nil ?_
               go_wp2_with fail)
          go_roundw
          case rel => exact ⟨k2 + 1, n2 + x.arg.length, by go_num, by go_num, by omega, by omega, by omega, (by first | exact HB2.out | exact HB2.out.drew), (by first | exact HP2.out | exact HP2.out.drew)⟩
          case measure => simp [intOf]; omega
        · have hor : decide (k2 < g.ins.length) = false ∨ (decide (k2 < g.ins.length) = true ∧ decide (n2 < 1048576) = false) := by
            by_cases hlt : k2 < g.ins.length
            · exact Or.inr ⟨by simpa using hlt, by simp; exact Int.not_lt.1 (fun h => hgo ⟨hlt, h⟩)⟩
            · exact Or.inl (by simp; omega)
          clear hgo
          rcases hor with hd | ⟨hd, hd2⟩
          all_goals
            go_wp2_with fail
            go_roundw
            case rel => exact ⟨k1 + 1, n2, by go_num, by go_num, by omega, by omega, by omega, HB2.out, HP2.out⟩
            case measure => simp [intOf]; omega
    · have hor : decide (k1 < p.funcs.length) = false ∨ (decide (k1 < p.funcs.length) = true ∧ decide (n1 < 1048576) = false) := by
        by_cases hlt : k1 < p.funcs.length
        · exact Or.inr ⟨by simpa using hlt, by simp; exact Int.not_lt.1 (fun h => hgo ⟨hlt, h⟩)⟩
        · exact Or.inl (by simp; omega)
      clear hgo
      rcases hor with hd | ⟨hd, hd2⟩
      all_goals
        go_wp2_with fail
        refine HQ.out _ _ _ ?_
        exact bodyPost_ret (v := .int .i64 n1) (by simp [results, Try.results9, go_sem]) rfl ⟨n1, rfl, by omega, by omega, HB1.out⟩
end Go.Proofs.Ytinmgbodgecoeaa
namespace Go.Proofs.Ytinmgbodgecoeaa
open Go.RowKit

set_option maxRecDepth 100000 in
set_option maxHeartbeats 8000000 in
theorem heavy14_any (ps : List VirtS) (PA IA : Option Addr) (pn pc il ic : Nat) (fuel : Int) (B : Nat) (w : World) (hB : B ≤ w.heap.size) (hps : SliceAt w B 3 (VirtE w B) ps (.slice PA pn pc)) (hpn : pn ≤ 200000000000000) (hil : il ≤ 200000000000000) (hsz : ∀ p, p ∈ ps → p.globs.length ≤ 200000000000000 ∧ ∀ g, g ∈ p.funcs → g.locs.length ≤ 200000000000000 ∧ g.ins.length ≤ 200000000000000 ∧ ∀ x, x ∈ g.ins → x.arg.length ≤ 200000000000000) :
    Calls Try.prog 4 #[.agg #[.slice PA pn pc, .slice IA il ic, .int .i64 fuel]] w fun e w' => ∃ b, e = .returned (.bool b) ∧ Below w.heap.size w w' := by
  have HP := Lib.hid hps
  have HSZ := Lib.hid hsz
  clear hps hsz
  go_enter Try.func4, Try.ntmps4
  refine wp_letter (fun Q hQ => ?_)
  have HQ := Lib.hid hQ
  clear hQ
  go_wp2_with fail
  go_loopw [3, 4] (fun a i wr => ∃ (k : Nat) (n : Int), a = .int .i64 n ∧ i = .int .i64 k ∧ k ≤ pn ∧ 0 ≤ n ∧ n ≤ 2000000000000000 ∧ Below w.heap.size w wr ∧ Row wr w.heap.size #[.slice PA pn pc, .slice IA il ic, .int .i64 fuel] 25) (fun _ i _ => pn - (intOf i).toNat)
  case atStart => exact ⟨0, il + pn, rfl, rfl, by omega, by omega, by omega, below1 _ _, Row.new w _ _⟩
  case round =>
    obtain ⟨k, n, rfl, rfl, hk2, hm0, hm1, hbw, hr⟩ := hrel
    have HBW := Lib.hid hbw
    have HR := Lib.hid hr
    have r0 := hr.cell (j := 0) rfl
    have rl := hr.lt
    have hzw := hbw.size
    by_cases hgo : k < pn ∧ n < 1048576
    · obtain ⟨hlt, hn⟩ := hgo
      obtain ⟨b, off, p, hpa, hb, hk1, hE⟩ := (HP.out.below (hbw.mono hB) (Nat.le_refl _) (fun _ _ h => h.below (hbw.mono hB) (Nat.le_refl _))).get hlt
      obtain ⟨P, c0, c1, c2, hpt⟩ := hE.at
      simp only [Nat.add_zero] at c0 c1 c2
      subst hpa
      have hs := HSZ.out p (List.mem_of_getElem? hk1)
      have HC := Lib.hid (vwgt_any p P B wr (by omega) hpt hs.1 hs.2)
      have hklt : (k : Int) < (pn : Int) := by omega
      have hd3 : decide ((k : Int) < (pn : Int)) = true := by simpa using hlt
      have hd4 : decide (n < 1048576) = true := by simpa using hn
      have hbl : b < wr.heap.size := by omega
      clear hk1 hpt hE hbw hr hs
      go_wp2_with fail
      refine HC.out.mono ?_
      rintro e w1 ⟨q, rfl, hq0, hq1, hb1⟩
      have HB1 := Lib.hid hb1
      clear hb1
      go_wp2_with fail
      go_roundw
      case rel => exact ⟨k + 1, n + q, rfl, by go_num, by omega, by omega, by omega, HBW.out.trans (HB1.out.mono hzw), HR.out.below HB1.out HR.out.lt⟩
      case measure => simp [intOf]; omega
    · have hor : decide (k < pn) = false ∨ (decide (k < pn) = true ∧ decide (n < 1048576) = false) := by
        by_cases hlt : k < pn
        · exact Or.inr ⟨by simpa using hlt, by simp; exact Int.not_lt.1 (fun h => hgo ⟨hlt, h⟩)⟩
        · exact Or.inl (by simp; omega)
      clear hgo hbw hr
      rcases hor with hd | ⟨hd, hd2⟩
      all_goals
        go_wp2_with fail
        refine HQ.out _ _ _ ?_
        exact bodyPost_ret (v := .bool (decide (9000 < n))) (by simp [results, Try.results4, go_sem]) rfl ⟨_, rfl, HBW.out⟩
end Go.Proofs.Ytinmgbodgecoeaa
namespace Go.Proofs.Ytinmgbodgecoeaa
open Go.RowKit

/-- A slice that reads as these numbers. -/
def ReadsL (w : World) (v : Value) (l : List Int) : Prop :=
  ∃ A c, v = .slice A l.length c ∧ l.length ≤ c ∧ c ≤ 9223372036854775807 ∧ (0 < l.length → ∃ b off, A = some ⟨b, off, none⟩ ∧ b < w.heap.size ∧ ∀ k x, l[k]? = some x → w.cell? ⟨b, off + k, none⟩ = some (.int .i64 x))
theorem ReadsL.below {w w' : World} {v : Value} {l : List Int} (h : ReadsL w v l) (hb : Below w.heap.size w w') : ReadsL w' v l := by
  obtain ⟨A, c, h0, h1, h2, h3⟩ := h
  refine ⟨A, c, h0, h1, h2, fun hp => ?_⟩
  obtain ⟨b, off, hA, hlt, hc⟩ := h3 hp
  have := hb.size
  exact ⟨b, off, hA, by omega, fun k x hk => cell_below (hc k x hk) hb hlt⟩
theorem ReadsL.of_own {w : World} {base : Nat} {e : TypeId} {v : Value} {l : List Int} (h : w.ownsRow base e 1 v l.length (l.map (Value.int .i64))) : ReadsL w v l := by
  have hc := fun g => h.cells (g := g)
  obtain ⟨_, h | ⟨g, c, cur, hv, _, hh, h1, h2, _⟩⟩ := h
  · exact ⟨none, 0, by rw [h.1, h.2], by omega, by omega, fun hp => by omega⟩
  · unfold maxLen at h2
    refine ⟨_, c, hv, by omega, by omega, fun hp => ⟨g, 0, rfl, Row.lt hh, fun k x hk => ?_⟩⟩
    have := hc g (by rw [hv]; rfl) k (.int .i64 x) (by rw [List.getElem?_map, hk]; rfl)
    rw [addr0] at this
    rw [Nat.zero_add]
    exact this
theorem ReadsL.of_in {w : World} {B : Nat} {v : Value} {l : List Int} (h : InW w B v l) (hB : B ≤ w.heap.size) : ReadsL w v l := by
  obtain ⟨A, c, h0, h1, h2, h3⟩ := h
  refine ⟨A, c, h0, h1, h2, fun hp => ?_⟩
  obtain ⟨b, off, hA, hlt, hc⟩ := h3 hp
  exact ⟨b, off, hA, by omega, fun k x hk => (hc k x hk).1⟩

set_option maxRecDepth 100000 in
set_option maxHeartbeats 4000000 in
theorem eqLongs_read (l : List Int) (v v' : Value) (w : World) (hv : ReadsL w v l) (hu : ReadsL w v' l) :
    Calls Try.prog 16 #[v, v'] w fun e w' => e = .returned (.bool true) ∧ Below w.heap.size w w' := by
  obtain ⟨A, c, rfl, hlc, hcm, hA⟩ := hv
  obtain ⟨A', c', rfl, _, _, hA'⟩ := hu
  have hlm : l.length ≤ 9223372036854775807 := by omega
  have hb0 : ((l.length : Int) != (l.length : Int)) = false := by simp
  have HA := Lib.hid hA
  have HA' := Lib.hid hA'
  clear hA hA'
  go_enter Try.func16, Try.ntmps16
  go_wp2_with fail
  go_loopw [5] (fun i wr => ∃ k : Nat, k ≤ l.length ∧ i = .int .i64 k ∧ Below w.heap.size w wr) (fun i _ => l.length - (intOf i).toNat)
  case atStart => exact ⟨0, by omega, rfl, Below.refl _ _⟩
  case round =>
    obtain ⟨k, hk2, rfl, hbw⟩ := hrel
    by_cases hlt : k < l.length
    · obtain ⟨x, hx⟩ : ∃ x, l[k]? = some x := ⟨_, List.getElem?_eq_getElem hlt⟩
      obtain ⟨b, off, rfl, hb, hc⟩ := HA.out (by omega)
      obtain ⟨b', off', rfl, hb', hc'⟩ := HA'.out (by omega)
      have e1 : wr.cell? ⟨b, off + k, none⟩ = some (.int .i64 x) := cell_below (hc k x hx) hbw hb
      have e2 : wr.cell? ⟨b', off' + k, none⟩ = some (.int .i64 x) := cell_below (hc' k x hx) hbw hb'
      have hklt : (k : Int) < (l.length : Int) := by omega
      have hxx : (x != x) = false := by simp
      clear hx hc hc'
      go_wp2_with fail
      go_quiet (fail)
      go_wp2_with fail
      go_roundw
      case rel => exact ⟨k + 1, by omega, by go_num, below_drewN hbw _⟩
      case measure => simp [intOf]; omega
    · obtain rfl : k = l.length := by omega
      go_wp2_with fail
      go_ret
      exact ⟨rfl, hbw⟩

set_option maxRecDepth 100000 in
set_option maxHeartbeats 4000000 in
theorem eqOut_read (o : OutS) (v v' : Value) (w : World) (hv : ReadsL w v o.out) (hu : ReadsL w v' o.out) :
    Calls Try.prog 7 #[.agg #[.int .i64 o.kind, .int .i64 o.code, v, .int .i64 o.steps, .int .i64 o.deep], .agg #[.int .i64 o.kind, .int .i64 o.code, v', .int .i64 o.steps, .int .i64 o.deep]] w fun e w' => e = .returned (.bool true) ∧ Below w.heap.size w w' := by
  have e1 : (o.kind == o.kind) = true := by simp
  have e2 : (o.code == o.code) = true := by simp
  have e3 : (o.steps == o.steps) = true := by simp
  have e4 : (o.deep == o.deep) = true := by simp
  have HV := Lib.hid hv
  have HU := Lib.hid hu
  clear hv hu
  go_enter Try.func7, Try.ntmps7
  go_wp2_with fail
  have hb := below2 w (Obj.cells #[.int .i64 o.kind, .int .i64 o.code, v, .int .i64 o.steps, .int .i64 o.deep] 28) (Obj.cells #[.int .i64 o.kind, .int .i64 o.code, v', .int .i64 o.steps, .int .i64 o.deep] 28)
  refine (eqLongs_read o.out v v' _ (HV.out.below hb) (HU.out.below hb)).mono ?_
  rintro e w1 ⟨rfl, hb1⟩
  have c3 : w1.cell? ⟨w.heap.size, 3, none⟩ = some (.int .i64 o.steps) := cell_below (by simp [go_sem]) hb1 (by simp [go_sem])
  have c4 : w1.cell? ⟨w.heap.size, 4, none⟩ = some (.int .i64 o.deep) := cell_below (by simp [go_sem]) hb1 (by simp [go_sem])
  have d3 : w1.cell? ⟨w.heap.size + 1, 3, none⟩ = some (.int .i64 o.steps) := cell_below (by simp [go_sem]) hb1 (by simp [go_sem])
  have d4 : w1.cell? ⟨w.heap.size + 1, 4, none⟩ = some (.int .i64 o.deep) := cell_below (by simp [go_sem]) hb1 (by simp [go_sem])
  have hb2 := hb.trans (hb1.mono (by simp [go_sem]; try omega))
  clear hb hb1
  go_wp2_with fail
  go_ret
  exact ⟨rfl, hb2⟩
end Go.Proofs.Ytinmgbodgecoeaa
namespace Go.Proofs.Ytinmgbodgecoeaa
open Go.RowKit Go.Deep

theorem list_of {α : Type} (n : Nat) (p : Nat → α → Prop) (h : ∀ i, i < n → ∃ x, p i x) : ∃ l : List α, l.length = n ∧ ∀ i x, l[i]? = some x → p i x := by
  induction n with
  | zero => exact ⟨[], rfl, fun i x h => by simp at h⟩
  | succ n ih =>
    obtain ⟨l, hl, hp⟩ := ih (fun i hi => h i (by omega))
    obtain ⟨x, hx⟩ := h n (by omega)
    refine ⟨l ++ [x], by simp [hl], fun i y hy => ?_⟩
    rcases Nat.lt_or_ge i l.length with hlt | hge
    · rw [List.getElem?_append_left hlt] at hy; exact hp i y hy
    · rw [List.getElem?_append_right hge] at hy
      have : i - l.length = 0 := by
        rcases Nat.eq_zero_or_pos (i - l.length) with h0 | h0
        · exact h0
        · rw [List.getElem?_eq_none (by simp; omega)] at hy; cases hy
      rw [this] at hy
      simp at hy
      subst hy
      rw [show i = n by omega]
      exact hx
theorem cs3 {cs : List Value} {v0 v1 v2 : Value} (hl : cs.length = 3) (h0 : (cs.drop 0).take 1 = [v0]) (h1 : (cs.drop 1).take 1 = [v1]) (h2 : (cs.drop 2).take 1 = [v2]) : cs = [v0, v1, v2] := by
  match cs, hl with
  | [a, b, c], _ => simp at h0 h1 h2; rw [h0, h1, h2]

section
variable {H : Type} {enc : TypeId × Value → H} {w : World} {base : Nat} {spare : Nat → Bool} {held : Bool}
def KidsRead (w : World) (B : Nat) (cs : List Value) : Prop := ∃ ts A n c, cs = [.slice A n c] ∧ KidsV w B ts A n

end
theorem weights_mem_all {H : Type} {P : Program} {e : TypeId} {d : DataW H} {n : Nat} : ∀ {l : List (DataW H)}, d ∈ l → n ∈ d.weights P e → n ∈ DataW.weightsAll P e l
  | [], h, _ => by simp at h
  | x :: l, h, hn => by
    simp only [DataW.weightsAll, List.mem_append]
    rcases List.mem_cons.1 h with rfl | h
    · exact Or.inl hn
    · exact Or.inr (weights_mem_all h hn)
end Go.Proofs.Ytinmgbodgecoeaa
namespace Go.Proofs.Ytinmgbodgecoeaa
open Go.RowKit Go.Deep

theorem take_cell {cs l : List Value} {j n i : Nat} (h : (cs.drop j).take n = l) (hi : i < l.length) : cs[j + i]? = l[i]? := by
  subst h
  rw [List.length_take] at hi
  rw [List.getElem?_take, if_pos (by omega), List.getElem?_drop]
section
variable {H : Type} {enc : TypeId × Value → H} {w : World} {base : Nat} {spare : Nat → Bool} {held : Bool}

/-- A slice of what is read: each element by 'E'; its elements weigh no more than may be. -/
theorem slice_read {te ts : TypeId} {sz by1 : Nat} {α : Type} (hts : Try.prog.underlying ts = some (.slice te)) (hce : Try.prog.cellsOf te = sz) (hby : Try.prog.bytesOf te = by1) (hsz : 0 < sz) (hb1 : 1 ≤ by1)
    (E : (Nat → Option Value) → α → Prop) (Sz : α → Prop)
    (hE : ∀ (k : Nat) (cs : List Value) (x : DataW H × List MemPlace), DataW.trod enc Try.prog w base spare held k te cs = some x → (∀ n, n ∈ x.1.weights Try.prog te → n ≤ reachBytes) → ∃ t, Sz t ∧ ∀ c : Nat → Option Value, (∀ j, j < sz → c j = cs[j]?) → E c t)
    {m : Nat} {cs : List Value} {x : DataW H × List MemPlace} (h : DataW.trod enc Try.prog w base spare held m ts cs = some x) (hw : ∀ n, n ∈ x.1.weights Try.prog ts → n ≤ reachBytes) :
    ∃ (l : List α) (A : Option Addr) (c : Nat), cs = [.slice A l.length c] ∧ SliceAt w w.heap.size sz E l (.slice A l.length c) ∧ l.length ≤ 140737488351232 ∧ l.length ≤ c ∧ c ≤ 9223372036854775807 ∧ ∀ t, t ∈ l → Sz t := by
  have hml : maxLen = 9223372036854775807 := rfl
  have hr : reachBytes = 140737488351232 := rfl
  rcases DataW.trod_slice hts h with ⟨rfl, _⟩ | ⟨a, len, cap, elems, rest, k, hk, rfl, hx, _, hl, hc, hel, he, _⟩
  · exact ⟨[], none, 0, rfl, ⟨none, 0, rfl, by simp, fun h => by simp at h⟩, by simp, by simp, by omega, fun t ht => by cases ht⟩
  · rw [hce] at he
    have hx1 : x.1 = .slice (elems.map (·.1)) (rest.map (·.1)) := by rw [hx]
    have hwl : len ≤ 140737488351232 := by
      have h1 := hw ((elems.length + rest.length) * Try.prog.bytesOf te) (by rw [hx1]; simp only [DataW.weights, hts, List.length_map, List.mem_cons, true_or])
      rw [hby, hr] at h1
      have : len ≤ (elems.length + rest.length) * by1 := Nat.le_trans (by omega) (Nat.le_mul_of_pos_right _ (by omega))
      omega
    have raw : ∀ i, i < len → ∃ t, ∃ cs', w.cells? base (a.add (i * sz)) sz = some cs' ∧ Sz t ∧ ∀ c : Nat → Option Value, (∀ j, j < sz → c j = cs'[j]?) → E c t := by
      intro i hi
      have h1 := he i hi
      rw [List.getElem?_eq_getElem (by omega)] at h1
      obtain ⟨cs', h2, h3⟩ := Option.bind_eq_some_iff.1 h1
      obtain ⟨t, ht1, ht2⟩ := hE k cs' _ h3 (fun n hn => hw n (by
        rw [hx1]
        simp only [DataW.weights, hts, List.mem_cons, List.mem_append]
        exact Or.inr (Or.inl (weights_mem_all (List.mem_map.2 ⟨_, List.getElem_mem (by omega), rfl⟩) hn))))
      exact ⟨t, cs', h2, ht1, ht2⟩
    rcases Nat.eq_zero_or_pos len with h0 | hp
    · subst h0
      exact ⟨[], some a, cap, rfl, ⟨_, cap, rfl, by simp, fun h => by simp at h⟩, by simp, by simp, by omega, fun t ht => by cases ht⟩
    · have hspot : a.spot = none ∧ a.block < w.heap.size := by
        obtain ⟨t, cs', h2, _⟩ := raw 0 hp
        have hb := World.cells?_block h2 (by omega)
        have c0 := (World.cells?_some h2).2.2 0 (by omega)
        obtain ⟨b, off, spot⟩ := a
        have hs : spot = none := by
          have hlt : 0 < cs'.length := by rw [(World.cells?_some h2).2.1]; omega
          rw [List.getElem?_eq_getElem hlt] at c0
          simpa [Addr.add] using World.cell?_spot c0
        exact ⟨hs, by simpa [Addr.add] using hb⟩
      obtain ⟨b, off, spot⟩ := a
      obtain ⟨hs, hb⟩ := hspot
      simp only at hs hb
      subst hs
      have key : ∀ i, i < len → ∃ t, Sz t ∧ E (fun j => w.cell? ⟨b, off + i * sz + j, none⟩) t := by
        intro i hi
        obtain ⟨t, cs', h2, h3, h4⟩ := raw i hi
        rw [Go.WideShapes.add_plain] at h2
        obtain ⟨_, hlen, hcell⟩ := World.cells?_some h2
        refine ⟨t, h3, h4 _ (fun j hj => ?_)⟩
        have c0 := hcell j (by omega)
        rw [Go.WideShapes.add_plain] at c0
        exact c0
      obtain ⟨l, hll, hls⟩ := list_of len (fun i t => Sz t ∧ E (fun j => w.cell? ⟨b, off + i * sz + j, none⟩) t) key
      subst hll
      exact ⟨l, some ⟨b, off, none⟩, cap, rfl, ⟨_, cap, rfl, by omega, fun _ => ⟨b, off, rfl, hb, fun i t hi => (hls i t hi).2⟩⟩, hwl, by omega, by omega, fun t ht => by obtain ⟨i, hi⟩ := List.mem_iff_getElem?.1 ht; exact (hls i t hi).1⟩
end
end Go.Proofs.Ytinmgbodgecoeaa
namespace Go.Proofs.Ytinmgbodgecoeaa
open Go.RowKit

mutual
def T.few : T → Prop
  | .node _ _ ks => ks.length * 40 ≤ 140737488351232 ∧ T.fews ks
def T.fews : List T → Prop
  | [] => True
  | k :: ks => T.few k ∧ T.fews ks
end
theorem T.fews_get : ∀ {ks : List T} {i : Nat} {k : T}, T.fews ks → ks[i]? = some k → T.few k
  | [], i, k, _, h => by simp at h
  | a :: r, 0, k, hf, h => by simp at h; subst h; rw [T.fews] at hf; exact hf.1
  | a :: r, i + 1, k, hf, h => by rw [T.fews] at hf; exact T.fews_get hf.2 (by simpa using h)
theorem T.fews_of : ∀ {ks : List T}, (∀ (i : Nat) (k : T), ks[i]? = some k → T.few k) → T.fews ks
  | [], _ => by rw [T.fews]; trivial
  | a :: r, h => by rw [T.fews]; exact ⟨h 0 a rfl, T.fews_of (fun i k hk => h (i + 1) k (by simpa using hk))⟩
/-- Obj: lists of a size that memory may hold. -/
def ObjF (x : ObS) : Prop := x.init.length * 8 ≤ 140737488351232
/-- Step: lists of a size that memory may hold. -/
def StepF (x : StepS) : Prop := x.args.length * 40 ≤ 140737488351232 ∧ T.fews x.args
/-- Block: lists of a size that memory may hold. -/
def BlockF (x : BlockS) : Prop := x.steps.length * 56 ≤ 140737488351232 ∧ (∀ y, y ∈ x.steps → StepF y) ∧ T.few x.cond
/-- Graph: lists of a size that memory may hold. -/
def GraphF (x : GraphS) : Prop := x.locs.length * 40 ≤ 140737488351232 ∧ (∀ y, y ∈ x.locs → ObjF y) ∧ x.blocks.length * 88 ≤ 140737488351232 ∧ (∀ y, y ∈ x.blocks → BlockF y)
/-- Prog: lists of a size that memory may hold. -/
def ProgF (x : ProgS) : Prop := x.globs.length * 40 ≤ 140737488351232 ∧ (∀ y, y ∈ x.globs → ObjF y) ∧ x.funcs.length * 64 ≤ 140737488351232 ∧ (∀ y, y ∈ x.funcs → GraphF y)
end Go.Proofs.Ytinmgbodgecoeaa
namespace Go.Proofs.Ytinmgbodgecoeaa
open Go.RowKit

/-- Ins: lists of a size that memory may hold. -/
def InsF (x : InsS) : Prop := x.arg.length * 8 ≤ 140737488351232
/-- Code: lists of a size that memory may hold. -/
def CodeF (x : CodeS) : Prop := x.locs.length * 40 ≤ 140737488351232 ∧ (∀ y, y ∈ x.locs → ObjF y) ∧ x.ins.length * 64 ≤ 140737488351232 ∧ (∀ y, y ∈ x.ins → InsF y)
/-- Virt: lists of a size that memory may hold. -/
def VirtF (x : VirtS) : Prop := x.globs.length * 40 ≤ 140737488351232 ∧ (∀ y, y ∈ x.globs → ObjF y) ∧ x.funcs.length * 64 ≤ 140737488351232 ∧ (∀ y, y ∈ x.funcs → CodeF y)
end Go.Proofs.Ytinmgbodgecoeaa
namespace Go.Proofs.Ytinmgbodgecoeaa
open Go.RowKit Go.Deep

section
variable {H : Type} {enc : TypeId × Value → H} {w : World} {base : Nat} {spare : Nat → Bool} {held : Bool}
theorem sliceF_read {te ts : TypeId} {sz by1 : Nat} {α : Type} (hts : Try.prog.underlying ts = some (.slice te)) (hce : Try.prog.cellsOf te = sz) (hby : Try.prog.bytesOf te = by1) (hsz : 0 < sz) (hb1 : 1 ≤ by1)
    (E : (Nat → Option Value) → α → Prop) (Sz : α → Prop)
    (hE : ∀ (k : Nat) (cs : List Value) (x : DataW H × List MemPlace), DataW.trod enc Try.prog w base spare held k te cs = some x → (∀ n, n ∈ x.1.weights Try.prog te → n ≤ reachBytes) → ∃ t, Sz t ∧ ∀ c : Nat → Option Value, (∀ j, j < sz → c j = cs[j]?) → E c t)
    {m : Nat} {cs : List Value} {x : DataW H × List MemPlace} (h : DataW.trod enc Try.prog w base spare held m ts cs = some x) (hw : ∀ n, n ∈ x.1.weights Try.prog ts → n ≤ reachBytes) :
    ∃ (l : List α) (A : Option Addr) (c : Nat), cs = [.slice A l.length c] ∧ SliceAt w w.heap.size sz E l (.slice A l.length c) ∧ l.length * by1 ≤ 140737488351232 ∧ l.length ≤ c ∧ c ≤ 9223372036854775807 ∧ ∀ t, t ∈ l → Sz t := by
  have hml : maxLen = 9223372036854775807 := rfl
  have hr : reachBytes = 140737488351232 := rfl
  rcases DataW.trod_slice hts h with ⟨rfl, _⟩ | ⟨a, len, cap, elems, rest, k, hk, rfl, hx, _, hl, hc, hel, he, _⟩
  · exact ⟨[], none, 0, rfl, ⟨none, 0, rfl, by simp, fun h => by simp at h⟩, by simp, by simp, by omega, fun t ht => by cases ht⟩
  · rw [hce] at he
    have hx1 : x.1 = .slice (elems.map (·.1)) (rest.map (·.1)) := by rw [hx]
    have hwl : len * by1 ≤ 140737488351232 := by
      have h1 := hw ((elems.length + rest.length) * Try.prog.bytesOf te) (by rw [hx1]; simp only [DataW.weights, hts, List.length_map, List.mem_cons, true_or])
      rw [hby, hr] at h1
      exact Nat.le_trans (Nat.mul_le_mul_right _ (by omega)) h1
    have raw : ∀ i, i < len → ∃ t, ∃ cs', w.cells? base (a.add (i * sz)) sz = some cs' ∧ Sz t ∧ ∀ c : Nat → Option Value, (∀ j, j < sz → c j = cs'[j]?) → E c t := by
      intro i hi
      have h1 := he i hi
      rw [List.getElem?_eq_getElem (by omega)] at h1
      obtain ⟨cs', h2, h3⟩ := Option.bind_eq_some_iff.1 h1
      obtain ⟨t, ht1, ht2⟩ := hE k cs' _ h3 (fun n hn => hw n (by
        rw [hx1]
        simp only [DataW.weights, hts, List.mem_cons, List.mem_append]
        exact Or.inr (Or.inl (weights_mem_all (List.mem_map.2 ⟨_, List.getElem_mem (by omega), rfl⟩) hn))))
      exact ⟨t, cs', h2, ht1, ht2⟩
    rcases Nat.eq_zero_or_pos len with h0 | hp
    · subst h0
      exact ⟨[], some a, cap, rfl, ⟨_, cap, rfl, by simp, fun h => by simp at h⟩, by simp, by simp, by omega, fun t ht => by cases ht⟩
    · have hspot : a.spot = none ∧ a.block < w.heap.size := by
        obtain ⟨t, cs', h2, _⟩ := raw 0 hp
        have hb := World.cells?_block h2 (by omega)
        have c0 := (World.cells?_some h2).2.2 0 (by omega)
        obtain ⟨b, off, spot⟩ := a
        have hs : spot = none := by
          have hlt : 0 < cs'.length := by rw [(World.cells?_some h2).2.1]; omega
          rw [List.getElem?_eq_getElem hlt] at c0
          simpa [Addr.add] using World.cell?_spot c0
        exact ⟨hs, by simpa [Addr.add] using hb⟩
      obtain ⟨b, off, spot⟩ := a
      obtain ⟨hs, hb⟩ := hspot
      simp only at hs hb
      subst hs
      have key : ∀ i, i < len → ∃ t, Sz t ∧ E (fun j => w.cell? ⟨b, off + i * sz + j, none⟩) t := by
        intro i hi
        obtain ⟨t, cs', h2, h3, h4⟩ := raw i hi
        rw [Go.WideShapes.add_plain] at h2
        obtain ⟨_, hlen, hcell⟩ := World.cells?_some h2
        refine ⟨t, h3, h4 _ (fun j hj => ?_)⟩
        have c0 := hcell j (by omega)
        rw [Go.WideShapes.add_plain] at c0
        exact c0
      obtain ⟨l, hll, hls⟩ := list_of len (fun i t => Sz t ∧ E (fun j => w.cell? ⟨b, off + i * sz + j, none⟩) t) key
      subst hll
      exact ⟨l, some ⟨b, off, none⟩, cap, rfl, ⟨_, cap, rfl, by omega, fun _ => ⟨b, off, rfl, hb, fun i t hi => (hls i t hi).2⟩⟩, hwl, by omega, by omega, fun t ht => by obtain ⟨i, hi⟩ := List.mem_iff_getElem?.1 ht; exact (hls i t hi).1⟩
theorem longF_read {k : Nat} {cs : List Value} {x : DataW H × List MemPlace} (h : DataW.trod enc Try.prog w base spare held k 2 cs = some x) : ∃ t : Int, True ∧ ∀ c : Nat → Option Value, (∀ j, j < 1 → c j = cs[j]?) → c 0 = some (.int .i64 t) ∧ In64 t := by
  obtain ⟨a, e, _, w0⟩ := DataW.trod_int Try.underlying2 h
  exact ⟨a, trivial, fun c hc => ⟨by rw [hc 0 (by omega), e]; rfl, in64_of_wf w0⟩⟩
theorem longsF_read {m : Nat} {cs : List Value} {x : DataW H × List MemPlace} (h : DataW.trod enc Try.prog w base spare held m 23 cs = some x) (hw : ∀ n, n ∈ x.1.weights Try.prog 23 → n ≤ reachBytes) :
    ∃ l A c, cs = [.slice A l.length c] ∧ SliceAt w w.heap.size 1 (fun c x => c 0 = some (.int .i64 x) ∧ In64 x) l (.slice A l.length c) ∧ l.length * 8 ≤ 140737488351232 ∧ l.length ≤ c ∧ c ≤ 9223372036854775807 ∧ ∀ t, t ∈ l → True :=
  sliceF_read Try.underlying23 (by kernel_rfl) (by1 := 8) (by kernel_rfl) (by omega) (by omega) (fun c x => c 0 = some (.int .i64 x) ∧ In64 x) (fun t => True) (fun k cs x h hw => longF_read h) h hw
theorem numF_read {k : Nat} {cs : List Value} {x : DataW H × List MemPlace} (h : DataW.trod enc Try.prog w base spare held k 3 cs = some x) : ∃ t : Int, True ∧ ∀ c : Nat → Option Value, (∀ j, j < 1 → c j = cs[j]?) → c 0 = some (.int .i64 t) ∧ In64 t := by
  obtain ⟨a, e, _, w0⟩ := DataW.trod_int Try.underlying3 h
  exact ⟨a, trivial, fun c hc => ⟨by rw [hc 0 (by omega), e]; rfl, in64_of_wf w0⟩⟩
theorem numsF_read {m : Nat} {cs : List Value} {x : DataW H × List MemPlace} (h : DataW.trod enc Try.prog w base spare held m 66 cs = some x) (hw : ∀ n, n ∈ x.1.weights Try.prog 66 → n ≤ reachBytes) :
    ∃ l A c, cs = [.slice A l.length c] ∧ SliceAt w w.heap.size 1 (fun c x => c 0 = some (.int .i64 x) ∧ In64 x) l (.slice A l.length c) ∧ l.length * 8 ≤ 140737488351232 ∧ l.length ≤ c ∧ c ≤ 9223372036854775807 ∧ ∀ t, t ∈ l → True :=
  sliceF_read Try.underlying66 (by kernel_rfl) (by1 := 8) (by kernel_rfl) (by omega) (by omega) (fun c x => c 0 = some (.int .i64 x) ∧ In64 x) (fun t => True) (fun k cs x h hw => numF_read h) h hw
theorem objF_read {k : Nat} {cs : List Value} {x : DataW H × List MemPlace} (h : DataW.trod enc Try.prog w base spare held k 75 cs = some x) (hw : ∀ n, n ∈ x.1.weights Try.prog 75 → n ≤ reachBytes) :
    ∃ o : ObS, ObjF o ∧ ∀ c : Nat → Option Value, (∀ j, j < 3 → c j = cs[j]?) → ObE w w.heap.size c o := by
  obtain ⟨xs, m, _, hxe, hl, hxs, hf⟩ := DataW.trod_struct Try.underlying75 h
  have hc0 : Try.prog.cellsOf 3 = 1 := by kernel_rfl
  have hc1 : Try.prog.cellsOf 23 = 1 := by kernel_rfl
  have f0 : DataW.trod enc Try.prog w base spare held m 3 ((cs.drop 0).take (Try.prog.cellsOf 3)) = xs[0]? := hf 0 _ rfl
  rw [hc0] at f0
  have f1 : DataW.trod enc Try.prog w base spare held m 3 ((cs.drop 1).take (Try.prog.cellsOf 3)) = xs[1]? := hf 1 _ rfl
  rw [hc0] at f1
  have f2 : DataW.trod enc Try.prog w base spare held m 23 ((cs.drop 2).take (Try.prog.cellsOf 23)) = xs[2]? := hf 2 _ rfl
  rw [hc1] at f2
  obtain ⟨x0, x1, x2, rfl⟩ : ∃ x0 x1 x2, xs = [x0, x1, x2] := by
    match xs, hxs with
    | [p, q, r], _ => exact ⟨p, q, r, rfl⟩
  have hx1 : x.1 = .agg [x0.1, x1.1, x2.1] := by rw [hxe]; rfl
  have hwt : ∀ n, n ∈ x0.1.weights Try.prog 3 ++ x1.1.weights Try.prog 3 ++ x2.1.weights Try.prog 23 → n ≤ reachBytes := fun n hn => hw n (by
    rw [hx1]
    simp only [DataW.weights, Try.underlying75, List.map_cons, List.map_nil, DataW.weightsEach, List.append_nil]
    simpa using hn)
  obtain ⟨v0, e0, _, i0⟩ := DataW.trod_int Try.underlying3 f0
  have h0 := take_cell e0 (i := 0) (by simp)
  obtain ⟨v1, e1, _, i1⟩ := DataW.trod_int Try.underlying3 f1
  have h1 := take_cell e1 (i := 0) (by simp)
  obtain ⟨v2, A2, c2, e2, r2, z2, _, _, y2⟩ := longsF_read f2 (fun n hn => hwt n (by simp [hn]))
  have h2 := take_cell e2 (i := 0) (by simp)
  simp at h0 h1 h2
  exact ⟨⟨v0, v1, v2⟩, z2, fun c hc => ⟨by rw [hc 0 (by omega), h0], by rw [hc 1 (by omega), h1], ⟨_, by rw [hc 2 (by omega), h2], r2⟩, in64_of_wf i0, in64_of_wf i1⟩⟩
theorem objsF_read {m : Nat} {cs : List Value} {x : DataW H × List MemPlace} (h : DataW.trod enc Try.prog w base spare held m 32 cs = some x) (hw : ∀ n, n ∈ x.1.weights Try.prog 32 → n ≤ reachBytes) :
    ∃ l A c, cs = [.slice A l.length c] ∧ SliceAt w w.heap.size 3 (ObE w w.heap.size) l (.slice A l.length c) ∧ l.length * 40 ≤ 140737488351232 ∧ l.length ≤ c ∧ c ≤ 9223372036854775807 ∧ ∀ t, t ∈ l → ObjF t :=
  sliceF_read Try.underlying32 (by kernel_rfl) (by1 := 40) (by kernel_rfl) (by omega) (by omega) (ObE w w.heap.size) (fun t => ObjF t) (fun k cs x h hw => objF_read h hw) h hw
theorem insF_read {k : Nat} {cs : List Value} {x : DataW H × List MemPlace} (h : DataW.trod enc Try.prog w base spare held k 68 cs = some x) (hw : ∀ n, n ∈ x.1.weights Try.prog 68 → n ≤ reachBytes) :
    ∃ o : InsS, InsF o ∧ ∀ c : Nat → Option Value, (∀ j, j < 6 → c j = cs[j]?) → InsE w w.heap.size c o := by
  obtain ⟨xs, m, _, hxe, hl, hxs, hf⟩ := DataW.trod_struct Try.underlying68 h
  have hc0 : Try.prog.cellsOf 3 = 1 := by kernel_rfl
  have hc1 : Try.prog.cellsOf 2 = 1 := by kernel_rfl
  have hc2 : Try.prog.cellsOf 66 = 1 := by kernel_rfl
  have f0 : DataW.trod enc Try.prog w base spare held m 3 ((cs.drop 0).take (Try.prog.cellsOf 3)) = xs[0]? := hf 0 _ rfl
  rw [hc0] at f0
  have f1 : DataW.trod enc Try.prog w base spare held m 3 ((cs.drop 1).take (Try.prog.cellsOf 3)) = xs[1]? := hf 1 _ rfl
  rw [hc0] at f1
  have f2 : DataW.trod enc Try.prog w base spare held m 3 ((cs.drop 2).take (Try.prog.cellsOf 3)) = xs[2]? := hf 2 _ rfl
  rw [hc0] at f2
  have f3 : DataW.trod enc Try.prog w base spare held m 3 ((cs.drop 3).take (Try.prog.cellsOf 3)) = xs[3]? := hf 3 _ rfl
  rw [hc0] at f3
  have f4 : DataW.trod enc Try.prog w base spare held m 2 ((cs.drop 4).take (Try.prog.cellsOf 2)) = xs[4]? := hf 4 _ rfl
  rw [hc1] at f4
  have f5 : DataW.trod enc Try.prog w base spare held m 66 ((cs.drop 5).take (Try.prog.cellsOf 66)) = xs[5]? := hf 5 _ rfl
  rw [hc2] at f5
  obtain ⟨x0, x1, x2, x3, x4, x5, rfl⟩ : ∃ x0 x1 x2 x3 x4 x5, xs = [x0, x1, x2, x3, x4, x5] := by
    match xs, hxs with
    | [p, q, r, s, t, u], _ => exact ⟨p, q, r, s, t, u, rfl⟩
  have hx1 : x.1 = .agg [x0.1, x1.1, x2.1, x3.1, x4.1, x5.1] := by rw [hxe]; rfl
  have hwt : ∀ n, n ∈ x0.1.weights Try.prog 3 ++ x1.1.weights Try.prog 3 ++ x2.1.weights Try.prog 3 ++ x3.1.weights Try.prog 3 ++ x4.1.weights Try.prog 2 ++ x5.1.weights Try.prog 66 → n ≤ reachBytes := fun n hn => hw n (by
    rw [hx1]
    simp only [DataW.weights, Try.underlying68, List.map_cons, List.map_nil, DataW.weightsEach, List.append_nil]
    simpa using hn)
  obtain ⟨v0, e0, _, i0⟩ := DataW.trod_int Try.underlying3 f0
  have h0 := take_cell e0 (i := 0) (by simp)
  obtain ⟨v1, e1, _, i1⟩ := DataW.trod_int Try.underlying3 f1
  have h1 := take_cell e1 (i := 0) (by simp)
  obtain ⟨v2, e2, _, i2⟩ := DataW.trod_int Try.underlying3 f2
  have h2 := take_cell e2 (i := 0) (by simp)
  obtain ⟨v3, e3, _, i3⟩ := DataW.trod_int Try.underlying3 f3
  have h3 := take_cell e3 (i := 0) (by simp)
  obtain ⟨v4, e4, _, i4⟩ := DataW.trod_int Try.underlying2 f4
  have h4 := take_cell e4 (i := 0) (by simp)
  obtain ⟨v5, A5, c5, e5, r5, z5, _, _, y5⟩ := numsF_read f5 (fun n hn => hwt n (by simp [hn]))
  have h5 := take_cell e5 (i := 0) (by simp)
  simp at h0 h1 h2 h3 h4 h5
  exact ⟨⟨v0, v1, v2, v3, v4, v5⟩, z5, fun c hc => ⟨by rw [hc 0 (by omega), h0], by rw [hc 1 (by omega), h1], by rw [hc 2 (by omega), h2], by rw [hc 3 (by omega), h3], by rw [hc 4 (by omega), h4], ⟨_, by rw [hc 5 (by omega), h5], r5⟩, in64_of_wf i0, in64_of_wf i1, in64_of_wf i2, in64_of_wf i3, in64_of_wf i4⟩⟩
theorem inssF_read {m : Nat} {cs : List Value} {x : DataW H × List MemPlace} (h : DataW.trod enc Try.prog w base spare held m 53 cs = some x) (hw : ∀ n, n ∈ x.1.weights Try.prog 53 → n ≤ reachBytes) :
    ∃ l A c, cs = [.slice A l.length c] ∧ SliceAt w w.heap.size 6 (InsE w w.heap.size) l (.slice A l.length c) ∧ l.length * 64 ≤ 140737488351232 ∧ l.length ≤ c ∧ c ≤ 9223372036854775807 ∧ ∀ t, t ∈ l → InsF t :=
  sliceF_read Try.underlying53 (by kernel_rfl) (by1 := 64) (by kernel_rfl) (by omega) (by omega) (InsE w w.heap.size) (fun t => InsF t) (fun k cs x h hw => insF_read h hw) h hw
theorem codeF_read {k : Nat} {cs : List Value} {x : DataW H × List MemPlace} (h : DataW.trod enc Try.prog w base spare held k 55 cs = some x) (hw : ∀ n, n ∈ x.1.weights Try.prog 55 → n ≤ reachBytes) :
    ∃ o : CodeS, CodeF o ∧ ∀ c : Nat → Option Value, (∀ j, j < 4 → c j = cs[j]?) → CodeE w w.heap.size c o := by
  obtain ⟨xs, m, _, hxe, hl, hxs, hf⟩ := DataW.trod_struct Try.underlying55 h
  have hc0 : Try.prog.cellsOf 3 = 1 := by kernel_rfl
  have hc1 : Try.prog.cellsOf 32 = 1 := by kernel_rfl
  have hc2 : Try.prog.cellsOf 53 = 1 := by kernel_rfl
  have f0 : DataW.trod enc Try.prog w base spare held m 3 ((cs.drop 0).take (Try.prog.cellsOf 3)) = xs[0]? := hf 0 _ rfl
  rw [hc0] at f0
  have f1 : DataW.trod enc Try.prog w base spare held m 3 ((cs.drop 1).take (Try.prog.cellsOf 3)) = xs[1]? := hf 1 _ rfl
  rw [hc0] at f1
  have f2 : DataW.trod enc Try.prog w base spare held m 32 ((cs.drop 2).take (Try.prog.cellsOf 32)) = xs[2]? := hf 2 _ rfl
  rw [hc1] at f2
  have f3 : DataW.trod enc Try.prog w base spare held m 53 ((cs.drop 3).take (Try.prog.cellsOf 53)) = xs[3]? := hf 3 _ rfl
  rw [hc2] at f3
  obtain ⟨x0, x1, x2, x3, rfl⟩ : ∃ x0 x1 x2 x3, xs = [x0, x1, x2, x3] := by
    match xs, hxs with
    | [p, q, r, s], _ => exact ⟨p, q, r, s, rfl⟩
  have hx1 : x.1 = .agg [x0.1, x1.1, x2.1, x3.1] := by rw [hxe]; rfl
  have hwt : ∀ n, n ∈ x0.1.weights Try.prog 3 ++ x1.1.weights Try.prog 3 ++ x2.1.weights Try.prog 32 ++ x3.1.weights Try.prog 53 → n ≤ reachBytes := fun n hn => hw n (by
    rw [hx1]
    simp only [DataW.weights, Try.underlying55, List.map_cons, List.map_nil, DataW.weightsEach, List.append_nil]
    simpa using hn)
  obtain ⟨v0, e0, _, i0⟩ := DataW.trod_int Try.underlying3 f0
  have h0 := take_cell e0 (i := 0) (by simp)
  obtain ⟨v1, e1, _, i1⟩ := DataW.trod_int Try.underlying3 f1
  have h1 := take_cell e1 (i := 0) (by simp)
  obtain ⟨v2, A2, c2, e2, r2, z2, _, _, y2⟩ := objsF_read f2 (fun n hn => hwt n (by simp [hn]))
  have h2 := take_cell e2 (i := 0) (by simp)
  obtain ⟨v3, A3, c3, e3, r3, z3, _, _, y3⟩ := inssF_read f3 (fun n hn => hwt n (by simp [hn]))
  have h3 := take_cell e3 (i := 0) (by simp)
  simp at h0 h1 h2 h3
  exact ⟨⟨v0, v1, v2, v3⟩, ⟨z2, y2, z3, y3⟩, fun c hc => ⟨by rw [hc 0 (by omega), h0], by rw [hc 1 (by omega), h1], ⟨_, by rw [hc 2 (by omega), h2], r2⟩, ⟨_, by rw [hc 3 (by omega), h3], r3⟩, in64_of_wf i0, in64_of_wf i1⟩⟩
theorem codesF_read {m : Nat} {cs : List Value} {x : DataW H × List MemPlace} (h : DataW.trod enc Try.prog w base spare held m 33 cs = some x) (hw : ∀ n, n ∈ x.1.weights Try.prog 33 → n ≤ reachBytes) :
    ∃ l A c, cs = [.slice A l.length c] ∧ SliceAt w w.heap.size 4 (CodeE w w.heap.size) l (.slice A l.length c) ∧ l.length * 64 ≤ 140737488351232 ∧ l.length ≤ c ∧ c ≤ 9223372036854775807 ∧ ∀ t, t ∈ l → CodeF t :=
  sliceF_read Try.underlying33 (by kernel_rfl) (by1 := 64) (by kernel_rfl) (by omega) (by omega) (CodeE w w.heap.size) (fun t => CodeF t) (fun k cs x h hw => codeF_read h hw) h hw
theorem virtF_read {k : Nat} {cs : List Value} {x : DataW H × List MemPlace} (h : DataW.trod enc Try.prog w base spare held k 35 cs = some x) (hw : ∀ n, n ∈ x.1.weights Try.prog 35 → n ≤ reachBytes) :
    ∃ o : VirtS, VirtF o ∧ ∀ c : Nat → Option Value, (∀ j, j < 3 → c j = cs[j]?) → VirtE w w.heap.size c o := by
  obtain ⟨xs, m, _, hxe, hl, hxs, hf⟩ := DataW.trod_struct Try.underlying35 h
  have hc0 : Try.prog.cellsOf 32 = 1 := by kernel_rfl
  have hc1 : Try.prog.cellsOf 33 = 1 := by kernel_rfl
  have hc2 : Try.prog.cellsOf 3 = 1 := by kernel_rfl
  have f0 : DataW.trod enc Try.prog w base spare held m 32 ((cs.drop 0).take (Try.prog.cellsOf 32)) = xs[0]? := hf 0 _ rfl
  rw [hc0] at f0
  have f1 : DataW.trod enc Try.prog w base spare held m 33 ((cs.drop 1).take (Try.prog.cellsOf 33)) = xs[1]? := hf 1 _ rfl
  rw [hc1] at f1
  have f2 : DataW.trod enc Try.prog w base spare held m 3 ((cs.drop 2).take (Try.prog.cellsOf 3)) = xs[2]? := hf 2 _ rfl
  rw [hc2] at f2
  obtain ⟨x0, x1, x2, rfl⟩ : ∃ x0 x1 x2, xs = [x0, x1, x2] := by
    match xs, hxs with
    | [p, q, r], _ => exact ⟨p, q, r, rfl⟩
  have hx1 : x.1 = .agg [x0.1, x1.1, x2.1] := by rw [hxe]; rfl
  have hwt : ∀ n, n ∈ x0.1.weights Try.prog 32 ++ x1.1.weights Try.prog 33 ++ x2.1.weights Try.prog 3 → n ≤ reachBytes := fun n hn => hw n (by
    rw [hx1]
    simp only [DataW.weights, Try.underlying35, List.map_cons, List.map_nil, DataW.weightsEach, List.append_nil]
    simpa using hn)
  obtain ⟨v0, A0, c0, e0, r0, z0, _, _, y0⟩ := objsF_read f0 (fun n hn => hwt n (by simp [hn]))
  have h0 := take_cell e0 (i := 0) (by simp)
  obtain ⟨v1, A1, c1, e1, r1, z1, _, _, y1⟩ := codesF_read f1 (fun n hn => hwt n (by simp [hn]))
  have h1 := take_cell e1 (i := 0) (by simp)
  obtain ⟨v2, e2, _, i2⟩ := DataW.trod_int Try.underlying3 f2
  have h2 := take_cell e2 (i := 0) (by simp)
  simp at h0 h1 h2
  exact ⟨⟨v0, v1, v2⟩, ⟨z0, y0, z1, y1⟩, fun c hc => ⟨⟨_, by rw [hc 0 (by omega), h0], r0⟩, ⟨_, by rw [hc 1 (by omega), h1], r1⟩, by rw [hc 2 (by omega), h2], in64_of_wf i2⟩⟩
theorem virtsF_read {m : Nat} {cs : List Value} {x : DataW H × List MemPlace} (h : DataW.trod enc Try.prog w base spare held m 22 cs = some x) (hw : ∀ n, n ∈ x.1.weights Try.prog 22 → n ≤ reachBytes) :
    ∃ l A c, cs = [.slice A l.length c] ∧ SliceAt w w.heap.size 3 (VirtE w w.heap.size) l (.slice A l.length c) ∧ l.length * 56 ≤ 140737488351232 ∧ l.length ≤ c ∧ c ≤ 9223372036854775807 ∧ ∀ t, t ∈ l → VirtF t :=
  sliceF_read Try.underlying22 (by kernel_rfl) (by1 := 56) (by kernel_rfl) (by omega) (by omega) (VirtE w w.heap.size) (fun t => VirtF t) (fun k cs x h hw => virtF_read h hw) h hw
theorem ask14F_trod {k : Nat} {cs : List Value} {x : DataW H × List MemPlace} (h : DataW.trod enc Try.prog w base spare held k 25 cs = some x) (hw : ∀ n, n ∈ x.1.weights Try.prog 25 → n ≤ reachBytes) :
    ∃ (ps : List VirtS) (inp : List Int) (PA IA : Option Addr) (pc ic : Nat) (fu : Int), cs = [.slice PA ps.length pc, .slice IA inp.length ic, .int .i64 fu] ∧ SliceAt w w.heap.size 3 (VirtE w w.heap.size) ps (.slice PA ps.length pc) ∧ ps.length * 56 ≤ 140737488351232 ∧ inp.length * 8 ≤ 140737488351232 ∧ (∀ t, t ∈ ps → VirtF t) ∧ inp.length ≤ ic ∧ ic ≤ 9223372036854775807 ∧ LongsAt w w.heap.size inp (.slice IA inp.length ic) ∧ In64 fu := by
  obtain ⟨xs, m, _, hxe, hl, hxs, hf⟩ := DataW.trod_struct Try.underlying25 h
  have hc0 : Try.prog.cellsOf 22 = 1 := by kernel_rfl
  have hc1 : Try.prog.cellsOf 23 = 1 := by kernel_rfl
  have hc2 : Try.prog.cellsOf 3 = 1 := by kernel_rfl
  have f0 : DataW.trod enc Try.prog w base spare held m 22 ((cs.drop 0).take (Try.prog.cellsOf 22)) = xs[0]? := hf 0 _ rfl
  rw [hc0] at f0
  have f1 : DataW.trod enc Try.prog w base spare held m 23 ((cs.drop 1).take (Try.prog.cellsOf 23)) = xs[1]? := hf 1 _ rfl
  rw [hc1] at f1
  have f2 : DataW.trod enc Try.prog w base spare held m 3 ((cs.drop 2).take (Try.prog.cellsOf 3)) = xs[2]? := hf 2 _ rfl
  rw [hc2] at f2
  obtain ⟨x0, x1, x2, rfl⟩ : ∃ x0 x1 x2, xs = [x0, x1, x2] := by
    match xs, hxs with
    | [a, b, c], _ => exact ⟨a, b, c, rfl⟩
  have hx1 : x.1 = .agg [x0.1, x1.1, x2.1] := by rw [hxe]; rfl
  have hwt : ∀ n, n ∈ x0.1.weights Try.prog 22 ++ x1.1.weights Try.prog 23 ++ x2.1.weights Try.prog 3 → n ≤ reachBytes := fun n hn => hw n (by
    rw [hx1]
    simp only [DataW.weights, Try.underlying25, List.map_cons, List.map_nil, DataW.weightsEach, List.append_nil]
    simpa using hn)
  obtain ⟨v0, A0, c0, e0, s0, l0, q0, q0', z0⟩ := virtsF_read f0 (fun n hn => hwt n (by simp [hn]))
  obtain ⟨v1, A1, c1, e1, s1, l1, q1, q1', z1⟩ := longsF_read f1 (fun n hn => hwt n (by simp [hn]))
  obtain ⟨v2, e2, _, w2⟩ := DataW.trod_int Try.underlying3 f2
  have hce : Try.prog.cellsOf 25 = 3 := by kernel_rfl
  rw [hce] at hl
  exact ⟨v0, v1, A0, A1, c0, c1, v2, cs3 hl e0 e1 e2, s0, l0, l1, z0, q1, q1', s1, in64_of_wf w2⟩
end
theorem ask14F_read {H : Type} {enc : TypeId × Value → H} {w : World} {v : Value} {d : DataW H} {ps : List MemPlace} {cs : Array Value} (hv : v = .agg cs) (h : DataW.Trod enc Try.prog w 0 (fun _ => true) true 25 v d ps)
    (hsz : (DataW.weightsEach Try.prog [25] [d]).all (· ≤ reachBytes) = true) :
    ∃ (ps : List VirtS) (inp : List Int) (PA IA : Option Addr) (pc ic : Nat) (fu : Int), v = .agg #[.slice PA ps.length pc, .slice IA inp.length ic, .int .i64 fu] ∧ SliceAt w w.heap.size 3 (VirtE w w.heap.size) ps (.slice PA ps.length pc) ∧ ps.length * 56 ≤ 140737488351232 ∧ inp.length * 8 ≤ 140737488351232 ∧ (∀ t, t ∈ ps → VirtF t) ∧ inp.length ≤ ic ∧ ic ≤ 9223372036854775807 ∧ LongsAt w w.heap.size inp (.slice IA inp.length ic) ∧ In64 fu := by
  subst hv
  obtain ⟨m, h⟩ := h
  obtain ⟨ps', inp, PA, IA, pc, ic, fu, e, rest⟩ := ask14F_trod h (fun n hn => by
    have := List.all_eq_true.1 hsz n (DataW.weights_mem_each (j := 0) rfl rfl n hn)
    simpa using this)
  refine ⟨ps', inp, PA, IA, pc, ic, fu, ?_, rest⟩
  have e' : cs.toList = [.slice PA ps'.length pc, .slice IA inp.length ic, .int .i64 fu] := by simpa [Value.cells] using e
  rw [← Array.toArray_toList (xs := cs), e']
end Go.Proofs.Ytinmgbodgecoeaa
