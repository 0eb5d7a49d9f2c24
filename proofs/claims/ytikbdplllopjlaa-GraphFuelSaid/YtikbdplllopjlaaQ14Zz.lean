/- gantletlaw7.Heavy: it answers. Conditions: as stated. EqLongs, EqOutcome: of what reads the same. Conditions: as stated. Begins: of what begins so. Conditions: as stated. What is read as trees lies in memory as trees. No condition. What is read as programs lies in memory as programs. No condition. What is read as programs, as asks of programs, lies in memory as programs. No condition. -/
import Derived.Test.YtikbdplllopjlaaPWgtZz
import Derived.Test.YtikbdplllopjlaaQ01Zz
import Derived.Test.YtikbdplllopjlaaQ02Zz
import Derived.SizedLaws
import Derived.Deep.Slices
import Derived.Deep.Strs
import Derived.ProofKit
set_option linter.unusedVariables false
set_option linter.unusedSimpArgs false
namespace Go.Proofs.Ytikbdplllopjlaa
open Go.RowKit

theorem ProgE.at {w : World} {B : Nat} {c : Nat → Option Value} {p : ProgS} (h : ProgE w B c p) : ∃ P : Value × Value × Value, c 0 = some P.1 ∧ c 1 = some P.2.1 ∧ c 2 = some P.2.2 ∧ ProgAt w B P p := by
  obtain ⟨⟨v, h0, h1⟩, ⟨u, h2, h3⟩, h4, h5⟩ := h
  exact ⟨(v, u, .int .i64 p.main), h0, h2, h4, h1, h3, rfl, h5⟩

set_option maxRecDepth 100000 in
set_option maxHeartbeats 8000000 in
theorem heavy7_any (ps : List ProgS) (PA IA : Option Addr) (pn pc il ic : Nat) (fuel : Int) (B : Nat) (w : World) (hB : B ≤ w.heap.size) (hps : SliceAt w B 3 (ProgE w B) ps (.slice PA pn pc)) (hpn : pn ≤ 200000000000000) (hil : il ≤ 200000000000000) (hsz : ∀ p, p ∈ ps → p.globs.length ≤ 200000000000000 ∧ ∀ g, g ∈ p.funcs → g.locs.length ≤ 200000000000000) :
    Calls Try.prog 4 #[.agg #[.slice PA pn pc, .slice IA il ic, .int .i64 fuel]] w fun e w' => ∃ b, e = .returned (.bool b) ∧ Below w.heap.size w w' := by
  have HP := Lib.hid hps
  have HSZ := Lib.hid hsz
  clear hps hsz
  go_enter Try.func4, Try.ntmps4
  refine wp_letter (fun Q hQ => ?_)
  have HQ := Lib.hid hQ
  clear hQ
  go_wp2_with fail
  go_loopw [3, 4] (fun a i wr => ∃ (k : Nat) (n : Int), a = .int .i64 n ∧ i = .int .i64 k ∧ k ≤ pn ∧ 0 ≤ n ∧ n ≤ 2000000000000000 ∧ Below w.heap.size w wr ∧ Row wr w.heap.size #[.slice PA pn pc, .slice IA il ic, .int .i64 fuel] 25) (fun _ i _ => pn - (intOf i).toNat)
  case atStart => exact ⟨0, il + pn, rfl, rfl, by omega, by omega, by omega, below1 _ _, Row.new w _ _⟩
  case round =>
    obtain ⟨k, n, rfl, rfl, hk2, hm0, hm1, hbw, hr⟩ := hrel
    have HBW := Lib.hid hbw
    have HR := Lib.hid hr
    have r0 := hr.cell (j := 0) rfl
    have rl := hr.lt
    have hzw := hbw.size
    by_cases hgo : k < pn ∧ n < 1048576
    · obtain ⟨hlt, hn⟩ := hgo
      obtain ⟨b, off, p, hpa, hb, hk1, hE⟩ := (HP.out.below (hbw.mono hB) (Nat.le_refl _) (fun _ _ h => h.below (hbw.mono hB) (Nat.le_refl _))).get hlt
      obtain ⟨P, c0, c1, c2, hpt⟩ := hE.at
      simp only [Nat.add_zero] at c0 c1 c2
      subst hpa
      have hs := HSZ.out p (List.mem_of_getElem? hk1)
      have HC := Lib.hid (pwgt_any p P B wr (by omega) hpt hs.1 hs.2)
      have hklt : (k : Int) < (pn : Int) := by omega
      have hd3 : decide ((k : Int) < (pn : Int)) = true := by simpa using hlt
      have hd4 : decide (n < 1048576) = true := by simpa using hn
      have hbl : b < wr.heap.size := by omega
      clear hk1 hpt hE hbw hr hs
      go_wp2_with fail
      refine HC.out.mono ?_
      rintro e w1 ⟨q, rfl, hq0, hq1, hb1⟩
      have HB1 := Lib.hid hb1
      clear hb1
      go_wp2_with fail
      go_roundw
      case rel => exact ⟨k + 1, n + q, rfl, by go_num, by omega, by omega, by omega, HBW.out.trans (HB1.out.mono hzw), HR.out.below HB1.out HR.out.lt⟩
      case measure => simp [intOf]; omega
    · have hor : decide (k < pn) = false ∨ (decide (k < pn) = true ∧ decide (n < 1048576) = false) := by
        by_cases hlt : k < pn
        · exact Or.inr ⟨by simpa using hlt, by simp; exact Int.not_lt.1 (fun h => hgo ⟨hlt, h⟩)⟩
        · exact Or.inl (by simp; omega)
      clear hgo hbw hr
      rcases hor with hd | ⟨hd, hd2⟩
      all_goals
        go_wp2_with fail
        refine HQ.out _ _ _ ?_
        exact bodyPost_ret (v := .bool (decide (12000 < n))) (by simp [results, Try.results4, go_sem]) rfl ⟨_, rfl, HBW.out⟩
end Go.Proofs.Ytikbdplllopjlaa
namespace Go.Proofs.Ytikbdplllopjlaa
open Go.RowKit

/-- A slice that reads as these numbers. -/
def ReadsL (w : World) (v : Value) (l : List Int) : Prop :=
  ∃ A c, v = .slice A l.length c ∧ l.length ≤ c ∧ c ≤ 9223372036854775807 ∧ (0 < l.length → ∃ b off, A = some ⟨b, off, none⟩ ∧ b < w.heap.size ∧ ∀ k x, l[k]? = some x → w.cell? ⟨b, off + k, none⟩ = some (.int .i64 x))
theorem ReadsL.below {w w' : World} {v : Value} {l : List Int} (h : ReadsL w v l) (hb : Below w.heap.size w w') : ReadsL w' v l := by
  obtain ⟨A, c, h0, h1, h2, h3⟩ := h
  refine ⟨A, c, h0, h1, h2, fun hp => ?_⟩
  obtain ⟨b, off, hA, hlt, hc⟩ := h3 hp
  have := hb.size
  exact ⟨b, off, hA, by omega, fun k x hk => cell_below (hc k x hk) hb hlt⟩
theorem ReadsL.of_own {w : World} {base : Nat} {e : TypeId} {v : Value} {l : List Int} (h : w.ownsRow base e 1 v l.length (l.map (Value.int .i64))) : ReadsL w v l := by
  have hc := fun g => h.cells (g := g)
  obtain ⟨_, h | ⟨g, c, cur, hv, _, hh, h1, h2, _⟩⟩ := h
  · exact ⟨none, 0, by rw [h.1, h.2], by omega, by omega, fun hp => by omega⟩
  · unfold maxLen at h2
    refine ⟨_, c, hv, by omega, by omega, fun hp => ⟨g, 0, rfl, Row.lt hh, fun k x hk => ?_⟩⟩
    have := hc g (by rw [hv]; rfl) k (.int .i64 x) (by rw [List.getElem?_map, hk]; rfl)
    rw [addr0] at this
    rw [Nat.zero_add]
    exact this
theorem ReadsL.of_in {w : World} {B : Nat} {v : Value} {l : List Int} (h : InW w B v l) (hB : B ≤ w.heap.size) : ReadsL w v l := by
  obtain ⟨A, c, h0, h1, h2, h3⟩ := h
  refine ⟨A, c, h0, h1, h2, fun hp => ?_⟩
  obtain ⟨b, off, hA, hlt, hc⟩ := h3 hp
  exact ⟨b, off, hA, by omega, fun k x hk => (hc k x hk).1⟩

set_option maxRecDepth 100000 in
set_option maxHeartbeats 4000000 in
theorem eqLongs_read (l : List Int) (v v' : Value) (w : World) (hv : ReadsL w v l) (hu : ReadsL w v' l) :
    Calls Try.prog 16 #[v, v'] w fun e w' => e = .returned (.bool true) ∧ Below w.heap.size w w' := by
  obtain ⟨A, c, rfl, hlc, hcm, hA⟩ := hv
  obtain ⟨A', c', rfl, _, _, hA'⟩ := hu
  have hlm : l.length ≤ 9223372036854775807 := by omega
  have hb0 : ((l.length : Int) != (l.length : Int)) = false := by simp
  have HA := Lib.hid hA
  have HA' := Lib.hid hA'
  clear hA hA'
  go_enter Try.func16, Try.ntmps16
  go_wp2_with fail
  go_loopw [5] (fun i wr => ∃ k : Nat, k ≤ l.length ∧ i = .int .i64 k ∧ Below w.heap.size w wr) (fun i _ => l.length - (intOf i).toNat)
  case atStart => exact ⟨0, by omega, rfl, Below.refl _ _⟩
  case round =>
    obtain ⟨k, hk2, rfl, hbw⟩ := hrel
    by_cases hlt : k < l.length
    · obtain ⟨x, hx⟩ : ∃ x, l[k]? = some x := ⟨_, List.getElem?_eq_getElem hlt⟩
      obtain ⟨b, off, rfl, hb, hc⟩ := HA.out (by omega)
      obtain ⟨b', off', rfl, hb', hc'⟩ := HA'.out (by omega)
      have e1 : wr.cell? ⟨b, off + k, none⟩ = some (.int .i64 x) := cell_below (hc k x hx) hbw hb
      have e2 : wr.cell? ⟨b', off' + k, none⟩ = some (.int .i64 x) := cell_below (hc' k x hx) hbw hb'
      have hklt : (k : Int) < (l.length : Int) := by omega
      have hxx : (x != x) = false := by simp
      clear hx hc hc'
      go_wp2_with fail
      go_quiet (fail)
      go_wp2_with fail
      go_roundw
      case rel => exact ⟨k + 1, by omega, by go_num, below_drewN hbw _⟩
      case measure => simp [intOf]; omega
    · obtain rfl : k = l.length := by omega
      go_wp2_with fail
      go_ret
      exact ⟨rfl, hbw⟩

set_option maxRecDepth 100000 in
set_option maxHeartbeats 4000000 in
theorem eqOut_read (o : OutS) (v v' : Value) (w : World) (hv : ReadsL w v o.out) (hu : ReadsL w v' o.out) :
    Calls Try.prog 7 #[.agg #[.int .i64 o.kind, .int .i64 o.code, v, .int .i64 o.steps, .int .i64 o.deep], .agg #[.int .i64 o.kind, .int .i64 o.code, v', .int .i64 o.steps, .int .i64 o.deep]] w fun e w' => e = .returned (.bool true) ∧ Below w.heap.size w w' := by
  have e1 : (o.kind == o.kind) = true := by simp
  have e2 : (o.code == o.code) = true := by simp
  have e3 : (o.steps == o.steps) = true := by simp
  have e4 : (o.deep == o.deep) = true := by simp
  have HV := Lib.hid hv
  have HU := Lib.hid hu
  clear hv hu
  go_enter Try.func7, Try.ntmps7
  go_wp2_with fail
  have hb := below2 w (Obj.cells #[.int .i64 o.kind, .int .i64 o.code, v, .int .i64 o.steps, .int .i64 o.deep] 28) (Obj.cells #[.int .i64 o.kind, .int .i64 o.code, v', .int .i64 o.steps, .int .i64 o.deep] 28)
  refine (eqLongs_read o.out v v' _ (HV.out.below hb) (HU.out.below hb)).mono ?_
  rintro e w1 ⟨rfl, hb1⟩
  have c3 : w1.cell? ⟨w.heap.size, 3, none⟩ = some (.int .i64 o.steps) := cell_below (by simp [go_sem]) hb1 (by simp [go_sem])
  have c4 : w1.cell? ⟨w.heap.size, 4, none⟩ = some (.int .i64 o.deep) := cell_below (by simp [go_sem]) hb1 (by simp [go_sem])
  have d3 : w1.cell? ⟨w.heap.size + 1, 3, none⟩ = some (.int .i64 o.steps) := cell_below (by simp [go_sem]) hb1 (by simp [go_sem])
  have d4 : w1.cell? ⟨w.heap.size + 1, 4, none⟩ = some (.int .i64 o.deep) := cell_below (by simp [go_sem]) hb1 (by simp [go_sem])
  have hb2 := hb.trans (hb1.mono (by simp [go_sem]; try omega))
  clear hb hb1
  go_wp2_with fail
  go_ret
  exact ⟨rfl, hb2⟩
end Go.Proofs.Ytikbdplllopjlaa
namespace Go.Proofs.Ytikbdplllopjlaa
open Go.RowKit

set_option maxRecDepth 100000 in
set_option maxHeartbeats 4000000 in
theorem begins_any (l l' : List Int) (v v' : Value) (w : World) (hv : ReadsL w v l) (hu : ReadsL w v' l') (hp : l <+: l') :
    Calls Try.prog 8 #[v, v'] w fun e w' => e = .returned (.bool true) ∧ Below w.heap.size w w' := by
  obtain ⟨A, c, rfl, hlc, hcm, hA⟩ := hv
  obtain ⟨A', c', rfl, hlc', hcm', hA'⟩ := hu
  have hle : l.length ≤ l'.length := hp.length_le
  have hget : ∀ (k : Nat) (x : Int), l[k]? = some x → l'[k]? = some x := fun k x hk => by
    obtain ⟨t, rfl⟩ := hp
    rw [List.getElem?_append_left (by rcases Nat.lt_or_ge k l.length with h | h; exact h; rw [List.getElem?_eq_none h] at hk; cases hk)]
    exact hk
  have H := Lib.hid (eqLongs_read l (.slice A l.length c) (.slice A' l.length c') w ⟨A, c, rfl, hlc, hcm, hA⟩ ⟨A', c', rfl, by omega, hcm', fun h => (by obtain ⟨b, off, e1, e2, e3⟩ := hA' (by omega); exact ⟨b, off, e1, e2, fun k x hk => e3 k x (hget k x hk)⟩)⟩)
  have hle1 : (l.length : Int) ≤ (l'.length : Int) := by omega
  have hle2 : (l.length : Int) ≤ (c' : Int) := by omega
  have hle3 : l.length ≤ c' := by omega
  have hl0 : (0 : Int) ≤ (l.length : Int) := by omega
  clear hA hA' hget hp
  go_enter Try.func8, Try.ntmps8
  refine wp_letter (fun Q hQ => ?_)
  have HQ := Lib.hid hQ
  clear hQ
  go_wp2_with fail
  refine H.out.mono ?_
  rintro e w1 ⟨rfl, hb1⟩
  go_wp2_with fail
  refine HQ.out _ _ _ ?_
  exact bodyPost_ret (v := .bool true) (by simp [results, Try.results8, go_sem]) rfl ⟨rfl, hb1⟩
end Go.Proofs.Ytikbdplllopjlaa
namespace Go.Proofs.Ytikbdplllopjlaa
open Go.RowKit Go.Deep

theorem list_of {α : Type} (n : Nat) (p : Nat → α → Prop) (h : ∀ i, i < n → ∃ x, p i x) : ∃ l : List α, l.length = n ∧ ∀ i x, l[i]? = some x → p i x := by
  induction n with
  | zero => exact ⟨[], rfl, fun i x h => by simp at h⟩
  | succ n ih =>
    obtain ⟨l, hl, hp⟩ := ih (fun i hi => h i (by omega))
    obtain ⟨x, hx⟩ := h n (by omega)
    refine ⟨l ++ [x], by simp [hl], fun i y hy => ?_⟩
    rcases Nat.lt_or_ge i l.length with hlt | hge
    · rw [List.getElem?_append_left hlt] at hy; exact hp i y hy
    · rw [List.getElem?_append_right hge] at hy
      have : i - l.length = 0 := by
        rcases Nat.eq_zero_or_pos (i - l.length) with h0 | h0
        · exact h0
        · rw [List.getElem?_eq_none (by simp; omega)] at hy; cases hy
      rw [this] at hy
      simp at hy
      subst hy
      rw [show i = n by omega]
      exact hx
theorem cs3 {cs : List Value} {v0 v1 v2 : Value} (hl : cs.length = 3) (h0 : (cs.drop 0).take 1 = [v0]) (h1 : (cs.drop 1).take 1 = [v1]) (h2 : (cs.drop 2).take 1 = [v2]) : cs = [v0, v1, v2] := by
  match cs, hl with
  | [a, b, c], _ => simp at h0 h1 h2; rw [h0, h1, h2]

section
variable {H : Type} {enc : TypeId × Value → H} {w : World} {base : Nat} {spare : Nat → Bool} {held : Bool}
def KidsRead (w : World) (B : Nat) (cs : List Value) : Prop := ∃ ts A n c, cs = [.slice A n c] ∧ KidsV w B ts A n

theorem kids_trod {n : Nat} (ih : ∀ (m : Nat) (cs : List Value) (x : DataW H × List MemPlace), m < n → DataW.trod enc Try.prog w base spare held m 62 cs = some x → ∃ t v0 v1 v2, cs = [v0, v1, v2] ∧ TreeAt w (Under w.heap.size) t v0 v1 v2)
    {m : Nat} (hm : m ≤ n) {cs : List Value} {x : DataW H × List MemPlace} (h : DataW.trod enc Try.prog w base spare held m 60 cs = some x) : KidsRead w w.heap.size cs := by
  rcases DataW.trod_slice Try.underlying60 h with ⟨rfl, _⟩ | ⟨a, len, cap, elems, rest, k, hk, rfl, _, _, hl, hc, hel, he, _⟩
  · exact ⟨[], none, 0, 0, rfl, rfl, by omega, fun h => by omega⟩
  · have hce : Try.prog.cellsOf 62 = 3 := by kernel_rfl
    rw [hce] at he
    have raw : ∀ i, i < len → ∃ t, ∃ v0 v1 v2, w.cells? base (a.add (i * 3)) 3 = some [v0, v1, v2] ∧ TreeAt w (Under w.heap.size) t v0 v1 v2 := by
      intro i hi
      have h1 := he i hi
      rw [List.getElem?_eq_getElem (by omega)] at h1
      obtain ⟨cs', h2, h3⟩ := Option.bind_eq_some_iff.1 h1
      obtain ⟨t, v0, v1, v2, rfl, ht⟩ := ih k cs' _ (by omega) h3
      exact ⟨t, v0, v1, v2, h2, ht⟩
    have hml : maxLen = 9223372036854775807 := rfl
    rcases Nat.eq_zero_or_pos len with h0 | hp
    · subst h0
      exact ⟨[], some a, 0, cap, rfl, rfl, by omega, fun h => by omega⟩
    · have hspot : a.spot = none ∧ a.block < w.heap.size := by
        obtain ⟨t, v0, v1, v2, h2, _⟩ := raw 0 hp
        have hb := World.cells?_block h2 (by omega)
        have c0 := (World.cells?_some h2).2.2 0 (by omega)
        obtain ⟨b, off, spot⟩ := a
        have hs : spot = none := by simpa [Addr.add] using World.cell?_spot c0
        exact ⟨hs, by simpa [Addr.add] using hb⟩
      obtain ⟨b, off, spot⟩ := a
      obtain ⟨hs, hb⟩ := hspot
      simp only at hs hb
      subst hs
      have key : ∀ i, i < len → ∃ t, ∃ v0 v1 v2, w.cell? ⟨b, off + i * 3, none⟩ = some v0 ∧ w.cell? ⟨b, off + i * 3 + 1, none⟩ = some v1 ∧ w.cell? ⟨b, off + i * 3 + 2, none⟩ = some v2 ∧ TreeAt w (Under w.heap.size) t v0 v1 v2 := by
        intro i hi
        obtain ⟨t, v0, v1, v2, h2, ht⟩ := raw i hi
        rw [Go.WideShapes.add_plain] at h2
        obtain ⟨_, _, hcell⟩ := World.cells?_some h2
        have c0 := hcell 0 (by omega)
        have c1 := hcell 1 (by omega)
        have c2 := hcell 2 (by omega)
        rw [Go.WideShapes.add_plain] at c0 c1 c2
        exact ⟨t, v0, v1, v2, by simpa using c0, by simpa using c1, by simpa using c2, ht⟩
      obtain ⟨ts, htl, hts⟩ := list_of len _ key
      exact ⟨ts, some ⟨b, off, none⟩, len, cap, rfl, htl, by omega, fun hp => ⟨b, off, rfl, hb, KidsAt.of (fun i t hi => hts i t hi)⟩⟩
theorem tree_trod : ∀ (n m : Nat) (cs : List Value) (x : DataW H × List MemPlace), m < n → DataW.trod enc Try.prog w base spare held m 62 cs = some x → ∃ t v0 v1 v2, cs = [v0, v1, v2] ∧ TreeAt w (Under w.heap.size) t v0 v1 v2 := by
  intro n
  induction n with
  | zero => intro m cs x h; omega
  | succ n ih =>
    intro m cs x hm h
    obtain ⟨xs, k, rfl, _, hl, _, hf⟩ := DataW.trod_struct Try.underlying62 h
    have hce : Try.prog.cellsOf 62 = 3 := by kernel_rfl
    have hc3 : Try.prog.cellsOf 3 = 1 := by kernel_rfl
    have hc2 : Try.prog.cellsOf 2 = 1 := by kernel_rfl
    have hcs : Try.prog.cellsOf 60 = 1 := by kernel_rfl
    rw [hce] at hl
    have f0 : DataW.trod enc Try.prog w base spare held k 3 ((cs.drop 0).take (Try.prog.cellsOf 3)) = xs[0]? := hf 0 _ rfl
    have f1 : DataW.trod enc Try.prog w base spare held k 2 ((cs.drop 1).take (Try.prog.cellsOf 2)) = xs[1]? := hf 1 _ rfl
    have f2 : DataW.trod enc Try.prog w base spare held k 60 ((cs.drop 2).take (Try.prog.cellsOf 60)) = xs[2]? := hf 2 _ rfl
    rw [hc3] at f0
    rw [hc2] at f1
    rw [hcs] at f2
    obtain ⟨x0, x1, x2, rfl⟩ : ∃ x0 x1 x2, xs = [x0, x1, x2] := by
      rename_i hxs
      match xs, hxs with
      | [a, b, c], _ => exact ⟨a, b, c, rfl⟩
    obtain ⟨a, e0, _, w0⟩ := DataW.trod_int Try.underlying3 f0
    obtain ⟨b, e1, _, w1⟩ := DataW.trod_int Try.underlying2 f1
    obtain ⟨ts, A, len, c, e2, hk⟩ := kids_trod (ih := ih) (by omega) f2
    obtain ⟨hk1, hk2, hk3⟩ := hk
    refine ⟨.node a b ts, _, _, _, cs3 hl e0 e1 e2, ?_⟩
    rw [TreeAt]
    subst hk1
    exact ⟨rfl, rfl, in64_of_wf w0, in64_of_wf w1, hk2, A, c, rfl, hk3⟩

theorem kids_read {m : Nat} {cs : List Value} {x : DataW H × List MemPlace} (h : DataW.trod enc Try.prog w base spare held m 60 cs = some x) : KidsRead w w.heap.size cs :=
  kids_trod (n := m + 1) (tree_trod (m + 1)) (by omega) h
end
theorem weights_mem_all {H : Type} {P : Program} {e : TypeId} {d : DataW H} {n : Nat} : ∀ {l : List (DataW H)}, d ∈ l → n ∈ d.weights P e → n ∈ DataW.weightsAll P e l
  | [], h, _ => by simp at h
  | x :: l, h, hn => by
    simp only [DataW.weightsAll, List.mem_append]
    rcases List.mem_cons.1 h with rfl | h
    · exact Or.inl hn
    · exact Or.inr (weights_mem_all h hn)
end Go.Proofs.Ytikbdplllopjlaa
namespace Go.Proofs.Ytikbdplllopjlaa
open Go.RowKit Go.Deep

theorem take_cell {cs l : List Value} {j n i : Nat} (h : (cs.drop j).take n = l) (hi : i < l.length) : cs[j + i]? = l[i]? := by
  subst h
  rw [List.length_take] at hi
  rw [List.getElem?_take, if_pos (by omega), List.getElem?_drop]
section
variable {H : Type} {enc : TypeId × Value → H} {w : World} {base : Nat} {spare : Nat → Bool} {held : Bool}

/-- A slice of what is read: each element by 'E'; its elements weigh no more than may be. -/
theorem slice_read {te ts : TypeId} {sz by1 : Nat} {α : Type} (hts : Try.prog.underlying ts = some (.slice te)) (hce : Try.prog.cellsOf te = sz) (hby : Try.prog.bytesOf te = by1) (hsz : 0 < sz) (hb1 : 1 ≤ by1)
    (E : (Nat → Option Value) → α → Prop) (Sz : α → Prop)
    (hE : ∀ (k : Nat) (cs : List Value) (x : DataW H × List MemPlace), DataW.trod enc Try.prog w base spare held k te cs = some x → (∀ n, n ∈ x.1.weights Try.prog te → n ≤ reachBytes) → ∃ t, Sz t ∧ ∀ c : Nat → Option Value, (∀ j, j < sz → c j = cs[j]?) → E c t)
    {m : Nat} {cs : List Value} {x : DataW H × List MemPlace} (h : DataW.trod enc Try.prog w base spare held m ts cs = some x) (hw : ∀ n, n ∈ x.1.weights Try.prog ts → n ≤ reachBytes) :
    ∃ (l : List α) (A : Option Addr) (c : Nat), cs = [.slice A l.length c] ∧ SliceAt w w.heap.size sz E l (.slice A l.length c) ∧ l.length ≤ 140737488351232 ∧ l.length ≤ c ∧ c ≤ 9223372036854775807 ∧ ∀ t, t ∈ l → Sz t := by
  have hml : maxLen = 9223372036854775807 := rfl
  have hr : reachBytes = 140737488351232 := rfl
  rcases DataW.trod_slice hts h with ⟨rfl, _⟩ | ⟨a, len, cap, elems, rest, k, hk, rfl, hx, _, hl, hc, hel, he, _⟩
  · exact ⟨[], none, 0, rfl, ⟨none, 0, rfl, by simp, fun h => by simp at h⟩, by simp, by simp, by omega, fun t ht => by cases ht⟩
  · rw [hce] at he
    have hx1 : x.1 = .slice (elems.map (·.1)) (rest.map (·.1)) := by rw [hx]
    have hwl : len ≤ 140737488351232 := by
      have h1 := hw ((elems.length + rest.length) * Try.prog.bytesOf te) (by rw [hx1]; simp only [DataW.weights, hts, List.length_map, List.mem_cons, true_or])
      rw [hby, hr] at h1
      have : len ≤ (elems.length + rest.length) * by1 := Nat.le_trans (by omega) (Nat.le_mul_of_pos_right _ (by omega))
      omega
    have raw : ∀ i, i < len → ∃ t, ∃ cs', w.cells? base (a.add (i * sz)) sz = some cs' ∧ Sz t ∧ ∀ c : Nat → Option Value, (∀ j, j < sz → c j = cs'[j]?) → E c t := by
      intro i hi
      have h1 := he i hi
      rw [List.getElem?_eq_getElem (by omega)] at h1
      obtain ⟨cs', h2, h3⟩ := Option.bind_eq_some_iff.1 h1
      obtain ⟨t, ht1, ht2⟩ := hE k cs' _ h3 (fun n hn => hw n (by
        rw [hx1]
        simp only [DataW.weights, hts, List.mem_cons, List.mem_append]
        exact Or.inr (Or.inl (weights_mem_all (List.mem_map.2 ⟨_, List.getElem_mem (by omega), rfl⟩) hn))))
      exact ⟨t, cs', h2, ht1, ht2⟩
    rcases Nat.eq_zero_or_pos len with h0 | hp
    · subst h0
      exact ⟨[], some a, cap, rfl, ⟨_, cap, rfl, by simp, fun h => by simp at h⟩, by simp, by simp, by omega, fun t ht => by cases ht⟩
    · have hspot : a.spot = none ∧ a.block < w.heap.size := by
        obtain ⟨t, cs', h2, _⟩ := raw 0 hp
        have hb := World.cells?_block h2 (by omega)
        have c0 := (World.cells?_some h2).2.2 0 (by omega)
        obtain ⟨b, off, spot⟩ := a
        have hs : spot = none := by
          have hlt : 0 < cs'.length := by rw [(World.cells?_some h2).2.1]; omega
          rw [List.getElem?_eq_getElem hlt] at c0
          simpa [Addr.add] using World.cell?_spot c0
        exact ⟨hs, by simpa [Addr.add] using hb⟩
      obtain ⟨b, off, spot⟩ := a
      obtain ⟨hs, hb⟩ := hspot
      simp only at hs hb
      subst hs
      have key : ∀ i, i < len → ∃ t, Sz t ∧ E (fun j => w.cell? ⟨b, off + i * sz + j, none⟩) t := by
        intro i hi
        obtain ⟨t, cs', h2, h3, h4⟩ := raw i hi
        rw [Go.WideShapes.add_plain] at h2
        obtain ⟨_, hlen, hcell⟩ := World.cells?_some h2
        refine ⟨t, h3, h4 _ (fun j hj => ?_)⟩
        have c0 := hcell j (by omega)
        rw [Go.WideShapes.add_plain] at c0
        exact c0
      obtain ⟨l, hll, hls⟩ := list_of len (fun i t => Sz t ∧ E (fun j => w.cell? ⟨b, off + i * sz + j, none⟩) t) key
      subst hll
      exact ⟨l, some ⟨b, off, none⟩, cap, rfl, ⟨_, cap, rfl, by omega, fun _ => ⟨b, off, rfl, hb, fun i t hi => (hls i t hi).2⟩⟩, hwl, by omega, by omega, fun t ht => by obtain ⟨i, hi⟩ := List.mem_iff_getElem?.1 ht; exact (hls i t hi).1⟩
end
end Go.Proofs.Ytikbdplllopjlaa
namespace Go.Proofs.Ytikbdplllopjlaa
open Go.RowKit Go.Deep

section
variable {H : Type} {enc : TypeId × Value → H} {w : World} {base : Nat} {spare : Nat → Bool} {held : Bool}
theorem long_read {k : Nat} {cs : List Value} {x : DataW H × List MemPlace} (h : DataW.trod enc Try.prog w base spare held k 2 cs = some x) : ∃ t : Int, True ∧ ∀ c : Nat → Option Value, (∀ j, j < 1 → c j = cs[j]?) → c 0 = some (.int .i64 t) ∧ In64 t := by
  obtain ⟨a, e, _, w0⟩ := DataW.trod_int Try.underlying2 h
  exact ⟨a, trivial, fun c hc => ⟨by rw [hc 0 (by omega), e]; rfl, in64_of_wf w0⟩⟩
theorem longs_read {m : Nat} {cs : List Value} {x : DataW H × List MemPlace} (h : DataW.trod enc Try.prog w base spare held m 23 cs = some x) (hw : ∀ n, n ∈ x.1.weights Try.prog 23 → n ≤ reachBytes) :
    ∃ l A c, cs = [.slice A l.length c] ∧ SliceAt w w.heap.size 1 (fun c x => c 0 = some (.int .i64 x) ∧ In64 x) l (.slice A l.length c) ∧ l.length ≤ 140737488351232 ∧ l.length ≤ c ∧ c ≤ 9223372036854775807 ∧ ∀ t, t ∈ l → True :=
  slice_read Try.underlying23 (by kernel_rfl) (by1 := 8) (by kernel_rfl) (by omega) (by omega) (fun c x => c 0 = some (.int .i64 x) ∧ In64 x) (fun t => True) (fun k cs x h hw => long_read h) h hw
theorem obj_read {k : Nat} {cs : List Value} {x : DataW H × List MemPlace} (h : DataW.trod enc Try.prog w base spare held k 78 cs = some x) (hw : ∀ n, n ∈ x.1.weights Try.prog 78 → n ≤ reachBytes) :
    ∃ o : ObS, True ∧ ∀ c : Nat → Option Value, (∀ j, j < 3 → c j = cs[j]?) → ObE w w.heap.size c o := by
  obtain ⟨xs, m, _, hxe, hl, hxs, hf⟩ := DataW.trod_struct Try.underlying78 h
  have hc0 : Try.prog.cellsOf 3 = 1 := by kernel_rfl
  have hc1 : Try.prog.cellsOf 23 = 1 := by kernel_rfl
  have f0 : DataW.trod enc Try.prog w base spare held m 3 ((cs.drop 0).take (Try.prog.cellsOf 3)) = xs[0]? := hf 0 _ rfl
  rw [hc0] at f0
  have f1 : DataW.trod enc Try.prog w base spare held m 3 ((cs.drop 1).take (Try.prog.cellsOf 3)) = xs[1]? := hf 1 _ rfl
  rw [hc0] at f1
  have f2 : DataW.trod enc Try.prog w base spare held m 23 ((cs.drop 2).take (Try.prog.cellsOf 23)) = xs[2]? := hf 2 _ rfl
  rw [hc1] at f2
  obtain ⟨x0, x1, x2, rfl⟩ : ∃ x0 x1 x2, xs = [x0, x1, x2] := by
    match xs, hxs with
    | [a, b, c], _ => exact ⟨a, b, c, rfl⟩
  have hx1 : x.1 = .agg [x0.1, x1.1, x2.1] := by rw [hxe]; rfl
  have hwt : ∀ n, n ∈ x0.1.weights Try.prog 3 ++ x1.1.weights Try.prog 3 ++ x2.1.weights Try.prog 23 → n ≤ reachBytes := fun n hn => hw n (by
    rw [hx1]
    simp only [DataW.weights, Try.underlying78, List.map_cons, List.map_nil, DataW.weightsEach, List.append_nil]
    simpa using hn)
  obtain ⟨v0, e0, _, w0⟩ := DataW.trod_int Try.underlying3 f0
  have g0 := take_cell e0 (i := 0) (by simp)
  obtain ⟨v1, e1, _, w1⟩ := DataW.trod_int Try.underlying3 f1
  have g1 := take_cell e1 (i := 0) (by simp)
  obtain ⟨v2, A2, c2, e2, s2, l2, q2, q2', z2⟩ := longs_read f2 (fun n hn => hwt n (by simp [hn]))
  have g2 := take_cell e2 (i := 0) (by simp)
  simp at g0 g1 g2
  exact ⟨⟨v0, v1, v2⟩, trivial, fun c hc => ⟨by rw [hc 0 (by omega), g0], by rw [hc 1 (by omega), g1], ⟨_, by rw [hc 2 (by omega), g2], s2⟩, in64_of_wf w0, in64_of_wf w1⟩⟩
theorem objs_read {m : Nat} {cs : List Value} {x : DataW H × List MemPlace} (h : DataW.trod enc Try.prog w base spare held m 32 cs = some x) (hw : ∀ n, n ∈ x.1.weights Try.prog 32 → n ≤ reachBytes) :
    ∃ l A c, cs = [.slice A l.length c] ∧ SliceAt w w.heap.size 3 (ObE w w.heap.size) l (.slice A l.length c) ∧ l.length ≤ 140737488351232 ∧ l.length ≤ c ∧ c ≤ 9223372036854775807 ∧ ∀ t, t ∈ l → True :=
  slice_read Try.underlying32 (by kernel_rfl) (by1 := 40) (by kernel_rfl) (by omega) (by omega) (ObE w w.heap.size) (fun t => True) (fun k cs x h hw => obj_read h hw) h hw
theorem step_read {k : Nat} {cs : List Value} {x : DataW H × List MemPlace} (h : DataW.trod enc Try.prog w base spare held k 71 cs = some x) (hw : ∀ n, n ∈ x.1.weights Try.prog 71 → n ≤ reachBytes) :
    ∃ o : StepS, True ∧ ∀ c : Nat → Option Value, (∀ j, j < 5 → c j = cs[j]?) → StepE w w.heap.size c o := by
  obtain ⟨xs, m, _, hxe, hl, hxs, hf⟩ := DataW.trod_struct Try.underlying71 h
  have hc0 : Try.prog.cellsOf 3 = 1 := by kernel_rfl
  have hc1 : Try.prog.cellsOf 60 = 1 := by kernel_rfl
  have f0 : DataW.trod enc Try.prog w base spare held m 3 ((cs.drop 0).take (Try.prog.cellsOf 3)) = xs[0]? := hf 0 _ rfl
  rw [hc0] at f0
  have f1 : DataW.trod enc Try.prog w base spare held m 3 ((cs.drop 1).take (Try.prog.cellsOf 3)) = xs[1]? := hf 1 _ rfl
  rw [hc0] at f1
  have f2 : DataW.trod enc Try.prog w base spare held m 3 ((cs.drop 2).take (Try.prog.cellsOf 3)) = xs[2]? := hf 2 _ rfl
  rw [hc0] at f2
  have f3 : DataW.trod enc Try.prog w base spare held m 3 ((cs.drop 3).take (Try.prog.cellsOf 3)) = xs[3]? := hf 3 _ rfl
  rw [hc0] at f3
  have f4 : DataW.trod enc Try.prog w base spare held m 60 ((cs.drop 4).take (Try.prog.cellsOf 60)) = xs[4]? := hf 4 _ rfl
  rw [hc1] at f4
  obtain ⟨x0, x1, x2, x3, x4, rfl⟩ : ∃ x0 x1 x2 x3 x4, xs = [x0, x1, x2, x3, x4] := by
    match xs, hxs with
    | [a, b, c, d, e], _ => exact ⟨a, b, c, d, e, rfl⟩
  have hx1 : x.1 = .agg [x0.1, x1.1, x2.1, x3.1, x4.1] := by rw [hxe]; rfl
  have hwt : ∀ n, n ∈ x0.1.weights Try.prog 3 ++ x1.1.weights Try.prog 3 ++ x2.1.weights Try.prog 3 ++ x3.1.weights Try.prog 3 ++ x4.1.weights Try.prog 60 → n ≤ reachBytes := fun n hn => hw n (by
    rw [hx1]
    simp only [DataW.weights, Try.underlying71, List.map_cons, List.map_nil, DataW.weightsEach, List.append_nil]
    simpa using hn)
  obtain ⟨v0, e0, _, w0⟩ := DataW.trod_int Try.underlying3 f0
  have g0 := take_cell e0 (i := 0) (by simp)
  obtain ⟨v1, e1, _, w1⟩ := DataW.trod_int Try.underlying3 f1
  have g1 := take_cell e1 (i := 0) (by simp)
  obtain ⟨v2, e2, _, w2⟩ := DataW.trod_int Try.underlying3 f2
  have g2 := take_cell e2 (i := 0) (by simp)
  obtain ⟨v3, e3, _, w3⟩ := DataW.trod_int Try.underlying3 f3
  have g3 := take_cell e3 (i := 0) (by simp)
  obtain ⟨v4, A4, n4, c4, e4, s4⟩ := kids_read f4
  have g4 := take_cell e4 (i := 0) (by simp)
  simp at g0 g1 g2 g3 g4
  exact ⟨⟨v0, v1, v2, v3, v4⟩, trivial, fun c hc => ⟨by rw [hc 0 (by omega), g0], by rw [hc 1 (by omega), g1], by rw [hc 2 (by omega), g2], by rw [hc 3 (by omega), g3], ⟨_, by rw [hc 4 (by omega), g4], A4, n4, c4, rfl, s4⟩, in64_of_wf w0, in64_of_wf w1, in64_of_wf w2, in64_of_wf w3⟩⟩
theorem steps_read {m : Nat} {cs : List Value} {x : DataW H × List MemPlace} (h : DataW.trod enc Try.prog w base spare held m 63 cs = some x) (hw : ∀ n, n ∈ x.1.weights Try.prog 63 → n ≤ reachBytes) :
    ∃ l A c, cs = [.slice A l.length c] ∧ SliceAt w w.heap.size 5 (StepE w w.heap.size) l (.slice A l.length c) ∧ l.length ≤ 140737488351232 ∧ l.length ≤ c ∧ c ≤ 9223372036854775807 ∧ ∀ t, t ∈ l → True :=
  slice_read Try.underlying63 (by kernel_rfl) (by1 := 56) (by kernel_rfl) (by omega) (by omega) (StepE w w.heap.size) (fun t => True) (fun k cs x h hw => step_read h hw) h hw
theorem block_read {k : Nat} {cs : List Value} {x : DataW H × List MemPlace} (h : DataW.trod enc Try.prog w base spare held k 65 cs = some x) (hw : ∀ n, n ∈ x.1.weights Try.prog 65 → n ≤ reachBytes) :
    ∃ o : BlockS, o.steps.length ≤ 140737488351232 ∧ ∀ c : Nat → Option Value, (∀ j, j < 7 → c j = cs[j]?) → BlockE w w.heap.size c o := by
  obtain ⟨xs, m, _, hxe, hl, hxs, hf⟩ := DataW.trod_struct Try.underlying65 h
  have hc0 : Try.prog.cellsOf 63 = 1 := by kernel_rfl
  have hc1 : Try.prog.cellsOf 3 = 1 := by kernel_rfl
  have hc2 : Try.prog.cellsOf 62 = 3 := by kernel_rfl
  have f0 : DataW.trod enc Try.prog w base spare held m 63 ((cs.drop 0).take (Try.prog.cellsOf 63)) = xs[0]? := hf 0 _ rfl
  rw [hc0] at f0
  have f1 : DataW.trod enc Try.prog w base spare held m 3 ((cs.drop 1).take (Try.prog.cellsOf 3)) = xs[1]? := hf 1 _ rfl
  rw [hc1] at f1
  have f2 : DataW.trod enc Try.prog w base spare held m 62 ((cs.drop 2).take (Try.prog.cellsOf 62)) = xs[2]? := hf 2 _ rfl
  rw [hc2] at f2
  have f3 : DataW.trod enc Try.prog w base spare held m 3 ((cs.drop 5).take (Try.prog.cellsOf 3)) = xs[3]? := hf 3 _ rfl
  rw [hc1] at f3
  have f4 : DataW.trod enc Try.prog w base spare held m 3 ((cs.drop 6).take (Try.prog.cellsOf 3)) = xs[4]? := hf 4 _ rfl
  rw [hc1] at f4
  obtain ⟨x0, x1, x2, x3, x4, rfl⟩ : ∃ x0 x1 x2 x3 x4, xs = [x0, x1, x2, x3, x4] := by
    match xs, hxs with
    | [a, b, c, d, e], _ => exact ⟨a, b, c, d, e, rfl⟩
  have hx1 : x.1 = .agg [x0.1, x1.1, x2.1, x3.1, x4.1] := by rw [hxe]; rfl
  have hwt : ∀ n, n ∈ x0.1.weights Try.prog 63 ++ x1.1.weights Try.prog 3 ++ x2.1.weights Try.prog 62 ++ x3.1.weights Try.prog 3 ++ x4.1.weights Try.prog 3 → n ≤ reachBytes := fun n hn => hw n (by
    rw [hx1]
    simp only [DataW.weights, Try.underlying65, List.map_cons, List.map_nil, DataW.weightsEach, List.append_nil]
    simpa using hn)
  obtain ⟨v0, A0, c0, e0, s0, l0, q0, q0', z0⟩ := steps_read f0 (fun n hn => hwt n (by simp [hn]))
  have g0 := take_cell e0 (i := 0) (by simp)
  obtain ⟨v1, e1, _, w1⟩ := DataW.trod_int Try.underlying3 f1
  have g1 := take_cell e1 (i := 0) (by simp)
  obtain ⟨v2, u0, u1, u2, e2, t2⟩ := tree_trod (m + 1) m _ _ (by omega) f2
  have g2 := take_cell e2 (i := 0) (by simp)
  have g2' := take_cell e2 (i := 1) (by simp)
  have g2'' := take_cell e2 (i := 2) (by simp)
  obtain ⟨v3, e3, _, w3⟩ := DataW.trod_int Try.underlying3 f3
  have g3 := take_cell e3 (i := 0) (by simp)
  obtain ⟨v4, e4, _, w4⟩ := DataW.trod_int Try.underlying3 f4
  have g4 := take_cell e4 (i := 0) (by simp)
  simp at g0 g1 g2 g2' g2'' g3 g4
  exact ⟨⟨v0, v1, v2, v3, v4⟩, l0, fun c hc => ⟨⟨_, by rw [hc 0 (by omega), g0], s0⟩, by rw [hc 1 (by omega), g1], ⟨u0, u1, u2, by rw [hc 2 (by omega), g2], by rw [hc 3 (by omega), g2'], by rw [hc 4 (by omega), g2''], t2⟩, by rw [hc 5 (by omega), g3], by rw [hc 6 (by omega), g4], in64_of_wf w1, in64_of_wf w3, in64_of_wf w4⟩⟩
theorem blocks_read {m : Nat} {cs : List Value} {x : DataW H × List MemPlace} (h : DataW.trod enc Try.prog w base spare held m 66 cs = some x) (hw : ∀ n, n ∈ x.1.weights Try.prog 66 → n ≤ reachBytes) :
    ∃ l A c, cs = [.slice A l.length c] ∧ SliceAt w w.heap.size 7 (BlockE w w.heap.size) l (.slice A l.length c) ∧ l.length ≤ 140737488351232 ∧ l.length ≤ c ∧ c ≤ 9223372036854775807 ∧ ∀ t, t ∈ l → t.steps.length ≤ 140737488351232 :=
  slice_read Try.underlying66 (by kernel_rfl) (by1 := 88) (by kernel_rfl) (by omega) (by omega) (BlockE w w.heap.size) (fun t => t.steps.length ≤ 140737488351232) (fun k cs x h hw => block_read h hw) h hw
theorem graph_read {k : Nat} {cs : List Value} {x : DataW H × List MemPlace} (h : DataW.trod enc Try.prog w base spare held k 68 cs = some x) (hw : ∀ n, n ∈ x.1.weights Try.prog 68 → n ≤ reachBytes) :
    ∃ t : GraphS, (t.locs.length ≤ 140737488351232 ∧ ∀ b, b ∈ t.blocks → b.steps.length ≤ 140737488351232) ∧ ∀ c : Nat → Option Value, (∀ j, j < 4 → c j = cs[j]?) → GraphE w w.heap.size c t := by
  obtain ⟨xs, m, _, hxe, hl, hxs, hf⟩ := DataW.trod_struct Try.underlying68 h
  have hc0 : Try.prog.cellsOf 3 = 1 := by kernel_rfl
  have hc1 : Try.prog.cellsOf 32 = 1 := by kernel_rfl
  have hc2 : Try.prog.cellsOf 66 = 1 := by kernel_rfl
  have f0 : DataW.trod enc Try.prog w base spare held m 3 ((cs.drop 0).take (Try.prog.cellsOf 3)) = xs[0]? := hf 0 _ rfl
  rw [hc0] at f0
  have f1 : DataW.trod enc Try.prog w base spare held m 3 ((cs.drop 1).take (Try.prog.cellsOf 3)) = xs[1]? := hf 1 _ rfl
  rw [hc0] at f1
  have f2 : DataW.trod enc Try.prog w base spare held m 32 ((cs.drop 2).take (Try.prog.cellsOf 32)) = xs[2]? := hf 2 _ rfl
  rw [hc1] at f2
  have f3 : DataW.trod enc Try.prog w base spare held m 66 ((cs.drop 3).take (Try.prog.cellsOf 66)) = xs[3]? := hf 3 _ rfl
  rw [hc2] at f3
  obtain ⟨x0, x1, x2, x3, rfl⟩ : ∃ x0 x1 x2 x3, xs = [x0, x1, x2, x3] := by
    match xs, hxs with
    | [a, b, c, d], _ => exact ⟨a, b, c, d, rfl⟩
  have hx1 : x.1 = .agg [x0.1, x1.1, x2.1, x3.1] := by rw [hxe]; rfl
  have hwt : ∀ n, n ∈ x0.1.weights Try.prog 3 ++ x1.1.weights Try.prog 3 ++ x2.1.weights Try.prog 32 ++ x3.1.weights Try.prog 66 → n ≤ reachBytes := fun n hn => hw n (by
    rw [hx1]
    simp only [DataW.weights, Try.underlying68, List.map_cons, List.map_nil, DataW.weightsEach, List.append_nil]
    simpa using hn)
  obtain ⟨v0, e0, _, w0⟩ := DataW.trod_int Try.underlying3 f0
  have g0 := take_cell e0 (i := 0) (by simp)
  obtain ⟨v1, e1, _, w1⟩ := DataW.trod_int Try.underlying3 f1
  have g1 := take_cell e1 (i := 0) (by simp)
  obtain ⟨v2, A2, c2, e2, s2, l2, q2, q2', z2⟩ := objs_read f2 (fun n hn => hwt n (by simp [hn]))
  have g2 := take_cell e2 (i := 0) (by simp)
  obtain ⟨v3, A3, c3, e3, s3, l3, q3, q3', z3⟩ := blocks_read f3 (fun n hn => hwt n (by simp [hn]))
  have g3 := take_cell e3 (i := 0) (by simp)
  simp at g0 g1 g2 g3
  exact ⟨⟨v0, v1, v2, v3⟩, ⟨l2, z3⟩, fun c hc => ⟨by rw [hc 0 (by omega), g0], by rw [hc 1 (by omega), g1], ⟨_, by rw [hc 2 (by omega), g2], s2⟩, ⟨_, by rw [hc 3 (by omega), g3], s3⟩, in64_of_wf w0, in64_of_wf w1⟩⟩
theorem graphs_read {m : Nat} {cs : List Value} {x : DataW H × List MemPlace} (h : DataW.trod enc Try.prog w base spare held m 33 cs = some x) (hw : ∀ n, n ∈ x.1.weights Try.prog 33 → n ≤ reachBytes) :
    ∃ l A c, cs = [.slice A l.length c] ∧ SliceAt w w.heap.size 4 (GraphE w w.heap.size) l (.slice A l.length c) ∧ l.length ≤ 140737488351232 ∧ l.length ≤ c ∧ c ≤ 9223372036854775807 ∧ ∀ t, t ∈ l → t.locs.length ≤ 140737488351232 ∧ ∀ b, b ∈ t.blocks → b.steps.length ≤ 140737488351232 :=
  slice_read Try.underlying33 (by kernel_rfl) (by1 := 64) (by kernel_rfl) (by omega) (by omega) (GraphE w w.heap.size) (fun t => t.locs.length ≤ 140737488351232 ∧ ∀ b, b ∈ t.blocks → b.steps.length ≤ 140737488351232) (fun k cs x h hw => graph_read h hw) h hw
theorem prog_read {k : Nat} {cs : List Value} {x : DataW H × List MemPlace} (h : DataW.trod enc Try.prog w base spare held k 35 cs = some x) (hw : ∀ n, n ∈ x.1.weights Try.prog 35 → n ≤ reachBytes) :
    ∃ t : ProgS, (t.globs.length ≤ 140737488351232 ∧ ∀ g, g ∈ t.funcs → g.locs.length ≤ 140737488351232 ∧ ∀ b, b ∈ g.blocks → b.steps.length ≤ 140737488351232) ∧ ∀ c : Nat → Option Value, (∀ j, j < 3 → c j = cs[j]?) → ProgE w w.heap.size c t := by
  obtain ⟨xs, m, _, hxe, hl, hxs, hf⟩ := DataW.trod_struct Try.underlying35 h
  have hc0 : Try.prog.cellsOf 32 = 1 := by kernel_rfl
  have hc1 : Try.prog.cellsOf 33 = 1 := by kernel_rfl
  have hc2 : Try.prog.cellsOf 3 = 1 := by kernel_rfl
  have f0 : DataW.trod enc Try.prog w base spare held m 32 ((cs.drop 0).take (Try.prog.cellsOf 32)) = xs[0]? := hf 0 _ rfl
  rw [hc0] at f0
  have f1 : DataW.trod enc Try.prog w base spare held m 33 ((cs.drop 1).take (Try.prog.cellsOf 33)) = xs[1]? := hf 1 _ rfl
  rw [hc1] at f1
  have f2 : DataW.trod enc Try.prog w base spare held m 3 ((cs.drop 2).take (Try.prog.cellsOf 3)) = xs[2]? := hf 2 _ rfl
  rw [hc2] at f2
  obtain ⟨x0, x1, x2, rfl⟩ : ∃ x0 x1 x2, xs = [x0, x1, x2] := by
    match xs, hxs with
    | [a, b, c], _ => exact ⟨a, b, c, rfl⟩
  have hx1 : x.1 = .agg [x0.1, x1.1, x2.1] := by rw [hxe]; rfl
  have hwt : ∀ n, n ∈ x0.1.weights Try.prog 32 ++ x1.1.weights Try.prog 33 ++ x2.1.weights Try.prog 3 → n ≤ reachBytes := fun n hn => hw n (by
    rw [hx1]
    simp only [DataW.weights, Try.underlying35, List.map_cons, List.map_nil, DataW.weightsEach, List.append_nil]
    simpa using hn)
  obtain ⟨v0, A0, c0, e0, s0, l0, q0, q0', z0⟩ := objs_read f0 (fun n hn => hwt n (by simp [hn]))
  have g0 := take_cell e0 (i := 0) (by simp)
  obtain ⟨v1, A1, c1, e1, s1, l1, q1, q1', z1⟩ := graphs_read f1 (fun n hn => hwt n (by simp [hn]))
  have g1 := take_cell e1 (i := 0) (by simp)
  obtain ⟨v2, e2, _, w2⟩ := DataW.trod_int Try.underlying3 f2
  have g2 := take_cell e2 (i := 0) (by simp)
  simp at g0 g1 g2
  exact ⟨⟨v0, v1, v2⟩, ⟨l0, z1⟩, fun c hc => ⟨⟨_, by rw [hc 0 (by omega), g0], s0⟩, ⟨_, by rw [hc 1 (by omega), g1], s1⟩, by rw [hc 2 (by omega), g2], in64_of_wf w2⟩⟩
theorem progs_read {m : Nat} {cs : List Value} {x : DataW H × List MemPlace} (h : DataW.trod enc Try.prog w base spare held m 22 cs = some x) (hw : ∀ n, n ∈ x.1.weights Try.prog 22 → n ≤ reachBytes) :
    ∃ l A c, cs = [.slice A l.length c] ∧ SliceAt w w.heap.size 3 (ProgE w w.heap.size) l (.slice A l.length c) ∧ l.length ≤ 140737488351232 ∧ l.length ≤ c ∧ c ≤ 9223372036854775807 ∧ ∀ t, t ∈ l → t.globs.length ≤ 140737488351232 ∧ ∀ g, g ∈ t.funcs → g.locs.length ≤ 140737488351232 ∧ ∀ b, b ∈ g.blocks → b.steps.length ≤ 140737488351232 :=
  slice_read Try.underlying22 (by kernel_rfl) (by1 := 56) (by kernel_rfl) (by omega) (by omega) (ProgE w w.heap.size) (fun t => t.globs.length ≤ 140737488351232 ∧ ∀ g, g ∈ t.funcs → g.locs.length ≤ 140737488351232 ∧ ∀ b, b ∈ g.blocks → b.steps.length ≤ 140737488351232) (fun k cs x h hw => prog_read h hw) h hw
theorem ask7_trod {k : Nat} {cs : List Value} {x : DataW H × List MemPlace} (h : DataW.trod enc Try.prog w base spare held k 25 cs = some x) (hw : ∀ n, n ∈ x.1.weights Try.prog 25 → n ≤ reachBytes) :
    ∃ (ps : List ProgS) (inp : List Int) (PA IA : Option Addr) (pc ic : Nat) (fu : Int), cs = [.slice PA ps.length pc, .slice IA inp.length ic, .int .i64 fu] ∧ SliceAt w w.heap.size 3 (ProgE w w.heap.size) ps (.slice PA ps.length pc) ∧ ps.length ≤ 140737488351232 ∧ inp.length ≤ 140737488351232 ∧ (∀ t, t ∈ ps → t.globs.length ≤ 140737488351232 ∧ ∀ g, g ∈ t.funcs → g.locs.length ≤ 140737488351232 ∧ ∀ b, b ∈ g.blocks → b.steps.length ≤ 140737488351232) ∧ InW w w.heap.size (.slice IA inp.length ic) inp := by
  obtain ⟨xs, m, _, hxe, hl, hxs, hf⟩ := DataW.trod_struct Try.underlying25 h
  have hc0 : Try.prog.cellsOf 22 = 1 := by kernel_rfl
  have hc1 : Try.prog.cellsOf 23 = 1 := by kernel_rfl
  have hc2 : Try.prog.cellsOf 3 = 1 := by kernel_rfl
  have f0 : DataW.trod enc Try.prog w base spare held m 22 ((cs.drop 0).take (Try.prog.cellsOf 22)) = xs[0]? := hf 0 _ rfl
  rw [hc0] at f0
  have f1 : DataW.trod enc Try.prog w base spare held m 23 ((cs.drop 1).take (Try.prog.cellsOf 23)) = xs[1]? := hf 1 _ rfl
  rw [hc1] at f1
  have f2 : DataW.trod enc Try.prog w base spare held m 3 ((cs.drop 2).take (Try.prog.cellsOf 3)) = xs[2]? := hf 2 _ rfl
  rw [hc2] at f2
  obtain ⟨x0, x1, x2, rfl⟩ : ∃ x0 x1 x2, xs = [x0, x1, x2] := by
    match xs, hxs with
    | [a, b, c], _ => exact ⟨a, b, c, rfl⟩
  have hx1 : x.1 = .agg [x0.1, x1.1, x2.1] := by rw [hxe]; rfl
  have hwt : ∀ n, n ∈ x0.1.weights Try.prog 22 ++ x1.1.weights Try.prog 23 ++ x2.1.weights Try.prog 3 → n ≤ reachBytes := fun n hn => hw n (by
    rw [hx1]
    simp only [DataW.weights, Try.underlying25, List.map_cons, List.map_nil, DataW.weightsEach, List.append_nil]
    simpa using hn)
  obtain ⟨v0, A0, c0, e0, s0, l0, q0, q0', z0⟩ := progs_read f0 (fun n hn => hwt n (by simp [hn]))
  have g0 := take_cell e0 (i := 0) (by simp)
  obtain ⟨v1, A1, c1, e1, s1, l1, q1, q1', z1⟩ := longs_read f1 (fun n hn => hwt n (by simp [hn]))
  have g1 := take_cell e1 (i := 0) (by simp)
  obtain ⟨v2, e2, _, w2⟩ := DataW.trod_int Try.underlying3 f2
  have g2 := take_cell e2 (i := 0) (by simp)
  simp at g0 g1 g2
  have hce : Try.prog.cellsOf 25 = 3 := by kernel_rfl
  rw [hce] at hl
  refine ⟨v0, v1, A0, A1, c0, c1, v2, cs3 hl e0 e1 e2, s0, l0, l1, z0, ⟨A1, c1, rfl, q1, q1', fun hp => ?_⟩⟩
  obtain ⟨A, c, h0, _, h2⟩ := s1
  obtain ⟨b, off, hA, hb, hc⟩ := h2 hp
  injection h0 with h0
  refine ⟨b, off, h0.trans hA, hb, fun j x hj => ?_⟩
  have := hc j x hj
  simpa using this
end
theorem ask7_read {H : Type} {enc : TypeId × Value → H} {w : World} {v : Value} {d : DataW H} {ps : List MemPlace} {cs : Array Value} (hv : v = .agg cs) (h : DataW.Trod enc Try.prog w 0 (fun _ => true) true 25 v d ps)
    (hsz : (DataW.weightsEach Try.prog [25] [d]).all (· ≤ reachBytes) = true) :
    ∃ (ps : List ProgS) (inp : List Int) (PA IA : Option Addr) (pc ic : Nat) (fu : Int), v = .agg #[.slice PA ps.length pc, .slice IA inp.length ic, .int .i64 fu] ∧ SliceAt w w.heap.size 3 (ProgE w w.heap.size) ps (.slice PA ps.length pc) ∧ ps.length ≤ 140737488351232 ∧ inp.length ≤ 140737488351232 ∧ (∀ t, t ∈ ps → t.globs.length ≤ 140737488351232 ∧ ∀ g, g ∈ t.funcs → g.locs.length ≤ 140737488351232 ∧ ∀ b, b ∈ g.blocks → b.steps.length ≤ 140737488351232) ∧ InW w w.heap.size (.slice IA inp.length ic) inp := by
  subst hv
  obtain ⟨m, h⟩ := h
  obtain ⟨ps', inp, PA, IA, pc, ic, fu, e, rest⟩ := ask7_trod h (fun n hn => by
    have := List.all_eq_true.1 hsz n (DataW.weights_mem_each (j := 0) rfl rfl n hn)
    simpa using this)
  refine ⟨ps', inp, PA, IA, pc, ic, fu, ?_, rest⟩
  have e' : cs.toList = [.slice PA ps'.length pc, .slice IA inp.length ic, .int .i64 fu] := by simpa [Value.cells] using e
  rw [← Array.toArray_toList (xs := cs), e']
end Go.Proofs.Ytikbdplllopjlaa
