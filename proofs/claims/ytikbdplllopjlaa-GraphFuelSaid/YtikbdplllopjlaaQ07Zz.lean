/- The graph's machine: how a run and a frame lie; trees' values, gathered. Conditions: as stated. The page's machine, in whole: what a run keeps. Plain laws; no program in sight. No condition. The graph's machine: a step: no fuel; stuck trees. Conditions: as stated. -/
import Derived.Test.YtikbdplllopjlaaGKillZz
import Derived.Test.YtikbdplllopjlaaQ04Zz
import Derived.Test.YtikbdplllopjlaaQ02Zz
set_option linter.unusedVariables false
set_option linter.unusedSimpArgs false
namespace Go.Proofs.Ytikbdplllopjlaa
open Go.RowKit
attribute [local go_sem ↓] Go.wp_at_zero Go.wp_at_succ

/-- A call's frame. -/
structure GFrame (w : World) (fb tb : Nat) (tp : List V) (lv : Value) (lo : List Nat) : Prop where
  row : Row w fb #[.slice (some ⟨tb, 0, none⟩) tp.length tp.length, lv] 84
  temps : VRow w tb tp
  locs : w.ownsRow 0 55 2 lv lo.length (flatV (locV lo))
  apart : ∀ g, lv.ownBlock = some g → g ≠ tb
  few : tp.length ≤ 1000000
  fewl : lo.length ≤ 1000000
/-- The run's own block: the clock, the program, the heap, the globals' places. -/
structure GRun (w : World) (rb cb hb : Nat) (P : Value × Value × Value) (gv : Value) (ng : Nat) : Prop where
  row : Row w rb #[.pointer (some ⟨cb, 0, none⟩), P.1, P.2.1, P.2.2, .pointer (some ⟨hb, 0, none⟩), gv] 52
  globs : w.ownsRow 0 55 2 gv ng (flatV (globV ng))
  few : ng ≤ 1000000
/-- Blocks that are not the heap's nor the clock's. -/
structure GOff (base : Nat) (own : Nat → Prop) (rb fb tb : Nat) (lv gv : Value) : Prop where
  orb : ¬ own rb ∧ base ≤ rb
  ofb : ¬ own fb ∧ base ≤ fb
  otb : ¬ own tb ∧ base ≤ tb
  olv : ∀ g, lv.ownBlock = some g → ¬ own g ∧ base ≤ g
  ogv : ∀ g, gv.ownBlock = some g → ¬ own g ∧ base ≤ g ∧ g ≠ tb
  ort : rb ≠ tb

theorem GFrame.wr {F : Nat → Prop} {w w' : World} {fb tb : Nat} {tp : List V} {lv : Value} {lo : List Nat} (h : GFrame w fb tb tp lv lo) (hb : Wr F w w') (h1 : ¬ F fb) (h2 : ¬ F tb) (h3 : ∀ g, lv.ownBlock = some g → ¬ F g) : GFrame w' fb tb tp lv lo := by
  obtain ⟨r1, ⟨cs, r2, r3⟩, r4, r5, r6, r7⟩ := h
  exact ⟨r1.wr hb h1, ⟨cs, r2.wr hb h2, r3⟩, ownsRow_wr r4 hb h3, r5, r6, r7⟩
theorem GRun.wr {F : Nat → Prop} {w w' : World} {rb cb hb : Nat} {P : Value × Value × Value} {gv : Value} {ng : Nat} (h : GRun w rb cb hb P gv ng) (hw : Wr F w w') (h1 : ¬ F rb) (h2 : ∀ g, gv.ownBlock = some g → ¬ F g) : GRun w' rb cb hb P gv ng :=
  ⟨h.row.wr hw h1, ownsRow_wr h.globs hw h2, h.few⟩
theorem GFrame.below {w w' : World} {fb tb : Nat} {tp : List V} {lv : Value} {lo : List Nat} (h : GFrame w fb tb tp lv lo) (hb : Below w.heap.size w w') : GFrame w' fb tb tp lv lo := h.wr (Wr.of_below (F := fun _ => False) hb) (fun h => h) (fun h => h) (fun _ _ h => h)
theorem GRun.below {w w' : World} {rb cb hb : Nat} {P : Value × Value × Value} {gv : Value} {ng : Nat} (h : GRun w rb cb hb P gv ng) (hbw : Below w.heap.size w w') : GRun w' rb cb hb P gv ng := h.wr (Wr.of_below (F := fun _ => False) hbw) (fun h => h) (fun _ _ h => h)
theorem GFrame.lt {w : World} {fb tb : Nat} {tp : List V} {lv : Value} {lo : List Nat} (h : GFrame w fb tb tp lv lo) : fb < w.heap.size ∧ tb < w.heap.size := ⟨h.row.lt, by obtain ⟨_, h, _⟩ := h.temps; exact h.lt⟩

theorem rowV_own {w : World} {base : Nat} {v : Value} {l : List V} {k : Nat} (h : w.ownsRow base 55 2 v k (flatV l)) (hk : l.length = k) : ∃ A cap, v = .slice A k cap ∧ RowV w w.heap.size A l ∧ (∀ j x, l[j]? = some x → ∃ b off, A = some ⟨b, off, none⟩ ∧ b < w.heap.size ∧ v.ownBlock = some b ∧ ValCells w b (off + j * 2) x) := by
  rcases Nat.eq_zero_or_pos k with h0 | hp
  · have hl : l = [] := List.eq_nil_of_length_eq_zero (by omega)
    subst hl
    rcases h.2 with ⟨e, e2⟩ | ⟨g, cap, cur, e, _⟩
    · exact ⟨none, 0, by rw [e, h0], fun j v hj => by simp at hj, fun j v hj => by simp at hj⟩
    · exact ⟨_, cap, e, fun j v hj => by simp at hj, fun j v hj => by simp at hj⟩
  · obtain ⟨g, cap, e, h1, h2, h3⟩ := ownsRow_vals' h hk hp
    refine ⟨some ⟨g, 0, none⟩, cap, e, fun j x hj => ⟨g, 0, rfl, h2, by rw [Nat.zero_add]; exact h3 j x hj⟩, fun j x hj => ⟨g, 0, rfl, h2, by rw [e]; rfl, by rw [Nat.zero_add]; exact h3 j x hj⟩⟩
theorem globV_length (n : Nat) : (globV n).length = n := by simp [globV]
theorem locV_length (lo : List Nat) : (locV lo).length = lo.length := by simp [locV]

theorem runR_of {w : World} {base : Nat} {own : Nat → Prop} {cb hb rb fb tb : Nat} {fuel : Int} {s : St} {P : Value × Value × Value} {gv lv : Value} {ng : Nat} {tp : List V} {lo : List Nat} (h : HCs w base own cb hb fuel s) (hR : GRun w rb cb hb P gv ng) (hF : GFrame w fb tb tp lv lo) :
    RunR w w.heap.size rb fb (memBase s.mem) tp lo ng ∧ MemOk (memBase s.mem) ∧ NumOk (memBase s.mem) := by
  obtain ⟨inv, outv, memv, rbf, h⟩ := h
  obtain ⟨A, cap, rfl, hMR⟩ := h.mem.memRG
  obtain ⟨GA, gc, hgv, hgr, _⟩ := rowV_own hR.globs (globV_length ng)
  obtain ⟨LA, lc, hlv, hlr, _⟩ := rowV_own hF.locs (locV_length lo)
  obtain ⟨cs, ht, hvi⟩ := hF.temps
  refine ⟨⟨hb, _, cap, tp.length, lc, gc, A, some ⟨tb, 0, none⟩, LA, GA, hR.row.cell (j := 4) rfl, h.heap.cell rfl, hMR, ?_, hgr, hF.row.cell (j := 0) rfl, fun j v hj => ⟨tb, 0, rfl, ht.lt, by rw [Nat.zero_add]; exact ⟨ht.cell (hvi.2 j v hj).1, ht.cell (hvi.2 j v hj).2⟩⟩, ?_, hlr, hR.row.lt, hF.row.lt, h.heap.lt⟩, h.mem.ok, h.mem.num⟩
  · rw [← hgv]; exact hR.row.cell (j := 5) rfl
  · rw [← hlv]; exact hF.row.cell (j := 1) rfl

theorem tree_hc {w : World} {base : Nat} {own : Nat → Prop} {cb hb rb fb tb : Nat} {fuel : Int} {s : St} {P : Value × Value × Value} {gv lv : Value} {ng : Nat} {tp : List V} {lo : List Nat} (t : T) (v0 v1 v2 : Value) (h : HCs w base own cb hb fuel s) (hR : GRun w rb cb hb P gv ng) (hF : GFrame w fb tb tp lv lo)
    (hFr : FrOk (memBase s.mem) tp lo ng) (hT : TOk tp.length lo.length ng t) (hv : TreeAt w (Under base) t v0 v1 v2) :
    Calls Try.prog 34 #[.pointer (some ⟨rb, 0, none⟩), .pointer (some ⟨fb, 0, none⟩), .agg #[v0, v1, v2]] w fun e w' => AnsV (evalT s.mem tp lo t) e ∧ Below w.heap.size w w' := by
  obtain ⟨h1, h2, h3⟩ := runR_of h hR hF
  have hbs : base ≤ w.heap.size := by have := h.blocks; have := this.2.2 cb this.1; omega
  rw [← evalT_base]
  exact treeg_all t.size t w.heap.size rb fb (memBase s.mem) tp lo ng w v0 v1 v2 (Nat.le_refl _) (Nat.le_refl _) h1 h2 h3 hFr hT hF.few hF.fewl hR.few (hv.below (Below.refl _ _) hbs)

/-- What gathered trees answer. -/
def TreesSays (base : Nat) (own : Nat → Prop) (cb hb : Nat) (fuel : Int) (s : St) (r : Option (List V)) (w : World) (e : Ending) (w' : World) : Prop :=
  match r with
  | some l => ∃ pv, e = .returned (.tuple #[pv, .bool true]) ∧ w'.ownsRow w.heap.size 55 2 pv l.length (flatV l) ∧ Below w.heap.size w w'
  | none => e = .returned (.tuple #[.slice none 0 0, .bool false]) ∧ HCs w' base own cb hb fuel { s with kind := 3 } ∧ Wr (fun b => b = cb) w w'

set_option maxRecDepth 100000 in
set_option maxHeartbeats 8000000 in
theorem trees_hc {w : World} {base : Nat} {own : Nat → Prop} {cb hb rb fb tb : Nat} {fuel : Int} {s : St} {P : Value × Value × Value} {gv lv : Value} {ng : Nat} {tp : List V} {lo : List Nat} (ks : List T) (A : Option Addr) (n cap : Nat) (h : HCs w base own cb hb fuel s) (hR : GRun w rb cb hb P gv ng) (hF : GFrame w fb tb tp lv lo)
    (hFr : FrOk (memBase s.mem) tp lo ng) (hT : TsOk tp.length lo.length ng ks) (hk : KidsV w base ks A n) (hn4 : n ≤ 1000) :
    Calls Try.prog 38 #[.pointer (some ⟨rb, 0, none⟩), .pointer (some ⟨fb, 0, none⟩), .slice A n cap] w fun e w' => TreesSays base own cb hb fuel s (evalTs s.mem tp lo ks) w e w' := by
  have hbs : base ≤ w.heap.size := by have := h.blocks; have := this.2.2 cb this.1; omega
  have hrb := hR.row.lt
  have hr0 := hR.row.cell (j := 0) rfl
  have hcb : cb < w.heap.size := by have := h.blocks; have := this.2.2 cb this.1; omega
  obtain ⟨i0, hi, hz0, hz1, hz2⟩ := info_parts val_info
  have H := Lib.hid h
  have HR := Lib.hid hR
  have HF := Lib.hid hF
  have HFR := Lib.hid hFr
  have HT := Lib.hid hT
  have HK := Lib.hid hk
  have HKL := Lib.hid hk.1
  have hn9 := hk.2.1
  have HR0 := Lib.hid hr0
  clear h hR hF hFr hT hk hr0
  go_enter Try.func38, Try.ntmps38
  refine wp_letter (fun Q hQ => ?_)
  have HQ := Lib.hid hQ
  clear hQ
  go_wp2_with fail
  go_loopw [6, 14] (fun pv0 i wr => ∃ (k : Nat) (l : List V) (pv : Value), pv = pv0 ∧ k ≤ n ∧ i = .int .i64 k ∧ evalTs s.mem tp lo (ks.take k) = some l ∧ wr.ownsRow w.heap.size 55 2 pv k (flatV l) ∧ Below w.heap.size w wr) (fun _ i _ => n - (intOf i).toNat)
  case atStart => exact ⟨0, [], _, rfl, by omega, rfl, by simp [evalTs], World.ownsRow_nil _ _ _ _, Below.refl _ _⟩
  case round =>
    obtain ⟨k, l, pv, rfl, hk, rfl, hev, hown, hbw⟩ := hrel
    have hzw := hbw.size
    have HBW := Lib.hid hbw
    have HEV := Lib.hid hev
    have HOWN := Lib.hid hown
    have hHw := H.out.below hbw
    by_cases hlt : k < n
    · obtain ⟨b, off, t, v0, v1, v2, rfl, hb, hk1, k0, k1, k2, ht⟩ := (HK.out.below (hbw.mono hbs) (Nat.le_refl _)).get hlt
      obtain ⟨A1, n1, c1, rfl, rfl, rfl⟩ := ht.rootG
      obtain ⟨a0, ha0⟩ : ∃ a0, a0 = t.op := ⟨_, rfl⟩
      obtain ⟨a1, ha1⟩ : ∃ a1, a1 = t.n := ⟨_, rfl⟩
      rw [← ha0] at k0 ht
      rw [← ha1] at k1 ht
      clear ha0 ha1
      have HC := Lib.hid (fun W (hb : Below wr.heap.size wr W) => tree_hc t _ _ _ (hHw.below hb) ((HR.out.below hbw).below hb) ((HF.out.below hbw).below hb) HFR.out (HT.out.get hk1) (ht.below (hb.mono (by omega)) (Nat.le_refl _)))
      have HK1 := Lib.hid hk1
      have hklt : (k : Int) < (n : Int) := by omega
      have hbl : b < wr.heap.size := by omega
      clear hk1 ht hev hown hbw hHw
      cases hv : evalT s.mem tp lo t with
      | none =>
        have HN := Lib.hid (evalTs_fail HK1.out hv)
        rw [hv] at HC
        go_wp2_with fail
        refine (HC.out _ (below1 _ _)).mono ?_
        rintro e w1 ⟨⟨y0, y1, rfl⟩, hb1⟩
        have HB1 := Lib.hid (HBW.out.trans (((below1 wr (.cells #[.int .i64 a0, .int .i64 a1, .slice A1 n1 c1] 62)).trans (hb1.mono (below1 wr _).size)).mono hzw))
        have hzz1 := hb1.size
        simp only [World.size_alloc] at hzz1
        have HH := Lib.hid (fun W (hb : Below w1.heap.size w1 W) => stuck_hc (H.out.below (HB1.out.trans (hb.mono HB1.out.size))))
        have g0 := cell_below HR0.out HB1.out hrb
        have hrb1 : rb < w1.heap.size := by omega
        have hrb2 : rb < w1.heap.size + 1 := by omega
        clear hb1
        go_wp2_with fail
        refine (HH.out _ (below1 _ _)).mono ?_
        rintro e w2 ⟨rfl, hH2, hw2⟩
        have HH2 := Lib.hid hH2
        have HW2 := Lib.hid ((Wr.of_below (F := fun b => b = cb) (HB1.out.trans ((below1 w1 (.cells #[.int .i64 y0, .int .i64 y1] 55)).mono HB1.out.size))).trans hw2 (fun _ h => Or.inl h))
        clear hH2 hw2
        go_wp2_with fail
        refine HQ.out _ _ _ ?_
        refine bodyPost_ret (v := .tuple #[.slice none 0 0, .bool false]) (by simp [results, Try.results38, go_sem]) rfl ?_
        rw [HN.out]
        exact ⟨rfl, HH2.out, HW2.out⟩
      | some v =>
        rw [hv] at HC
        simp only [AnsV, ansV] at HC
        have hlenk : l.length = k := by
          have := evalTs_length HEV.out
          rw [List.length_take, HKL.out] at this
          omega
        go_wp2_with fail
        refine (HC.out _ (below1 _ _)).mono ?_
        rintro e w1 ⟨rfl, hb1⟩
        have hzz1 := hb1.size
        simp only [World.size_alloc] at hzz1
        have HB1 := Lib.hid ((below1 wr (.cells #[.int .i64 a0, .int .i64 a1, .slice A1 n1 c1] 62)).trans (hb1.mono (below1 wr _).size))
        have hown1 := (ownsRow_wr HOWN.out (Wr.of_below (F := fun _ => False) HB1.out) (fun _ _ h => h))
        have HOWN1 := Lib.hid hown1
        clear hb1 hown1
        go_wp2_with (at_builtin; refine wpList_append_lies _ rfl (.tmp 32) (.tmp 34) 50 rfl w.heap.size 55 i0 (.agg #[.int .i64 0, .int .i64 0]) 2 16 Try.underlying50 hi hz0 hz1 hz2 rfl (by decide) _ _ _ rfl (ownsRow_wr HOWN1.out (Wr.of_below (F := fun _ => False) (below2 w1 _ _)) (fun _ _ h => h)) ⟨w1.heap.size + 1, 0, none⟩ 1 1 [.int .i64 v.obj, .int .i64 v.n] rfl rfl ?c1 ?c2 ?c3 ?c4 ?c5 ?c6 (w1.heap.size + 1 + 1) (by simp) ?_)
        case c1 => exact pair_cells _ _ _ _ _ (by simp)
        case c2 => exact pair_one _ _
        case c3 => omega
        case c4 => unfold maxLen; omega
        case c5 => omega
        case c6 => simp; omega
        · intro gg cap3 w2 hown2 hgrow hat hlt2
          have HB2 := Lib.hid ((HBW.out.trans ((HB1.out.trans ((below2 w1 (.cells #[.int .i64 v.obj, .int .i64 v.n] 55) (.cells #[.int .i64 v.obj, .int .i64 v.n] 55)).mono HB1.out.size)).mono hzw)).grown hgrow (by simp; omega) (fun g hg => (HOWN.out.lt g hg).1))
          have HO2 := Lib.hid hown2
          clear hown2 hgrow hat
          go_wp2_with fail
          go_roundw
          case rel => exact ⟨k + 1, l ++ [v], _, rfl, by omega, by go_num, evalTs_next HEV.out HK1.out hv, by rw [flatV_append]; exact HO2.out, HB2.out⟩
          case measure => simp [intOf]; omega
    · obtain rfl : k = n := by omega
      rw [show ks.take k = ks from by rw [← HKL.out, List.take_length]] at HEV
      have hlenk : l.length = k := by rw [evalTs_length HEV.out, HKL.out]
      have HLK := Lib.hid hlenk
      clear hev hown hbw hHw hlenk
      go_wp2_with fail
      refine HQ.out _ _ _ ?_
      refine bodyPost_ret (v := .tuple #[pv, .bool true]) (by simp [results, Try.results38, go_sem]) rfl ?_
      rw [HEV.out]
      exact ⟨pv, rfl, by rw [HLK.out]; exact HOWN.out, HBW.out⟩
end Go.Proofs.Ytikbdplllopjlaa
namespace Go.Proofs.Ytikbdplllopjlaa
open Go.RowKit

/-- A step that may be. -/
def StepOkG (p : ProgS) (nt nl : Nat) (x : StepS) : Prop :=
  TsOk nt nl p.globs.length x.args ∧ TsIn x.args ∧ x.args.length ≤ 1000 ∧
  ((x.op = 1 ∧ x.args.length = 1 ∧ 0 ≤ x.to ∧ x.to < nt) ∨ (x.op = 2 ∧ x.args.length = 2 ∧ x.to = -1 ∧ (x.size = 1 ∨ x.size = 2 ∨ x.size = 4 ∨ x.size = 8)) ∨
   (x.op = 3 ∧ (∃ f g, x.fn = ((f : Nat) : Int) ∧ p.funcs[f]? = some g ∧ (x.args.length : Int) = g.params) ∧ (x.to = -1 ∨ 0 ≤ x.to ∧ x.to < nt)) ∨ (x.op = 4 ∧ x.args.length = 1 ∧ x.to = -1) ∨
   (x.op = 5 ∧ x.args.length = 0 ∧ 0 ≤ x.to ∧ x.to < nt) ∨ (x.op = 6 ∧ x.args.length = 1 ∧ x.to = -1))
structure BlockOkG (p : ProgS) (g : GraphS) (nt : Nat) (b : BlockS) : Prop where
  steps : ∀ x, x ∈ b.steps → StepOkG p nt g.locs.length x
  few : b.steps.length ≤ 1000000
  fin : b.fin = 1 ∨ b.fin = 2 ∨ b.fin = 3
  next : 0 ≤ b.next ∧ b.next < g.blocks.length
  els : 0 ≤ b.els ∧ b.els < g.blocks.length
  cond : b.fin ≠ 1 → TOk nt g.locs.length p.globs.length b.cond ∧ TIn b.cond
structure FnOkG (p : ProgS) (g : GraphS) : Prop where
  nt : ∃ nt : Nat, g.temps = nt ∧ nt ≤ 1000 ∧ ∀ b, b ∈ g.blocks → BlockOkG p g nt b
  params : 0 ≤ g.params ∧ g.params ≤ g.temps
  obs : ∀ o, o ∈ g.locs → ObOk o ∧ ∀ x, x ∈ o.init → In64 x
  locs : g.locs.length ≤ 24
  one : 0 < g.blocks.length
  few : g.blocks.length ≤ 1000000
structure ProgOkG (p : ProgS) : Prop where
  globs : ∀ o, o ∈ p.globs → ObOk o ∧ ∀ x, x ∈ o.init → In64 x
  gfew : p.globs.length ≤ 16
  fns : ∀ g, g ∈ p.funcs → FnOkG p g
  main : ∃ f g, p.main = ((f : Nat) : Int) ∧ p.funcs[f]? = some g ∧ g.params = 0

/-- What is always true of the machine while it runs. -/
structure GInv (fuel : Int) (s : St) : Prop where
  kind : s.kind = 0
  lo : 0 ≤ s.steps
  hi : s.steps ≤ fuel
  many : (memBase s.mem).length ≤ 20 + s.steps.toNat
  outs : s.out.length ≤ s.steps.toNat
  calls : 0 ≤ s.calls
  deep : 0 ≤ s.deep
  inp : ∀ x, x ∈ s.inp → In64 x
  mem : MemOk (memBase s.mem)
  num : NumOk (memBase s.mem)
structure GKept (fuel : Int) (s s' : St) : Prop where
  inv : GInv fuel s'
  calls : s'.calls = s.calls
  grow : (memBase s.mem).length ≤ (memBase s'.mem).length
  steps : s.steps ≤ s'.steps
theorem GKept.refl {fuel : Int} {s : St} (h : GInv fuel s) : GKept fuel s s := ⟨h, rfl, Nat.le_refl _, Int.le_refl _⟩
theorem GKept.trans {fuel : Int} {a b c : St} (h : GKept fuel a b) (k : GKept fuel b c) : GKept fuel a c := ⟨k.inv, k.calls.trans h.calls, Nat.le_trans h.grow k.grow, Int.le_trans h.steps k.steps⟩
theorem FrOk.grow {M M' : List MO} {tp : List V} {lo : List Nat} {ng : Nat} (h : FrOk M tp lo ng) (hl : M.length ≤ M'.length) : FrOk M' tp lo ng :=
  ⟨fun v hv => (h.temps v hv).mono hl, fun x hx => Nat.lt_of_lt_of_le (h.locs x hx) hl, Nat.lt_of_lt_of_le h.globs hl⟩
theorem FrOk.put {M : List MO} {tp : List V} {lo : List Nat} {ng : Nat} (h : FrOk M tp lo ng) (dst : Int) {v : V} (hv : VOk M.length v) : FrOk M (setT tp dst v) lo ng := by
  unfold setT
  split
  · exact ⟨fun u hu => by rcases List.mem_or_eq_of_mem_set hu with h1 | h1; exact h.temps u h1; exact h1 ▸ hv, h.locs, h.globs⟩
  · exact h
theorem setT_length (tp : List V) (dst : Int) (v : V) : (setT tp dst v).length = tp.length := by unfold setT; split <;> simp
theorem GInv.tick {fuel n : Int} {s : St} (h : GInv fuel s) (hn : 0 ≤ n) (hy : (stepF fuel n s).1 = true) : (stepF fuel n s).2 = { s with steps := s.steps + n } ∧ GInv fuel { s with steps := s.steps + n } := by
  obtain ⟨_, h1, h2⟩ := stepF_yes hy
  have := h.lo
  have := h.many
  have := h.outs
  exact ⟨h2, h.kind, by show 0 ≤ s.steps + n; omega, by show s.steps + n ≤ fuel; omega, by show (memBase s.mem).length ≤ 20 + (s.steps + n).toNat; omega, by show s.out.length ≤ (s.steps + n).toNat; omega, h.calls, h.deep, h.inp, h.mem, h.num⟩
theorem MemOk.put {M : List MO} (h : MemOk M) (k j : Nat) {v : V} (hk : 1 ≤ k) (hv : VOk M.length v) : MemOk (M.modify k fun o => { o with l := o.l.set j v }) := by
  refine ⟨by simpa using h.many, fun o ho => ?_, fun i o h1 ho => ?_, fun o ho u hu => ?_⟩
  · obtain ⟨o0, h0, he⟩ := modify_get ho
    rw [if_neg (by omega)] at he
    subst he
    exact h.zero _ h0
  · obtain ⟨o0, h0, rfl⟩ := modify_get ho
    have := h.size i o0 h1 h0
    split
    · simpa using this
    · exact this
  · rw [List.length_modify]
    rcases mem_modify ho with ho | ⟨o0, h0, rfl⟩
    · exact h.vals o ho u hu
    · rcases List.mem_or_eq_of_mem_set hu with hu | hu
      · exact h.vals o0 (List.mem_of_getElem? h0) u hu
      · exact hu ▸ hv
theorem storeF_kept {M M' : List MO} {size : Int} {a x : V} (hs : storeF M size a x = some M') (h0 : 0 ≤ size) (hm : MemOk M) (hn : NumOk M) (hx : VOk M.length x) : MemOk M' ∧ NumOk M' ∧ M'.length = M.length := by
  refine ⟨?_, hn.store hs h0, ?_⟩
  · unfold storeF at hs
    cases ha : atF M a size.toNat with
    | none => rw [ha] at hs; simp at hs
    | some j =>
      rw [ha] at hs
      simp only at hs
      split at hs
      · cases hs
      · simp only [Option.some.injEq] at hs
        subst hs
        have hp : 0 < a.obj := by
          unfold atF at ha
          split at ha
          · rename_i h1; exact h1.1
          · cases ha
        refine hm.put a.obj j hp ?_
        split
        · exact ⟨Nat.lt_of_le_of_lt (Nat.zero_le _) hx.1, fun h => absurd rfl h, stored_in64 hx.2.2⟩
        · exact hx
  · unfold storeF at hs
    split at hs
    · cases hs
    · split at hs
      · cases hs
      · simp only [Option.some.injEq] at hs
        subst hs
        simp

/-- What is kept by a call at so many calls. -/
def RKept (p : ProgS) (fuel : Int) (c : Int) (R : CallR) : Prop :=
  ∀ (f : Nat) g args s v s', p.funcs[f]? = some g → (args.length : Int) = g.params → GInv fuel s → s.calls = c → (∀ v, v ∈ args → VOk (memBase s.mem).length v) → p.globs.length < (memBase s.mem).length → R f args s = (some v, s') → GKept fuel s s' ∧ VOk (memBase s'.mem).length v

section
variable {p : ProgS} {fuel : Int} {R : CallR} {lo : List Nat} {nt nl : Nat}
theorem does_kept (hR : ∀ c, RKept p fuel c R) {s s' : St} {tp tp' : List V} {x : StepS} (hI : GInv fuel s) (hF : FrOk (memBase s.mem) tp lo p.globs.length) (ht : tp.length = nt) (hl : lo.length = nl) (hx : StepOkG p nt nl x) (h : doesF R fuel lo s tp x = (true, s', tp')) :
    GKept fuel s s' ∧ FrOk (memBase s'.mem) tp' lo p.globs.length ∧ tp'.length = tp.length := by
  subst ht hl
  obtain ⟨hts, hti, _, hop⟩ := hx
  by_cases hy : (stepF fuel 1 s).1 = true
  · obtain ⟨h1, hI1⟩ := hI.tick (by omega) hy
    cases he : evalTs s.mem tp lo x.args with
    | none =>
      unfold doesF at h
      rw [if_neg (by rw [hy]; simp), stepF_mem, he] at h
      cases h
    | some l =>
      have hok := evals_ok hI.mem hF x.args hti hts (by rw [evalTs_base]; exact he)
      have hlen := evalTs_length he
      rw [doesF_yes hy h1 he] at h
      have hK1 : GKept fuel s { s with steps := s.steps + 1 } := ⟨hI1, rfl, Nat.le_refl _, by show s.steps ≤ s.steps + 1; omega⟩
      have hpos := memBase_pos s.mem
      have hg := fun j => getD_ok hpos hok j
      unfold actF at h
      rcases hop with ⟨h1, h2, h3, h4⟩ | ⟨h1, h2, h3, h4⟩ | ⟨h1, ⟨f, g, h2, h3, h4⟩, h5⟩ | ⟨h1, h2, h3⟩ | ⟨h1, h2, h3, h4⟩ | ⟨h1, h2, h3⟩
      · rw [if_pos h1] at h
        simp only [Prod.mk.injEq, true_and] at h
        obtain ⟨rfl, rfl⟩ := h
        exact ⟨hK1, hF.put _ (hg 0), setT_length _ _ _⟩
      · rw [if_neg (by omega), if_pos h1] at h
        split at h
        · rename_i M hst
          simp only [Prod.mk.injEq, true_and] at h
          obtain ⟨rfl, rfl⟩ := h
          have hb := storeF_base s.mem x.size (l.getD 0 ⟨0, 0⟩) (l.getD 1 ⟨0, 0⟩)
          simp only at hst
          rw [hst] at hb
          obtain ⟨k1, k2, k3⟩ := storeF_kept hb (by omega) hI.mem hI.num (hg 1)
          refine ⟨⟨⟨hI1.kind, hI1.lo, hI1.hi, by show (memBase M).length ≤ _; rw [k3]; exact hI1.many, hI1.outs, hI1.calls, hI1.deep, hI1.inp, k1, k2⟩, rfl, by show _ ≤ (memBase M).length; rw [k3]; exact Nat.le_refl _, by show s.steps ≤ s.steps + 1; omega⟩, ?_, rfl⟩
          exact hF.grow (by show _ ≤ (memBase M).length; rw [k3]; exact Nat.le_refl _)
        · cases h
      · rw [if_neg (by omega), if_neg (by omega), if_pos h1] at h
        split at h
        · rename_i v s2 hr
          simp only [Prod.mk.injEq, true_and] at h
          obtain ⟨rfl, rfl⟩ := h
          rw [h2] at hr
          obtain ⟨k1, k2⟩ := hR _ f g l _ v s2 h3 (by rw [hlen]; exact h4) hI1 rfl hok hF.globs hr
          exact ⟨hK1.trans k1, (hF.grow k1.grow).put _ k2, setT_length _ _ _⟩
        · cases h
      · rw [if_neg (by omega), if_neg (by omega), if_neg (by omega), if_neg (by omega)] at h
        split at h
        · cases h
        · rw [if_neg (by omega)] at h
          simp only [Prod.mk.injEq, true_and] at h
          obtain ⟨rfl, rfl⟩ := h
          have h0 := hI.lo
          have h5 := hI.outs
          refine ⟨⟨⟨hI1.kind, hI1.lo, hI1.hi, hI1.many, ?_, hI1.calls, hI1.deep, hI1.inp, hI1.mem, hI1.num⟩, rfl, Nat.le_refl _, by show s.steps ≤ s.steps + 1; omega⟩, hF, rfl⟩
          show (s.out ++ _).length ≤ (s.steps + 1).toNat
          rw [List.length_append, List.length_singleton]
          omega
      · rw [if_neg (by omega), if_neg (by omega), if_neg (by omega), if_pos h1] at h
        split at h
        · rename_i hin
          simp only [Prod.mk.injEq, true_and] at h
          obtain ⟨rfl, rfl⟩ := h
          exact ⟨hK1, hF.put _ (VOk.num hpos (by unfold In64; omega)), setT_length _ _ _⟩
        · rename_i n r hin
          simp only [Prod.mk.injEq, true_and] at h
          obtain ⟨rfl, rfl⟩ := h
          simp only at hin
          have hi64 := hI.inp
          rw [hin] at hi64
          refine ⟨⟨⟨hI1.kind, hI1.lo, hI1.hi, hI1.many, hI1.outs, hI1.calls, hI1.deep, fun x hx => hi64 x (List.mem_cons_of_mem _ hx), hI1.mem, hI1.num⟩, rfl, Nat.le_refl _, by show s.steps ≤ s.steps + 1; omega⟩, hF.put _ (VOk.num hpos (hi64 n (by simp))), setT_length _ _ _⟩
      · rw [if_neg (by omega), if_neg (by omega), if_neg (by omega), if_neg (by omega)] at h
        split at h
        · cases h
        · cases h
  · unfold doesF at h
    rw [if_pos (by simpa using hy)] at h
    cases h
theorem steps_kept (hR : ∀ c, RKept p fuel c R) : ∀ (xs : List StepS) {s s' : St} {tp tp' : List V}, GInv fuel s → FrOk (memBase s.mem) tp lo p.globs.length → tp.length = nt → lo.length = nl → (∀ x, x ∈ xs → StepOkG p nt nl x) → stepsF R fuel lo s tp xs = (true, s', tp') →
    GKept fuel s s' ∧ FrOk (memBase s'.mem) tp' lo p.globs.length ∧ tp'.length = tp.length
  | [], s, s', tp, tp', hI, hF, _, _, _, h => by
    rw [stepsF] at h
    simp only [Prod.mk.injEq, true_and] at h
    obtain ⟨rfl, rfl⟩ := h
    exact ⟨GKept.refl hI, hF, rfl⟩
  | x :: r, s, s', tp, tp', hI, hF, ht, hl, hx, h => by
    rw [stepsF] at h
    split at h
    · rename_i s1 tp1 h1
      obtain ⟨k1, k2, k3⟩ := does_kept hR hI hF ht hl (hx x (by simp)) h1
      obtain ⟨m1, m2, m3⟩ := steps_kept hR r k1.inv k2 (k3.trans ht) hl (fun y hy => hx y (List.mem_cons_of_mem _ hy)) h
      exact ⟨k1.trans m1, m2, m3.trans k3⟩
    · cases h
theorem block_kept (hR : ∀ c, RKept p fuel c R) {g : GraphS} {b : BlockS} {s s' : St} {tp tp' : List V} {go : Goes} (hI : GInv fuel s) (hF : FrOk (memBase s.mem) tp lo p.globs.length) (ht : tp.length = nt) (hl : lo.length = g.locs.length) (hb : BlockOkG p g nt b) (h : blockF R fuel lo s tp b = (go, s', tp')) (hgo : go ≠ .over) :
    GKept fuel s s' ∧ FrOk (memBase s'.mem) tp' lo p.globs.length ∧ tp'.length = tp.length ∧ s.steps + 1 ≤ s'.steps ∧ (∀ k, go = .next k → 0 ≤ k ∧ k < g.blocks.length) ∧ (∀ v, go = .ret v → VOk (memBase s'.mem).length v) := by
  unfold blockF at h
  split at h
  · simp only [Prod.mk.injEq] at h; exact absurd h.1.symm hgo
  · rename_i s1 tp1 h1
    obtain ⟨k1, k2, k3⟩ := steps_kept hR b.steps hI hF ht hl hb.steps h1
    have hmono := k1.steps
    split at h
    · simp only [Prod.mk.injEq] at h; exact absurd h.1.symm hgo
    · rename_i hy
      have hy' : (stepF fuel 1 s1).1 = true := by simpa using hy
      obtain ⟨e1, hI1⟩ := k1.inv.tick (by omega) hy'
      rw [e1] at h
      have hK : GKept fuel s { s1 with steps := s1.steps + 1 } := k1.trans ⟨hI1, rfl, Nat.le_refl _, by show s1.steps ≤ s1.steps + 1; omega⟩
      split at h
      · simp only [Prod.mk.injEq] at h
        obtain ⟨rfl, rfl, rfl⟩ := h
        exact ⟨hK, k2, k3, by show s.steps + 1 ≤ s1.steps + 1; omega, fun k hk => (by injection hk with hk; exact hk ▸ hb.next), fun v hv => (by cases hv)⟩
      · rename_i hfin
        obtain ⟨hc1, hc2⟩ := hb.cond hfin
        split at h
        · simp only [Prod.mk.injEq] at h; exact absurd h.1.symm hgo
        · rename_i v hv
          have hvok := eval_ok k1.inv.mem k2 b.cond hc2 (by rw [k3, ht, hl]; exact hc1) (by rw [evalT_base]; exact hv)
          split at h
          · simp only [Prod.mk.injEq] at h
            obtain ⟨rfl, rfl, rfl⟩ := h
            exact ⟨hK, k2, k3, by show s.steps + 1 ≤ s1.steps + 1; omega, fun k hk => (by cases hk), fun u hu => (by injection hu with hu; exact hu ▸ hvok)⟩
          · simp only [Prod.mk.injEq] at h
            obtain ⟨rfl, rfl, rfl⟩ := h
            exact ⟨hK, k2, k3, by show s.steps + 1 ≤ s1.steps + 1; omega, fun k hk => (by injection hk with hk; subst hk; split; exact hb.els; exact hb.next), fun u hu => (by cases hu)⟩
theorem MemOk.kills {M : List MO} (h : MemOk M) : ∀ (l : List Nat), MemOk (killF M l)
  | [] => h
  | k :: l => (h.kill k).kills l
theorem blocks_kept (hR : ∀ c, RKept p fuel c R) {g : GraphS} (hl : lo.length = g.locs.length) (hb : ∀ b, b ∈ g.blocks → BlockOkG p g nt b) : ∀ (m : Nat) (k : Int) {s s' : St} {tp : List V} {v : V}, GInv fuel s → 1 ≤ s.calls → FrOk (memBase s.mem) tp lo p.globs.length → tp.length = nt → 0 ≤ k → k < g.blocks.length →
    blocksF R fuel lo g.blocks m k s tp = (some v, s') → GInv fuel s' ∧ s'.calls = s.calls - 1 ∧ (memBase s.mem).length ≤ (memBase s'.mem).length ∧ s.steps ≤ s'.steps ∧ VOk (memBase s'.mem).length v
  | 0, k, s, s', tp, v, _, _, _, _, _, _, h => by rw [blocksF] at h; cases h
  | m + 1, k, s, s', tp, v, hI, hc, hF, ht, hk0, hk1, h => by
    rw [blocksF] at h
    obtain ⟨kn, rfl⟩ := Int.eq_ofNat_of_zero_le hk0
    have hkl : kn < g.blocks.length := by omega
    have hbk : g.blocks.getD ((kn : Int)).toNat noBlock ∈ g.blocks := by
      rw [Int.toNat_natCast, List.getD_eq_getElem?_getD, List.getElem?_eq_getElem hkl]
      exact List.getElem_mem _
    split at h
    · cases h
    · rename_i k' s1 tp1 h1
      obtain ⟨a1, a2, a3, a4, a5, _⟩ := block_kept hR hI hF ht hl (hb _ hbk) h1 (by simp)
      obtain ⟨k0, k1⟩ := a5 k' rfl
      obtain ⟨b1, b2, b3, b4, b5⟩ := blocks_kept hR hl hb m k' a1.inv (by rw [a1.calls]; exact hc) a2 (a3.trans ht) k0 k1 h
      exact ⟨b1, by rw [b2, a1.calls], Nat.le_trans a1.grow b3, by omega, b5⟩
    · rename_i u s1 tp1 h1
      obtain ⟨a1, a2, a3, a4, _, a6⟩ := block_kept hR hI hF ht hl (hb _ hbk) h1 (by simp)
      simp only [Prod.mk.injEq, Option.some.injEq] at h
      obtain ⟨rfl, rfl⟩ := h
      have e : memBase (killF s1.mem lo) = killF (memBase s1.mem) lo := (killF_base _ _).symm
      have el : (memBase (killF s1.mem lo)).length = (memBase s1.mem).length := by rw [e, killF_length]
      have hcs := a1.calls
      refine ⟨⟨a1.inv.kind, a1.inv.lo, a1.inv.hi, by show (memBase (killF s1.mem lo)).length ≤ _; rw [el]; exact a1.inv.many, a1.inv.outs, by show 0 ≤ s1.calls - 1; omega, a1.inv.deep, a1.inv.inp, by show MemOk (memBase (killF s1.mem lo)); rw [e]; exact a1.inv.mem.kills lo, by show NumOk (memBase (killF s1.mem lo)); rw [e]; exact a1.inv.num.kills lo⟩, by show s1.calls - 1 = s.calls - 1; omega, by show _ ≤ (memBase (killF s1.mem lo)).length; rw [el]; exact a1.grow, by show s.steps ≤ s1.steps; omega, by show VOk (memBase (killF s1.mem lo)).length u; rw [el]; exact a6 u rfl⟩
theorem makes_ok : ∀ (l : List ObS) {M : List MO}, MemOk (memBase M) → (∀ o, o ∈ l → ObOk o ∧ ∀ x, x ∈ o.init → In64 x) → (memBase M).length + l.length ≤ 4294967296 → MemOk (memBase (makesF M l))
  | [], M, h, _, _ => h
  | o :: l, M, h, ho, hm => by
    have h1 := ho o (by simp)
    simp only [List.length_cons] at hm
    have h2 := makeF_ok h o h1.1.1 (by have := h1.1.2.2.1; omega) h1.2 (by rw [memBase_twice]; omega)
    rw [makeF_base] at h2
    refine makes_ok l (M := makeF M o) (by rw [makeF_based]; exact h2) (fun x hx => ho x (List.mem_cons_of_mem _ hx)) ?_
    rw [makeF_based, makeF_length]
    omega
theorem call_start_ok {g : GraphS} {s : St} {args : List V} (hg : FnOkG p g) (hnt : g.temps = nt) (hI : GInv fuel s) (ha : ∀ v, v ∈ args → VOk (memBase s.mem).length v) (hal : args.length ≤ nt) (hgl : p.globs.length < (memBase s.mem).length) (hf : fuel ≤ 100000000) (hst : s.steps + countsF g.locs ≤ fuel) :
    GInv fuel { s with calls := s.calls + 1, deep := max s.deep (s.calls + 1), steps := s.steps + countsF g.locs, mem := makesF s.mem g.locs } ∧ FrOk (memBase (makesF s.mem g.locs)) (startF nt args) (numsF s.mem g.locs.length) p.globs.length ∧ (startF nt args).length = nt ∧ (numsF s.mem g.locs.length).length = g.locs.length ∧ (memBase (makesF s.mem g.locs)).length = (memBase s.mem).length + g.locs.length := by
  have hcb := countsF_bd (fun o ho => (hg.obs o ho).1)
  have hml := memBase_makes s.mem g.locs
  have h1 := hI.lo
  have h2 := hI.many
  have h3 := hI.outs
  have h4 := hI.calls
  have h5 := hI.deep
  have hpos := memBase_pos s.mem
  refine ⟨⟨hI.kind, by show 0 ≤ s.steps + _; omega, hst, ?_, ?_, by show 0 ≤ s.calls + 1; omega, by show 0 ≤ max s.deep (s.calls + 1); omega, hI.inp, ?_, ?_⟩, ⟨?_, ?_, by omega⟩, ?_, numsF_length _ _, hml⟩
  · show (memBase (makesF s.mem g.locs)).length ≤ 20 + (s.steps + countsF g.locs).toNat
    omega
  · show s.out.length ≤ (s.steps + countsF g.locs).toNat
    omega
  · exact makes_ok g.locs hI.mem hg.obs (by omega)
  · show NumOk (memBase (makesF s.mem g.locs))
    rw [← makesF_base]
    exact hI.num.makes g.locs
  · intro v hv
    unfold startF at hv
    rw [List.mem_append] at hv
    rcases hv with hv | hv
    · exact (ha v hv).mono (by omega)
    · rw [List.mem_replicate] at hv
      rw [hv.2]
      exact VOk.num (by omega) (by unfold In64; omega)
  · intro x hx
    unfold numsF at hx
    simp only [List.mem_map, List.mem_range] at hx
    obtain ⟨i, hi, rfl⟩ := hx
    rw [← memBase_length]
    omega
  · unfold startF
    rw [List.length_append, List.length_replicate]
    omega
end
theorem callF_dryG {p : ProgS} {fuel : Int} {d f : Nat} {g : GraphS} {args : List V} {s : St} (hg : p.funcs[f]? = some g) (hy : (stepF fuel (countsF g.locs) { s with calls := s.calls + 1, deep := max s.deep (s.calls + 1) }).1 = false) :
    callF p fuel (d + 1) f args s = (none, (stepF fuel (countsF g.locs) { s with calls := s.calls + 1, deep := max s.deep (s.calls + 1) }).2) := by
  simp only [callF, Int.toNat_natCast, List.getD_eq_getElem?_getD, hg, Option.getD_some, hy, if_true]
theorem callF_goG {p : ProgS} {fuel : Int} {d f nt : Nat} {g : GraphS} {args : List V} {s : St} (hg : p.funcs[f]? = some g) (hnt : g.temps = nt) (hy : (stepF fuel (countsF g.locs) { s with calls := s.calls + 1, deep := max s.deep (s.calls + 1) }).1 = true) :
    callF p fuel (d + 1) f args s = blocksF (callF p fuel d) fuel (numsF s.mem g.locs.length) g.blocks (fuel - (s.steps + countsF g.locs) + 1).toNat 0 { s with calls := s.calls + 1, deep := max s.deep (s.calls + 1), steps := s.steps + countsF g.locs, mem := makesF s.mem g.locs } (startF nt args) := by
  obtain ⟨hy0, hy1, hy2⟩ := stepF_yes hy
  simp only [callF, Int.toNat_natCast, List.getD_eq_getElem?_getD, hg, Option.getD_some, hy, Bool.true_eq_false, if_false, hy2, hnt]

theorem call_kept {p : ProgS} (hp : ProgOkG p) {fuel : Int} (hf : fuel ≤ 100000000) : ∀ (d : Nat) (c : Int), RKept p fuel c (callF p fuel d)
  | 0, c, f, g, args, s, v, s', _, _, _, _, _, _, h => by
    rw [callF] at h
    cases h
  | d + 1, c, f, g, args, s, v, s', hg, hal, hI, hc, ha, hgl, h => by
    have hfn := hp.fns g (List.mem_of_getElem? hg)
    obtain ⟨nt, hnt, hnt2, hbk⟩ := hfn.nt
    have hpa := hfn.params
    by_cases hy : (stepF fuel (countsF g.locs) { s with calls := s.calls + 1, deep := max s.deep (s.calls + 1) }).1 = true
    · rw [callF_goG hg hnt hy] at h
      obtain ⟨_, hy1, _⟩ := stepF_yes hy
      simp only at hy1
      obtain ⟨k1, k2, k3, k4, k5⟩ := call_start_ok hfn hnt hI ha (by omega) hgl hf (by omega)
      obtain ⟨b1, b2, b3, b4, b5⟩ := blocks_kept (fun c => call_kept hp hf d c) k4 hbk _ 0 k1 (by show 1 ≤ s.calls + 1; have := hI.calls; omega) k2 k3 (by omega) (by have := hfn.one; omega) h
      have hcb := countsF_bd (fun o ho => (hfn.obs o ho).1)
      refine ⟨⟨b1, by rw [b2]; show s.calls + 1 - 1 = s.calls; omega, ?_, ?_⟩, b5⟩
      · have b3' : (memBase (makesF s.mem g.locs)).length ≤ (memBase s'.mem).length := b3
        omega
      · have b4' : s.steps + countsF g.locs ≤ s'.steps := b4
        omega
    · rw [callF_dryG hg (by simpa using hy)] at h
      cases h
end Go.Proofs.Ytikbdplllopjlaa
namespace Go.Proofs.Ytikbdplllopjlaa
open Go.RowKit

/-- What a step's call answers. -/
def GSays (base cb hb : Nat) (fuel : Int) (fb tb : Nat) (lv : Value) (lo : List Nat) (own : Nat → Prop) (r : Bool × St × List V) (w : World) (e : Ending) (w' : World) : Prop :=
  e = .returned (.bool r.1) ∧ ∃ own' : Nat → Prop, (∀ k, own k → own' k) ∧ (∀ k, own' k → own k ∨ w.heap.size ≤ k) ∧ HCs w' base own' cb hb fuel r.2.1 ∧ (r.1 = true → GFrame w' fb tb r.2.2 lv lo) ∧ Wr (fun b => own b ∨ b = tb) w w'

theorem doesF_dry {R : CallR} {fuel : Int} {lo : List Nat} {s : St} {tp : List V} {x : StepS} (h : (stepF fuel 1 s).1 = false) : doesF R fuel lo s tp x = (false, (stepF fuel 1 s).2, tp) := by
  unfold doesF
  rw [if_pos h]
theorem doesF_fail {R : CallR} {fuel : Int} {lo : List Nat} {s : St} {tp : List V} {x : StepS} (h : (stepF fuel 1 s).1 = true) (he : evalTs s.mem tp lo x.args = none) : doesF R fuel lo s tp x = (false, { (stepF fuel 1 s).2 with kind := 3 }, tp) := by
  unfold doesF
  rw [if_neg (by rw [h]; simp), stepF_mem, he]

set_option maxRecDepth 100000 in
set_option maxHeartbeats 8000000 in
theorem gstep_dry (base cb hb rb fb tb : Nat) (own : Nat → Prop) (P : Value × Value × Value) (gv lv : Value) (fuel : Int) (s : St) (tp : List V) (lo : List Nat) (ng : Nat) (R : CallR) (op dst size fn : Int) (ks : List T) (A : Option Addr) (n cap : Nat) (w : World)
    (h : HCs w base own cb hb fuel s) (hR : GRun w rb cb hb P gv ng) (hF : GFrame w fb tb tp lv lo) (hO : GOff base own rb fb tb lv gv) (hFr : FrOk (memBase s.mem) tp lo ng) (hI : GInv fuel s) (hf : fuel ≤ 100000000) (hts : TsOk tp.length lo.length ng ks) (hk : KidsV w base ks A n) (hn : n ≤ 1000)
    (hy : (stepF fuel 1 s).1 = false) :
    Calls Try.prog 33 #[.pointer (some ⟨rb, 0, none⟩), .pointer (some ⟨fb, 0, none⟩), .agg #[.int .i64 op, .int .i64 dst, .int .i64 size, .int .i64 fn, .slice A n cap]] w fun e w' => GSays base cb hb fuel fb tb lv lo own (doesF R fuel lo s tp ⟨op, dst, size, fn, ks⟩) w e w' := by
  rw [doesF_dry hy]
  have hbk := h.blocks
  have hcb := hbk.2.2 cb hbk.1
  have hrb := hR.row.lt
  have r0 := hR.row.cell (j := 0) rfl
  have hncb : rb ≠ cb := fun e => hO.orb.1 (e ▸ hbk.1)
  have HTK := Lib.hid (tick_hc (w := w.alloc (.cells #[.int .i64 op, .int .i64 dst, .int .i64 size, .int .i64 fn, .slice A n cap] 71)) 1 (h.below (below1 _ _)) hI.kind hf hI.lo hI.hi (by omega) (by omega))
  have HR := Lib.hid hR
  have HF := Lib.hid hF
  have HO := Lib.hid hO
  have HBK := Lib.hid hbk
  have hrb1 : rb < w.heap.size + 1 := by omega
  have HR0 := Lib.hid (Row.new w #[.int .i64 op, .int .i64 dst, .int .i64 size, .int .i64 fn, .slice A n cap] 71)
  have HFD := Lib.hid hFr
  rw [hy] at HTK
  clear h hR hF hO hFr hI hts hk hbk hy
  go_enter Try.func33, Try.ntmps33
  refine wp_letter (fun Q hQ => ?_)
  have HQ := Lib.hid hQ
  clear hQ
  go_wp2_with fail
  refine HTK.out.mono ?_
  rintro e w1 ⟨rfl, hH1, hw1⟩
  have HH1 := Lib.hid hH1
  have HW1 := Lib.hid ((Wr.of_below (F := fun b => b = cb) (below1 w (.cells #[.int .i64 op, .int .i64 dst, .int .i64 size, .int .i64 fn, .slice A n cap] 71))).trans hw1 (fun _ h => Or.inl h))
  clear hH1 hw1
  go_wp2_with fail
  refine HQ.out _ _ _ ?_
  exact bodyPost_ret (v := .bool false) (by simp [results, Try.results33, go_sem]) rfl ⟨rfl, own, fun _ h => h, fun _ h => Or.inl h, HH1.out, fun h => (by cases h), HW1.out.mono (fun i hi => Or.inl (Or.inl (hi ▸ HBK.out.1)))⟩

set_option maxRecDepth 100000 in
set_option maxHeartbeats 8000000 in
theorem gstep_fail (base cb hb rb fb tb : Nat) (own : Nat → Prop) (P : Value × Value × Value) (gv lv : Value) (fuel : Int) (s : St) (tp : List V) (lo : List Nat) (ng : Nat) (R : CallR) (op dst size fn : Int) (ks : List T) (A : Option Addr) (n cap : Nat) (w : World)
    (h : HCs w base own cb hb fuel s) (hR : GRun w rb cb hb P gv ng) (hF : GFrame w fb tb tp lv lo) (hO : GOff base own rb fb tb lv gv) (hFr : FrOk (memBase s.mem) tp lo ng) (hI : GInv fuel s) (hf : fuel ≤ 100000000) (hts : TsOk tp.length lo.length ng ks) (hk : KidsV w base ks A n) (hn : n ≤ 1000)
    (hy : (stepF fuel 1 s).1 = true) (he : evalTs s.mem tp lo ks = none) :
    Calls Try.prog 33 #[.pointer (some ⟨rb, 0, none⟩), .pointer (some ⟨fb, 0, none⟩), .agg #[.int .i64 op, .int .i64 dst, .int .i64 size, .int .i64 fn, .slice A n cap]] w fun e w' => GSays base cb hb fuel fb tb lv lo own (doesF R fuel lo s tp ⟨op, dst, size, fn, ks⟩) w e w' := by
  rw [doesF_fail hy he]
  have hm := stepF_mem fuel 1 s
  obtain ⟨e1, hI1⟩ := hI.tick (by omega) hy
  have hbk := h.blocks
  have hcb := hbk.2.2 cb hbk.1
  have hrb := hR.row.lt
  have r0 := hR.row.cell (j := 0) rfl
  have hncb : rb ≠ cb := fun e => hO.orb.1 (e ▸ hbk.1)
  have HTK := Lib.hid (tick_hc (w := w.alloc (.cells #[.int .i64 op, .int .i64 dst, .int .i64 size, .int .i64 fn, .slice A n cap] 71)) 1 (h.below (below1 _ _)) hI.kind hf hI.lo hI.hi (by omega) (by omega))
  have HR := Lib.hid hR
  have HF := Lib.hid hF
  have HO := Lib.hid hO
  have HBK := Lib.hid hbk
  have hrb1 : rb < w.heap.size + 1 := by omega
  have HR0 := Lib.hid (Row.new w #[.int .i64 op, .int .i64 dst, .int .i64 size, .int .i64 fn, .slice A n cap] 71)
  rw [hy, e1] at HTK
  rw [e1]
  have HFD := Lib.hid hFr
  have HTS := Lib.hid (And.intro hts he)
  have HK := Lib.hid hk
  have hbs : base ≤ w.heap.size := by omega
  clear h hR hF hO hFr hI hts hk hbk hy he hm e1 hI1
  go_enter Try.func33, Try.ntmps33
  refine wp_letter (fun Q hQ => ?_)
  have HQ := Lib.hid hQ
  clear hQ
  go_wp2_with fail
  refine HTK.out.mono ?_
  rintro e w1 ⟨rfl, hH1, hw1⟩
  have HH1 := Lib.hid hH1
  have hW1 : Wr (fun b => b = cb) w w1 := (Wr.of_below (F := fun b => b = cb) (below1 w (.cells #[.int .i64 op, .int .i64 dst, .int .i64 size, .int .i64 fn, .slice A n cap] 71))).trans hw1 (fun _ h => Or.inl h)
  have HW1 := Lib.hid hW1
  have hzw1 := hW1.size
  have hx1 := hw1.size
  simp only [World.size_alloc] at hx1
  have hne0 : ¬ w.heap.size = cb := by omega
  have hR1 := HR.out.wr hW1 hncb (fun g hg e => (HO.out.ogv g hg).1 (e ▸ HBK.out.1))
  have HR1 := Lib.hid hR1
  have HF1 := Lib.hid (HF.out.wr hW1 (fun e => HO.out.ofb.1 (e ▸ HBK.out.1)) (fun e => HO.out.otb.1 (e ▸ HBK.out.1)) (fun g hg e => (HO.out.olv g hg).1 (e ▸ HBK.out.1)))
  have HX1 := Lib.hid (HR0.out.wr hw1 hne0)
  have hx := HX1.out
  have b4 := hx.cell (j := 4) rfl
  have hxl := hx.lt
  have p0 := hR1.row.cell (j := 0) rfl
  have hrbl := hR1.row.lt
  clear hH1 hw1 hW1 hR1 hx r0
  go_wp2_with fail
  refine (trees_hc (s := { s with steps := s.steps + 1 }) ks A n cap HH1.out HR1.out HF1.out HFD.out HTS.out.1 (HK.out.below (HW1.out.below hbs (fun k hk => by subst hk; omega)) (Nat.le_refl _)) hn).mono ?_
  intro e w2 hT
  simp only [HTS.out.2, TreesSays] at hT
  obtain ⟨rfl, hH2, hw2⟩ := hT
  have HH2 := Lib.hid hH2
  have HW2 := Lib.hid (HW1.out.trans hw2 (fun _ h => Or.inl h))
  clear hH2 hw2
  go_wp2_with fail
  refine HQ.out _ _ _ ?_
  exact bodyPost_ret (v := .bool false) (by simp [results, Try.results33, go_sem]) rfl ⟨rfl, own, fun _ h => h, fun _ h => Or.inl h, HH2.out, fun h => (by cases h), HW2.out.mono (fun i hi => Or.inl (Or.inl (hi ▸ HBK.out.1)))⟩
end Go.Proofs.Ytikbdplllopjlaa
