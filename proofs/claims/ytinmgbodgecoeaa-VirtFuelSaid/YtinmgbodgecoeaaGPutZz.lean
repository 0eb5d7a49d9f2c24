/- The graph's clock: Put of a number, Get. Conditions: as stated. -/
import Derived.Test.YtinmgbodgecoeaaQ06Zz
set_option linter.unusedVariables false
set_option linter.unusedSimpArgs false
namespace Go.Proofs.Ytinmgbodgecoeaa
open Go.RowKit

theorem long_info : (Try.prog.info? 2).map (fun i => (i.zero, i.size, i.bytes)) = some (some (.int .i64 0), 1, 8) := by kernel_rfl
theorem int_one (a : Int) : ∀ u : Value, u ∈ [Value.int .i64 a] → u.oneCell' = true := by
  intro u hu
  simp at hu
  subst hu
  rfl
/-- A number is put out. -/
def PutSays (base cb : Nat) (fuel : Int) (s : St) (inv outv : Value) (n : Int) (w : World) (e : Ending) (w' : World) : Prop :=
  e = .returned (.bool true) ∧ ∃ outv', Row w' cb (ccells fuel { s with out := s.out ++ [n] } inv outv') 44 ∧ w'.ownsRow base 2 1 outv' (s.out.length + 1) ((s.out ++ [n]).map (Value.int .i64)) ∧
    (∀ g, outv'.ownBlock = some g → (outv.ownBlock = some g ∨ w.heap.size ≤ g) ∧ g < w'.heap.size) ∧ Wr (fun k => outv.ownBlock = some k ∨ k = cb) w w'

set_option maxRecDepth 100000 in
set_option maxHeartbeats 4000000 in
theorem put_num (cb base : Nat) (fuel : Int) (s : St) (inv outv : Value) (n : Int) (w : World) (hr : Row w cb (ccells fuel s inv outv) 44) (ho : w.ownsRow base 2 1 outv s.out.length (s.out.map (Value.int .i64))) (hl : s.out.length ≤ 1000000000) (hbs : base ≤ w.heap.size) :
    Calls Try.prog 40 #[.pointer (some ⟨cb, 0, none⟩), .agg #[.int .i64 0, .int .i64 n]] w fun e w' => PutSays base cb fuel s inv outv n w e w' := by
  obtain ⟨q, hq0⟩ : ∃ q, q = s.out.length := ⟨_, rfl⟩
  have HQ0 := Lib.hid hq0
  rw [← hq0] at ho hl
  obtain ⟨A1, cap1, hov⟩ : ∃ A1 cap1, outv = .slice A1 q cap1 := (by obtain ⟨_, h | ⟨g, c, cur, h, _⟩⟩ := id ho; exact ⟨none, 0, by rw [h.1, h.2]⟩; exact ⟨_, _, h⟩)
  subst hov
  have hrow0 : ∀ g, (Value.slice A1 q cap1).ownBlock = some g → base ≤ g ∧ ∃ cs', Row w g cs' 2 := fun g h => ownsRow_row ho h
  have c2 : w.cell? ⟨cb, 2, none⟩ = some (.slice A1 q cap1) := hr.cell rfl
  have f2 := hr.free 2
  have hlt := hr.lt
  have hlt2 : cb < w.heap.size + 1 := by omega
  have HR := Lib.hid hr
  have HO := Lib.hid ho
  have HNE := Lib.hid (show ¬ (Value.slice A1 q cap1).ownBlock = some cb from fun e => by obtain ⟨_, cs', hr'⟩ := hrow0 _ e; exact hr'.ne hr (by decide) rfl)
  have HROW := Lib.hid hrow0
  obtain ⟨xs, hxs⟩ : ∃ xs, xs = s.out.map (Value.int .i64) := ⟨_, rfl⟩
  have HXS := Lib.hid hxs
  rw [← hxs] at HO
  obtain ⟨i0, hi, hz0, hz1, hz2⟩ := info_parts long_info
  have hfz1 : ∀ o o', ((w.alloc o).alloc o').frozen? ⟨cb, 2, none⟩ = false := fun o o' => ((HR.out.alloc o).alloc o').free 2
  have hfz2 : ∀ o o', ((w.alloc o).alloc o').drew.frozen? ⟨cb, 2, none⟩ = false := fun o o' => (((HR.out.alloc o).alloc o').drew).free 2
  clear hq0 hr ho hrow0 hxs
  go_enter Try.func40, Try.ntmps40
  go_wp2_with fail
  go_region_law
    ((refine step_append_lies _ (by rfl) _ _ _ (by rfl) base 2 i0 _ 1 8 Try.underlying23 hi hz0 hz1 hz2 rfl (by omega) _ _ _ (by rfl) (own_drew ((ownsRow_wr HO.out (Wr.of_below (F := fun _ => False) (below1 w (.cells #[.int .i64 0, .int .i64 n] 60))) (fun _ _ h => h))) _)
        ⟨w.heap.size + 1, 0, none⟩ 1 1 [.int .i64 n] (by rfl) (by rfl) (row_cells _ _ _ _ (by simp)) (int_one _)
        (by omega) (by unfold maxLen; omega) (by omega) (by simp; omega) (w.heap.size + 1 + 1) (by simp) ?_; intro gg cap3 w2 hown2 hgrow hat hlt3; have hq := (((HR.out.alloc (.cells #[.int .i64 0, .int .i64 n] 60)).alloc (.cells #[.int .i64 n] 2)).drew).wr (Wr.grown (F := fun k => (Value.slice A1 q cap1).ownBlock = some k) hgrow (fun k hk => hk)) HNE.out; have hq1 : w2.cell? ⟨cb, 2, none⟩ = some (.slice A1 q cap1) := hq.cell rfl; have hq2 := hq.free 2; have HQ2 := Lib.hid hq; have HGW := Lib.hid hgrow; have HOW2 := Lib.hid hown2; have HAT := Lib.hid hat; clear hq hgrow hown2 hat))
  all_goals go_wp2_with fail
  all_goals go_ret
  all_goals
    refine ⟨rfl, .slice (some ⟨gg, 0, none⟩) (q + 1) cap3, HQ2.out.set 2 _, ?_, fun g hg => ?_, ?_⟩
    · rw [← HQ0.out, List.map_append, ← HXS.out]
      refine ownsRow_wr HOW2.out (Wr.cell1 w2 cb 2 _) (fun g hg e => ?_)
      obtain ⟨_, cs', hr'⟩ := ownsRow_row HOW2.out hg
      exact hr'.ne HQ2.out (by decide) e
    · simp only [Value.ownBlock, Option.some.injEq] at hg
      subst hg
      refine ⟨?_, by simpa using hlt3⟩
      rcases HAT.out with h | h
      · exact Or.inl h
      · exact Or.inr (by omega)
    · exact (((Wr.of_below (below2 w (.cells #[.int .i64 0, .int .i64 n] 60) (.cells #[.int .i64 n] 2)).drew).trans (Wr.grown (F := fun k => (Value.slice A1 q cap1).ownBlock = some k) HGW.out (fun k hk => hk)) (fun i hi => Or.inl (Or.inl hi)))).trans (Wr.cell1 w2 cb 2 _) (fun i hi => Or.inl (Or.inr hi))

set_option maxRecDepth 100000 in
set_option maxHeartbeats 4000000 in
theorem get_nil (cb : Nat) (fuel : Int) (s : St) (outv : Value) (A : Option Addr) (cap : Nat) (w : World) (hr : Row w cb (ccells fuel s (.slice A 0 cap) outv) 44) :
    Calls Try.prog 41 #[.pointer (some ⟨cb, 0, none⟩)] w fun e w' => e = .returned (.agg #[.int .i64 0, .int .i64 0]) ∧ Below w.heap.size w w' := by
  have c6 : w.cell? ⟨cb, 6, none⟩ = some (.slice A 0 cap) := hr.cell rfl
  have hlt := hr.lt
  have hlt2 : cb < w.heap.size + 1 := by omega
  clear hr
  go_enter Try.func41, Try.ntmps41
  refine wp_letter (fun Q hQ => ?_)
  have HQ := Lib.hid hQ
  clear hQ
  go_wp2_with fail
  refine HQ.out _ _ _ ?_
  refine bodyPost_ret (v := .agg #[.int .i64 0, .int .i64 0]) (by simp [results, Try.results41, go_sem]) rfl ⟨rfl, ?_⟩
  exact below1 _ _

set_option maxRecDepth 100000 in
set_option maxHeartbeats 4000000 in
theorem get_one (cb : Nat) (fuel : Int) (s : St) (outv : Value) (b off q cap : Nat) (x : Int) (l : List Int) (w : World) (hr : Row w cb (ccells fuel s (.slice (some ⟨b, off, none⟩) (q + 1) cap) outv) 44) (hb : b < w.heap.size) (hc : w.cell? ⟨b, off, none⟩ = some (.int .i64 x)) (hcap : q + 1 ≤ cap) (hcap2 : cap ≤ 9223372036854775807) :
    Calls Try.prog 41 #[.pointer (some ⟨cb, 0, none⟩)] w fun e w' => e = .returned (.agg #[.int .i64 0, .int .i64 x]) ∧ ∃ inv', (inv' = .slice (some ⟨b, off + 1, none⟩) q (cap - 1) ∨ (q = 0 ∧ inv' = .slice (some ⟨b, off, none⟩) 0 0)) ∧ ClkSays cb fuel { s with inp := l } inv' outv w w' := by
  have c6 : w.cell? ⟨cb, 6, none⟩ = some (.slice (some ⟨b, off, none⟩) (q + 1) cap) := hr.cell rfl
  have f6 := hr.free 6
  have hlt := hr.lt
  have hlt2 : cb < w.heap.size + 1 := by omega
  have hlb : b < w.heap.size + 1 := by omega
  have hne : ¬ cb = w.heap.size := by omega
  have hne2 : ¬ w.heap.size = cb := by omega
  have hq1 : (((q : Int) + 1) == 0) = false := by simp; omega
  have hq2 : (0 : Int) < (q : Int) + 1 := by omega
  have hq3 : (1 : Int) ≤ (q : Int) + 1 := by omega
  have HR := Lib.hid hr
  clear hr
  go_enter Try.func41, Try.ntmps41
  refine wp_letter (fun Q hQ => ?_)
  have HQ := Lib.hid hQ
  clear hQ
  go_wp2_with fail
  · subst h
    obtain rfl : q = 0 := by omega
    refine HQ.out _ _ _ ?_
    refine bodyPost_ret (v := .agg #[.int .i64 0, .int .i64 x]) (by simp [results, Try.results41, go_sem, hne2]) rfl ⟨rfl, _, Or.inr ⟨rfl, rfl⟩, ?_⟩
    exact ⟨(HR.out.set 6 (.slice (some ⟨b, off, none⟩) 0 0)).alloc _, (Wr.cell1 w cb 6 _).allocR _⟩
  · refine HQ.out _ _ _ ?_
    refine bodyPost_ret (v := .agg #[.int .i64 0, .int .i64 x]) (by simp [results, Try.results41, go_sem, hne2]) rfl ⟨rfl, _, Or.inl rfl, ?_⟩
    exact ⟨(HR.out.set 6 (.slice (some ⟨b, off + 1, none⟩) q (cap - 1))).alloc _, (Wr.cell1 w cb 6 _).allocR _⟩

theorem HC.clockIn {w w' : World} {base : Nat} {own : Nat → Prop} {cb hb : Nat} {fuel : Int} {s s' : St} {inv inv' outv memv : Value} {rb : Nat → Nat} (h : HC w base own cb hb fuel s inv outv memv rb) (hs : ClkSays cb fuel s' inv' outv w w') (h1 : InW w base inv' s'.inp) (h2 : s'.out = s.out) (h3 : s'.mem = s.mem) :
    HC w' base own cb hb fuel s' inv' outv memv rb := by
  obtain ⟨hr, hw⟩ := hs
  have hbd := h.own cb h.ocb
  have hne : ∀ g cs t, Row w g cs t → t ≠ 44 → ¬ g = cb := fun g cs t hr' ht e => by subst e; exact hr'.ne h.clk ht rfl
  refine ⟨hr, h.heap.wr hw (hne _ _ _ h.heap (by decide)), h.ocb, h.ohb, ?_, ?_, h.outo, ?_, h.memo, fun k hk => ⟨(h.own k hk).1, Nat.lt_of_lt_of_le (h.own k hk).2 hw.size⟩⟩
  · exact h1.below (fun b o hb' => World.cell?_of_block (a := ⟨b, o, none⟩) (hw.block b (by omega) (fun hf => by omega)))
  · rw [h2]
    refine ownsRow_wr h.out hw (fun g hg => ?_)
    obtain ⟨_, cs, hr'⟩ := ownsRow_row h.out hg
    exact hne g cs _ hr' (by decide)
  · rw [h3]
    refine h.mem.wr hw (fun g hg => ?_) (fun k hk => ?_)
    · obtain ⟨⟨xs, hx, _⟩, _⟩ := h.mem
      obtain ⟨_, cs, hr'⟩ := ownsRow_row hx hg
      exact hne g cs _ hr' (by decide)
    · obtain ⟨_, cs, hr'⟩ := h.mem.get hk
      exact hne _ cs _ hr' (by decide)

theorem put_hc {base : Nat} {own : Nat → Prop} {cb hb : Nat} {fuel : Int} {s : St} {w : World} (n : Int) (h : HCs w base own cb hb fuel s) (hl : s.out.length ≤ 1000000000) :
    Calls Try.prog 40 #[.pointer (some ⟨cb, 0, none⟩), .agg #[.int .i64 0, .int .i64 n]] w fun e w' => e = .returned (.bool true) ∧ ∃ own' : Nat → Prop, (∀ k, own k → own' k) ∧ (∀ k, own' k → own k ∨ w.heap.size ≤ k) ∧ HCs w' base own' cb hb fuel { s with out := s.out ++ [n] } ∧ Wr own w w' := by
  obtain ⟨inv, outv, memv, rb, h⟩ := h
  have hbs := h.pos
  refine (put_num cb base fuel s inv outv n w h.clk h.out hl hbs).mono ?_
  rintro e w' ⟨he, outv', hrow, hout, hob, hw⟩
  have hrowo : ∀ g, outv.ownBlock = some g → ∃ cs, Row w g cs 2 := fun g hg => (ownsRow_row h.out hg).2
  have hne : ∀ g cs t, Row w g cs t → t ≠ 2 → t ≠ 44 → ¬ (outv.ownBlock = some g ∨ g = cb) := by
    rintro g cs t hr t1 t2 (hf | rfl)
    · obtain ⟨cs', hr'⟩ := hrowo g hf
      exact hr.ne hr' t1 rfl
    · exact hr.ne h.clk t2 rfl
  have hbd := h.own cb h.ocb
  refine ⟨he, fun k => own k ∨ outv'.ownBlock = some k, fun k hk => Or.inl hk, fun k hk => ?_, ⟨inv, outv', memv, rb, ⟨hrow, h.heap.wr hw (hne _ _ _ h.heap (by decide) (by decide)), Or.inl h.ocb, Or.inl h.ohb, ?_, by simpa using hout, fun g hg => Or.inr hg, ?_, fun g hg => Or.inl (h.memo g hg), fun k hk => ?_⟩⟩, hw.mono (fun i hi => Or.inl ?_)⟩
  · rcases hk with hk | hk
    · exact Or.inl hk
    · rcases (hob k hk).1 with h' | h'
      · exact Or.inl (h.outo k h')
      · exact Or.inr h'
  · exact h.inp.below (fun b o hb' => World.cell?_of_block (a := ⟨b, o, none⟩) (hw.block b (by omega) (fun hf => by rcases hf with hf | hf; have := h.own b (h.outo b hf); omega; omega)))
  · have h1 := h.mem.wr hw (fun g hg => by
      obtain ⟨⟨xs, hx, _⟩, _⟩ := h.mem
      obtain ⟨_, cs, hr'⟩ := ownsRow_row hx hg
      exact hne g cs _ hr' (by decide) (by decide)) (fun k hk => by
      obtain ⟨_, cs, hr'⟩ := h.mem.get hk
      exact hne _ cs _ hr' (by decide) (by decide))
    exact ⟨h1.row, fun k o ho => ⟨Or.inl (h1.mine k o ho).1, (h1.mine k o ho).2⟩, h1.inj, h1.ok, h1.num⟩
  · rcases hk with hk | hk
    · have := h.own k hk; have := hw.size; exact ⟨by omega, by omega⟩
    · refine ⟨?_, (hob k hk).2⟩
      rcases (hob k hk).1 with h' | h'
      · exact (h.own k (h.outo k h')).1
      · omega
  · rcases hi with hi | rfl
    · exact h.outo i hi
    · exact h.ocb
theorem putStuck_hc {base : Nat} {own : Nat → Prop} {cb hb : Nat} {fuel : Int} {s : St} {w : World} (v : V) (h : HCs w base own cb hb fuel s) (hv : v.obj ≠ 0) :
    Calls Try.prog 40 #[.pointer (some ⟨cb, 0, none⟩), .agg #[.int .i64 v.obj, .int .i64 v.n]] w fun e w' => ClkEnd base own cb hb fuel { s with kind := 3 } false w e w' := by
  obtain ⟨inv, outv, memv, rb, h⟩ := h
  exact (put_stuck cb fuel s inv outv v w h.clk hv).mono fun e w' ⟨he, hs⟩ => ⟨he, ⟨inv, outv, memv, rb, h.clock hs rfl rfl rfl⟩, hs.2⟩
/-- What comes in next, 0 behind it. -/
def getF (s : St) : Int × St := match s.inp with | [] => (0, s) | n :: r => (n, { s with inp := r })
theorem get_hc {base : Nat} {own : Nat → Prop} {cb hb : Nat} {fuel : Int} {s : St} {w : World} (h : HCs w base own cb hb fuel s) :
    Calls Try.prog 41 #[.pointer (some ⟨cb, 0, none⟩)] w fun e w' => e = .returned (.agg #[.int .i64 0, .int .i64 (getF s).1]) ∧ HCs w' base own cb hb fuel (getF s).2 ∧ Wr (fun b => b = cb) w w' := by
  obtain ⟨inv, outv, memv, rb, h⟩ := h
  obtain ⟨A, cap, hi, h1, h2, h3⟩ := id h.inp
  unfold getF
  cases hs : s.inp with
  | nil =>
    have hl : s.inp.length = 0 := by rw [hs]; rfl
    rw [hl] at hi
    refine (get_nil cb fuel s outv A cap w (hi ▸ h.clk)).mono fun e w' ⟨he, hb'⟩ => ⟨he, HCs.below ⟨inv, outv, memv, rb, h⟩ hb', Wr.of_below hb'⟩
  | cons x l =>
    have hl : s.inp.length = l.length + 1 := by rw [hs]; rfl
    obtain ⟨b, off, rfl, hb', hc⟩ := h3 (by omega)
    rw [hl] at hi h1
    have hbd := h.own cb h.ocb
    have hx := hc 0 x (by rw [hs]; rfl)
    rw [Nat.add_zero] at hx
    refine (get_one cb fuel s outv b off l.length cap x l w (hi ▸ h.clk) (by omega) hx.1 h1 h2).mono ?_
    rintro e w' ⟨he, inv', hinv, hcs⟩
    refine ⟨he, ⟨inv', outv, memv, rb, ?_⟩, hcs.2⟩
    have hin : InW w base inv' l := by
      rcases hinv with rfl | ⟨hq, rfl⟩
      · exact InW.tail (x := x) (fun j y hj => hc j y (by rw [hs]; exact hj)) hb' rfl h1 h2
      · have : l = [] := List.eq_nil_of_length_eq_zero hq
        subst this
        exact InW.empty
    exact h.clockIn hcs hin rfl rfl
end Go.Proofs.Ytinmgbodgecoeaa
