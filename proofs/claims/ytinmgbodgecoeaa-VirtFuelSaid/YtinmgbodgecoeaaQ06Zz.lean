/- The graph's heap and clock together: stores, ticks, ends. Conditions: as stated. The graph's heap: places moved, told apart; One. Conditions: as stated. The graph's heap: ops of two places. Conditions: as stated. -/
import Derived.Test.YtinmgbodgecoeaaGMakeZz
import Derived.Test.YtinmgbodgecoeaaQ05Zz
import Derived.Test.YtinmgbodgecoeaaGLoadZz
import Derived.Test.YtinmgbodgecoeaaMemBinZz
set_option linter.unusedVariables false
set_option linter.unusedSimpArgs false
namespace Go.Proofs.Ytinmgbodgecoeaa
open Go.RowKit

/-- The heap is written: the clock, what comes in and what was put out stay. -/
theorem HC.remem {w w' : World} {base : Nat} {own own' F : Nat → Prop} {cb hb : Nat} {fuel : Int} {s : St} {inv outv memv memv' : Value} {rb rb' : Nat → Nat} {M : List MO} (h : HC w base own cb hb fuel s inv outv memv rb) (hw : Wr F w w')
    (hF : ∀ k, F k → own k ∧ ∃ cs t, Row w k cs t ∧ (t = 60 ∨ t = 88 ∨ t = 48)) (h1 : ∀ k, own k → own' k) (h2 : ∀ k, own' k → own k ∨ w.heap.size ≤ k) (h3 : ∀ k, own' k → k < w'.heap.size)
    (hH : HeapAt w' base own' hb memv' rb' (memBase M)) : HC w' base own' cb hb fuel { s with mem := M } inv outv memv' rb' := by
  have hbd := h.own cb h.ocb
  have hne : ∀ g cs t, Row w g cs t → t ≠ 60 → t ≠ 88 → t ≠ 48 → ¬ F g := by
    intro g cs t hr t1 t2 t3 hf
    obtain ⟨_, cs', t', hr', ht'⟩ := hF g hf
    rcases ht' with rfl | rfl | rfl
    · exact hr.ne hr' t1 rfl
    · exact hr.ne hr' t2 rfl
    · exact hr.ne hr' t3 rfl
  refine ⟨h.clk.wr hw (hne _ _ _ h.clk (by decide) (by decide) (by decide)), hH.heap, h1 _ h.ocb, h1 _ h.ohb, ?_, ?_, fun g hg => h1 _ (h.outo g hg), hH.mem, hH.memo, fun k hk => ⟨?_, h3 k hk⟩⟩
  · exact h.inp.below (fun b o hb' => World.cell?_of_block (a := ⟨b, o, none⟩) (hw.block b (by omega) (fun hf => by have := h.own b (hF b hf).1; omega)))
  · refine ownsRow_wr h.out hw (fun g hg => ?_)
    obtain ⟨_, cs, hr'⟩ := ownsRow_row h.out hg
    exact hne g cs _ hr' (by decide) (by decide) (by decide)
  · rcases h2 k hk with h' | h'
    · exact (h.own k h').1
    · omega
theorem HC.pos {w : World} {base : Nat} {own : Nat → Prop} {cb hb : Nat} {fuel : Int} {s : St} {inv outv memv : Value} {rb : Nat → Nat} (h : HC w base own cb hb fuel s inv outv memv rb) : base ≤ w.heap.size := by have := h.own cb h.ocb; omega

/-- What the clock's functions that only count answer. -/
def ClkEnd (base : Nat) (own : Nat → Prop) (cb hb : Nat) (fuel : Int) (s : St) (r : Bool) (w : World) (e : Ending) (w' : World) : Prop :=
  e = .returned (.bool r) ∧ HCs w' base own cb hb fuel s ∧ Wr (fun b => b = cb) w w'
section
variable {base : Nat} {own : Nat → Prop} {cb hb : Nat} {fuel : Int} {s : St} {w : World}
theorem tick_hc (n : Int) (h : HCs w base own cb hb fuel s) (hk : s.kind = 0) (hf : fuel ≤ 100000000) (h0 : 0 ≤ s.steps) (h1 : s.steps ≤ fuel) (hn0 : 0 ≤ n) (hn1 : n ≤ 1000000) :
    Calls Try.prog 32 #[.pointer (some ⟨cb, 0, none⟩), .int .i64 n] w fun e w' => ClkEnd base own cb hb fuel (stepF fuel n s).2 (stepF fuel n s).1 w e w' := by
  obtain ⟨inv, outv, memv, rb, h⟩ := h
  refine (tick_any cb fuel n s inv outv w h.clk hk hf h0 h1 hn0 hn1).mono fun e w' ⟨he, hs⟩ => ⟨he, ⟨inv, outv, memv, rb, h.clock hs ?_ ?_ ?_⟩, hs.2⟩
  all_goals (unfold stepF; (repeat' split) <;> rfl)
theorem stuck_hc (h : HCs w base own cb hb fuel s) :
    Calls Try.prog 28 #[.pointer (some ⟨cb, 0, none⟩)] w fun e w' => ClkEnd base own cb hb fuel { s with kind := 3 } false w e w' := by
  obtain ⟨inv, outv, memv, rb, h⟩ := h
  exact (stuck_any cb fuel s inv outv w h.clk).mono fun e w' ⟨he, hs⟩ => ⟨he, ⟨inv, outv, memv, rb, h.clock hs rfl rfl rfl⟩, hs.2⟩
theorem leave_hc (h : HCs w base own cb hb fuel s) (h0 : 1 ≤ s.calls) (h1 : s.calls ≤ 64) :
    Calls Try.prog 27 #[.pointer (some ⟨cb, 0, none⟩)] w fun e w' => e = .returned (.tuple #[]) ∧ HCs w' base own cb hb fuel { s with calls := s.calls - 1 } ∧ Wr (fun b => b = cb) w w' := by
  obtain ⟨inv, outv, memv, rb, h⟩ := h
  exact (leave_any cb fuel s inv outv w h.clk h0 h1).mono fun e w' ⟨he, hs⟩ => ⟨he, ⟨inv, outv, memv, rb, h.clock hs rfl rfl rfl⟩, hs.2⟩
theorem over_hc (n : Int) (h : HCs w base own cb hb fuel s) (h1 : s.calls = 64) :
    Calls Try.prog 23 #[.pointer (some ⟨cb, 0, none⟩), .int .i64 n] w fun e w' => ClkEnd base own cb hb fuel { s with kind := 4 } false w e w' := by
  obtain ⟨inv, outv, memv, rb, h⟩ := h
  exact (enter_over cb fuel n s inv outv w h.clk h1).mono fun e w' ⟨he, hs⟩ => ⟨he, ⟨inv, outv, memv, rb, h.clock hs rfl rfl rfl⟩, hs.2⟩
theorem enter_hc (n : Int) (h : HCs w base own cb hb fuel s) (hk : s.kind = 0) (hc0 : 0 ≤ s.calls) (hc1 : s.calls < 64) (hf : fuel ≤ 100000000) (h0 : 0 ≤ s.steps) (h1 : s.steps ≤ fuel) (hn0 : 0 ≤ n) (hn1 : n ≤ 1000000) :
    Calls Try.prog 23 #[.pointer (some ⟨cb, 0, none⟩), .int .i64 n] w fun e w' => ClkEnd base own cb hb fuel (stepF fuel n { s with calls := s.calls + 1, deep := max s.deep (s.calls + 1) }).2 (stepF fuel n { s with calls := s.calls + 1, deep := max s.deep (s.calls + 1) }).1 w e w' := by
  obtain ⟨inv, outv, memv, rb, h⟩ := h
  refine (enter_any cb fuel n s inv outv w h.clk hk hc0 hc1 hf h0 h1 hn0 hn1).mono fun e w' ⟨he, hs⟩ => ⟨he, ⟨inv, outv, memv, rb, h.clock hs ?_ ?_ ?_⟩, hs.2⟩
  all_goals (unfold stepF; (repeat' split) <;> rfl)
theorem exit_hc (v : V) (h : HCs w base own cb hb fuel s) :
    Calls Try.prog 14 #[.pointer (some ⟨cb, 0, none⟩), .agg #[.int .i64 v.obj, .int .i64 v.n]] w fun e w' => ClkEnd base own cb hb fuel (if v.obj > 0 then { s with kind := 3 } else { s with code := v.n, kind := 1 }) false w e w' := by
  obtain ⟨inv, outv, memv, rb, h⟩ := h
  by_cases hv : v.obj = 0
  · rw [if_neg (by omega)]
    exact (exit_num cb fuel s inv outv v w h.clk hv).mono fun e w' ⟨he, hs⟩ => ⟨he, ⟨inv, outv, memv, rb, h.clock hs rfl rfl rfl⟩, hs.2⟩
  · rw [if_pos (by omega)]
    exact (exit_stuck cb fuel s inv outv v w h.clk hv).mono fun e w' ⟨he, hs⟩ => ⟨he, ⟨inv, outv, memv, rb, h.clock hs rfl rfl rfl⟩, hs.2⟩
end
/-- A store, whole. -/
def StoredAt (base : Nat) (own : Nat → Prop) (cb hb : Nat) (fuel : Int) (s : St) (r : Option (List MO)) (w : World) (e : Ending) (w' : World) : Prop :=
  e = .returned (.bool r.isSome) ∧ HCs w' base own cb hb fuel (match r with | some M => { s with mem := M } | none => s) ∧ Wr own w w'
theorem store_hc {base : Nat} {own : Nat → Prop} {cb hb : Nat} {fuel : Int} {s : St} {w : World} (sz : Nat) (a x : V) (h : HCs w base own cb hb fuel s) (ha : VOk (memBase s.mem).length a) (hx : VOk (memBase s.mem).length x) (hs : sz = 1 ∨ sz = 2 ∨ sz = 4 ∨ sz = 8) :
    Calls Try.prog 38 #[.pointer (some ⟨hb, 0, none⟩), .int .i64 sz, .agg #[.int .i64 a.obj, .int .i64 a.n], .agg #[.int .i64 x.obj, .int .i64 x.n]] w fun e w' => StoredAt base own cb hb fuel s (storeF s.mem sz a x) w e w' := by
  obtain ⟨inv, outv, memv, rb, h⟩ := h
  obtain ⟨A, cap, rfl, hMR⟩ := h.mem.memRG
  have hhb := h.heap.lt
  have hc := h.heap.cell (j := 0) rfl
  have hse : storeF s.mem sz a x = none ∧ storeF (memBase s.mem) sz a x = none ∨ ∃ M, storeF s.mem sz a x = some M ∧ storeF (memBase s.mem) sz a x = some (memBase M) := by
    have := storeF_base s.mem sz a x
    cases hS : storeF s.mem sz a x with
    | none => rw [hS] at this; exact Or.inl ⟨rfl, this⟩
    | some M => rw [hS] at this; exact Or.inr ⟨M, rfl, this⟩
  have no : storeF (memBase s.mem) sz a x = none → ∀ e w', (e = .returned (.bool false) ∧ Below w.heap.size w w') → StoredAt base own cb hb fuel s (storeF s.mem sz a x) w e w' := by
    intro hn e w' ⟨he, hb'⟩
    rcases hse with ⟨e1, _⟩ | ⟨M, _, e2⟩
    · rw [e1]
      exact ⟨he, HCs.below ⟨inv, outv, _, rb, h⟩ hb', Wr.of_below hb'⟩
    · rw [hn] at e2; cases e2
  have htn : ((sz : Int)).toNat = sz := Int.toNat_natCast _
  cases hF : atF (memBase s.mem) a sz with
  | none =>
    refine (hstore_none hb A _ cap w.heap.size sz a x (memBase s.mem) w (Nat.le_refl _) hhb hc hMR (fun h => ha.1) ha.2.1 (by omega) (by omega) hF).mono fun e w' hh => no ?_ e w' hh
    unfold storeF; rw [htn, hF]
  | some j =>
    obtain ⟨hp, hlive, hsz, _, _, _⟩ := atF_some hF
    obtain ⟨hjl, ob, oo, mb, mo, len, cap', hA, h1, hob, hv, _⟩ := hat_some hb A _ cap w.heap.size sz j a (memBase s.mem) w (Nat.le_refl _) hhb hc hMR ha.1 (ha.2.1 (by omega)) (by omega) (by omega) hF
    have HT := hat_there hb A _ cap w.heap.size sz j a (memBase s.mem) w (Nat.le_refl _) hhb hc hMR ha.1 (ha.2.1 (by omega)) (by omega) (by omega) hF mb mo ob oo len cap' hA h1
    -- where it lies
    obtain ⟨k, hk⟩ : ∃ k, a.obj = k + 1 := ⟨a.obj - 1, by omega⟩
    have hkt : k < (memBase s.mem).tail.length := by have := ha.1; rw [List.length_tail]; omega
    have hget : (memBase s.mem).tail[k]? = some (mget (memBase s.mem) (k + 1)) := by rw [List.getElem?_tail]; exact mget_of (by have := ha.1; omega)
    obtain ⟨g, hAg, hcg⟩ := h.mem.objCell hkt (hk ▸ hlive)
    subst hA
    simp only [Option.some.injEq, Addr.mk.injEq, and_true] at hAg
    obtain ⟨rfl, rfl⟩ := hAg
    rw [hk, show 0 + (k + 1 - 1) * 3 + 1 = k * 3 + 1 by omega, hcg] at h1
    simp only [Option.some.injEq, Value.slice.injEq, Addr.mk.injEq, and_true] at h1
    obtain ⟨⟨rfl, rfl⟩, _, _⟩ := h1
    obtain ⟨hown, cs, hrow, hvi⟩ := h.mem.mine k _ hget
    have hjl' : j < (mget (memBase s.mem) (k + 1)).l.length := hk ▸ hjl
    obtain ⟨c0, c1⟩ := hvi.2 j _ (List.getElem?_eq_getElem hjl')
    have hc0 := hrow.cell c0
    have hc1 := hrow.cell c1
    rw [Nat.zero_add] at HT
    have hne : ∀ g cs' t, Row w g cs' t → t ≠ 60 → g ≠ rb k := fun g cs' t hr ht e => hr.ne hrow ht e
    have hnr : (Value.slice (some ⟨mb, 0, none⟩) (memBase s.mem).tail.length cap).ownBlock ≠ some (rb k) := by
      intro e
      obtain ⟨⟨xs, hx0, _⟩, _⟩ := h.mem
      obtain ⟨_, cs', hr'⟩ := ownsRow_row hx0 e
      exact hr'.ne hrow (by decide) rfl
    have fin : ∀ v : V, VOk (memBase s.mem).length v → ((mget (memBase s.mem) (k + 1)).size ≠ 8 → v.obj = 0) → storeF (memBase s.mem) sz a x = some ((memBase s.mem).modify (k + 1) (putV j v)) → ∀ e w', StoreSays (rb k) (j * 2) v w e w' → StoredAt base own cb hb fuel s (storeF s.mem sz a x) w e w' := by
      rintro v hv hnum hst e w' ⟨he, W, hbW, rfl⟩
      rcases hse with ⟨_, e2⟩ | ⟨M, e1, e2⟩
      · rw [hst] at e2; cases e2
      · rw [hst] at e2
        simp only [Option.some.injEq] at e2
        rw [e1]
        have h' := h.wr (F := fun _ => False) (Wr.of_below hbW) (fun _ h => h.elim)
        have hrowW := hrow.below hbW hrow.lt
        have hw2 := wr_pair W (rb k) (j * 2) (j * 2 + 1) (.int .i64 v.obj) (.int .i64 v.n)
        have hput := h'.mem.put k j v hkt hv hnum (hk ▸ hlive) hnr
        rw [e2] at hput
        refine ⟨he, ⟨inv, outv, _, rb, HC.remem (own' := own) (M := M) h' hw2 (fun i hi => ?_) (fun _ h => h) (fun _ h => Or.inl h) (fun i hi => ?_) ⟨?_, hput, h.memo⟩⟩, ?_⟩
        · exact ⟨hi ▸ hown, _, _, hi ▸ hrowW, Or.inl rfl⟩
        · have := (h'.own i hi).2
          simpa using this
        · exact h'.heap.wr hw2 (fun e => h'.heap.ne hrowW (by decide) e)
        · exact (Wr.of_below (F := own) hbW).trans hw2 (fun i hi => Or.inl (hi ▸ hown))
    have hstr : storeF (memBase s.mem) sz a x = if x.obj > 0 ∧ (sz : Int) ≠ 8 then none else some ((memBase s.mem).modify (k + 1) (putV j (if x.obj = 0 then ⟨0, storedF sz x.n⟩ else x))) := by
      unfold storeF
      rw [htn, hF, hk]
      rfl
    by_cases hx0 : x.obj = 0
    · obtain ⟨xo, xn⟩ := x
      simp only at hx0
      subst hx0
      refine (hstore_num hb (rb k) (j * 2) sz a xn _ _ w HT hs hx.2.2 hob hc0 hc1 (fun j => hrow.free j)).mono (fin _ ⟨?_, fun h => absurd rfl h, stored_in64 hx.2.2⟩ (fun _ => rfl) ?_)
      · exact memBase_pos _
      · rw [hstr, if_neg (by simp)]
        simp
    · by_cases h8 : sz = 8
      · subst h8
        refine (hstore_place hb (rb k) (j * 2) a x _ _ w HT hx0 hob hc0 hc1 (fun j => hrow.free j)).mono (fin _ hx (fun hne8 => ?_) ?_)
        · rw [hk] at hsz
          exact absurd hsz hne8
        · rw [hstr, if_neg (by simp), if_neg hx0]
      · refine (hstore_bad hb (rb k) (j * 2) sz a x w HT hx0 h8).mono (no ?_)
        rw [hstr, if_pos ⟨by omega, by omega⟩]
end Go.Proofs.Ytinmgbodgecoeaa
namespace Go.Proofs.Ytinmgbodgecoeaa
open Go.RowKit

theorem gmove_any (hb n cap B : Nat) (m : Int) (a : V) (A : Option Addr) (M : List MO) (w : World) (hB : B ≤ w.heap.size) (hpb : hb < w.heap.size) (hc : w.cell? ⟨hb, 0, none⟩ = some (.slice A n cap)) (hM : MemRG w B A n M) (h0 : a.obj ≠ 0) (hk : a.obj < M.length) (hx : 0 ≤ a.n ∧ a.n ≤ 512) :
    Calls Try.prog 54 #[.pointer (some ⟨hb, 0, none⟩), .agg #[.int .i64 a.obj, .int .i64 a.n], .int .i64 m] w fun e w' => AnsV (movedF M a m) e ∧ Below w.heap.size w w' := by
  obtain ⟨obj, x⟩ := a
  rcases obj with _ | k
  · exact absurd rfl h0
  · simp only at hk hx
    show Calls _ _ #[_, .agg #[.int .i64 ((k + 1 : Nat) : Int), .int .i64 x], _] w _
    rw [Int.natCast_add, Int.natCast_one]
    unfold movedF
    simp only
    by_cases hd : (mget M (k + 1)).live = true
    · by_cases h1 : m < -x
      · rw [if_neg (fun h => h.2.1 h1)]
        exact (move_low hb n cap B k x A M w hB hpb hc hM hk hd hx.1 hx.2 m h1).mono fun e w' ⟨he, hbw⟩ => ⟨⟨0, 0, he⟩, hbw⟩
      · by_cases h2 : (mget M (k + 1)).bytes - x < m
        · rw [if_neg (fun h => h.2.2 h2)]
          exact (move_high hb n cap B k x A M w hB hpb hc hM hk hd hx.1 hx.2 m h1 h2).mono fun e w' ⟨he, hbw⟩ => ⟨⟨0, 0, he⟩, hbw⟩
        · rw [if_pos ⟨hd, h1, h2⟩]
          exact (move_yes hb n cap B k x A M w hB hpb hc hM hk hd hx.1 hx.2 m h1 h2).mono fun e w' ⟨he, hbw⟩ => ⟨by show e = _; rw [he]; simp [ansV], hbw⟩
    · rw [if_neg (fun h => hd h.1)]
      exact (move_dead hb n cap B k x A M w hB hpb hc hM hk (by simpa using hd) hx.1 hx.2 m).mono fun e w' ⟨he, hbw⟩ => ⟨⟨0, 0, he⟩, hbw⟩
def apartF (M : List MO) (a : V) : Bool := (mget M a.obj).live && decide (a.n < (mget M a.obj).bytes)
theorem gapart_any (hb n cap B : Nat) (a : V) (A : Option Addr) (M : List MO) (w : World) (hB : B ≤ w.heap.size) (hpb : hb < w.heap.size) (hc : w.cell? ⟨hb, 0, none⟩ = some (.slice A n cap)) (hM : MemRG w B A n M) (h0 : a.obj ≠ 0) (hk : a.obj < M.length) :
    Calls Try.prog 59 #[.pointer (some ⟨hb, 0, none⟩), .agg #[.int .i64 a.obj, .int .i64 a.n]] w fun e w' => e = .returned (.bool (apartF M a)) ∧ Below w.heap.size w w' := by
  obtain ⟨obj, x⟩ := a
  rcases obj with _ | k
  · exact absurd rfl h0
  · simp only at hk
    show Calls _ _ #[_, .agg #[.int .i64 ((k + 1 : Nat) : Int), .int .i64 x]] w _
    rw [Int.natCast_add, Int.natCast_one]
    unfold apartF
    simp only
    by_cases hd : (mget M (k + 1)).live = true
    · by_cases h1 : x < (mget M (k + 1)).bytes
      · rw [hd, decide_eq_true h1]
        exact apart_near hb n cap B k x A M w hB hpb hc hM hk hd h1
      · rw [hd, decide_eq_false h1]
        exact apart_far hb n cap B k x A M w hB hpb hc hM hk hd h1
    · have hd' : (mget M (k + 1)).live = false := by simpa using hd
      rw [hd', Bool.false_and]
      exact apart_dead hb n cap B k x A M w hB hpb hc hM hk hd'

set_option maxHeartbeats 2000000 in
theorem goneh_any (hb : Nat) (op : Int) (a : V) (w : World) (h0 : 31 ≤ op) (h1 : op ≤ 36) :
    Calls Try.prog 50 #[.pointer (some ⟨hb, 0, none⟩), .int .i64 op, .agg #[.int .i64 a.obj, .int .i64 a.n]] w fun e w' => AnsV (if a.obj = 0 then some ⟨0, unR op a.n⟩ else none) e ∧ Below w.heap.size w w' := by
  have hp : decide ((a.obj : Int) > 0) = true ∧ a.obj ≠ 0 ∨ decide ((a.obj : Int) > 0) = false ∧ a.obj = 0 := by
    by_cases h : a.obj = 0
    · exact Or.inr ⟨by simp [h], h⟩
    · exact Or.inl ⟨by simp; omega, h⟩
  rcases hp with ⟨hd, hz⟩ | ⟨hd, hz⟩
  · rw [if_neg hz]
    have hd2 : decide ((0 : Int) < (a.obj : Int)) = true := hd
    have hd3 : decide (0 < a.obj) = true := by simp; omega
    clear hz
    go_enter Try.func50, Try.ntmps50
    refine wp_letter (fun Q hQ => ?_)
    have HQ := Lib.hid hQ
    clear hQ
    go_wp2_with fail
    refine HQ.out _ _ _ ?_
    refine bodyPost_ret (v := .tuple #[.agg #[.int .i64 0, .int .i64 0], .bool false]) (by simp [results, Try.results50, go_sem]) rfl ⟨⟨0, 0, rfl⟩, ?_⟩
    exact below2 _ _ _
  · rw [if_pos hz, hz]
    clear hd hz
    go_enter Try.func50, Try.ntmps50
    refine wp_letter (fun Q hQ => ?_)
    have HQ := Lib.hid hQ
    clear hQ
    go_wp2_with fail
    refine (gone_any _ _ _ h0 h1).mono ?_
    rintro e w2 ⟨rfl, hb2⟩
    have HB2 := Lib.hid ((below2 w _ _).trans (hb2.mono (below2 w _ _).size))
    have hr := (Row.new' (w := w.alloc (.cells #[.int .i64 0, .int .i64 a.n] 60)) #[.int .i64 0, .int .i64 0] 60 (g := w.heap.size + 1) (by simp)).below hb2 (by simp)
    have r0 := hr.cell (j := 0) rfl
    have r1 := hr.cell (j := 1) rfl
    have f0 := hr.free 0
    have f1 := hr.free 1
    clear hr hb2
    go_wp2_with fail
    refine HQ.out _ _ _ ?_
    refine bodyPost_ret (v := .tuple #[.agg #[.int .i64 0, .int .i64 (unR op a.n)], .bool true]) (by simp [results, Try.results50, go_sem, r0, r1]) rfl ⟨rfl, ?_⟩
    exact (HB2.out.setCell (by simp) _).setCell (by simp) _
end Go.Proofs.Ytinmgbodgecoeaa
namespace Go.Proofs.Ytinmgbodgecoeaa
open Go.RowKit

/-! ### Plain laws -/
theorem eq_25 (a b : Int) : twoR 25 a b = tru (a == b) := by simp [twoR, isDiv, cmpR]
theorem ne_26 (a b : Int) : twoR 26 a b = tru (a != b) := by simp [twoR, isDiv, cmpR]
theorem binF_two {M : List MO} {op : Int} {a b : V} (ha : a.obj ≠ 0) (hb : b.obj ≠ 0) : binF twoR M op a b =
    (if op = 25 ∨ op = 26 then (if cmpF M a b = false then none else some ⟨0, twoR op (if a = b then 1 else 0) 1⟩)
     else if a.obj ≠ b.obj ∨ (mget M a.obj).live = false ∨ (op ≠ 13 ∧ ¬ (27 ≤ op ∧ op ≤ 30)) then none else some ⟨0, twoR op a.n b.n⟩) := by
  unfold binF
  rw [if_neg (by omega), if_neg (by omega), if_neg (by omega), if_neg (by omega)]
  by_cases h : op = 25 ∨ op = 26
  · rw [if_pos h, if_pos h, if_neg (by omega)]
    by_cases hc : cmpF M a b = false
    · rw [if_pos ⟨by omega, by omega, hc⟩, if_pos hc]
    · rw [if_neg (fun h => hc h.2.2), if_neg hc]
  · rw [if_neg h, if_neg h]
theorem binF_far {M : List MO} {op : Int} {a b : V} (ha : a.obj ≠ 0) (hb : b.obj ≠ 0) (hne : a.obj ≠ b.obj) : binF twoR M op a b = if (op = 25 ∨ op = 26) ∧ apartF M a = true ∧ apartF M b = true then some ⟨0, op - 25⟩ else none := by
  rw [binF_two ha hb]
  have hab : a ≠ b := fun h => hne (by rw [h])
  have hc : cmpF M a b = (apartF M a && apartF M b) := by
    unfold cmpF apartF
    rw [decide_eq_false hne, Bool.false_or]
    cases (mget M a.obj).live <;> cases (mget M b.obj).live <;> simp
  by_cases h : op = 25 ∨ op = 26
  · rw [if_pos h, if_neg hab, hc]
    cases h1 : apartF M a <;> cases h2 : apartF M b <;> simp [h]
    rcases h with rfl | rfl
    · rw [eq_25]; decide
    · rw [ne_26]; decide
  · rw [if_neg h, if_pos (Or.inl hne), if_neg (fun hh => h hh.1)]
theorem binF_near {M : List MO} {op : Int} {a b : V} (ha : a.obj ≠ 0) (heq : a.obj = b.obj) : binF twoR M op a b = if (mget M a.obj).live = true ∧ (op = 25 ∨ op = 26 ∨ op = 13 ∨ (27 ≤ op ∧ op ≤ 30)) then some ⟨0, twoR op a.n b.n⟩ else none := by
  rw [binF_two ha (by omega)]
  have hc : cmpF M a b = (mget M a.obj).live := by
    unfold cmpF
    rw [← heq, decide_eq_true (rfl : a.obj = a.obj)]
    cases (mget M a.obj).live <;> simp
  have hab : (a = b) ↔ a.n = b.n := by
    constructor
    · intro h; rw [h]
    · intro h; cases a; cases b; simp_all
  by_cases hl : (mget M a.obj).live = true
  · by_cases h : op = 25 ∨ op = 26
    · have e1 : (if op = 25 ∨ op = 26 then (if cmpF M a b = false then none else some (⟨0, twoR op (if a = b then 1 else 0) 1⟩ : V)) else if a.obj ≠ b.obj ∨ (mget M a.obj).live = false ∨ (op ≠ 13 ∧ ¬ (27 ≤ op ∧ op ≤ 30)) then none else some ⟨0, twoR op a.n b.n⟩) = some ⟨0, twoR op (if a = b then 1 else 0) 1⟩ := by
        rw [if_pos h, if_neg (by rw [hc, hl]; simp)]
      have e2 : (if (mget M a.obj).live = true ∧ (op = 25 ∨ op = 26 ∨ op = 13 ∨ (27 ≤ op ∧ op ≤ 30)) then some (⟨0, twoR op a.n b.n⟩ : V) else none) = some ⟨0, twoR op a.n b.n⟩ := if_pos ⟨hl, by omega⟩
      rw [e1, e2]
      have e3 : twoR op (if a = b then 1 else 0) 1 = twoR op a.n b.n := by
        rcases h with rfl | rfl
        · rw [eq_25, eq_25]
          by_cases hn : a.n = b.n
          · rw [if_pos (hab.2 hn), hn]; simp
          · have : (a.n == b.n) = false := by simpa using hn
            rw [if_neg (fun hh => hn (hab.1 hh)), this]; rfl
        · rw [ne_26, ne_26]
          by_cases hn : a.n = b.n
          · rw [if_pos (hab.2 hn), hn]; simp
          · have : (a.n != b.n) = true := by simpa using hn
            rw [if_neg (fun hh => hn (hab.1 hh)), this]; rfl
      rw [e3]
    · rw [if_neg h]
      by_cases h3 : op ≠ 13 ∧ ¬ (27 ≤ op ∧ op ≤ 30)
      · rw [if_pos (Or.inr (Or.inr h3)), if_neg (fun hh => by have := hh.2; omega)]
      · rw [if_neg (fun hh => by rcases hh with hh | hh | hh; exact hh heq; rw [hl] at hh; cases hh; exact h3 hh), if_pos ⟨hl, by omega⟩]
  · have hl' : (mget M a.obj).live = false := by simpa using hl
    have e2 : (if (mget M a.obj).live = true ∧ (op = 25 ∨ op = 26 ∨ op = 13 ∨ (27 ≤ op ∧ op ≤ 30)) then some (⟨0, twoR op a.n b.n⟩ : V) else none) = none := if_neg (fun hh => hl hh.1)
    rw [e2]
    by_cases h : op = 25 ∨ op = 26
    · rw [if_pos h, if_pos (by rw [hc, hl'])]
    · rw [if_neg h, if_pos (Or.inr (Or.inl hl'))]

/-! ### The walk -/
structure Box3 (w W : World) (a b : V) : Prop where
  r0 : Row W w.heap.size #[.int .i64 a.obj, .int .i64 a.n] 60
  r1 : Row W (w.heap.size + 1) #[.int .i64 b.obj, .int .i64 b.n] 60
  r2 : Row W (w.heap.size + 1 + 1) #[.int .i64 0, .int .i64 0] 60
  below : Below w.heap.size w W
theorem Box3.mk' (w : World) (a b : V) : Box3 w (((w.alloc (.cells #[.int .i64 a.obj, .int .i64 a.n] 60)).alloc (.cells #[.int .i64 b.obj, .int .i64 b.n] 60)).alloc (.cells #[.int .i64 0, .int .i64 0] 60)) a b :=
  ⟨((Row.new _ _ _).alloc _).alloc _, (Row.new' _ _ (by simp)).alloc _, Row.new' _ _ (by simp), below3 _ _ _ _⟩
theorem Box3.grow {w W W' : World} {a b : V} (h : Box3 w W a b) (hb : Below W.heap.size W W') : Box3 w W' a b :=
  ⟨h.r0.below hb h.r0.lt, h.r1.below hb h.r1.lt, h.r2.below hb h.r2.lt, h.below.trans (hb.mono h.below.size)⟩

set_option maxRecDepth 100000 in
set_option maxHeartbeats 8000000 in
theorem places_far (hb n cap B : Nat) (op : Int) (a b : V) (A : Option Addr) (M : List MO) (w : World) (hB : B ≤ w.heap.size) (hpb : hb < w.heap.size) (hc : w.cell? ⟨hb, 0, none⟩ = some (.slice A n cap)) (hM : MemRG w B A n M) (ha : a.obj ≠ 0) (hka : a.obj < M.length) (hbo : b.obj ≠ 0) (hkb : b.obj < M.length) (h0 : 12 ≤ op) (h1 : op ≤ 30) (hne : a.obj ≠ b.obj) :
    Calls Try.prog 53 #[.pointer (some ⟨hb, 0, none⟩), .int .i64 op, .agg #[.int .i64 a.obj, .int .i64 a.n], .agg #[.int .i64 b.obj, .int .i64 b.n]] w fun e w' => AnsV (if (op = 25 ∨ op = 26) ∧ apartF M a = true ∧ apartF M b = true then some ⟨0, op - 25⟩ else none) e ∧ Below w.heap.size w w' := by
  have HA := Lib.hid (fun W (hbw : Below w.heap.size w W) => gapart_any hb n cap B a A M W (Nat.le_trans hB hbw.size) (Nat.lt_of_lt_of_le hpb hbw.size) (cell_below hc hbw hpb) (hM.below (hbw.mono hB) (Nat.le_refl _)) ha hka)
  have HBB := Lib.hid (fun W (hbw : Below w.heap.size w W) => gapart_any hb n cap B b A M W (Nat.le_trans hB hbw.size) (Nat.lt_of_lt_of_le hpb hbw.size) (cell_below hc hbw hpb) (hM.below (hbw.mono hB) (Nat.le_refl _)) hbo hkb)
  have hn1 : ((a.obj : Int) != (b.obj : Int)) = true := by simp; omega
  have hn2 : (a.obj != b.obj) = true := by simp; exact hne
  have H3 := Lib.hid (Box3.mk' w a b)
  clear hc hM
  by_cases hs : op = 25 ∨ op = 26
  · obtain ⟨qa, hqa⟩ : ∃ q, q = apartF M a := ⟨_, rfl⟩
    obtain ⟨qb, hqb⟩ : ∃ q, q = apartF M b := ⟨_, rfl⟩
    rw [← hqa] at HA ⊢
    rw [← hqb] at HBB ⊢
    clear hqa hqb
    have hv : (if (op = 25 ∨ op = 26) ∧ qa = true ∧ qb = true then some (⟨0, op - 25⟩ : V) else none) = if qa && qb then some ⟨0, op - 25⟩ else none := by cases qa <;> cases qb <;> simp [hs]
    rw [hv]
    clear hv
    rcases hs with rfl | rfl
    all_goals
      go_enter Try.func53, Try.ntmps53
      refine wp_letter (fun Q hQ => ?_)
      have HQ := Lib.hid hQ
      clear hQ
      go_wp2_with fail
      refine (HA.out _ H3.out.below).mono ?_
      rintro e w1 ⟨rfl, hb1⟩
      have H4 := Lib.hid (H3.out.grow hb1)
      have b0 := H4.out.r1.cell (j := 0) rfl
      have b1 := H4.out.r1.cell (j := 1) rfl
      have r0 := H4.out.r2.cell (j := 0) rfl
      have r1 := H4.out.r2.cell (j := 1) rfl
      have f0 := H4.out.r2.free 0
      have f1 := H4.out.r2.free 1
      clear hb1
      cases qa with
      | false =>
        go_wp2_with fail
        refine HQ.out _ _ _ ?_
        refine bodyPost_ret (v := .tuple #[.agg #[.int .i64 0, .int .i64 _], .bool false]) (by simp [results, Try.results53, go_sem, r0, r1]; rfl) rfl ⟨⟨_, _, rfl⟩, ?_⟩
        exact (H4.out.below.setCell (by simp; try omega) _).setCell (by simp; try omega) _
      | true =>
        go_wp2_with fail
        refine (HBB.out _ H4.out.below).mono ?_
        rintro e w2 ⟨rfl, hb2⟩
        have H5 := Lib.hid (H4.out.grow hb2)
        clear b0 b1 r0 r1 f0 f1
        have r0 := H5.out.r2.cell (j := 0) rfl
        have r1 := H5.out.r2.cell (j := 1) rfl
        have f0 := H5.out.r2.free 0
        have f1 := H5.out.r2.free 1
        clear hb2
        cases qb with
        | false =>
          go_wp2_with fail
          refine HQ.out _ _ _ ?_
          refine bodyPost_ret (v := .tuple #[.agg #[.int .i64 0, .int .i64 _], .bool false]) (by simp [results, Try.results53, go_sem, r0, r1]; rfl) rfl ⟨⟨_, _, rfl⟩, ?_⟩
          exact (H5.out.below.setCell (by simp; try omega) _).setCell (by simp; try omega) _
        | true =>
          go_wp2_with fail
          refine HQ.out _ _ _ ?_
          refine bodyPost_ret (v := .tuple #[.agg #[.int .i64 0, .int .i64 _], .bool true]) (by simp [results, Try.results53, go_sem, r0, r1]; rfl) rfl ⟨by simp [AnsV, ansV], ?_⟩
          exact (H5.out.below.setCell (by simp; try omega) _).setCell (by simp; try omega) _
  · rw [if_neg (fun h => hs h.1)]
    have e1 : (op == 25) = false := by simp; omega
    have e2 : (op == 26) = false := by simp; omega
    clear hs
    go_enter Try.func53, Try.ntmps53
    refine wp_letter (fun Q hQ => ?_)
    have HQ := Lib.hid hQ
    clear hQ
    go_wp2_with fail
    refine HQ.out _ _ _ ?_
    refine bodyPost_ret (v := .tuple #[.agg #[.int .i64 0, .int .i64 (op - 25)], .bool false]) (by simp [results, Try.results53, go_sem]) rfl ⟨⟨_, _, rfl⟩, ?_⟩
    exact below3 _ _ _ _
end Go.Proofs.Ytinmgbodgecoeaa
