/- The graph's heap: ops of two places. Conditions: as stated. -/
import Derived.Test.YtikbdplllopjlaaQ05Zz
set_option linter.unusedVariables false
set_option linter.unusedSimpArgs false
namespace Go.Proofs.Ytikbdplllopjlaa
open Go.RowKit

/-! ### Plain laws -/
theorem eq_25 (a b : Int) : twoR 25 a b = tru (a == b) := by simp [twoR, isDiv, cmpR]
theorem ne_26 (a b : Int) : twoR 26 a b = tru (a != b) := by simp [twoR, isDiv, cmpR]
theorem binF_two {M : List MO} {op : Int} {a b : V} (ha : a.obj ≠ 0) (hb : b.obj ≠ 0) : binF twoR M op a b =
    (if op = 25 ∨ op = 26 then (if cmpF M a b = false then none else some ⟨0, twoR op (if a = b then 1 else 0) 1⟩)
     else if a.obj ≠ b.obj ∨ (mget M a.obj).live = false ∨ (op ≠ 13 ∧ ¬ (27 ≤ op ∧ op ≤ 30)) then none else some ⟨0, twoR op a.n b.n⟩) := by
  unfold binF
  rw [if_neg (by omega), if_neg (by omega), if_neg (by omega), if_neg (by omega)]
  by_cases h : op = 25 ∨ op = 26
  · rw [if_pos h, if_pos h, if_neg (by omega)]
    by_cases hc : cmpF M a b = false
    · rw [if_pos ⟨by omega, by omega, hc⟩, if_pos hc]
    · rw [if_neg (fun h => hc h.2.2), if_neg hc]
  · rw [if_neg h, if_neg h]
theorem binF_far {M : List MO} {op : Int} {a b : V} (ha : a.obj ≠ 0) (hb : b.obj ≠ 0) (hne : a.obj ≠ b.obj) : binF twoR M op a b = if (op = 25 ∨ op = 26) ∧ apartF M a = true ∧ apartF M b = true then some ⟨0, op - 25⟩ else none := by
  rw [binF_two ha hb]
  have hab : a ≠ b := fun h => hne (by rw [h])
  have hc : cmpF M a b = (apartF M a && apartF M b) := by
    unfold cmpF apartF
    rw [decide_eq_false hne, Bool.false_or]
    cases (mget M a.obj).live <;> cases (mget M b.obj).live <;> simp
  by_cases h : op = 25 ∨ op = 26
  · rw [if_pos h, if_neg hab, hc]
    cases h1 : apartF M a <;> cases h2 : apartF M b <;> simp [h]
    rcases h with rfl | rfl
    · rw [eq_25]; decide
    · rw [ne_26]; decide
  · rw [if_neg h, if_pos (Or.inl hne), if_neg (fun hh => h hh.1)]
theorem binF_near {M : List MO} {op : Int} {a b : V} (ha : a.obj ≠ 0) (heq : a.obj = b.obj) : binF twoR M op a b = if (mget M a.obj).live = true ∧ (op = 25 ∨ op = 26 ∨ op = 13 ∨ (27 ≤ op ∧ op ≤ 30)) then some ⟨0, twoR op a.n b.n⟩ else none := by
  rw [binF_two ha (by omega)]
  have hc : cmpF M a b = (mget M a.obj).live := by
    unfold cmpF
    rw [← heq, decide_eq_true (rfl : a.obj = a.obj)]
    cases (mget M a.obj).live <;> simp
  have hab : (a = b) ↔ a.n = b.n := by
    constructor
    · intro h; rw [h]
    · intro h; cases a; cases b; simp_all
  by_cases hl : (mget M a.obj).live = true
  · by_cases h : op = 25 ∨ op = 26
    · have e1 : (if op = 25 ∨ op = 26 then (if cmpF M a b = false then none else some (⟨0, twoR op (if a = b then 1 else 0) 1⟩ : V)) else if a.obj ≠ b.obj ∨ (mget M a.obj).live = false ∨ (op ≠ 13 ∧ ¬ (27 ≤ op ∧ op ≤ 30)) then none else some ⟨0, twoR op a.n b.n⟩) = some ⟨0, twoR op (if a = b then 1 else 0) 1⟩ := by
        rw [if_pos h, if_neg (by rw [hc, hl]; simp)]
      have e2 : (if (mget M a.obj).live = true ∧ (op = 25 ∨ op = 26 ∨ op = 13 ∨ (27 ≤ op ∧ op ≤ 30)) then some (⟨0, twoR op a.n b.n⟩ : V) else none) = some ⟨0, twoR op a.n b.n⟩ := if_pos ⟨hl, by omega⟩
      rw [e1, e2]
      have e3 : twoR op (if a = b then 1 else 0) 1 = twoR op a.n b.n := by
        rcases h with rfl | rfl
        · rw [eq_25, eq_25]
          by_cases hn : a.n = b.n
          · rw [if_pos (hab.2 hn), hn]; simp
          · have : (a.n == b.n) = false := by simpa using hn
            rw [if_neg (fun hh => hn (hab.1 hh)), this]; rfl
        · rw [ne_26, ne_26]
          by_cases hn : a.n = b.n
          · rw [if_pos (hab.2 hn), hn]; simp
          · have : (a.n != b.n) = true := by simpa using hn
            rw [if_neg (fun hh => hn (hab.1 hh)), this]; rfl
      rw [e3]
    · rw [if_neg h]
      by_cases h3 : op ≠ 13 ∧ ¬ (27 ≤ op ∧ op ≤ 30)
      · rw [if_pos (Or.inr (Or.inr h3)), if_neg (fun hh => by have := hh.2; omega)]
      · rw [if_neg (fun hh => by rcases hh with hh | hh | hh; exact hh heq; rw [hl] at hh; cases hh; exact h3 hh), if_pos ⟨hl, by omega⟩]
  · have hl' : (mget M a.obj).live = false := by simpa using hl
    have e2 : (if (mget M a.obj).live = true ∧ (op = 25 ∨ op = 26 ∨ op = 13 ∨ (27 ≤ op ∧ op ≤ 30)) then some (⟨0, twoR op a.n b.n⟩ : V) else none) = none := if_neg (fun hh => hl hh.1)
    rw [e2]
    by_cases h : op = 25 ∨ op = 26
    · rw [if_pos h, if_pos (by rw [hc, hl'])]
    · rw [if_neg h, if_pos (Or.inr (Or.inl hl'))]

/-! ### The walk -/
structure Box3 (w W : World) (a b : V) : Prop where
  r0 : Row W w.heap.size #[.int .i64 a.obj, .int .i64 a.n] 55
  r1 : Row W (w.heap.size + 1) #[.int .i64 b.obj, .int .i64 b.n] 55
  r2 : Row W (w.heap.size + 1 + 1) #[.int .i64 0, .int .i64 0] 55
  below : Below w.heap.size w W
theorem Box3.mk' (w : World) (a b : V) : Box3 w (((w.alloc (.cells #[.int .i64 a.obj, .int .i64 a.n] 55)).alloc (.cells #[.int .i64 b.obj, .int .i64 b.n] 55)).alloc (.cells #[.int .i64 0, .int .i64 0] 55)) a b :=
  ⟨((Row.new _ _ _).alloc _).alloc _, (Row.new' _ _ (by simp)).alloc _, Row.new' _ _ (by simp), below3 _ _ _ _⟩
theorem Box3.grow {w W W' : World} {a b : V} (h : Box3 w W a b) (hb : Below W.heap.size W W') : Box3 w W' a b :=
  ⟨h.r0.below hb h.r0.lt, h.r1.below hb h.r1.lt, h.r2.below hb h.r2.lt, h.below.trans (hb.mono h.below.size)⟩

set_option maxRecDepth 100000 in
set_option maxHeartbeats 8000000 in
theorem places_far (hb n cap B : Nat) (op : Int) (a b : V) (A : Option Addr) (M : List MO) (w : World) (hB : B ≤ w.heap.size) (hpb : hb < w.heap.size) (hc : w.cell? ⟨hb, 0, none⟩ = some (.slice A n cap)) (hM : MemRG w B A n M) (ha : a.obj ≠ 0) (hka : a.obj < M.length) (hbo : b.obj ≠ 0) (hkb : b.obj < M.length) (h0 : 12 ≤ op) (h1 : op ≤ 30) (hne : a.obj ≠ b.obj) :
    Calls Try.prog 54 #[.pointer (some ⟨hb, 0, none⟩), .int .i64 op, .agg #[.int .i64 a.obj, .int .i64 a.n], .agg #[.int .i64 b.obj, .int .i64 b.n]] w fun e w' => AnsV (if (op = 25 ∨ op = 26) ∧ apartF M a = true ∧ apartF M b = true then some ⟨0, op - 25⟩ else none) e ∧ Below w.heap.size w w' := by
  have HA := Lib.hid (fun W (hbw : Below w.heap.size w W) => gapart_any hb n cap B a A M W (Nat.le_trans hB hbw.size) (Nat.lt_of_lt_of_le hpb hbw.size) (cell_below hc hbw hpb) (hM.below (hbw.mono hB) (Nat.le_refl _)) ha hka)
  have HBB := Lib.hid (fun W (hbw : Below w.heap.size w W) => gapart_any hb n cap B b A M W (Nat.le_trans hB hbw.size) (Nat.lt_of_lt_of_le hpb hbw.size) (cell_below hc hbw hpb) (hM.below (hbw.mono hB) (Nat.le_refl _)) hbo hkb)
  have hn1 : ((a.obj : Int) != (b.obj : Int)) = true := by simp; omega
  have hn2 : (a.obj != b.obj) = true := by simp; exact hne
  have H3 := Lib.hid (Box3.mk' w a b)
  clear hc hM
  by_cases hs : op = 25 ∨ op = 26
  · obtain ⟨qa, hqa⟩ : ∃ q, q = apartF M a := ⟨_, rfl⟩
    obtain ⟨qb, hqb⟩ : ∃ q, q = apartF M b := ⟨_, rfl⟩
    rw [← hqa] at HA ⊢
    rw [← hqb] at HBB ⊢
    clear hqa hqb
    have hv : (if (op = 25 ∨ op = 26) ∧ qa = true ∧ qb = true then some (⟨0, op - 25⟩ : V) else none) = if qa && qb then some ⟨0, op - 25⟩ else none := by cases qa <;> cases qb <;> simp [hs]
    rw [hv]
    clear hv
    rcases hs with rfl | rfl
    all_goals
      go_enter Try.func54, Try.ntmps54
      refine wp_letter (fun Q hQ => ?_)
      have HQ := Lib.hid hQ
      clear hQ
      go_wp2_with fail
      refine (HA.out _ H3.out.below).mono ?_
      rintro e w1 ⟨rfl, hb1⟩
      have H4 := Lib.hid (H3.out.grow hb1)
      have b0 := H4.out.r1.cell (j := 0) rfl
      have b1 := H4.out.r1.cell (j := 1) rfl
      have r0 := H4.out.r2.cell (j := 0) rfl
      have r1 := H4.out.r2.cell (j := 1) rfl
      have f0 := H4.out.r2.free 0
      have f1 := H4.out.r2.free 1
      clear hb1
      cases qa with
      | false =>
        go_wp2_with fail
        refine HQ.out _ _ _ ?_
        refine bodyPost_ret (v := .tuple #[.agg #[.int .i64 0, .int .i64 _], .bool false]) (by simp [results, Try.results54, go_sem, r0, r1]; rfl) rfl ⟨⟨_, _, rfl⟩, ?_⟩
        exact (H4.out.below.setCell (by simp; try omega) _).setCell (by simp; try omega) _
      | true =>
        go_wp2_with fail
        refine (HBB.out _ H4.out.below).mono ?_
        rintro e w2 ⟨rfl, hb2⟩
        have H5 := Lib.hid (H4.out.grow hb2)
        clear b0 b1 r0 r1 f0 f1
        have r0 := H5.out.r2.cell (j := 0) rfl
        have r1 := H5.out.r2.cell (j := 1) rfl
        have f0 := H5.out.r2.free 0
        have f1 := H5.out.r2.free 1
        clear hb2
        cases qb with
        | false =>
          go_wp2_with fail
          refine HQ.out _ _ _ ?_
          refine bodyPost_ret (v := .tuple #[.agg #[.int .i64 0, .int .i64 _], .bool false]) (by simp [results, Try.results54, go_sem, r0, r1]; rfl) rfl ⟨⟨_, _, rfl⟩, ?_⟩
          exact (H5.out.below.setCell (by simp; try omega) _).setCell (by simp; try omega) _
        | true =>
          go_wp2_with fail
          refine HQ.out _ _ _ ?_
          refine bodyPost_ret (v := .tuple #[.agg #[.int .i64 0, .int .i64 _], .bool true]) (by simp [results, Try.results54, go_sem, r0, r1]; rfl) rfl ⟨by simp [AnsV, ansV], ?_⟩
          exact (H5.out.below.setCell (by simp; try omega) _).setCell (by simp; try omega) _
  · rw [if_neg (fun h => hs h.1)]
    have e1 : (op == 25) = false := by simp; omega
    have e2 : (op == 26) = false := by simp; omega
    clear hs
    go_enter Try.func54, Try.ntmps54
    refine wp_letter (fun Q hQ => ?_)
    have HQ := Lib.hid hQ
    clear hQ
    go_wp2_with fail
    refine HQ.out _ _ _ ?_
    refine bodyPost_ret (v := .tuple #[.agg #[.int .i64 0, .int .i64 (op - 25)], .bool false]) (by simp [results, Try.results54, go_sem]) rfl ⟨⟨_, _, rfl⟩, ?_⟩
    exact below3 _ _ _ _
end Go.Proofs.Ytikbdplllopjlaa
