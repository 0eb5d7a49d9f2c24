/- The graph's heap: ops of two places in one object. Conditions: as stated. -/
import Derived.Test.YtinmgbodgecoeaaQ06Zz
set_option linter.unusedVariables false
set_option linter.unusedSimpArgs false
namespace Go.Proofs.Ytinmgbodgecoeaa
open Go.RowKit

set_option maxRecDepth 100000 in
set_option maxHeartbeats 8000000 in
theorem near_dead_no (hb n cap B k : Nat) (op : Int) (x y : Int) (A : Option Addr) (M : List MO) (w : World) (hB : B ≤ w.heap.size) (hpb : hb < w.heap.size) (hc : w.cell? ⟨hb, 0, none⟩ = some (.slice A n cap)) (hM : MemRG w B A n M) (hk : k + 1 < M.length) (h0 : 12 ≤ op) (h1 : op ≤ 30) (hl : (mget M (k + 1)).live = false) (h2 : op ≠ 25 ∧ op ≠ 26) :
    Calls Try.prog 53 #[.pointer (some ⟨hb, 0, none⟩), .int .i64 op, .agg #[.int .i64 ((k : Int) + 1), .int .i64 x], .agg #[.int .i64 ((k : Int) + 1), .int .i64 y]] w fun e w' => e = .returned (.tuple #[.agg #[.int .i64 0, .int .i64 0], .bool false]) ∧ Below w.heap.size w w' := by
  obtain ⟨mb, mo, rfl, hmb', hkn, A', len, cap', c0, c1, c2, hll, hl2, hsa, hsb⟩ := hM.get hk
  have hmb : mb < w.heap.size := by omega
  rw [hl] at c2
  have hz1 : hb < w.heap.size + 1 := by omega
  have hz2 : hb < w.heap.size + 1 + 1 := by omega
  have hz3 : mb < w.heap.size + 1 := by omega
  have hz4 : mb < w.heap.size + 1 + 1 := by omega
  have hk0 : (0 : Int) ≤ (k : Int) := by omega
  have hk1 : (k : Int) < (n : Int) := by omega
  have hn := hM.2.1
  have hw1 : IntKind.i64.wrap (k : Int) = (k : Int) := IntWalk.i64_in _ (by omega)
  have hw2 : IntKind.i64.wrap ((k : Int) + 1 - 1) = (k : Int) := by rw [Int.add_sub_cancel]; exact hw1
  have HTW := Lib.hid (fun W => two_any op x y W h0 h1)
  have e1 : (op == 25) = false := by simp; omega
  have e2 : (op == 26) = false := by simp; omega
  clear hM hk hl hll c0 c1
  go_enter Try.func53, Try.ntmps53
  refine wp_letter (fun Q hQ => ?_)
  have HQ := Lib.hid hQ
  clear hQ
  go_wp2_with fail
  go_quiet (fail)
  go_wp2_with fail
  refine HQ.out _ _ _ ?_
  refine bodyPost_ret (v := .tuple #[.agg #[.int .i64 0, .int .i64 0], .bool false]) (by simp [results, Try.results53, go_sem]) rfl ⟨rfl, ?_⟩
  exact ((below_drewN (below3 _ _ _ _) _).setCell (by first | (simp; done) | (simp; omega)) _).setCell (by first | (simp; done) | (simp; omega)) _

set_option maxRecDepth 100000 in
set_option maxHeartbeats 8000000 in
theorem near_dead_eq (hb n cap B k : Nat) (op : Int) (x y : Int) (A : Option Addr) (M : List MO) (w : World) (hB : B ≤ w.heap.size) (hpb : hb < w.heap.size) (hc : w.cell? ⟨hb, 0, none⟩ = some (.slice A n cap)) (hM : MemRG w B A n M) (hk : k + 1 < M.length) (h0 : 12 ≤ op) (h1 : op ≤ 30) (hl : (mget M (k + 1)).live = false) (h2 : op = 25 ∨ op = 26) :
    Calls Try.prog 53 #[.pointer (some ⟨hb, 0, none⟩), .int .i64 op, .agg #[.int .i64 ((k : Int) + 1), .int .i64 x], .agg #[.int .i64 ((k : Int) + 1), .int .i64 y]] w fun e w' => e = .returned (.tuple #[.agg #[.int .i64 0, .int .i64 0], .bool false]) ∧ Below w.heap.size w w' := by
  obtain ⟨mb, mo, rfl, hmb', hkn, A', len, cap', c0, c1, c2, hll, hl2, hsa, hsb⟩ := hM.get hk
  have hmb : mb < w.heap.size := by omega
  rw [hl] at c2
  have hz1 : hb < w.heap.size + 1 := by omega
  have hz2 : hb < w.heap.size + 1 + 1 := by omega
  have hz3 : mb < w.heap.size + 1 := by omega
  have hz4 : mb < w.heap.size + 1 + 1 := by omega
  have hk0 : (0 : Int) ≤ (k : Int) := by omega
  have hk1 : (k : Int) < (n : Int) := by omega
  have hn := hM.2.1
  have hw1 : IntKind.i64.wrap (k : Int) = (k : Int) := IntWalk.i64_in _ (by omega)
  have hw2 : IntKind.i64.wrap ((k : Int) + 1 - 1) = (k : Int) := by rw [Int.add_sub_cancel]; exact hw1
  have HTW := Lib.hid (fun W => two_any op x y W h0 h1)
  clear hM hk hl hll c0 c1
  rcases h2 with rfl | rfl
  all_goals
    go_enter Try.func53, Try.ntmps53
    refine wp_letter (fun Q hQ => ?_)
    have HQ := Lib.hid hQ
    clear hQ
    go_wp2_with fail
    go_quiet (fail)
    go_wp2_with fail
    refine HQ.out _ _ _ ?_
    refine bodyPost_ret (v := .tuple #[.agg #[.int .i64 0, .int .i64 0], .bool false]) (by simp [results, Try.results53, go_sem]) rfl ⟨rfl, ?_⟩
    exact ((below_drewN (below3 _ _ _ _) _).setCell (by first | (simp; done) | (simp; omega)) _).setCell (by first | (simp; done) | (simp; omega)) _

set_option maxRecDepth 100000 in
set_option maxHeartbeats 8000000 in
theorem near_eq (hb n cap B k : Nat) (op : Int) (x y : Int) (A : Option Addr) (M : List MO) (w : World) (hB : B ≤ w.heap.size) (hpb : hb < w.heap.size) (hc : w.cell? ⟨hb, 0, none⟩ = some (.slice A n cap)) (hM : MemRG w B A n M) (hk : k + 1 < M.length) (h0 : 12 ≤ op) (h1 : op ≤ 30) (hl : (mget M (k + 1)).live = true) (h2 : op = 25 ∨ op = 26) :
    Calls Try.prog 53 #[.pointer (some ⟨hb, 0, none⟩), .int .i64 op, .agg #[.int .i64 ((k : Int) + 1), .int .i64 x], .agg #[.int .i64 ((k : Int) + 1), .int .i64 y]] w fun e w' => e = .returned (.tuple #[.agg #[.int .i64 0, .int .i64 (twoR op x y)], .bool true]) ∧ Below w.heap.size w w' := by
  obtain ⟨mb, mo, rfl, hmb', hkn, A', len, cap', c0, c1, c2, hll, hl2, hsa, hsb⟩ := hM.get hk
  have hmb : mb < w.heap.size := by omega
  rw [hl] at c2
  have hz1 : hb < w.heap.size + 1 := by omega
  have hz2 : hb < w.heap.size + 1 + 1 := by omega
  have hz3 : mb < w.heap.size + 1 := by omega
  have hz4 : mb < w.heap.size + 1 + 1 := by omega
  have hk0 : (0 : Int) ≤ (k : Int) := by omega
  have hk1 : (k : Int) < (n : Int) := by omega
  have hn := hM.2.1
  have hw1 : IntKind.i64.wrap (k : Int) = (k : Int) := IntWalk.i64_in _ (by omega)
  have hw2 : IntKind.i64.wrap ((k : Int) + 1 - 1) = (k : Int) := by rw [Int.add_sub_cancel]; exact hw1
  have HTW := Lib.hid (fun W => two_any op x y W h0 h1)
  clear hM hk hl hll c0 c1
  rcases h2 with rfl | rfl
  all_goals
    go_enter Try.func53, Try.ntmps53
    refine wp_letter (fun Q hQ => ?_)
    have HQ := Lib.hid hQ
    clear hQ
    go_wp2_with fail
    go_quiet (fail)
    go_wp2_with fail
    refine (HTW.out _).mono ?_
    rintro e w2 ⟨rfl, q, rfl⟩
    go_wp2_with fail
    refine HQ.out _ _ _ ?_
    refine bodyPost_ret (v := .tuple #[.agg #[.int .i64 0, .int .i64 (twoR _ x y)], .bool true]) (by simp [results, Try.results53, go_sem]) rfl ⟨rfl, ?_⟩
    exact ((below_drewN (below3 _ _ _ _) _).setCell (by first | (simp; done) | (simp; omega)) _).setCell (by first | (simp; done) | (simp; omega)) _

set_option maxRecDepth 100000 in
set_option maxHeartbeats 8000000 in
theorem near_sub (hb n cap B k : Nat) (op : Int) (x y : Int) (A : Option Addr) (M : List MO) (w : World) (hB : B ≤ w.heap.size) (hpb : hb < w.heap.size) (hc : w.cell? ⟨hb, 0, none⟩ = some (.slice A n cap)) (hM : MemRG w B A n M) (hk : k + 1 < M.length) (h0 : 12 ≤ op) (h1 : op ≤ 30) (hl : (mget M (k + 1)).live = true) (h2 : op = 13) :
    Calls Try.prog 53 #[.pointer (some ⟨hb, 0, none⟩), .int .i64 op, .agg #[.int .i64 ((k : Int) + 1), .int .i64 x], .agg #[.int .i64 ((k : Int) + 1), .int .i64 y]] w fun e w' => e = .returned (.tuple #[.agg #[.int .i64 0, .int .i64 (twoR op x y)], .bool true]) ∧ Below w.heap.size w w' := by
  obtain ⟨mb, mo, rfl, hmb', hkn, A', len, cap', c0, c1, c2, hll, hl2, hsa, hsb⟩ := hM.get hk
  have hmb : mb < w.heap.size := by omega
  rw [hl] at c2
  have hz1 : hb < w.heap.size + 1 := by omega
  have hz2 : hb < w.heap.size + 1 + 1 := by omega
  have hz3 : mb < w.heap.size + 1 := by omega
  have hz4 : mb < w.heap.size + 1 + 1 := by omega
  have hk0 : (0 : Int) ≤ (k : Int) := by omega
  have hk1 : (k : Int) < (n : Int) := by omega
  have hn := hM.2.1
  have hw1 : IntKind.i64.wrap (k : Int) = (k : Int) := IntWalk.i64_in _ (by omega)
  have hw2 : IntKind.i64.wrap ((k : Int) + 1 - 1) = (k : Int) := by rw [Int.add_sub_cancel]; exact hw1
  have HTW := Lib.hid (fun W => two_any op x y W h0 h1)
  clear hM hk hl hll c0 c1
  subst h2
  all_goals
    go_enter Try.func53, Try.ntmps53
    refine wp_letter (fun Q hQ => ?_)
    have HQ := Lib.hid hQ
    clear hQ
    go_wp2_with fail
    go_quiet (fail)
    go_wp2_with fail
    refine (HTW.out _).mono ?_
    rintro e w2 ⟨rfl, q, rfl⟩
    go_wp2_with fail
    refine HQ.out _ _ _ ?_
    refine bodyPost_ret (v := .tuple #[.agg #[.int .i64 0, .int .i64 (twoR _ x y)], .bool true]) (by simp [results, Try.results53, go_sem]) rfl ⟨rfl, ?_⟩
    exact ((below_drewN (below3 _ _ _ _) _).setCell (by first | (simp; done) | (simp; omega)) _).setCell (by first | (simp; done) | (simp; omega)) _

set_option maxRecDepth 100000 in
set_option maxHeartbeats 8000000 in
theorem near_cmp (hb n cap B k : Nat) (op : Int) (x y : Int) (A : Option Addr) (M : List MO) (w : World) (hB : B ≤ w.heap.size) (hpb : hb < w.heap.size) (hc : w.cell? ⟨hb, 0, none⟩ = some (.slice A n cap)) (hM : MemRG w B A n M) (hk : k + 1 < M.length) (h0 : 12 ≤ op) (h1 : op ≤ 30) (hl : (mget M (k + 1)).live = true) (h2 : 27 ≤ op) :
    Calls Try.prog 53 #[.pointer (some ⟨hb, 0, none⟩), .int .i64 op, .agg #[.int .i64 ((k : Int) + 1), .int .i64 x], .agg #[.int .i64 ((k : Int) + 1), .int .i64 y]] w fun e w' => e = .returned (.tuple #[.agg #[.int .i64 0, .int .i64 (twoR op x y)], .bool true]) ∧ Below w.heap.size w w' := by
  obtain ⟨mb, mo, rfl, hmb', hkn, A', len, cap', c0, c1, c2, hll, hl2, hsa, hsb⟩ := hM.get hk
  have hmb : mb < w.heap.size := by omega
  rw [hl] at c2
  have hz1 : hb < w.heap.size + 1 := by omega
  have hz2 : hb < w.heap.size + 1 + 1 := by omega
  have hz3 : mb < w.heap.size + 1 := by omega
  have hz4 : mb < w.heap.size + 1 + 1 := by omega
  have hk0 : (0 : Int) ≤ (k : Int) := by omega
  have hk1 : (k : Int) < (n : Int) := by omega
  have hn := hM.2.1
  have hw1 : IntKind.i64.wrap (k : Int) = (k : Int) := IntWalk.i64_in _ (by omega)
  have hw2 : IntKind.i64.wrap ((k : Int) + 1 - 1) = (k : Int) := by rw [Int.add_sub_cancel]; exact hw1
  have HTW := Lib.hid (fun W => two_any op x y W h0 h1)
  have e1 : (op == 25) = false := by simp; omega
  have e2 : (op == 26) = false := by simp; omega
  have e3 : (op != 13) = true := by simp; omega
  have e4 : decide (op < 27) = false := by simp; omega
  have e5 : decide (30 < op) = false := by simp; omega
  clear hM hk hl hll c0 c1
  go_enter Try.func53, Try.ntmps53
  refine wp_letter (fun Q hQ => ?_)
  have HQ := Lib.hid hQ
  clear hQ
  go_wp2_with fail
  go_quiet (fail)
  go_wp2_with fail
  refine (HTW.out _).mono ?_
  rintro e w2 ⟨rfl, q, rfl⟩
  go_wp2_with fail
  refine HQ.out _ _ _ ?_
  refine bodyPost_ret (v := .tuple #[.agg #[.int .i64 0, .int .i64 (twoR op x y)], .bool true]) (by simp [results, Try.results53, go_sem]) rfl ⟨rfl, ?_⟩
  exact ((below_drewN (below3 _ _ _ _) _).setCell (by first | (simp; done) | (simp; omega)) _).setCell (by first | (simp; done) | (simp; omega)) _

set_option maxRecDepth 100000 in
set_option maxHeartbeats 8000000 in
theorem near_no (hb n cap B k : Nat) (op : Int) (x y : Int) (A : Option Addr) (M : List MO) (w : World) (hB : B ≤ w.heap.size) (hpb : hb < w.heap.size) (hc : w.cell? ⟨hb, 0, none⟩ = some (.slice A n cap)) (hM : MemRG w B A n M) (hk : k + 1 < M.length) (h0 : 12 ≤ op) (h1 : op ≤ 30) (hl : (mget M (k + 1)).live = true) (h2 : op ≠ 25 ∧ op ≠ 26 ∧ op ≠ 13 ∧ op < 27) :
    Calls Try.prog 53 #[.pointer (some ⟨hb, 0, none⟩), .int .i64 op, .agg #[.int .i64 ((k : Int) + 1), .int .i64 x], .agg #[.int .i64 ((k : Int) + 1), .int .i64 y]] w fun e w' => e = .returned (.tuple #[.agg #[.int .i64 0, .int .i64 0], .bool false]) ∧ Below w.heap.size w w' := by
  obtain ⟨mb, mo, rfl, hmb', hkn, A', len, cap', c0, c1, c2, hll, hl2, hsa, hsb⟩ := hM.get hk
  have hmb : mb < w.heap.size := by omega
  rw [hl] at c2
  have hz1 : hb < w.heap.size + 1 := by omega
  have hz2 : hb < w.heap.size + 1 + 1 := by omega
  have hz3 : mb < w.heap.size + 1 := by omega
  have hz4 : mb < w.heap.size + 1 + 1 := by omega
  have hk0 : (0 : Int) ≤ (k : Int) := by omega
  have hk1 : (k : Int) < (n : Int) := by omega
  have hn := hM.2.1
  have hw1 : IntKind.i64.wrap (k : Int) = (k : Int) := IntWalk.i64_in _ (by omega)
  have hw2 : IntKind.i64.wrap ((k : Int) + 1 - 1) = (k : Int) := by rw [Int.add_sub_cancel]; exact hw1
  have HTW := Lib.hid (fun W => two_any op x y W h0 h1)
  have e1 : (op == 25) = false := by simp; omega
  have e2 : (op == 26) = false := by simp; omega
  have e3 : (op != 13) = true := by simp; omega
  have e4 : decide (op < 27) = true := by simp; omega
  clear hM hk hl hll c0 c1
  go_enter Try.func53, Try.ntmps53
  refine wp_letter (fun Q hQ => ?_)
  have HQ := Lib.hid hQ
  clear hQ
  go_wp2_with fail
  go_quiet (fail)
  go_wp2_with fail
  refine HQ.out _ _ _ ?_
  refine bodyPost_ret (v := .tuple #[.agg #[.int .i64 0, .int .i64 0], .bool false]) (by simp [results, Try.results53, go_sem]) rfl ⟨rfl, ?_⟩
  exact ((below_drewN (below3 _ _ _ _) _).setCell (by first | (simp; done) | (simp; omega)) _).setCell (by first | (simp; done) | (simp; omega)) _

theorem places_any (hb n cap B : Nat) (op : Int) (a b : V) (A : Option Addr) (M : List MO) (w : World) (hB : B ≤ w.heap.size) (hpb : hb < w.heap.size) (hc : w.cell? ⟨hb, 0, none⟩ = some (.slice A n cap)) (hM : MemRG w B A n M) (ha : a.obj ≠ 0) (hka : a.obj < M.length) (hbo : b.obj ≠ 0) (hkb : b.obj < M.length) (h0 : 12 ≤ op) (h1 : op ≤ 30) :
    Calls Try.prog 53 #[.pointer (some ⟨hb, 0, none⟩), .int .i64 op, .agg #[.int .i64 a.obj, .int .i64 a.n], .agg #[.int .i64 b.obj, .int .i64 b.n]] w fun e w' => AnsV (binF twoR M op a b) e ∧ Below w.heap.size w w' := by
  by_cases hne : a.obj = b.obj
  · rw [binF_near ha hne]
    obtain ⟨obj, x⟩ := a
    obtain ⟨obj', y⟩ := b
    simp only at hne
    subst hne
    rcases obj with _ | k
    · exact absurd rfl ha
    · simp only at hka
      show Calls _ _ #[_, _, .agg #[.int .i64 ((k + 1 : Nat) : Int), .int .i64 x], .agg #[.int .i64 ((k + 1 : Nat) : Int), .int .i64 y]] w _
      rw [Int.natCast_add, Int.natCast_one]
      simp only
      by_cases hd : (mget M (k + 1)).live = true
      · by_cases h2 : op = 25 ∨ op = 26
        · rw [if_pos ⟨hd, by omega⟩]
          exact (near_eq hb n cap B k op x y A M w hB hpb hc hM hka h0 h1 hd h2).mono fun e w' ⟨he, hbw⟩ => ⟨by show e = _; rw [he]; simp [ansV], hbw⟩
        · by_cases h3 : op = 13
          · rw [if_pos ⟨hd, by omega⟩]
            exact (near_sub hb n cap B k op x y A M w hB hpb hc hM hka h0 h1 hd h3).mono fun e w' ⟨he, hbw⟩ => ⟨by show e = _; rw [he]; simp [ansV], hbw⟩
          · by_cases h4 : 27 ≤ op
            · rw [if_pos ⟨hd, by omega⟩]
              exact (near_cmp hb n cap B k op x y A M w hB hpb hc hM hka h0 h1 hd h4).mono fun e w' ⟨he, hbw⟩ => ⟨by show e = _; rw [he]; simp [ansV], hbw⟩
            · rw [if_neg (fun hh => by have := hh.2; omega)]
              exact (near_no hb n cap B k op x y A M w hB hpb hc hM hka h0 h1 hd (by omega)).mono fun e w' ⟨he, hbw⟩ => ⟨⟨0, 0, he⟩, hbw⟩
      · have hd' : (mget M (k + 1)).live = false := by simpa using hd
        rw [if_neg (fun hh => hd hh.1)]
        by_cases h2 : op = 25 ∨ op = 26
        · exact (near_dead_eq hb n cap B k op x y A M w hB hpb hc hM hka h0 h1 hd' h2).mono fun e w' ⟨he, hbw⟩ => ⟨⟨0, 0, he⟩, hbw⟩
        · exact (near_dead_no hb n cap B k op x y A M w hB hpb hc hM hka h0 h1 hd' (by omega)).mono fun e w' ⟨he, hbw⟩ => ⟨⟨0, 0, he⟩, hbw⟩
  · rw [binF_far ha hbo hne]
    exact places_far hb n cap B op a b A M w hB hpb hc hM ha hka hbo hkb h0 h1 hne
end Go.Proofs.Ytinmgbodgecoeaa
