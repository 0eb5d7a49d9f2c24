/- The graph's heap: an op of two. Conditions: as stated. -/
import Derived.Test.YtinmgbodgecoeaaGNearZz
set_option linter.unusedVariables false
set_option linter.unusedSimpArgs false
namespace Go.Proofs.Ytinmgbodgecoeaa
open Go.RowKit

set_option maxRecDepth 100000 in
set_option maxHeartbeats 4000000 in
theorem two_nums (hb n cap B : Nat) (op : Int) (a b : V) (A : Option Addr) (M : List MO) (w : World) (hB : B ≤ w.heap.size) (hpb : hb < w.heap.size) (hc : w.cell? ⟨hb, 0, none⟩ = some (.slice A n cap)) (hM : MemRG w B A n M) (hka : a.obj ≠ 0 → a.obj < M.length ∧ 0 ≤ a.n ∧ a.n ≤ 512) (hkb : b.obj ≠ 0 → b.obj < M.length ∧ 0 ≤ b.n ∧ b.n ≤ 512) (h0 : 12 ≤ op) (h1 : op ≤ 30) (ha : a.obj = 0) (hz : b.obj = 0) :
    Calls Try.prog 48 #[.pointer (some ⟨hb, 0, none⟩), .int .i64 op, .agg #[.int .i64 a.obj, .int .i64 a.n], .agg #[.int .i64 b.obj, .int .i64 b.n]] w fun e w' => e = .returned (.tuple #[.agg #[.int .i64 0, .int .i64 (twoR op a.n b.n)], .bool true]) ∧ Below w.heap.size w w' := by
  have ha1 : ((a.obj : Int) == 0) = true := by simp [ha]
  have ha2 : decide ((0 : Int) < (a.obj : Int)) = false := by simp [ha]
  have ha3 : decide (0 < a.obj) = false := by simp [ha]
  have hz1 : ((b.obj : Int) == 0) = true := by simp [hz]
  have hz2 : decide ((0 : Int) < (b.obj : Int)) = false := by simp [hz]
  have hz3 : decide (0 < b.obj) = false := by simp [hz]
  have HTW := Lib.hid (fun W => two_any op a.n b.n W h0 h1)
  have HUP := Lib.hid (fun W (hbw : Below w.heap.size w W) => (⟨Nat.le_trans hB hbw.size, Nat.lt_of_lt_of_le hpb hbw.size, cell_below hc hbw hpb, hM.below (hbw.mono hB) (Nat.le_refl _)⟩ : B ≤ W.heap.size ∧ hb < W.heap.size ∧ W.cell? ⟨hb, 0, none⟩ = some (.slice A n cap) ∧ MemRG W B A n M))
  have H3 := Lib.hid (Box3.mk' w a b)
  clear hc hM ha hz hka hkb
  go_enter Try.func48, Try.ntmps48
  refine wp_letter (fun Q hQ => ?_)
  have HQ := Lib.hid hQ
  clear hQ
  go_wp2_with fail
  refine (HTW.out _).mono ?_
  rintro e w1 ⟨rfl, q, rfl⟩
  have H4 := Lib.hid (H3.out.grow (below_drewN (Below.refl _ _) q))
  go_wp2_with fail
  refine HQ.out _ _ _ ?_
  refine bodyPost_ret (v := .tuple #[.agg #[.int .i64 0, .int .i64 (twoR op a.n b.n)], .bool true]) (by simp [results, Try.results48, go_sem]) rfl ⟨rfl, ?_⟩
  exact (H4.out.below.setCell (by first | (simp; done) | (simp; omega)) _).setCell (by first | (simp; done) | (simp; omega)) _

set_option maxRecDepth 100000 in
set_option maxHeartbeats 4000000 in
theorem two_places (hb n cap B : Nat) (op : Int) (a b : V) (A : Option Addr) (M : List MO) (w : World) (hB : B ≤ w.heap.size) (hpb : hb < w.heap.size) (hc : w.cell? ⟨hb, 0, none⟩ = some (.slice A n cap)) (hM : MemRG w B A n M) (hka : a.obj ≠ 0 → a.obj < M.length ∧ 0 ≤ a.n ∧ a.n ≤ 512) (hkb : b.obj ≠ 0 → b.obj < M.length ∧ 0 ≤ b.n ∧ b.n ≤ 512) (h0 : 12 ≤ op) (h1 : op ≤ 30) (ha : a.obj ≠ 0) (hz : b.obj ≠ 0) :
    Calls Try.prog 48 #[.pointer (some ⟨hb, 0, none⟩), .int .i64 op, .agg #[.int .i64 a.obj, .int .i64 a.n], .agg #[.int .i64 b.obj, .int .i64 b.n]] w fun e w' => AnsV (binF twoR M op a b) e ∧ Below w.heap.size w w' := by
  have ha1 : ((a.obj : Int) == 0) = false := by simp; exact ha
  have ha2 : decide ((0 : Int) < (a.obj : Int)) = true := by simp; omega
  have ha3 : decide (0 < a.obj) = true := by simp; omega
  have hz1 : ((b.obj : Int) == 0) = false := by simp; exact hz
  have hz2 : decide ((0 : Int) < (b.obj : Int)) = true := by simp; omega
  have hz3 : decide (0 < b.obj) = true := by simp; omega
  have HUP := Lib.hid (fun W (hbw : Below w.heap.size w W) => (⟨Nat.le_trans hB hbw.size, Nat.lt_of_lt_of_le hpb hbw.size, cell_below hc hbw hpb, hM.below (hbw.mono hB) (Nat.le_refl _)⟩ : B ≤ W.heap.size ∧ hb < W.heap.size ∧ W.cell? ⟨hb, 0, none⟩ = some (.slice A n cap) ∧ MemRG W B A n M))
  have H3 := Lib.hid (Box3.mk' w a b)
  have HCALL := Lib.hid (fun W (hbw : Below w.heap.size w W) => places_any hb n cap B op a b A M W (HUP.out W hbw).1 (HUP.out W hbw).2.1 (HUP.out W hbw).2.2.1 (HUP.out W hbw).2.2.2 ha (hka ha).1 hz (hkb hz).1 h0 h1)
  obtain ⟨sv, hsv⟩ : ∃ s, s = binF twoR M op a b := ⟨_, rfl⟩
  rw [← hsv] at HCALL ⊢
  clear hc hM hsv hka hkb ha hz
  go_enter Try.func48, Try.ntmps48
  refine wp_letter (fun Q hQ => ?_)
  have HQ := Lib.hid hQ
  clear hQ
  go_wp2_with fail
  refine (HCALL.out _ H3.out.below).mono ?_
  rintro e w1 ⟨he, hb1⟩
  have H4 := Lib.hid (H3.out.grow hb1)
  clear hb1
  have r0 := H4.out.r2.cell (j := 0) rfl
  have r1 := H4.out.r2.cell (j := 1) rfl
  have f0 := H4.out.r2.free 0
  have f1 := H4.out.r2.free 1
  cases sv with
  | none =>
    obtain ⟨x, y, rfl⟩ := he
    go_wp2_with fail
    refine HQ.out _ _ _ ?_
    refine bodyPost_ret (v := .tuple #[.agg #[.int .i64 x, .int .i64 y], .bool false]) (by simp [results, Try.results48, go_sem, r0, r1]) rfl ⟨⟨x, y, rfl⟩, ?_⟩
    exact (H4.out.below.setCell (by first | (simp; done) | (simp; omega)) _).setCell (by first | (simp; done) | (simp; omega)) _
  | some v =>
    simp only [AnsV, ansV] at he
    subst he
    go_wp2_with fail
    refine HQ.out _ _ _ ?_
    refine bodyPost_ret (v := .tuple #[.agg #[.int .i64 v.obj, .int .i64 v.n], .bool true]) (by simp [results, Try.results48, go_sem, r0, r1]) rfl ⟨by simp [AnsV, ansV], ?_⟩
    exact (H4.out.below.setCell (by first | (simp; done) | (simp; omega)) _).setCell (by first | (simp; done) | (simp; omega)) _

set_option maxRecDepth 100000 in
set_option maxHeartbeats 4000000 in
theorem two_add_l (hb n cap B : Nat) (op : Int) (a b : V) (A : Option Addr) (M : List MO) (w : World) (hB : B ≤ w.heap.size) (hpb : hb < w.heap.size) (hc : w.cell? ⟨hb, 0, none⟩ = some (.slice A n cap)) (hM : MemRG w B A n M) (hka : a.obj ≠ 0 → a.obj < M.length ∧ 0 ≤ a.n ∧ a.n ≤ 512) (hkb : b.obj ≠ 0 → b.obj < M.length ∧ 0 ≤ b.n ∧ b.n ≤ 512) (h0 : 12 ≤ op) (h1 : op ≤ 30) (ha : a.obj ≠ 0) (hz : b.obj = 0) (h2 : op = 12) :
    Calls Try.prog 48 #[.pointer (some ⟨hb, 0, none⟩), .int .i64 op, .agg #[.int .i64 a.obj, .int .i64 a.n], .agg #[.int .i64 b.obj, .int .i64 b.n]] w fun e w' => AnsV (movedF M a b.n) e ∧ Below w.heap.size w w' := by
  subst h2
  have ha1 : ((a.obj : Int) == 0) = false := by simp; exact ha
  have ha2 : decide ((0 : Int) < (a.obj : Int)) = true := by simp; omega
  have ha3 : decide (0 < a.obj) = true := by simp; omega
  have hz1 : ((b.obj : Int) == 0) = true := by simp [hz]
  have hz2 : decide ((0 : Int) < (b.obj : Int)) = false := by simp [hz]
  have hz3 : decide (0 < b.obj) = false := by simp [hz]
  have HUP := Lib.hid (fun W (hbw : Below w.heap.size w W) => (⟨Nat.le_trans hB hbw.size, Nat.lt_of_lt_of_le hpb hbw.size, cell_below hc hbw hpb, hM.below (hbw.mono hB) (Nat.le_refl _)⟩ : B ≤ W.heap.size ∧ hb < W.heap.size ∧ W.cell? ⟨hb, 0, none⟩ = some (.slice A n cap) ∧ MemRG W B A n M))
  have H3 := Lib.hid (Box3.mk' w a b)
  have HCALL := Lib.hid (fun W (hbw : Below w.heap.size w W) => gmove_any hb n cap B (b.n) a A M W (HUP.out W hbw).1 (HUP.out W hbw).2.1 (HUP.out W hbw).2.2.1 (HUP.out W hbw).2.2.2 ha (hka ha).1 (hka ha).2)
  obtain ⟨sv, hsv⟩ : ∃ s, s = movedF M a b.n := ⟨_, rfl⟩
  rw [← hsv] at HCALL ⊢
  clear hc hM hsv hka hkb ha hz
  go_enter Try.func48, Try.ntmps48
  refine wp_letter (fun Q hQ => ?_)
  have HQ := Lib.hid hQ
  clear hQ
  go_wp2_with fail
  refine (HCALL.out _ H3.out.below).mono ?_
  rintro e w1 ⟨he, hb1⟩
  have H4 := Lib.hid (H3.out.grow hb1)
  clear hb1
  have r0 := H4.out.r2.cell (j := 0) rfl
  have r1 := H4.out.r2.cell (j := 1) rfl
  have f0 := H4.out.r2.free 0
  have f1 := H4.out.r2.free 1
  cases sv with
  | none =>
    obtain ⟨x, y, rfl⟩ := he
    go_wp2_with fail
    refine HQ.out _ _ _ ?_
    refine bodyPost_ret (v := .tuple #[.agg #[.int .i64 x, .int .i64 y], .bool false]) (by simp [results, Try.results48, go_sem, r0, r1]) rfl ⟨⟨x, y, rfl⟩, ?_⟩
    exact (H4.out.below.setCell (by first | (simp; done) | (simp; omega)) _).setCell (by first | (simp; done) | (simp; omega)) _
  | some v =>
    simp only [AnsV, ansV] at he
    subst he
    go_wp2_with fail
    refine HQ.out _ _ _ ?_
    refine bodyPost_ret (v := .tuple #[.agg #[.int .i64 v.obj, .int .i64 v.n], .bool true]) (by simp [results, Try.results48, go_sem, r0, r1]) rfl ⟨by simp [AnsV, ansV], ?_⟩
    exact (H4.out.below.setCell (by first | (simp; done) | (simp; omega)) _).setCell (by first | (simp; done) | (simp; omega)) _

set_option maxRecDepth 100000 in
set_option maxHeartbeats 4000000 in
theorem two_add_r (hb n cap B : Nat) (op : Int) (a b : V) (A : Option Addr) (M : List MO) (w : World) (hB : B ≤ w.heap.size) (hpb : hb < w.heap.size) (hc : w.cell? ⟨hb, 0, none⟩ = some (.slice A n cap)) (hM : MemRG w B A n M) (hka : a.obj ≠ 0 → a.obj < M.length ∧ 0 ≤ a.n ∧ a.n ≤ 512) (hkb : b.obj ≠ 0 → b.obj < M.length ∧ 0 ≤ b.n ∧ b.n ≤ 512) (h0 : 12 ≤ op) (h1 : op ≤ 30) (ha : a.obj = 0) (hz : b.obj ≠ 0) (h2 : op = 12) :
    Calls Try.prog 48 #[.pointer (some ⟨hb, 0, none⟩), .int .i64 op, .agg #[.int .i64 a.obj, .int .i64 a.n], .agg #[.int .i64 b.obj, .int .i64 b.n]] w fun e w' => AnsV (movedF M b a.n) e ∧ Below w.heap.size w w' := by
  subst h2
  have ha1 : ((a.obj : Int) == 0) = true := by simp [ha]
  have ha2 : decide ((0 : Int) < (a.obj : Int)) = false := by simp [ha]
  have ha3 : decide (0 < a.obj) = false := by simp [ha]
  have hz1 : ((b.obj : Int) == 0) = false := by simp; exact hz
  have hz2 : decide ((0 : Int) < (b.obj : Int)) = true := by simp; omega
  have hz3 : decide (0 < b.obj) = true := by simp; omega
  have HUP := Lib.hid (fun W (hbw : Below w.heap.size w W) => (⟨Nat.le_trans hB hbw.size, Nat.lt_of_lt_of_le hpb hbw.size, cell_below hc hbw hpb, hM.below (hbw.mono hB) (Nat.le_refl _)⟩ : B ≤ W.heap.size ∧ hb < W.heap.size ∧ W.cell? ⟨hb, 0, none⟩ = some (.slice A n cap) ∧ MemRG W B A n M))
  have H3 := Lib.hid (Box3.mk' w a b)
  have HCALL := Lib.hid (fun W (hbw : Below w.heap.size w W) => gmove_any hb n cap B (a.n) b A M W (HUP.out W hbw).1 (HUP.out W hbw).2.1 (HUP.out W hbw).2.2.1 (HUP.out W hbw).2.2.2 hz (hkb hz).1 (hkb hz).2)
  obtain ⟨sv, hsv⟩ : ∃ s, s = movedF M b a.n := ⟨_, rfl⟩
  rw [← hsv] at HCALL ⊢
  clear hc hM hsv hka hkb ha hz
  go_enter Try.func48, Try.ntmps48
  refine wp_letter (fun Q hQ => ?_)
  have HQ := Lib.hid hQ
  clear hQ
  go_wp2_with fail
  refine (HCALL.out _ H3.out.below).mono ?_
  rintro e w1 ⟨he, hb1⟩
  have H4 := Lib.hid (H3.out.grow hb1)
  clear hb1
  have r0 := H4.out.r2.cell (j := 0) rfl
  have r1 := H4.out.r2.cell (j := 1) rfl
  have f0 := H4.out.r2.free 0
  have f1 := H4.out.r2.free 1
  cases sv with
  | none =>
    obtain ⟨x, y, rfl⟩ := he
    go_wp2_with fail
    refine HQ.out _ _ _ ?_
    refine bodyPost_ret (v := .tuple #[.agg #[.int .i64 x, .int .i64 y], .bool false]) (by simp [results, Try.results48, go_sem, r0, r1]) rfl ⟨⟨x, y, rfl⟩, ?_⟩
    exact (H4.out.below.setCell (by first | (simp; done) | (simp; omega)) _).setCell (by first | (simp; done) | (simp; omega)) _
  | some v =>
    simp only [AnsV, ansV] at he
    subst he
    go_wp2_with fail
    refine HQ.out _ _ _ ?_
    refine bodyPost_ret (v := .tuple #[.agg #[.int .i64 v.obj, .int .i64 v.n], .bool true]) (by simp [results, Try.results48, go_sem, r0, r1]) rfl ⟨by simp [AnsV, ansV], ?_⟩
    exact (H4.out.below.setCell (by first | (simp; done) | (simp; omega)) _).setCell (by first | (simp; done) | (simp; omega)) _

set_option maxRecDepth 100000 in
set_option maxHeartbeats 4000000 in
theorem two_sub (hb n cap B : Nat) (op : Int) (a b : V) (A : Option Addr) (M : List MO) (w : World) (hB : B ≤ w.heap.size) (hpb : hb < w.heap.size) (hc : w.cell? ⟨hb, 0, none⟩ = some (.slice A n cap)) (hM : MemRG w B A n M) (hka : a.obj ≠ 0 → a.obj < M.length ∧ 0 ≤ a.n ∧ a.n ≤ 512) (hkb : b.obj ≠ 0 → b.obj < M.length ∧ 0 ≤ b.n ∧ b.n ≤ 512) (h0 : 12 ≤ op) (h1 : op ≤ 30) (ha : a.obj ≠ 0) (hz : b.obj = 0) (h2 : op = 13) (hn : b.n ≠ 0) (hw : IntKind.i64.wrap (-b.n) = -b.n) (hw2 : (b.n == -b.n) = false) :
    Calls Try.prog 48 #[.pointer (some ⟨hb, 0, none⟩), .int .i64 op, .agg #[.int .i64 a.obj, .int .i64 a.n], .agg #[.int .i64 b.obj, .int .i64 b.n]] w fun e w' => AnsV (movedF M a (-b.n)) e ∧ Below w.heap.size w w' := by
  subst h2
  have ha1 : ((a.obj : Int) == 0) = false := by simp; exact ha
  have ha2 : decide ((0 : Int) < (a.obj : Int)) = true := by simp; omega
  have ha3 : decide (0 < a.obj) = true := by simp; omega
  have hz1 : ((b.obj : Int) == 0) = true := by simp [hz]
  have hz2 : decide ((0 : Int) < (b.obj : Int)) = false := by simp [hz]
  have hz3 : decide (0 < b.obj) = false := by simp [hz]
  have HUP := Lib.hid (fun W (hbw : Below w.heap.size w W) => (⟨Nat.le_trans hB hbw.size, Nat.lt_of_lt_of_le hpb hbw.size, cell_below hc hbw hpb, hM.below (hbw.mono hB) (Nat.le_refl _)⟩ : B ≤ W.heap.size ∧ hb < W.heap.size ∧ W.cell? ⟨hb, 0, none⟩ = some (.slice A n cap) ∧ MemRG W B A n M))
  have H3 := Lib.hid (Box3.mk' w a b)
  have HCALL := Lib.hid (fun W (hbw : Below w.heap.size w W) => gmove_any hb n cap B (-b.n) a A M W (HUP.out W hbw).1 (HUP.out W hbw).2.1 (HUP.out W hbw).2.2.1 (HUP.out W hbw).2.2.2 ha (hka ha).1 (hka ha).2)
  obtain ⟨sv, hsv⟩ : ∃ s, s = movedF M a (-b.n) := ⟨_, rfl⟩
  rw [← hsv] at HCALL ⊢
  clear hc hM hsv hka hkb ha hz hn
  go_enter Try.func48, Try.ntmps48
  refine wp_letter (fun Q hQ => ?_)
  have HQ := Lib.hid hQ
  clear hQ
  go_wp2_with fail
  refine (HCALL.out _ H3.out.below).mono ?_
  rintro e w1 ⟨he, hb1⟩
  have H4 := Lib.hid (H3.out.grow hb1)
  clear hb1
  have r0 := H4.out.r2.cell (j := 0) rfl
  have r1 := H4.out.r2.cell (j := 1) rfl
  have f0 := H4.out.r2.free 0
  have f1 := H4.out.r2.free 1
  cases sv with
  | none =>
    obtain ⟨x, y, rfl⟩ := he
    go_wp2_with fail
    refine HQ.out _ _ _ ?_
    refine bodyPost_ret (v := .tuple #[.agg #[.int .i64 x, .int .i64 y], .bool false]) (by simp [results, Try.results48, go_sem, r0, r1]) rfl ⟨⟨x, y, rfl⟩, ?_⟩
    exact (H4.out.below.setCell (by first | (simp; done) | (simp; omega)) _).setCell (by first | (simp; done) | (simp; omega)) _
  | some v =>
    simp only [AnsV, ansV] at he
    subst he
    go_wp2_with fail
    refine HQ.out _ _ _ ?_
    refine bodyPost_ret (v := .tuple #[.agg #[.int .i64 v.obj, .int .i64 v.n], .bool true]) (by simp [results, Try.results48, go_sem, r0, r1]) rfl ⟨by simp [AnsV, ansV], ?_⟩
    exact (H4.out.below.setCell (by first | (simp; done) | (simp; omega)) _).setCell (by first | (simp; done) | (simp; omega)) _

set_option maxRecDepth 100000 in
set_option maxHeartbeats 4000000 in
theorem two_sub0 (hb n cap B : Nat) (op : Int) (a b : V) (A : Option Addr) (M : List MO) (w : World) (hB : B ≤ w.heap.size) (hpb : hb < w.heap.size) (hc : w.cell? ⟨hb, 0, none⟩ = some (.slice A n cap)) (hM : MemRG w B A n M) (hka : a.obj ≠ 0 → a.obj < M.length ∧ 0 ≤ a.n ∧ a.n ≤ 512) (hkb : b.obj ≠ 0 → b.obj < M.length ∧ 0 ≤ b.n ∧ b.n ≤ 512) (h0 : 12 ≤ op) (h1 : op ≤ 30) (ha : a.obj ≠ 0) (hz : b.obj = 0) (h2 : op = 13) (hn1 : (b.n != 0) = false) (hw : IntKind.i64.wrap (-b.n) = -b.n) (hw2 : (b.n == -b.n) = true) :
    Calls Try.prog 48 #[.pointer (some ⟨hb, 0, none⟩), .int .i64 op, .agg #[.int .i64 a.obj, .int .i64 a.n], .agg #[.int .i64 b.obj, .int .i64 b.n]] w fun e w' => AnsV (movedF M a (-b.n)) e ∧ Below w.heap.size w w' := by
  subst h2
  have ha1 : ((a.obj : Int) == 0) = false := by simp; exact ha
  have ha2 : decide ((0 : Int) < (a.obj : Int)) = true := by simp; omega
  have ha3 : decide (0 < a.obj) = true := by simp; omega
  have hz1 : ((b.obj : Int) == 0) = true := by simp [hz]
  have hz2 : decide ((0 : Int) < (b.obj : Int)) = false := by simp [hz]
  have hz3 : decide (0 < b.obj) = false := by simp [hz]
  have HUP := Lib.hid (fun W (hbw : Below w.heap.size w W) => (⟨Nat.le_trans hB hbw.size, Nat.lt_of_lt_of_le hpb hbw.size, cell_below hc hbw hpb, hM.below (hbw.mono hB) (Nat.le_refl _)⟩ : B ≤ W.heap.size ∧ hb < W.heap.size ∧ W.cell? ⟨hb, 0, none⟩ = some (.slice A n cap) ∧ MemRG W B A n M))
  have H3 := Lib.hid (Box3.mk' w a b)
  have HCALL := Lib.hid (fun W (hbw : Below w.heap.size w W) => gmove_any hb n cap B (-b.n) a A M W (HUP.out W hbw).1 (HUP.out W hbw).2.1 (HUP.out W hbw).2.2.1 (HUP.out W hbw).2.2.2 ha (hka ha).1 (hka ha).2)
  obtain ⟨sv, hsv⟩ : ∃ s, s = movedF M a (-b.n) := ⟨_, rfl⟩
  rw [← hsv] at HCALL ⊢
  clear hc hM hsv hka hkb ha hz
  go_enter Try.func48, Try.ntmps48
  refine wp_letter (fun Q hQ => ?_)
  have HQ := Lib.hid hQ
  clear hQ
  go_wp2_with fail
  refine (HCALL.out _ H3.out.below).mono ?_
  rintro e w1 ⟨he, hb1⟩
  have H4 := Lib.hid (H3.out.grow hb1)
  clear hb1
  have r0 := H4.out.r2.cell (j := 0) rfl
  have r1 := H4.out.r2.cell (j := 1) rfl
  have f0 := H4.out.r2.free 0
  have f1 := H4.out.r2.free 1
  cases sv with
  | none =>
    obtain ⟨x, y, rfl⟩ := he
    go_wp2_with fail
    refine HQ.out _ _ _ ?_
    refine bodyPost_ret (v := .tuple #[.agg #[.int .i64 x, .int .i64 y], .bool false]) (by simp [results, Try.results48, go_sem, r0, r1]) rfl ⟨⟨x, y, rfl⟩, ?_⟩
    exact (H4.out.below.setCell (by first | (simp; done) | (simp; omega)) _).setCell (by first | (simp; done) | (simp; omega)) _
  | some v =>
    simp only [AnsV, ansV] at he
    subst he
    go_wp2_with fail
    refine HQ.out _ _ _ ?_
    refine bodyPost_ret (v := .tuple #[.agg #[.int .i64 v.obj, .int .i64 v.n], .bool true]) (by simp [results, Try.results48, go_sem, r0, r1]) rfl ⟨by simp [AnsV, ansV], ?_⟩
    exact (H4.out.below.setCell (by first | (simp; done) | (simp; omega)) _).setCell (by first | (simp; done) | (simp; omega)) _

set_option maxRecDepth 100000 in
set_option maxHeartbeats 4000000 in
theorem two_sub_min (hb n cap B : Nat) (op : Int) (a b : V) (A : Option Addr) (M : List MO) (w : World) (hB : B ≤ w.heap.size) (hpb : hb < w.heap.size) (hc : w.cell? ⟨hb, 0, none⟩ = some (.slice A n cap)) (hM : MemRG w B A n M) (hka : a.obj ≠ 0 → a.obj < M.length ∧ 0 ≤ a.n ∧ a.n ≤ 512) (hkb : b.obj ≠ 0 → b.obj < M.length ∧ 0 ≤ b.n ∧ b.n ≤ 512) (h0 : 12 ≤ op) (h1 : op ≤ 30) (ha : a.obj ≠ 0) (hz : b.obj = 0) (h2 : op = 13) (hn : (b.n != 0) = true) (hw : IntKind.i64.wrap (-b.n) = b.n) :
    Calls Try.prog 48 #[.pointer (some ⟨hb, 0, none⟩), .int .i64 op, .agg #[.int .i64 a.obj, .int .i64 a.n], .agg #[.int .i64 b.obj, .int .i64 b.n]] w fun e w' => e = .returned (.tuple #[.agg #[.int .i64 0, .int .i64 (0)], .bool false]) ∧ Below w.heap.size w w' := by
  subst h2
  have ha1 : ((a.obj : Int) == 0) = false := by simp; exact ha
  have ha2 : decide ((0 : Int) < (a.obj : Int)) = true := by simp; omega
  have ha3 : decide (0 < a.obj) = true := by simp; omega
  have hz1 : ((b.obj : Int) == 0) = true := by simp [hz]
  have hz2 : decide ((0 : Int) < (b.obj : Int)) = false := by simp [hz]
  have hz3 : decide (0 < b.obj) = false := by simp [hz]
  have HUP := Lib.hid (fun W (hbw : Below w.heap.size w W) => (⟨Nat.le_trans hB hbw.size, Nat.lt_of_lt_of_le hpb hbw.size, cell_below hc hbw hpb, hM.below (hbw.mono hB) (Nat.le_refl _)⟩ : B ≤ W.heap.size ∧ hb < W.heap.size ∧ W.cell? ⟨hb, 0, none⟩ = some (.slice A n cap) ∧ MemRG W B A n M))
  have H3 := Lib.hid (Box3.mk' w a b)
  clear hc hM hka hkb ha hz
  go_enter Try.func48, Try.ntmps48
  refine wp_letter (fun Q hQ => ?_)
  have HQ := Lib.hid hQ
  clear hQ
  go_wp2_with fail
  refine HQ.out _ _ _ ?_
  refine bodyPost_ret (v := .tuple #[.agg #[.int .i64 0, .int .i64 (0)], .bool false]) (by simp [results, Try.results48, go_sem]) rfl ⟨rfl, ?_⟩
  first | exact below3 _ _ _ _ | exact ((below3 _ _ _ _).setCell (by first | (simp; done) | (simp; omega)) _).setCell (by first | (simp; done) | (simp; omega)) _

set_option maxRecDepth 100000 in
set_option maxHeartbeats 4000000 in
theorem two_eq_l25_yes (hb n cap B : Nat) (op : Int) (a b : V) (A : Option Addr) (M : List MO) (w : World) (hB : B ≤ w.heap.size) (hpb : hb < w.heap.size) (hc : w.cell? ⟨hb, 0, none⟩ = some (.slice A n cap)) (hM : MemRG w B A n M) (hka : a.obj ≠ 0 → a.obj < M.length ∧ 0 ≤ a.n ∧ a.n ≤ 512) (hkb : b.obj ≠ 0 → b.obj < M.length ∧ 0 ≤ b.n ∧ b.n ≤ 512) (h0 : 12 ≤ op) (h1 : op ≤ 30) (ha : a.obj ≠ 0) (hz : b.obj = 0) (h2 : op = 25) (hn : (b.n == 0) = true) :
    Calls Try.prog 48 #[.pointer (some ⟨hb, 0, none⟩), .int .i64 op, .agg #[.int .i64 a.obj, .int .i64 a.n], .agg #[.int .i64 b.obj, .int .i64 b.n]] w fun e w' => e = .returned (.tuple #[.agg #[.int .i64 0, .int .i64 (0)], .bool true]) ∧ Below w.heap.size w w' := by
  subst h2
  have ha1 : ((a.obj : Int) == 0) = false := by simp; exact ha
  have ha2 : decide ((0 : Int) < (a.obj : Int)) = true := by simp; omega
  have ha3 : decide (0 < a.obj) = true := by simp; omega
  have hz1 : ((b.obj : Int) == 0) = true := by simp [hz]
  have hz2 : decide ((0 : Int) < (b.obj : Int)) = false := by simp [hz]
  have hz3 : decide (0 < b.obj) = false := by simp [hz]
  have HUP := Lib.hid (fun W (hbw : Below w.heap.size w W) => (⟨Nat.le_trans hB hbw.size, Nat.lt_of_lt_of_le hpb hbw.size, cell_below hc hbw hpb, hM.below (hbw.mono hB) (Nat.le_refl _)⟩ : B ≤ W.heap.size ∧ hb < W.heap.size ∧ W.cell? ⟨hb, 0, none⟩ = some (.slice A n cap) ∧ MemRG W B A n M))
  have H3 := Lib.hid (Box3.mk' w a b)
  clear hc hM hka hkb ha hz
  go_enter Try.func48, Try.ntmps48
  refine wp_letter (fun Q hQ => ?_)
  have HQ := Lib.hid hQ
  clear hQ
  go_wp2_with fail
  refine HQ.out _ _ _ ?_
  refine bodyPost_ret (v := .tuple #[.agg #[.int .i64 0, .int .i64 (0)], .bool true]) (by simp [results, Try.results48, go_sem]) rfl ⟨rfl, ?_⟩
  first | exact below3 _ _ _ _ | exact ((below3 _ _ _ _).setCell (by first | (simp; done) | (simp; omega)) _).setCell (by first | (simp; done) | (simp; omega)) _

set_option maxRecDepth 100000 in
set_option maxHeartbeats 4000000 in
theorem two_eq_l25_no (hb n cap B : Nat) (op : Int) (a b : V) (A : Option Addr) (M : List MO) (w : World) (hB : B ≤ w.heap.size) (hpb : hb < w.heap.size) (hc : w.cell? ⟨hb, 0, none⟩ = some (.slice A n cap)) (hM : MemRG w B A n M) (hka : a.obj ≠ 0 → a.obj < M.length ∧ 0 ≤ a.n ∧ a.n ≤ 512) (hkb : b.obj ≠ 0 → b.obj < M.length ∧ 0 ≤ b.n ∧ b.n ≤ 512) (h0 : 12 ≤ op) (h1 : op ≤ 30) (ha : a.obj ≠ 0) (hz : b.obj = 0) (h2 : op = 25) (hn : (b.n == 0) = false) :
    Calls Try.prog 48 #[.pointer (some ⟨hb, 0, none⟩), .int .i64 op, .agg #[.int .i64 a.obj, .int .i64 a.n], .agg #[.int .i64 b.obj, .int .i64 b.n]] w fun e w' => e = .returned (.tuple #[.agg #[.int .i64 0, .int .i64 (0)], .bool false]) ∧ Below w.heap.size w w' := by
  subst h2
  have ha1 : ((a.obj : Int) == 0) = false := by simp; exact ha
  have ha2 : decide ((0 : Int) < (a.obj : Int)) = true := by simp; omega
  have ha3 : decide (0 < a.obj) = true := by simp; omega
  have hz1 : ((b.obj : Int) == 0) = true := by simp [hz]
  have hz2 : decide ((0 : Int) < (b.obj : Int)) = false := by simp [hz]
  have hz3 : decide (0 < b.obj) = false := by simp [hz]
  have HUP := Lib.hid (fun W (hbw : Below w.heap.size w W) => (⟨Nat.le_trans hB hbw.size, Nat.lt_of_lt_of_le hpb hbw.size, cell_below hc hbw hpb, hM.below (hbw.mono hB) (Nat.le_refl _)⟩ : B ≤ W.heap.size ∧ hb < W.heap.size ∧ W.cell? ⟨hb, 0, none⟩ = some (.slice A n cap) ∧ MemRG W B A n M))
  have H3 := Lib.hid (Box3.mk' w a b)
  clear hc hM hka hkb ha hz
  go_enter Try.func48, Try.ntmps48
  refine wp_letter (fun Q hQ => ?_)
  have HQ := Lib.hid hQ
  clear hQ
  go_wp2_with fail
  refine HQ.out _ _ _ ?_
  refine bodyPost_ret (v := .tuple #[.agg #[.int .i64 0, .int .i64 (0)], .bool false]) (by simp [results, Try.results48, go_sem]) rfl ⟨rfl, ?_⟩
  first | exact below3 _ _ _ _ | exact ((below3 _ _ _ _).setCell (by first | (simp; done) | (simp; omega)) _).setCell (by first | (simp; done) | (simp; omega)) _

set_option maxRecDepth 100000 in
set_option maxHeartbeats 4000000 in
theorem two_eq_l26_yes (hb n cap B : Nat) (op : Int) (a b : V) (A : Option Addr) (M : List MO) (w : World) (hB : B ≤ w.heap.size) (hpb : hb < w.heap.size) (hc : w.cell? ⟨hb, 0, none⟩ = some (.slice A n cap)) (hM : MemRG w B A n M) (hka : a.obj ≠ 0 → a.obj < M.length ∧ 0 ≤ a.n ∧ a.n ≤ 512) (hkb : b.obj ≠ 0 → b.obj < M.length ∧ 0 ≤ b.n ∧ b.n ≤ 512) (h0 : 12 ≤ op) (h1 : op ≤ 30) (ha : a.obj ≠ 0) (hz : b.obj = 0) (h2 : op = 26) (hn : (b.n == 0) = true) :
    Calls Try.prog 48 #[.pointer (some ⟨hb, 0, none⟩), .int .i64 op, .agg #[.int .i64 a.obj, .int .i64 a.n], .agg #[.int .i64 b.obj, .int .i64 b.n]] w fun e w' => e = .returned (.tuple #[.agg #[.int .i64 0, .int .i64 (1)], .bool true]) ∧ Below w.heap.size w w' := by
  subst h2
  have ha1 : ((a.obj : Int) == 0) = false := by simp; exact ha
  have ha2 : decide ((0 : Int) < (a.obj : Int)) = true := by simp; omega
  have ha3 : decide (0 < a.obj) = true := by simp; omega
  have hz1 : ((b.obj : Int) == 0) = true := by simp [hz]
  have hz2 : decide ((0 : Int) < (b.obj : Int)) = false := by simp [hz]
  have hz3 : decide (0 < b.obj) = false := by simp [hz]
  have HUP := Lib.hid (fun W (hbw : Below w.heap.size w W) => (⟨Nat.le_trans hB hbw.size, Nat.lt_of_lt_of_le hpb hbw.size, cell_below hc hbw hpb, hM.below (hbw.mono hB) (Nat.le_refl _)⟩ : B ≤ W.heap.size ∧ hb < W.heap.size ∧ W.cell? ⟨hb, 0, none⟩ = some (.slice A n cap) ∧ MemRG W B A n M))
  have H3 := Lib.hid (Box3.mk' w a b)
  clear hc hM hka hkb ha hz
  go_enter Try.func48, Try.ntmps48
  refine wp_letter (fun Q hQ => ?_)
  have HQ := Lib.hid hQ
  clear hQ
  go_wp2_with fail
  refine HQ.out _ _ _ ?_
  refine bodyPost_ret (v := .tuple #[.agg #[.int .i64 0, .int .i64 (1)], .bool true]) (by simp [results, Try.results48, go_sem]) rfl ⟨rfl, ?_⟩
  first | exact below3 _ _ _ _ | exact ((below3 _ _ _ _).setCell (by first | (simp; done) | (simp; omega)) _).setCell (by first | (simp; done) | (simp; omega)) _

set_option maxRecDepth 100000 in
set_option maxHeartbeats 4000000 in
theorem two_eq_l26_no (hb n cap B : Nat) (op : Int) (a b : V) (A : Option Addr) (M : List MO) (w : World) (hB : B ≤ w.heap.size) (hpb : hb < w.heap.size) (hc : w.cell? ⟨hb, 0, none⟩ = some (.slice A n cap)) (hM : MemRG w B A n M) (hka : a.obj ≠ 0 → a.obj < M.length ∧ 0 ≤ a.n ∧ a.n ≤ 512) (hkb : b.obj ≠ 0 → b.obj < M.length ∧ 0 ≤ b.n ∧ b.n ≤ 512) (h0 : 12 ≤ op) (h1 : op ≤ 30) (ha : a.obj ≠ 0) (hz : b.obj = 0) (h2 : op = 26) (hn : (b.n == 0) = false) :
    Calls Try.prog 48 #[.pointer (some ⟨hb, 0, none⟩), .int .i64 op, .agg #[.int .i64 a.obj, .int .i64 a.n], .agg #[.int .i64 b.obj, .int .i64 b.n]] w fun e w' => e = .returned (.tuple #[.agg #[.int .i64 0, .int .i64 (1)], .bool false]) ∧ Below w.heap.size w w' := by
  subst h2
  have ha1 : ((a.obj : Int) == 0) = false := by simp; exact ha
  have ha2 : decide ((0 : Int) < (a.obj : Int)) = true := by simp; omega
  have ha3 : decide (0 < a.obj) = true := by simp; omega
  have hz1 : ((b.obj : Int) == 0) = true := by simp [hz]
  have hz2 : decide ((0 : Int) < (b.obj : Int)) = false := by simp [hz]
  have hz3 : decide (0 < b.obj) = false := by simp [hz]
  have HUP := Lib.hid (fun W (hbw : Below w.heap.size w W) => (⟨Nat.le_trans hB hbw.size, Nat.lt_of_lt_of_le hpb hbw.size, cell_below hc hbw hpb, hM.below (hbw.mono hB) (Nat.le_refl _)⟩ : B ≤ W.heap.size ∧ hb < W.heap.size ∧ W.cell? ⟨hb, 0, none⟩ = some (.slice A n cap) ∧ MemRG W B A n M))
  have H3 := Lib.hid (Box3.mk' w a b)
  clear hc hM hka hkb ha hz
  go_enter Try.func48, Try.ntmps48
  refine wp_letter (fun Q hQ => ?_)
  have HQ := Lib.hid hQ
  clear hQ
  go_wp2_with fail
  refine HQ.out _ _ _ ?_
  refine bodyPost_ret (v := .tuple #[.agg #[.int .i64 0, .int .i64 (1)], .bool false]) (by simp [results, Try.results48, go_sem]) rfl ⟨rfl, ?_⟩
  first | exact below3 _ _ _ _ | exact ((below3 _ _ _ _).setCell (by first | (simp; done) | (simp; omega)) _).setCell (by first | (simp; done) | (simp; omega)) _

set_option maxRecDepth 100000 in
set_option maxHeartbeats 4000000 in
theorem two_no_l (hb n cap B : Nat) (op : Int) (a b : V) (A : Option Addr) (M : List MO) (w : World) (hB : B ≤ w.heap.size) (hpb : hb < w.heap.size) (hc : w.cell? ⟨hb, 0, none⟩ = some (.slice A n cap)) (hM : MemRG w B A n M) (hka : a.obj ≠ 0 → a.obj < M.length ∧ 0 ≤ a.n ∧ a.n ≤ 512) (hkb : b.obj ≠ 0 → b.obj < M.length ∧ 0 ≤ b.n ∧ b.n ≤ 512) (h0 : 12 ≤ op) (h1 : op ≤ 30) (ha : a.obj ≠ 0) (hz : b.obj = 0) (h2 : op ≠ 12 ∧ op ≠ 25 ∧ op ≠ 26) (h3 : op ≠ 13) :
    Calls Try.prog 48 #[.pointer (some ⟨hb, 0, none⟩), .int .i64 op, .agg #[.int .i64 a.obj, .int .i64 a.n], .agg #[.int .i64 b.obj, .int .i64 b.n]] w fun e w' => e = .returned (.tuple #[.agg #[.int .i64 0, .int .i64 (0)], .bool false]) ∧ Below w.heap.size w w' := by
  have ha1 : ((a.obj : Int) == 0) = false := by simp; exact ha
  have ha2 : decide ((0 : Int) < (a.obj : Int)) = true := by simp; omega
  have ha3 : decide (0 < a.obj) = true := by simp; omega
  have hz1 : ((b.obj : Int) == 0) = true := by simp [hz]
  have hz2 : decide ((0 : Int) < (b.obj : Int)) = false := by simp [hz]
  have hz3 : decide (0 < b.obj) = false := by simp [hz]
  have e1 : (op == 12) = false := by simp; omega
  have e2 : (op == 25) = false := by simp; omega
  have e3 : (op == 26) = false := by simp; omega
  have e4 : (op == 13) = false := by simp; omega
  have HUP := Lib.hid (fun W (hbw : Below w.heap.size w W) => (⟨Nat.le_trans hB hbw.size, Nat.lt_of_lt_of_le hpb hbw.size, cell_below hc hbw hpb, hM.below (hbw.mono hB) (Nat.le_refl _)⟩ : B ≤ W.heap.size ∧ hb < W.heap.size ∧ W.cell? ⟨hb, 0, none⟩ = some (.slice A n cap) ∧ MemRG W B A n M))
  have H3 := Lib.hid (Box3.mk' w a b)
  clear hc hM hka hkb ha hz h2 h3
  go_enter Try.func48, Try.ntmps48
  refine wp_letter (fun Q hQ => ?_)
  have HQ := Lib.hid hQ
  clear hQ
  go_wp2_with fail
  refine HQ.out _ _ _ ?_
  refine bodyPost_ret (v := .tuple #[.agg #[.int .i64 0, .int .i64 (0)], .bool false]) (by simp [results, Try.results48, go_sem]) rfl ⟨rfl, ?_⟩
  first | exact below3 _ _ _ _ | exact ((below3 _ _ _ _).setCell (by first | (simp; done) | (simp; omega)) _).setCell (by first | (simp; done) | (simp; omega)) _

set_option maxRecDepth 100000 in
set_option maxHeartbeats 4000000 in
theorem two_eq_r25_yes (hb n cap B : Nat) (op : Int) (a b : V) (A : Option Addr) (M : List MO) (w : World) (hB : B ≤ w.heap.size) (hpb : hb < w.heap.size) (hc : w.cell? ⟨hb, 0, none⟩ = some (.slice A n cap)) (hM : MemRG w B A n M) (hka : a.obj ≠ 0 → a.obj < M.length ∧ 0 ≤ a.n ∧ a.n ≤ 512) (hkb : b.obj ≠ 0 → b.obj < M.length ∧ 0 ≤ b.n ∧ b.n ≤ 512) (h0 : 12 ≤ op) (h1 : op ≤ 30) (ha : a.obj = 0) (hz : b.obj ≠ 0) (h2 : op = 25) (hn : (a.n == 0) = true) :
    Calls Try.prog 48 #[.pointer (some ⟨hb, 0, none⟩), .int .i64 op, .agg #[.int .i64 a.obj, .int .i64 a.n], .agg #[.int .i64 b.obj, .int .i64 b.n]] w fun e w' => e = .returned (.tuple #[.agg #[.int .i64 0, .int .i64 (0)], .bool true]) ∧ Below w.heap.size w w' := by
  subst h2
  have ha1 : ((a.obj : Int) == 0) = true := by simp [ha]
  have ha2 : decide ((0 : Int) < (a.obj : Int)) = false := by simp [ha]
  have ha3 : decide (0 < a.obj) = false := by simp [ha]
  have hz1 : ((b.obj : Int) == 0) = false := by simp; exact hz
  have hz2 : decide ((0 : Int) < (b.obj : Int)) = true := by simp; omega
  have hz3 : decide (0 < b.obj) = true := by simp; omega
  have HUP := Lib.hid (fun W (hbw : Below w.heap.size w W) => (⟨Nat.le_trans hB hbw.size, Nat.lt_of_lt_of_le hpb hbw.size, cell_below hc hbw hpb, hM.below (hbw.mono hB) (Nat.le_refl _)⟩ : B ≤ W.heap.size ∧ hb < W.heap.size ∧ W.cell? ⟨hb, 0, none⟩ = some (.slice A n cap) ∧ MemRG W B A n M))
  have H3 := Lib.hid (Box3.mk' w a b)
  clear hc hM hka hkb ha hz
  go_enter Try.func48, Try.ntmps48
  refine wp_letter (fun Q hQ => ?_)
  have HQ := Lib.hid hQ
  clear hQ
  go_wp2_with fail
  refine HQ.out _ _ _ ?_
  refine bodyPost_ret (v := .tuple #[.agg #[.int .i64 0, .int .i64 (0)], .bool true]) (by simp [results, Try.results48, go_sem]) rfl ⟨rfl, ?_⟩
  first | exact below3 _ _ _ _ | exact ((below3 _ _ _ _).setCell (by first | (simp; done) | (simp; omega)) _).setCell (by first | (simp; done) | (simp; omega)) _

set_option maxRecDepth 100000 in
set_option maxHeartbeats 4000000 in
theorem two_eq_r25_no (hb n cap B : Nat) (op : Int) (a b : V) (A : Option Addr) (M : List MO) (w : World) (hB : B ≤ w.heap.size) (hpb : hb < w.heap.size) (hc : w.cell? ⟨hb, 0, none⟩ = some (.slice A n cap)) (hM : MemRG w B A n M) (hka : a.obj ≠ 0 → a.obj < M.length ∧ 0 ≤ a.n ∧ a.n ≤ 512) (hkb : b.obj ≠ 0 → b.obj < M.length ∧ 0 ≤ b.n ∧ b.n ≤ 512) (h0 : 12 ≤ op) (h1 : op ≤ 30) (ha : a.obj = 0) (hz : b.obj ≠ 0) (h2 : op = 25) (hn : (a.n == 0) = false) :
    Calls Try.prog 48 #[.pointer (some ⟨hb, 0, none⟩), .int .i64 op, .agg #[.int .i64 a.obj, .int .i64 a.n], .agg #[.int .i64 b.obj, .int .i64 b.n]] w fun e w' => e = .returned (.tuple #[.agg #[.int .i64 0, .int .i64 (0)], .bool false]) ∧ Below w.heap.size w w' := by
  subst h2
  have ha1 : ((a.obj : Int) == 0) = true := by simp [ha]
  have ha2 : decide ((0 : Int) < (a.obj : Int)) = false := by simp [ha]
  have ha3 : decide (0 < a.obj) = false := by simp [ha]
  have hz1 : ((b.obj : Int) == 0) = false := by simp; exact hz
  have hz2 : decide ((0 : Int) < (b.obj : Int)) = true := by simp; omega
  have hz3 : decide (0 < b.obj) = true := by simp; omega
  have HUP := Lib.hid (fun W (hbw : Below w.heap.size w W) => (⟨Nat.le_trans hB hbw.size, Nat.lt_of_lt_of_le hpb hbw.size, cell_below hc hbw hpb, hM.below (hbw.mono hB) (Nat.le_refl _)⟩ : B ≤ W.heap.size ∧ hb < W.heap.size ∧ W.cell? ⟨hb, 0, none⟩ = some (.slice A n cap) ∧ MemRG W B A n M))
  have H3 := Lib.hid (Box3.mk' w a b)
  clear hc hM hka hkb ha hz
  go_enter Try.func48, Try.ntmps48
  refine wp_letter (fun Q hQ => ?_)
  have HQ := Lib.hid hQ
  clear hQ
  go_wp2_with fail
  refine HQ.out _ _ _ ?_
  refine bodyPost_ret (v := .tuple #[.agg #[.int .i64 0, .int .i64 (0)], .bool false]) (by simp [results, Try.results48, go_sem]) rfl ⟨rfl, ?_⟩
  first | exact below3 _ _ _ _ | exact ((below3 _ _ _ _).setCell (by first | (simp; done) | (simp; omega)) _).setCell (by first | (simp; done) | (simp; omega)) _

set_option maxRecDepth 100000 in
set_option maxHeartbeats 4000000 in
theorem two_eq_r26_yes (hb n cap B : Nat) (op : Int) (a b : V) (A : Option Addr) (M : List MO) (w : World) (hB : B ≤ w.heap.size) (hpb : hb < w.heap.size) (hc : w.cell? ⟨hb, 0, none⟩ = some (.slice A n cap)) (hM : MemRG w B A n M) (hka : a.obj ≠ 0 → a.obj < M.length ∧ 0 ≤ a.n ∧ a.n ≤ 512) (hkb : b.obj ≠ 0 → b.obj < M.length ∧ 0 ≤ b.n ∧ b.n ≤ 512) (h0 : 12 ≤ op) (h1 : op ≤ 30) (ha : a.obj = 0) (hz : b.obj ≠ 0) (h2 : op = 26) (hn : (a.n == 0) = true) :
    Calls Try.prog 48 #[.pointer (some ⟨hb, 0, none⟩), .int .i64 op, .agg #[.int .i64 a.obj, .int .i64 a.n], .agg #[.int .i64 b.obj, .int .i64 b.n]] w fun e w' => e = .returned (.tuple #[.agg #[.int .i64 0, .int .i64 (1)], .bool true]) ∧ Below w.heap.size w w' := by
  subst h2
  have ha1 : ((a.obj : Int) == 0) = true := by simp [ha]
  have ha2 : decide ((0 : Int) < (a.obj : Int)) = false := by simp [ha]
  have ha3 : decide (0 < a.obj) = false := by simp [ha]
  have hz1 : ((b.obj : Int) == 0) = false := by simp; exact hz
  have hz2 : decide ((0 : Int) < (b.obj : Int)) = true := by simp; omega
  have hz3 : decide (0 < b.obj) = true := by simp; omega
  have HUP := Lib.hid (fun W (hbw : Below w.heap.size w W) => (⟨Nat.le_trans hB hbw.size, Nat.lt_of_lt_of_le hpb hbw.size, cell_below hc hbw hpb, hM.below (hbw.mono hB) (Nat.le_refl _)⟩ : B ≤ W.heap.size ∧ hb < W.heap.size ∧ W.cell? ⟨hb, 0, none⟩ = some (.slice A n cap) ∧ MemRG W B A n M))
  have H3 := Lib.hid (Box3.mk' w a b)
  clear hc hM hka hkb ha hz
  go_enter Try.func48, Try.ntmps48
  refine wp_letter (fun Q hQ => ?_)
  have HQ := Lib.hid hQ
  clear hQ
  go_wp2_with fail
  refine HQ.out _ _ _ ?_
  refine bodyPost_ret (v := .tuple #[.agg #[.int .i64 0, .int .i64 (1)], .bool true]) (by simp [results, Try.results48, go_sem]) rfl ⟨rfl, ?_⟩
  first | exact below3 _ _ _ _ | exact ((below3 _ _ _ _).setCell (by first | (simp; done) | (simp; omega)) _).setCell (by first | (simp; done) | (simp; omega)) _

set_option maxRecDepth 100000 in
set_option maxHeartbeats 4000000 in
theorem two_eq_r26_no (hb n cap B : Nat) (op : Int) (a b : V) (A : Option Addr) (M : List MO) (w : World) (hB : B ≤ w.heap.size) (hpb : hb < w.heap.size) (hc : w.cell? ⟨hb, 0, none⟩ = some (.slice A n cap)) (hM : MemRG w B A n M) (hka : a.obj ≠ 0 → a.obj < M.length ∧ 0 ≤ a.n ∧ a.n ≤ 512) (hkb : b.obj ≠ 0 → b.obj < M.length ∧ 0 ≤ b.n ∧ b.n ≤ 512) (h0 : 12 ≤ op) (h1 : op ≤ 30) (ha : a.obj = 0) (hz : b.obj ≠ 0) (h2 : op = 26) (hn : (a.n == 0) = false) :
    Calls Try.prog 48 #[.pointer (some ⟨hb, 0, none⟩), .int .i64 op, .agg #[.int .i64 a.obj, .int .i64 a.n], .agg #[.int .i64 b.obj, .int .i64 b.n]] w fun e w' => e = .returned (.tuple #[.agg #[.int .i64 0, .int .i64 (1)], .bool false]) ∧ Below w.heap.size w w' := by
  subst h2
  have ha1 : ((a.obj : Int) == 0) = true := by simp [ha]
  have ha2 : decide ((0 : Int) < (a.obj : Int)) = false := by simp [ha]
  have ha3 : decide (0 < a.obj) = false := by simp [ha]
  have hz1 : ((b.obj : Int) == 0) = false := by simp; exact hz
  have hz2 : decide ((0 : Int) < (b.obj : Int)) = true := by simp; omega
  have hz3 : decide (0 < b.obj) = true := by simp; omega
  have HUP := Lib.hid (fun W (hbw : Below w.heap.size w W) => (⟨Nat.le_trans hB hbw.size, Nat.lt_of_lt_of_le hpb hbw.size, cell_below hc hbw hpb, hM.below (hbw.mono hB) (Nat.le_refl _)⟩ : B ≤ W.heap.size ∧ hb < W.heap.size ∧ W.cell? ⟨hb, 0, none⟩ = some (.slice A n cap) ∧ MemRG W B A n M))
  have H3 := Lib.hid (Box3.mk' w a b)
  clear hc hM hka hkb ha hz
  go_enter Try.func48, Try.ntmps48
  refine wp_letter (fun Q hQ => ?_)
  have HQ := Lib.hid hQ
  clear hQ
  go_wp2_with fail
  refine HQ.out _ _ _ ?_
  refine bodyPost_ret (v := .tuple #[.agg #[.int .i64 0, .int .i64 (1)], .bool false]) (by simp [results, Try.results48, go_sem]) rfl ⟨rfl, ?_⟩
  first | exact below3 _ _ _ _ | exact ((below3 _ _ _ _).setCell (by first | (simp; done) | (simp; omega)) _).setCell (by first | (simp; done) | (simp; omega)) _

set_option maxRecDepth 100000 in
set_option maxHeartbeats 4000000 in
theorem two_no_r (hb n cap B : Nat) (op : Int) (a b : V) (A : Option Addr) (M : List MO) (w : World) (hB : B ≤ w.heap.size) (hpb : hb < w.heap.size) (hc : w.cell? ⟨hb, 0, none⟩ = some (.slice A n cap)) (hM : MemRG w B A n M) (hka : a.obj ≠ 0 → a.obj < M.length ∧ 0 ≤ a.n ∧ a.n ≤ 512) (hkb : b.obj ≠ 0 → b.obj < M.length ∧ 0 ≤ b.n ∧ b.n ≤ 512) (h0 : 12 ≤ op) (h1 : op ≤ 30) (ha : a.obj = 0) (hz : b.obj ≠ 0) (h2 : op ≠ 12 ∧ op ≠ 25 ∧ op ≠ 26) (h3 : op ≠ 13) :
    Calls Try.prog 48 #[.pointer (some ⟨hb, 0, none⟩), .int .i64 op, .agg #[.int .i64 a.obj, .int .i64 a.n], .agg #[.int .i64 b.obj, .int .i64 b.n]] w fun e w' => e = .returned (.tuple #[.agg #[.int .i64 0, .int .i64 (0)], .bool false]) ∧ Below w.heap.size w w' := by
  have ha1 : ((a.obj : Int) == 0) = true := by simp [ha]
  have ha2 : decide ((0 : Int) < (a.obj : Int)) = false := by simp [ha]
  have ha3 : decide (0 < a.obj) = false := by simp [ha]
  have hz1 : ((b.obj : Int) == 0) = false := by simp; exact hz
  have hz2 : decide ((0 : Int) < (b.obj : Int)) = true := by simp; omega
  have hz3 : decide (0 < b.obj) = true := by simp; omega
  have e1 : (op == 12) = false := by simp; omega
  have e2 : (op == 25) = false := by simp; omega
  have e3 : (op == 26) = false := by simp; omega
  have e4 : (op == 13) = false := by simp; omega
  have HUP := Lib.hid (fun W (hbw : Below w.heap.size w W) => (⟨Nat.le_trans hB hbw.size, Nat.lt_of_lt_of_le hpb hbw.size, cell_below hc hbw hpb, hM.below (hbw.mono hB) (Nat.le_refl _)⟩ : B ≤ W.heap.size ∧ hb < W.heap.size ∧ W.cell? ⟨hb, 0, none⟩ = some (.slice A n cap) ∧ MemRG W B A n M))
  have H3 := Lib.hid (Box3.mk' w a b)
  clear hc hM hka hkb ha hz h2 h3
  go_enter Try.func48, Try.ntmps48
  refine wp_letter (fun Q hQ => ?_)
  have HQ := Lib.hid hQ
  clear hQ
  go_wp2_with fail
  refine HQ.out _ _ _ ?_
  refine bodyPost_ret (v := .tuple #[.agg #[.int .i64 0, .int .i64 (0)], .bool false]) (by simp [results, Try.results48, go_sem]) rfl ⟨rfl, ?_⟩
  first | exact below3 _ _ _ _ | exact ((below3 _ _ _ _).setCell (by first | (simp; done) | (simp; omega)) _).setCell (by first | (simp; done) | (simp; omega)) _

set_option maxRecDepth 100000 in
set_option maxHeartbeats 4000000 in
theorem two_no_r13 (hb n cap B : Nat) (op : Int) (a b : V) (A : Option Addr) (M : List MO) (w : World) (hB : B ≤ w.heap.size) (hpb : hb < w.heap.size) (hc : w.cell? ⟨hb, 0, none⟩ = some (.slice A n cap)) (hM : MemRG w B A n M) (hka : a.obj ≠ 0 → a.obj < M.length ∧ 0 ≤ a.n ∧ a.n ≤ 512) (hkb : b.obj ≠ 0 → b.obj < M.length ∧ 0 ≤ b.n ∧ b.n ≤ 512) (h0 : 12 ≤ op) (h1 : op ≤ 30) (ha : a.obj = 0) (hz : b.obj ≠ 0) (h2 : op = 13) :
    Calls Try.prog 48 #[.pointer (some ⟨hb, 0, none⟩), .int .i64 op, .agg #[.int .i64 a.obj, .int .i64 a.n], .agg #[.int .i64 b.obj, .int .i64 b.n]] w fun e w' => e = .returned (.tuple #[.agg #[.int .i64 0, .int .i64 (0)], .bool false]) ∧ Below w.heap.size w w' := by
  subst h2
  have ha1 : ((a.obj : Int) == 0) = true := by simp [ha]
  have ha2 : decide ((0 : Int) < (a.obj : Int)) = false := by simp [ha]
  have ha3 : decide (0 < a.obj) = false := by simp [ha]
  have hz1 : ((b.obj : Int) == 0) = false := by simp; exact hz
  have hz2 : decide ((0 : Int) < (b.obj : Int)) = true := by simp; omega
  have hz3 : decide (0 < b.obj) = true := by simp; omega
  have HUP := Lib.hid (fun W (hbw : Below w.heap.size w W) => (⟨Nat.le_trans hB hbw.size, Nat.lt_of_lt_of_le hpb hbw.size, cell_below hc hbw hpb, hM.below (hbw.mono hB) (Nat.le_refl _)⟩ : B ≤ W.heap.size ∧ hb < W.heap.size ∧ W.cell? ⟨hb, 0, none⟩ = some (.slice A n cap) ∧ MemRG W B A n M))
  have H3 := Lib.hid (Box3.mk' w a b)
  clear hc hM hka hkb ha hz
  go_enter Try.func48, Try.ntmps48
  refine wp_letter (fun Q hQ => ?_)
  have HQ := Lib.hid hQ
  clear hQ
  go_wp2_with fail
  refine HQ.out _ _ _ ?_
  refine bodyPost_ret (v := .tuple #[.agg #[.int .i64 0, .int .i64 (0)], .bool false]) (by simp [results, Try.results48, go_sem]) rfl ⟨rfl, ?_⟩
  first | exact below3 _ _ _ _ | exact ((below3 _ _ _ _).setCell (by first | (simp; done) | (simp; omega)) _).setCell (by first | (simp; done) | (simp; omega)) _
end Go.Proofs.Ytinmgbodgecoeaa
