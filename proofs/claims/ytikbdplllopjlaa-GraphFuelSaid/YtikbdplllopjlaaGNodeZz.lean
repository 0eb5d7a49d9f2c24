/- A tree's value in the graph's machine: nodes. Conditions: as stated. -/
import Derived.Test.YtikbdplllopjlaaGLeafZz
set_option linter.unusedVariables false
set_option linter.unusedSimpArgs false
namespace Go.Proofs.Ytikbdplllopjlaa
open Go.RowKit

theorem tload_any (op : Int) (w : World) :
    Calls Try.prog 42 #[.int .i64 op] w fun e w' => e = .returned (.bool (decide (5 ≤ op ∧ op ≤ 11))) ∧ w = w' := by
  go_enter Try.func42, Try.ntmps42
  go_wp2
  all_goals go_ret
  · exact ⟨ret_b (by simp [*]), rfl⟩
  · exact ⟨ret_b (by simp; omega), rfl⟩
theorem unary_any (op : Int) (w : World) :
    Calls Try.prog 44 #[.int .i64 op] w fun e w' => e = .returned (.bool (decide (31 ≤ op ∧ op ≤ 36))) ∧ w = w' := by
  go_enter Try.func44, Try.ntmps44
  go_wp2
  all_goals go_ret
  · exact ⟨ret_b (by simp [*]), rfl⟩
  · exact ⟨ret_b (by simp; omega), rfl⟩

/-- What lies in a node's boxes. -/
structure NBox (w W : World) (op x : Int) (A : Option Addr) (n c : Nat) : Prop where
  r0 : Row W w.heap.size #[.int .i64 op, .int .i64 x, .slice A n c] 62
  r1 : Row W (w.heap.size + 1) #[.int .i64 0, .int .i64 0] 55
  below : Below w.heap.size w W
theorem NBox.mk' (w : World) (op x : Int) (A : Option Addr) (n c : Nat) : NBox w ((w.alloc (.cells #[.int .i64 op, .int .i64 x, .slice A n c] 62)).alloc (.cells #[.int .i64 0, .int .i64 0] 55)) op x A n c :=
  ⟨(Row.new _ _ _).alloc _, Row.new' _ _ (by simp), below2 _ _ _⟩
theorem NBox.grow {w W W' : World} {op x : Int} {A : Option Addr} {n c : Nat} (h : NBox w W op x A n c) (hb : Below W.heap.size W W') : NBox w W' op x A n c :=
  ⟨h.r0.below hb h.r0.lt, h.r1.below hb h.r1.lt, h.below.trans (hb.mono h.below.size)⟩

set_option maxRecDepth 100000 in
set_option maxHeartbeats 4000000 in
theorem node_none (rb fb kb ko n c : Nat) (op x : Int) (a0 a1 : Int) (A1 : Option Addr) (n1 c1 : Nat) (w : World) (h5 : 5 ≤ op) (hk : kb < w.heap.size) (hn : 1 ≤ n) (hn2 : n ≤ 9223372036854775807)
    (g0 : w.cell? ⟨kb, ko, none⟩ = some (.int .i64 a0)) (g1 : w.cell? ⟨kb, ko + 1, none⟩ = some (.int .i64 a1)) (g2 : w.cell? ⟨kb, ko + 2, none⟩ = some (.slice A1 n1 c1))
    (hkid : ∀ W, Below w.heap.size w W → Calls Try.prog 34 #[.pointer (some ⟨rb, 0, none⟩), .pointer (some ⟨fb, 0, none⟩), .agg #[.int .i64 a0, .int .i64 a1, .slice A1 n1 c1]] W fun e w' => AnsV none e ∧ Below W.heap.size W w') :
    Calls Try.prog 34 #[.pointer (some ⟨rb, 0, none⟩), .pointer (some ⟨fb, 0, none⟩), .agg #[.int .i64 op, .int .i64 x, .slice (some ⟨kb, ko, none⟩) n c]] w fun e w' => AnsV none e ∧ Below w.heap.size w w' := by
  have HK := Lib.hid hkid
  have H3 := Lib.hid (NBox.mk' w op x (some ⟨kb, ko, none⟩) n c)
  have e1 : (op == 1) = false := by simp; omega
  have e2 : (op == 2) = false := by simp; omega
  have e3 : (op == 3) = false := by simp; omega
  have e4 : (op == 4) = false := by simp; omega
  have hz1 : kb < w.heap.size + 1 := by omega
  have hn3 : (0 : Int) < (n : Int) := by omega
  clear hkid
  go_enter Try.func34, Try.ntmps34
  refine wp_letter (fun Q hQ => ?_)
  have HQ := Lib.hid hQ
  clear hQ
  go_wp2_with fail
  refine (HK.out _ H3.out.below).mono ?_
  rintro e w1 ⟨⟨y0, y1, rfl⟩, hb1⟩
  have H4 := Lib.hid (H3.out.grow hb1)
  have r0 := H4.out.r1.cell (j := 0) rfl
  have r1 := H4.out.r1.cell (j := 1) rfl
  have f0 := H4.out.r1.free 0
  have f1 := H4.out.r1.free 1
  have hlt := H4.out.r1.lt
  clear hb1 g0 g1 g2
  go_wp2_with fail
  refine HQ.out _ _ _ ?_
  refine bodyPost_ret (v := .tuple #[.agg #[.int .i64 y0, .int .i64 y1], .bool false]) (by simp [results, Try.results34, go_sem, r0, r1, hlt]) rfl ⟨⟨y0, y1, rfl⟩, ?_⟩
  exact ((H4.out.below.setCell (by first | (simp; done) | (simp; omega)) _).setCell (by first | (simp; done) | (simp; omega)) _).alloc (by have := H4.out.below.size; first | (simp; done) | (simp; omega)) _

set_option maxRecDepth 100000 in
set_option maxHeartbeats 4000000 in
theorem node_load (rb fb hb kb ko n c : Nat) (op x : Int) (a0 a1 : Int) (A1 : Option Addr) (n1 c1 : Nat) (v : V) (sv : Option V) (w : World) (h5 : 5 ≤ op) (h11 : op ≤ 11) (hk : kb < w.heap.size) (hn : 1 ≤ n) (hn2 : n ≤ 9223372036854775807)
    (g0 : w.cell? ⟨kb, ko, none⟩ = some (.int .i64 a0)) (g1 : w.cell? ⟨kb, ko + 1, none⟩ = some (.int .i64 a1)) (g2 : w.cell? ⟨kb, ko + 2, none⟩ = some (.slice A1 n1 c1)) (hrb : rb < w.heap.size) (hh : w.cell? ⟨rb, 4, none⟩ = some (.pointer (some ⟨hb, 0, none⟩)))
    (hkid : ∀ W, Below w.heap.size w W → Calls Try.prog 34 #[.pointer (some ⟨rb, 0, none⟩), .pointer (some ⟨fb, 0, none⟩), .agg #[.int .i64 a0, .int .i64 a1, .slice A1 n1 c1]] W fun e w' => AnsV (some v) e ∧ Below W.heap.size W w')
    (hop : ∀ W, Below w.heap.size w W → Calls Try.prog 43 #[.pointer (some ⟨hb, 0, none⟩), .int .i64 op, .agg #[.int .i64 v.obj, .int .i64 v.n]] W fun e w' => AnsV sv e ∧ Below W.heap.size W w') :
    Calls Try.prog 34 #[.pointer (some ⟨rb, 0, none⟩), .pointer (some ⟨fb, 0, none⟩), .agg #[.int .i64 op, .int .i64 x, .slice (some ⟨kb, ko, none⟩) n c]] w fun e w' => AnsV sv e ∧ Below w.heap.size w w' := by
  have HK := Lib.hid hkid
  have HOP := Lib.hid hop
  have HH := Lib.hid hh
  have H3 := Lib.hid (NBox.mk' w op x (some ⟨kb, ko, none⟩) n c)
  have e1 : (op == 1) = false := by simp; omega
  have e2 : (op == 2) = false := by simp; omega
  have e3 : (op == 3) = false := by simp; omega
  have e4 : (op == 4) = false := by simp; omega
  have hz1 : kb < w.heap.size + 1 := by omega
  have hn3 : (0 : Int) < (n : Int) := by omega
  have hdl : decide (5 ≤ op ∧ op ≤ 11) = true := by simp; omega
  clear hkid hop hh
  go_enter Try.func34, Try.ntmps34
  refine wp_letter (fun Q hQ => ?_)
  have HQ := Lib.hid hQ
  clear hQ
  go_wp2_with fail
  refine (HK.out _ H3.out.below).mono ?_
  rintro e w1 ⟨he, hb1⟩
  simp only [AnsV, ansV] at he
  subst he
  have H4 := Lib.hid ((H3.out.grow hb1).grow (below1 w1 (.cells #[.int .i64 v.obj, .int .i64 v.n] 55)))
  have HR8 := Lib.hid (Row.new w1 #[.int .i64 v.obj, .int .i64 v.n] 55)
  have t0 := (H3.out.grow hb1).r0.cell (j := 0) rfl
  have hlt0 := (H3.out.grow hb1).r0.lt
  have hlt1 := (H3.out.grow hb1).r1.lt
  clear hb1 g0 g1 g2
  go_wp2_with fail
  refine (tload_any _ _).mono ?_
  rintro e w' ⟨rfl, rfl⟩
  rw [hdl]
  go_wp2_with fail
  have hx : ∀ e, AnsV sv e → ∃ (y0 y1 : Int) (q : Bool), e = .returned (.tuple #[.agg #[.int .i64 y0, .int .i64 y1], .bool q]) ∧ AnsV sv (.returned (.tuple #[.agg #[.int .i64 y0, .int .i64 y1], .bool q])) := by
    intro e he
    cases sv with
    | none => obtain ⟨y0, y1, rfl⟩ := he; exact ⟨y0, y1, false, rfl, ⟨y0, y1, rfl⟩⟩
    | some u => simp only [AnsV, ansV] at he; exact ⟨u.obj, u.n, true, he, by simp [AnsV, ansV]⟩
  have HX := Lib.hid hx
  clear hx
  have hp0 : w.heap.size + 1 < (w1.alloc (.cells #[.int .i64 v.obj, .int .i64 v.n] 55)).heap.size := H4.out.r1.lt
  have hrb5 : rb < (w1.alloc (.cells #[.int .i64 v.obj, .int .i64 v.n] 55)).heap.size := by have := H4.out.below.size; omega
  have hw15 : w1.heap.size < (w1.alloc (.cells #[.int .i64 v.obj, .int .i64 v.n] 55)).heap.size := by simp
  have hw05 : w.heap.size < (w1.alloc (.cells #[.int .i64 v.obj, .int .i64 v.n] 55)).heap.size := H4.out.r0.lt
  have HH5 := Lib.hid (cell_below HH.out H4.out.below hrb)
  have KS := Lib.hid (fun (W : World) (hbw : Below (w1.alloc (.cells #[.int .i64 v.obj, .int .i64 v.n] 55)).heap.size (w1.alloc (.cells #[.int .i64 v.obj, .int .i64 v.n] 55)) W) => (⟨cell_below HH5.out hbw hrb5, cell_below (H4.out.r0.cell (j := 0) rfl) hbw hw05, cell_below (HR8.out.cell (j := 0) rfl) hbw hw15, cell_below (HR8.out.cell (j := 1) rfl) hbw hw15⟩ : W.cell? ⟨rb, 4, none⟩ = some (.pointer (some ⟨hb, 0, none⟩)) ∧ W.cell? ⟨w.heap.size, 0, none⟩ = some (.int .i64 op) ∧ W.cell? ⟨w1.heap.size, 0, none⟩ = some (.int .i64 v.obj) ∧ W.cell? ⟨w1.heap.size, 1, none⟩ = some (.int .i64 v.n)))
  have KS2 := Lib.hid (fun (W : World) (y0 y1 : Value) (hbw : Below (w1.alloc (.cells #[.int .i64 v.obj, .int .i64 v.n] 55)).heap.size (w1.alloc (.cells #[.int .i64 v.obj, .int .i64 v.n] 55)) W) => (by
    obtain ⟨k1, k2, k3, k4⟩ := KS.out W hbw
    have hsz := hbw.size
    have hset : ∀ b j, b < W.heap.size → b ≠ w.heap.size + 1 → ((W.setCell ⟨w.heap.size + 1, 0, none⟩ y0).setCell ⟨w.heap.size + 1, 1, none⟩ y1).cell? ⟨b, j, none⟩ = W.cell? ⟨b, j, none⟩ := fun b j hlt hbj => World.cell?_of_block (a := ⟨b, j, none⟩) ((wr_pair W (w.heap.size + 1) 0 1 y0 y1).block b hlt hbj)
    exact ⟨(hset _ _ (by omega) (by omega)).trans k1, (hset _ _ (by omega) (by omega)).trans k2, (hset _ _ (by omega) (by omega)).trans k3, (hset _ _ (by omega) (by omega)).trans k4⟩ : ((W.setCell ⟨w.heap.size + 1, 0, none⟩ y0).setCell ⟨w.heap.size + 1, 1, none⟩ y1).cell? ⟨rb, 4, none⟩ = some (.pointer (some ⟨hb, 0, none⟩)) ∧ ((W.setCell ⟨w.heap.size + 1, 0, none⟩ y0).setCell ⟨w.heap.size + 1, 1, none⟩ y1).cell? ⟨w.heap.size, 0, none⟩ = some (.int .i64 op) ∧ ((W.setCell ⟨w.heap.size + 1, 0, none⟩ y0).setCell ⟨w.heap.size + 1, 1, none⟩ y1).cell? ⟨w1.heap.size, 0, none⟩ = some (.int .i64 v.obj) ∧ ((W.setCell ⟨w.heap.size + 1, 0, none⟩ y0).setCell ⟨w.heap.size + 1, 1, none⟩ y1).cell? ⟨w1.heap.size, 1, none⟩ = some (.int .i64 v.n)))
  go_region_held3 (fun w' => w'.cell? ⟨rb, 4, none⟩ = some (.pointer (some ⟨hb, 0, none⟩)) ∧ w'.cell? ⟨w.heap.size, 0, none⟩ = some (.int .i64 op) ∧ w'.cell? ⟨w1.heap.size, 0, none⟩ = some (.int .i64 v.obj) ∧ w'.cell? ⟨w1.heap.size, 1, none⟩ = some (.int .i64 v.n)) (first | exact KS.out _ (Below.refl _ _).drew | exact KS.out _ ((Below.refl _ _).drew.trans hb2) | exact KS2.out _ _ _ ((Below.refl _ _).drew.trans hb2) | go_keep) ((go_at_call 43; refine (HOP.out _ H4.out.below.drew).mono ?_; rintro e w2 ⟨he, hb2⟩; obtain ⟨y0, y1, q, rfl, hans⟩ := HX.out _ he; have HANS := Lib.hid hans; have hr6 := H4.out.r1.below ((Below.refl _ _).drew.trans hb2) H4.out.r1.lt; have r0 := hr6.cell (j := 0) rfl; have r1 := hr6.cell (j := 1) rfl; have f0 := hr6.free 0; have f1 := hr6.free 1; clear he hans))
  have HB6 := Lib.hid (H4.out.below.trans (((Below.refl _ _).drew.trans hb2).mono H4.out.below.size))
  clear hb2
  go_wp2_with fail
  refine HQ.out _ _ _ ?_
  refine bodyPost_ret (v := .tuple #[.agg #[.int .i64 y0, .int .i64 y1], .bool q]) (by simp [results, Try.results34, go_sem, r0, r1]) rfl ⟨HANS.out, ?_⟩
  exact (HB6.out.setCell (by first | (simp; done) | (simp; omega)) _).setCell (by first | (simp; done) | (simp; omega)) _

set_option maxRecDepth 100000 in
set_option maxHeartbeats 4000000 in
theorem node_un (rb fb hb kb ko n c : Nat) (op x : Int) (a0 a1 : Int) (A1 : Option Addr) (n1 c1 : Nat) (v : V) (sv : Option V) (w : World) (h5 : 31 ≤ op) (h11 : op ≤ 36) (hk : kb < w.heap.size) (hn : 1 ≤ n) (hn2 : n ≤ 9223372036854775807)
    (g0 : w.cell? ⟨kb, ko, none⟩ = some (.int .i64 a0)) (g1 : w.cell? ⟨kb, ko + 1, none⟩ = some (.int .i64 a1)) (g2 : w.cell? ⟨kb, ko + 2, none⟩ = some (.slice A1 n1 c1)) (hrb : rb < w.heap.size) (hh : w.cell? ⟨rb, 4, none⟩ = some (.pointer (some ⟨hb, 0, none⟩)))
    (hkid : ∀ W, Below w.heap.size w W → Calls Try.prog 34 #[.pointer (some ⟨rb, 0, none⟩), .pointer (some ⟨fb, 0, none⟩), .agg #[.int .i64 a0, .int .i64 a1, .slice A1 n1 c1]] W fun e w' => AnsV (some v) e ∧ Below W.heap.size W w')
    (hop : ∀ W, Below w.heap.size w W → Calls Try.prog 45 #[.pointer (some ⟨hb, 0, none⟩), .int .i64 op, .agg #[.int .i64 v.obj, .int .i64 v.n]] W fun e w' => AnsV sv e ∧ Below W.heap.size W w') :
    Calls Try.prog 34 #[.pointer (some ⟨rb, 0, none⟩), .pointer (some ⟨fb, 0, none⟩), .agg #[.int .i64 op, .int .i64 x, .slice (some ⟨kb, ko, none⟩) n c]] w fun e w' => AnsV sv e ∧ Below w.heap.size w w' := by
  have HK := Lib.hid hkid
  have HOP := Lib.hid hop
  have HH := Lib.hid hh
  have H3 := Lib.hid (NBox.mk' w op x (some ⟨kb, ko, none⟩) n c)
  have e1 : (op == 1) = false := by simp; omega
  have e2 : (op == 2) = false := by simp; omega
  have e3 : (op == 3) = false := by simp; omega
  have e4 : (op == 4) = false := by simp; omega
  have hz1 : kb < w.heap.size + 1 := by omega
  have hn3 : (0 : Int) < (n : Int) := by omega
  have hdl : decide (5 ≤ op ∧ op ≤ 11) = false := by simp; omega
  have hdu : decide (31 ≤ op ∧ op ≤ 36) = true := by simp; omega
  clear hkid hop hh
  go_enter Try.func34, Try.ntmps34
  refine wp_letter (fun Q hQ => ?_)
  have HQ := Lib.hid hQ
  clear hQ
  go_wp2_with fail
  refine (HK.out _ H3.out.below).mono ?_
  rintro e w1 ⟨he, hb1⟩
  simp only [AnsV, ansV] at he
  subst he
  have H4 := Lib.hid ((H3.out.grow hb1).grow (below1 w1 (.cells #[.int .i64 v.obj, .int .i64 v.n] 55)))
  have HR8 := Lib.hid (Row.new w1 #[.int .i64 v.obj, .int .i64 v.n] 55)
  have t0 := (H3.out.grow hb1).r0.cell (j := 0) rfl
  have hlt0 := (H3.out.grow hb1).r0.lt
  have hlt1 := (H3.out.grow hb1).r1.lt
  clear hb1 g0 g1 g2
  go_wp2_with fail
  refine (tload_any _ _).mono ?_
  rintro e w' ⟨rfl, rfl⟩
  rw [hdl]
  go_wp2_with fail
  refine (unary_any _ _).mono ?_
  rintro e w' ⟨rfl, rfl⟩
  rw [hdu]
  go_wp2_with fail
  have hx : ∀ e, AnsV sv e → ∃ (y0 y1 : Int) (q : Bool), e = .returned (.tuple #[.agg #[.int .i64 y0, .int .i64 y1], .bool q]) ∧ AnsV sv (.returned (.tuple #[.agg #[.int .i64 y0, .int .i64 y1], .bool q])) := by
    intro e he
    cases sv with
    | none => obtain ⟨y0, y1, rfl⟩ := he; exact ⟨y0, y1, false, rfl, ⟨y0, y1, rfl⟩⟩
    | some u => simp only [AnsV, ansV] at he; exact ⟨u.obj, u.n, true, he, by simp [AnsV, ansV]⟩
  have HX := Lib.hid hx
  clear hx
  have hp0 : w.heap.size + 1 < (w1.alloc (.cells #[.int .i64 v.obj, .int .i64 v.n] 55)).heap.size := H4.out.r1.lt
  have hrb5 : rb < (w1.alloc (.cells #[.int .i64 v.obj, .int .i64 v.n] 55)).heap.size := by have := H4.out.below.size; omega
  have hw15 : w1.heap.size < (w1.alloc (.cells #[.int .i64 v.obj, .int .i64 v.n] 55)).heap.size := by simp
  have hw05 : w.heap.size < (w1.alloc (.cells #[.int .i64 v.obj, .int .i64 v.n] 55)).heap.size := H4.out.r0.lt
  have HH5 := Lib.hid (cell_below HH.out H4.out.below hrb)
  have KS := Lib.hid (fun (W : World) (hbw : Below (w1.alloc (.cells #[.int .i64 v.obj, .int .i64 v.n] 55)).heap.size (w1.alloc (.cells #[.int .i64 v.obj, .int .i64 v.n] 55)) W) => (⟨cell_below HH5.out hbw hrb5, cell_below (H4.out.r0.cell (j := 0) rfl) hbw hw05, cell_below (HR8.out.cell (j := 0) rfl) hbw hw15, cell_below (HR8.out.cell (j := 1) rfl) hbw hw15⟩ : W.cell? ⟨rb, 4, none⟩ = some (.pointer (some ⟨hb, 0, none⟩)) ∧ W.cell? ⟨w.heap.size, 0, none⟩ = some (.int .i64 op) ∧ W.cell? ⟨w1.heap.size, 0, none⟩ = some (.int .i64 v.obj) ∧ W.cell? ⟨w1.heap.size, 1, none⟩ = some (.int .i64 v.n)))
  have KS2 := Lib.hid (fun (W : World) (y0 y1 : Value) (hbw : Below (w1.alloc (.cells #[.int .i64 v.obj, .int .i64 v.n] 55)).heap.size (w1.alloc (.cells #[.int .i64 v.obj, .int .i64 v.n] 55)) W) => (by
    obtain ⟨k1, k2, k3, k4⟩ := KS.out W hbw
    have hsz := hbw.size
    have hset : ∀ b j, b < W.heap.size → b ≠ w.heap.size + 1 → ((W.setCell ⟨w.heap.size + 1, 0, none⟩ y0).setCell ⟨w.heap.size + 1, 1, none⟩ y1).cell? ⟨b, j, none⟩ = W.cell? ⟨b, j, none⟩ := fun b j hlt hbj => World.cell?_of_block (a := ⟨b, j, none⟩) ((wr_pair W (w.heap.size + 1) 0 1 y0 y1).block b hlt hbj)
    exact ⟨(hset _ _ (by omega) (by omega)).trans k1, (hset _ _ (by omega) (by omega)).trans k2, (hset _ _ (by omega) (by omega)).trans k3, (hset _ _ (by omega) (by omega)).trans k4⟩ : ((W.setCell ⟨w.heap.size + 1, 0, none⟩ y0).setCell ⟨w.heap.size + 1, 1, none⟩ y1).cell? ⟨rb, 4, none⟩ = some (.pointer (some ⟨hb, 0, none⟩)) ∧ ((W.setCell ⟨w.heap.size + 1, 0, none⟩ y0).setCell ⟨w.heap.size + 1, 1, none⟩ y1).cell? ⟨w.heap.size, 0, none⟩ = some (.int .i64 op) ∧ ((W.setCell ⟨w.heap.size + 1, 0, none⟩ y0).setCell ⟨w.heap.size + 1, 1, none⟩ y1).cell? ⟨w1.heap.size, 0, none⟩ = some (.int .i64 v.obj) ∧ ((W.setCell ⟨w.heap.size + 1, 0, none⟩ y0).setCell ⟨w.heap.size + 1, 1, none⟩ y1).cell? ⟨w1.heap.size, 1, none⟩ = some (.int .i64 v.n)))
  go_region_held3 (fun w' => w'.cell? ⟨rb, 4, none⟩ = some (.pointer (some ⟨hb, 0, none⟩)) ∧ w'.cell? ⟨w.heap.size, 0, none⟩ = some (.int .i64 op) ∧ w'.cell? ⟨w1.heap.size, 0, none⟩ = some (.int .i64 v.obj) ∧ w'.cell? ⟨w1.heap.size, 1, none⟩ = some (.int .i64 v.n)) (first | exact KS.out _ (Below.refl _ _).drew | exact KS.out _ ((Below.refl _ _).drew.trans hb2) | exact KS2.out _ _ _ ((Below.refl _ _).drew.trans hb2) | go_keep) ((go_at_call 45; refine (HOP.out _ H4.out.below.drew).mono ?_; rintro e w2 ⟨he, hb2⟩; obtain ⟨y0, y1, q, rfl, hans⟩ := HX.out _ he; have HANS := Lib.hid hans; have hr6 := H4.out.r1.below ((Below.refl _ _).drew.trans hb2) H4.out.r1.lt; have r0 := hr6.cell (j := 0) rfl; have r1 := hr6.cell (j := 1) rfl; have f0 := hr6.free 0; have f1 := hr6.free 1; clear he hans))
  have HB6 := Lib.hid (H4.out.below.trans (((Below.refl _ _).drew.trans hb2).mono H4.out.below.size))
  clear hb2
  go_wp2_with fail
  refine HQ.out _ _ _ ?_
  refine bodyPost_ret (v := .tuple #[.agg #[.int .i64 y0, .int .i64 y1], .bool q]) (by simp [results, Try.results34, go_sem, r0, r1]) rfl ⟨HANS.out, ?_⟩
  exact (HB6.out.setCell (by first | (simp; done) | (simp; omega)) _).setCell (by first | (simp; done) | (simp; omega)) _
end Go.Proofs.Ytikbdplllopjlaa
