/- A tree's value in the graph's machine: nodes of two kids. Conditions: as stated. -/
import Derived.Test.YtikbdplllopjlaaGNodeZz
set_option linter.unusedVariables false
set_option linter.unusedSimpArgs false
namespace Go.Proofs.Ytikbdplllopjlaa
open Go.RowKit

set_option maxRecDepth 100000 in
set_option maxHeartbeats 4000000 in
theorem node_bin_none (rb fb hb kb ko n c : Nat) (op x : Int) (a0 a1 : Int) (A1 : Option Addr) (n1 c1 : Nat) (b0 b1 : Int) (B1 : Option Addr) (m1 d1 : Nat) (v : V) (w : World) (h5 : 12 ≤ op) (h11 : op ≤ 30) (hk : kb < w.heap.size) (hn : 2 ≤ n) (hn2 : n ≤ 9223372036854775807)
    (g0 : w.cell? ⟨kb, ko, none⟩ = some (.int .i64 a0)) (g1 : w.cell? ⟨kb, ko + 1, none⟩ = some (.int .i64 a1)) (g2 : w.cell? ⟨kb, ko + 2, none⟩ = some (.slice A1 n1 c1))
    (g3 : w.cell? ⟨kb, ko + 3, none⟩ = some (.int .i64 b0)) (g4 : w.cell? ⟨kb, ko + 3 + 1, none⟩ = some (.int .i64 b1)) (g5 : w.cell? ⟨kb, ko + 3 + 2, none⟩ = some (.slice B1 m1 d1)) (hrb : rb < w.heap.size) (hh : w.cell? ⟨rb, 4, none⟩ = some (.pointer (some ⟨hb, 0, none⟩)))
    (hkid : ∀ W, Below w.heap.size w W → Calls Try.prog 34 #[.pointer (some ⟨rb, 0, none⟩), .pointer (some ⟨fb, 0, none⟩), .agg #[.int .i64 a0, .int .i64 a1, .slice A1 n1 c1]] W fun e w' => AnsV (some v) e ∧ Below W.heap.size W w')
    (hkid2 : ∀ W, Below w.heap.size w W → Calls Try.prog 34 #[.pointer (some ⟨rb, 0, none⟩), .pointer (some ⟨fb, 0, none⟩), .agg #[.int .i64 b0, .int .i64 b1, .slice B1 m1 d1]] W fun e w' => AnsV (none) e ∧ Below W.heap.size W w') :
    Calls Try.prog 34 #[.pointer (some ⟨rb, 0, none⟩), .pointer (some ⟨fb, 0, none⟩), .agg #[.int .i64 op, .int .i64 x, .slice (some ⟨kb, ko, none⟩) n c]] w fun e w' => AnsV none e ∧ Below w.heap.size w w' := by
  have HK := Lib.hid hkid
  have HK2 := Lib.hid hkid2
  have HH := Lib.hid hh
  have H3 := Lib.hid (NBox.mk' w op x (some ⟨kb, ko, none⟩) n c)
  have HG3 := Lib.hid g3
  have HG4 := Lib.hid g4
  have HG5 := Lib.hid g5
  have e1 : (op == 1) = false := by simp; omega
  have e2 : (op == 2) = false := by simp; omega
  have e3 : (op == 3) = false := by simp; omega
  have e4 : (op == 4) = false := by simp; omega
  have hz1 : kb < w.heap.size + 1 := by omega
  have hn3 : (0 : Int) < (n : Int) := by omega
  have hn4 : (1 : Int) < (n : Int) := by omega
  have hdl : decide (5 ≤ op ∧ op ≤ 11) = false := by simp; omega
  have hdu : decide (31 ≤ op ∧ op ≤ 36) = false := by simp; omega
  clear hkid hkid2 hh g3 g4 g5
  go_enter Try.func34, Try.ntmps34
  refine wp_letter (fun Q hQ => ?_)
  have HQ := Lib.hid hQ
  clear hQ
  go_wp2_with fail
  refine (HK.out _ H3.out.below).mono ?_
  rintro e w1 ⟨he, hb1⟩
  simp only [AnsV, ansV] at he
  subst he
  have H4 := Lib.hid ((H3.out.grow hb1).grow (below1 w1 (.cells #[.int .i64 v.obj, .int .i64 v.n] 55)))
  have HR8 := Lib.hid (Row.new w1 #[.int .i64 v.obj, .int .i64 v.n] 55)
  have t0 := (H3.out.grow hb1).r0.cell (j := 0) rfl
  have t2 := (H3.out.grow hb1).r0.cell (j := 2) rfl
  have hlt0 := (H3.out.grow hb1).r0.lt
  have hlt1 := (H3.out.grow hb1).r1.lt
  have k3 := cell_below HG3.out (H3.out.grow hb1).below hk
  have k4 := cell_below HG4.out (H3.out.grow hb1).below hk
  have k5 := cell_below HG5.out (H3.out.grow hb1).below hk
  have hkw : kb < w1.heap.size := by omega
  clear hb1 g0 g1 g2
  go_wp2_with fail
  refine (tload_any _ _).mono ?_
  rintro e w' ⟨rfl, rfl⟩
  rw [hdl]
  go_wp2_with fail
  refine (unary_any _ _).mono ?_
  rintro e w' ⟨rfl, rfl⟩
  rw [hdu]
  go_wp2_with fail
  refine (HK2.out _ H4.out.below).mono ?_
  rintro e w2 ⟨⟨y0, y1, rfl⟩, hb2⟩
  have H6 := Lib.hid (H4.out.grow hb2)
  have r0 := H6.out.r1.cell (j := 0) rfl
  have r1 := H6.out.r1.cell (j := 1) rfl
  have f0 := H6.out.r1.free 0
  have f1 := H6.out.r1.free 1
  have hlt := H6.out.r1.lt
  clear hb2 t0 t2 k3 k4 k5
  go_wp2_with fail
  refine HQ.out _ _ _ ?_
  refine bodyPost_ret (v := .tuple #[.agg #[.int .i64 y0, .int .i64 y1], .bool false]) (by simp [results, Try.results34, go_sem, r0, r1, hlt]) rfl ⟨⟨y0, y1, rfl⟩, ?_⟩
  exact ((H6.out.below.setCell (by first | (simp; done) | (simp; omega)) _).setCell (by first | (simp; done) | (simp; omega)) _).alloc (by have := H6.out.below.size; first | (simp; done) | (simp; omega)) _

set_option maxRecDepth 100000 in
set_option maxHeartbeats 4000000 in
theorem node_bin (rb fb hb kb ko n c : Nat) (op x : Int) (a0 a1 : Int) (A1 : Option Addr) (n1 c1 : Nat) (b0 b1 : Int) (B1 : Option Addr) (m1 d1 : Nat) (v : V) (u : V) (sv : Option V) (w : World) (h5 : 12 ≤ op) (h11 : op ≤ 30) (hk : kb < w.heap.size) (hn : 2 ≤ n) (hn2 : n ≤ 9223372036854775807)
    (g0 : w.cell? ⟨kb, ko, none⟩ = some (.int .i64 a0)) (g1 : w.cell? ⟨kb, ko + 1, none⟩ = some (.int .i64 a1)) (g2 : w.cell? ⟨kb, ko + 2, none⟩ = some (.slice A1 n1 c1))
    (g3 : w.cell? ⟨kb, ko + 3, none⟩ = some (.int .i64 b0)) (g4 : w.cell? ⟨kb, ko + 3 + 1, none⟩ = some (.int .i64 b1)) (g5 : w.cell? ⟨kb, ko + 3 + 2, none⟩ = some (.slice B1 m1 d1)) (hrb : rb < w.heap.size) (hh : w.cell? ⟨rb, 4, none⟩ = some (.pointer (some ⟨hb, 0, none⟩)))
    (hkid : ∀ W, Below w.heap.size w W → Calls Try.prog 34 #[.pointer (some ⟨rb, 0, none⟩), .pointer (some ⟨fb, 0, none⟩), .agg #[.int .i64 a0, .int .i64 a1, .slice A1 n1 c1]] W fun e w' => AnsV (some v) e ∧ Below W.heap.size W w')
    (hkid2 : ∀ W, Below w.heap.size w W → Calls Try.prog 34 #[.pointer (some ⟨rb, 0, none⟩), .pointer (some ⟨fb, 0, none⟩), .agg #[.int .i64 b0, .int .i64 b1, .slice B1 m1 d1]] W fun e w' => AnsV (some u) e ∧ Below W.heap.size W w')
    (hop : ∀ W, Below w.heap.size w W → Calls Try.prog 46 #[.pointer (some ⟨hb, 0, none⟩), .int .i64 op, .agg #[.int .i64 v.obj, .int .i64 v.n], .agg #[.int .i64 u.obj, .int .i64 u.n]] W fun e w' => AnsV sv e ∧ Below W.heap.size W w') :
    Calls Try.prog 34 #[.pointer (some ⟨rb, 0, none⟩), .pointer (some ⟨fb, 0, none⟩), .agg #[.int .i64 op, .int .i64 x, .slice (some ⟨kb, ko, none⟩) n c]] w fun e w' => AnsV sv e ∧ Below w.heap.size w w' := by
  have HOP := Lib.hid hop
  clear hop
  have HK := Lib.hid hkid
  have HK2 := Lib.hid hkid2
  have HH := Lib.hid hh
  have H3 := Lib.hid (NBox.mk' w op x (some ⟨kb, ko, none⟩) n c)
  have HG3 := Lib.hid g3
  have HG4 := Lib.hid g4
  have HG5 := Lib.hid g5
  have e1 : (op == 1) = false := by simp; omega
  have e2 : (op == 2) = false := by simp; omega
  have e3 : (op == 3) = false := by simp; omega
  have e4 : (op == 4) = false := by simp; omega
  have hz1 : kb < w.heap.size + 1 := by omega
  have hn3 : (0 : Int) < (n : Int) := by omega
  have hn4 : (1 : Int) < (n : Int) := by omega
  have hdl : decide (5 ≤ op ∧ op ≤ 11) = false := by simp; omega
  have hdu : decide (31 ≤ op ∧ op ≤ 36) = false := by simp; omega
  clear hkid hkid2 hh g3 g4 g5
  go_enter Try.func34, Try.ntmps34
  refine wp_letter (fun Q hQ => ?_)
  have HQ := Lib.hid hQ
  clear hQ
  go_wp2_with fail
  refine (HK.out _ H3.out.below).mono ?_
  rintro e w1 ⟨he, hb1⟩
  simp only [AnsV, ansV] at he
  subst he
  have H4 := Lib.hid ((H3.out.grow hb1).grow (below1 w1 (.cells #[.int .i64 v.obj, .int .i64 v.n] 55)))
  have HR8 := Lib.hid (Row.new w1 #[.int .i64 v.obj, .int .i64 v.n] 55)
  have t0 := (H3.out.grow hb1).r0.cell (j := 0) rfl
  have t2 := (H3.out.grow hb1).r0.cell (j := 2) rfl
  have hlt0 := (H3.out.grow hb1).r0.lt
  have hlt1 := (H3.out.grow hb1).r1.lt
  have k3 := cell_below HG3.out (H3.out.grow hb1).below hk
  have k4 := cell_below HG4.out (H3.out.grow hb1).below hk
  have k5 := cell_below HG5.out (H3.out.grow hb1).below hk
  have hkw : kb < w1.heap.size := by omega
  clear hb1 g0 g1 g2
  go_wp2_with fail
  refine (tload_any _ _).mono ?_
  rintro e w' ⟨rfl, rfl⟩
  rw [hdl]
  go_wp2_with fail
  refine (unary_any _ _).mono ?_
  rintro e w' ⟨rfl, rfl⟩
  rw [hdu]
  go_wp2_with fail
  refine (HK2.out _ H4.out.below).mono ?_
  rintro e w2 ⟨he, hb2⟩
  simp only [AnsV, ansV] at he
  subst he
  have HR9 := Lib.hid ((HR8.out.below hb2 HR8.out.lt).alloc (.cells #[.int .i64 u.obj, .int .i64 u.n] 55))
  have HR10 := Lib.hid (Row.new w2 #[.int .i64 u.obj, .int .i64 u.n] 55)
  have H6 := Lib.hid ((H4.out.grow hb2).grow (below1 w2 (.cells #[.int .i64 u.obj, .int .i64 u.n] 55)))
  have s0 := (H4.out.grow hb2).r0.cell (j := 0) rfl
  have s1 := (HR8.out.below hb2 HR8.out.lt).cell (j := 0) rfl
  have s2 := (HR8.out.below hb2 HR8.out.lt).cell (j := 1) rfl
  have hlt2 := (H4.out.grow hb2).r0.lt
  have hlt3 := (H4.out.grow hb2).r1.lt
  have hlt4 := (HR8.out.below hb2 HR8.out.lt).lt
  clear hb2 t0 t2 k3 k4 k5
  go_wp2_with fail
  have hx : ∀ e, AnsV sv e → ∃ (y0 y1 : Int) (q : Bool), e = .returned (.tuple #[.agg #[.int .i64 y0, .int .i64 y1], .bool q]) ∧ AnsV sv (.returned (.tuple #[.agg #[.int .i64 y0, .int .i64 y1], .bool q])) := by
    intro e he
    cases sv with
    | none => obtain ⟨y0, y1, rfl⟩ := he; exact ⟨y0, y1, false, rfl, ⟨y0, y1, rfl⟩⟩
    | some u => simp only [AnsV, ansV] at he; exact ⟨u.obj, u.n, true, he, by simp [AnsV, ansV]⟩
  have HX := Lib.hid hx
  clear hx s0 s1 s2
  have hp0 : w.heap.size + 1 < (w2.alloc (.cells #[.int .i64 u.obj, .int .i64 u.n] 55)).heap.size := H6.out.r1.lt
  have hrb5 : rb < (w2.alloc (.cells #[.int .i64 u.obj, .int .i64 u.n] 55)).heap.size := by have := H6.out.below.size; omega
  have hw15 : w1.heap.size < (w2.alloc (.cells #[.int .i64 u.obj, .int .i64 u.n] 55)).heap.size := HR9.out.lt
  have hw25 : w2.heap.size < (w2.alloc (.cells #[.int .i64 u.obj, .int .i64 u.n] 55)).heap.size := HR10.out.lt
  have hw05 : w.heap.size < (w2.alloc (.cells #[.int .i64 u.obj, .int .i64 u.n] 55)).heap.size := H6.out.r0.lt
  have HH5 := Lib.hid (cell_below HH.out H6.out.below hrb)
  have KS := Lib.hid (fun (W : World) (hbw : Below (w2.alloc (.cells #[.int .i64 u.obj, .int .i64 u.n] 55)).heap.size (w2.alloc (.cells #[.int .i64 u.obj, .int .i64 u.n] 55)) W) => (⟨cell_below HH5.out hbw hrb5, cell_below (H6.out.r0.cell (j := 0) rfl) hbw hw05, cell_below (HR9.out.cell (j := 0) rfl) hbw hw15, cell_below (HR9.out.cell (j := 1) rfl) hbw hw15, cell_below (HR10.out.cell (j := 0) rfl) hbw hw25, cell_below (HR10.out.cell (j := 1) rfl) hbw hw25⟩ : W.cell? ⟨rb, 4, none⟩ = some (.pointer (some ⟨hb, 0, none⟩)) ∧ W.cell? ⟨w.heap.size, 0, none⟩ = some (.int .i64 op) ∧ W.cell? ⟨w1.heap.size, 0, none⟩ = some (.int .i64 v.obj) ∧ W.cell? ⟨w1.heap.size, 1, none⟩ = some (.int .i64 v.n) ∧ W.cell? ⟨w2.heap.size, 0, none⟩ = some (.int .i64 u.obj) ∧ W.cell? ⟨w2.heap.size, 1, none⟩ = some (.int .i64 u.n)))
  have KS2 := Lib.hid (fun (W : World) (y0 y1 : Value) (hbw : Below (w2.alloc (.cells #[.int .i64 u.obj, .int .i64 u.n] 55)).heap.size (w2.alloc (.cells #[.int .i64 u.obj, .int .i64 u.n] 55)) W) => (by
    obtain ⟨k1, k2, k3, k4, k5, k6⟩ := KS.out W hbw
    have hsz := hbw.size
    have hset : ∀ b j, b < W.heap.size → b ≠ w.heap.size + 1 → ((W.setCell ⟨w.heap.size + 1, 0, none⟩ y0).setCell ⟨w.heap.size + 1, 1, none⟩ y1).cell? ⟨b, j, none⟩ = W.cell? ⟨b, j, none⟩ := fun b j hlt hbj => World.cell?_of_block (a := ⟨b, j, none⟩) ((wr_pair W (w.heap.size + 1) 0 1 y0 y1).block b hlt hbj)
    exact ⟨(hset _ _ (by omega) (by omega)).trans k1, (hset _ _ (by omega) (by omega)).trans k2, (hset _ _ (by omega) (by omega)).trans k3, (hset _ _ (by omega) (by omega)).trans k4, (hset _ _ (by omega) (by omega)).trans k5, (hset _ _ (by omega) (by omega)).trans k6⟩ : ((W.setCell ⟨w.heap.size + 1, 0, none⟩ y0).setCell ⟨w.heap.size + 1, 1, none⟩ y1).cell? ⟨rb, 4, none⟩ = some (.pointer (some ⟨hb, 0, none⟩)) ∧ ((W.setCell ⟨w.heap.size + 1, 0, none⟩ y0).setCell ⟨w.heap.size + 1, 1, none⟩ y1).cell? ⟨w.heap.size, 0, none⟩ = some (.int .i64 op) ∧ ((W.setCell ⟨w.heap.size + 1, 0, none⟩ y0).setCell ⟨w.heap.size + 1, 1, none⟩ y1).cell? ⟨w1.heap.size, 0, none⟩ = some (.int .i64 v.obj) ∧ ((W.setCell ⟨w.heap.size + 1, 0, none⟩ y0).setCell ⟨w.heap.size + 1, 1, none⟩ y1).cell? ⟨w1.heap.size, 1, none⟩ = some (.int .i64 v.n) ∧ ((W.setCell ⟨w.heap.size + 1, 0, none⟩ y0).setCell ⟨w.heap.size + 1, 1, none⟩ y1).cell? ⟨w2.heap.size, 0, none⟩ = some (.int .i64 u.obj) ∧ ((W.setCell ⟨w.heap.size + 1, 0, none⟩ y0).setCell ⟨w.heap.size + 1, 1, none⟩ y1).cell? ⟨w2.heap.size, 1, none⟩ = some (.int .i64 u.n)))
  go_region_held3 (fun w' => w'.cell? ⟨rb, 4, none⟩ = some (.pointer (some ⟨hb, 0, none⟩)) ∧ w'.cell? ⟨w.heap.size, 0, none⟩ = some (.int .i64 op) ∧ w'.cell? ⟨w1.heap.size, 0, none⟩ = some (.int .i64 v.obj) ∧ w'.cell? ⟨w1.heap.size, 1, none⟩ = some (.int .i64 v.n) ∧ w'.cell? ⟨w2.heap.size, 0, none⟩ = some (.int .i64 u.obj) ∧ w'.cell? ⟨w2.heap.size, 1, none⟩ = some (.int .i64 u.n)) (first | exact KS.out _ (Below.refl _ _).drew | exact KS.out _ ((Below.refl _ _).drew.trans hb3) | exact KS2.out _ _ _ ((Below.refl _ _).drew.trans hb3) | go_keep) ((go_at_call 46; refine (HOP.out _ H6.out.below.drew).mono ?_; rintro e w3 ⟨he, hb3⟩; obtain ⟨y0, y1, q, rfl, hans⟩ := HX.out _ he; have HANS := Lib.hid hans; have hr6 := H6.out.r1.below ((Below.refl _ _).drew.trans hb3) H6.out.r1.lt; have r0 := hr6.cell (j := 0) rfl; have r1 := hr6.cell (j := 1) rfl; have f0 := hr6.free 0; have f1 := hr6.free 1; clear he hans))
  have HB6 := Lib.hid (H6.out.below.trans (((Below.refl _ _).drew.trans hb3).mono H6.out.below.size))
  clear hb3
  go_wp2_with fail
  refine HQ.out _ _ _ ?_
  refine bodyPost_ret (v := .tuple #[.agg #[.int .i64 y0, .int .i64 y1], .bool q]) (by simp [results, Try.results34, go_sem, r0, r1]) rfl ⟨HANS.out, ?_⟩
  exact (HB6.out.setCell (by first | (simp; done) | (simp; omega)) _).setCell (by first | (simp; done) | (simp; omega)) _
end Go.Proofs.Ytikbdplllopjlaa
