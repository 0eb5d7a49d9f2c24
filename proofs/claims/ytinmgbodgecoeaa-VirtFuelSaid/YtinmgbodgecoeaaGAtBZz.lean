/- The graph's heap: the element at a place. Conditions: as stated. -/
import Derived.Test.YtinmgbodgecoeaaGAtZz
set_option linter.unusedVariables false
set_option linter.unusedSimpArgs false
namespace Go.Proofs.Ytinmgbodgecoeaa
open Go.RowKit

theorem hat_zero (hb : Nat) (x s : Int) (w : World) :
    Calls Try.prog 49 #[.pointer (some ⟨hb, 0, none⟩), .agg #[.int .i64 0, .int .i64 x], .int .i64 s] w fun e w' => e = .returned (.pointer none) ∧ Below w.heap.size w w' := by
  go_enter Try.func49, Try.ntmps49
  go_wp2_with fail
  go_ret
  exact ⟨rfl, below1 _ _⟩

set_option maxRecDepth 100000 in
set_option maxHeartbeats 4000000 in
theorem hat_dead (hb mb mo n cap B k : Nat) (x s : Nat) (M : List MO) (w : World) (hB : B ≤ w.heap.size) (hpb : hb < w.heap.size) (hc : w.cell? ⟨hb, 0, none⟩ = some (.slice (some ⟨mb, mo, none⟩) n cap)) (hM : MemRG w B (some ⟨mb, mo, none⟩) n M) (hk : k + 1 < M.length) (hx : x ≤ 512) (hs1 : 1 ≤ s) (hs2 : s ≤ 8) (hl : (mget M (k + 1)).live = false) :
    Calls Try.prog 49 #[.pointer (some ⟨hb, 0, none⟩), .agg #[.int .i64 ((k : Int) + 1), .int .i64 x], .int .i64 s] w fun e w' => e = .returned (.pointer none) ∧ Below w.heap.size w w' := by
  obtain ⟨mb', mo', hA, hmb', hkn, A', len, cap', c0, c1, c2, hll, hl2, hsa, hsb⟩ := hM.get hk
  injection hA with hA
  injection hA with hA1 hA2
  subst hA1 hA2
  have hmb : mb < w.heap.size := by omega
  rw [hl] at c2
  have hz1 : hb < w.heap.size + 1 := by omega
  have hz3 : mb < w.heap.size + 1 := by omega
  have hk0 : (0 : Int) ≤ (k : Int) := by omega
  have hk1 : (k : Int) < (n : Int) := by omega
  have hk2 : (((k : Int) + 1) == 0) = false := by simp; omega
  have hn := hM.2.1
  have hw1 : IntKind.i64.wrap (k : Int) = (k : Int) := IntWalk.i64_in _ (by omega)
  have hw2 : IntKind.i64.wrap ((k : Int) + 1 - 1) = (k : Int) := by rw [Int.add_sub_cancel]; exact hw1
  have HS := Lib.hid (fun (W : World) (hbw : Below (w.heap.size + 1) (w.alloc (.cells #[.int .i64 ((k : Int) + 1), .int .i64 x] 60)) W) => (⟨cell_below (cell_below hc (below1 w _) hpb) hbw (by omega), cell_below (cell_below c0 (below1 w _) hmb) hbw (by omega), cell_below (cell_below c1 (below1 w _) hmb) hbw (by omega), cell_below (cell_below c2 (below1 w _) hmb) hbw (by omega), cell_below (by simp [go_sem]) hbw (by omega)⟩ : W.cell? ⟨hb, 0, none⟩ = some (.slice (some ⟨mb, mo, none⟩) n cap) ∧ W.cell? ⟨mb, mo + k * 3, none⟩ = some (.int .i64 (mget M (k + 1)).size) ∧ W.cell? ⟨mb, mo + k * 3 + 1, none⟩ = some (.slice A' len cap') ∧ W.cell? ⟨mb, mo + k * 3 + 2, none⟩ = some (.bool (!false)) ∧ W.cell? ⟨w.heap.size, 0, none⟩ = some (.int .i64 ((k : Int) + 1))))
  clear hM hk hl hll
  go_enter Try.func49, Try.ntmps49
  refine wp_letter (fun Q hQ => ?_)
  have HQ := Lib.hid hQ
  clear hQ
  go_wp2_with fail
  go_region_held3 (fun w' => w'.cell? ⟨hb, 0, none⟩ = some (.slice (some ⟨mb, mo, none⟩) n cap) ∧ w'.cell? ⟨mb, mo + k * 3, none⟩ = some (.int .i64 (mget M (k + 1)).size) ∧ w'.cell? ⟨mb, mo + k * 3 + 1, none⟩ = some (.slice A' len cap') ∧ w'.cell? ⟨mb, mo + k * 3 + 2, none⟩ = some (.bool (!false)) ∧ w'.cell? ⟨w.heap.size, 0, none⟩ = some (.int .i64 ((k : Int) + 1))) (first | exact HS.out _ (((Below.refl _ _).alloc (by first | (simp; done) | (simp; omega)) _)).drew | go_keep) (fail)
  go_wp2_with fail
  refine HQ.out _ _ _ ?_
  refine bodyPost_ret (v := .pointer none) (by simp [results, Try.results49, go_sem]) rfl ⟨rfl, ?_⟩
  exact (below2 _ _ _).drew

set_option maxRecDepth 100000 in
set_option maxHeartbeats 4000000 in
theorem hat_size (hb mb mo n cap B k : Nat) (x s : Nat) (M : List MO) (w : World) (hB : B ≤ w.heap.size) (hpb : hb < w.heap.size) (hc : w.cell? ⟨hb, 0, none⟩ = some (.slice (some ⟨mb, mo, none⟩) n cap)) (hM : MemRG w B (some ⟨mb, mo, none⟩) n M) (hk : k + 1 < M.length) (hx : x ≤ 512) (hs1 : 1 ≤ s) (hs2 : s ≤ 8) (hl : (mget M (k + 1)).live = true) (hs : ¬ (mget M (k + 1)).size = s) :
    Calls Try.prog 49 #[.pointer (some ⟨hb, 0, none⟩), .agg #[.int .i64 ((k : Int) + 1), .int .i64 x], .int .i64 s] w fun e w' => e = .returned (.pointer none) ∧ Below w.heap.size w w' := by
  obtain ⟨mb', mo', hA, hmb', hkn, A', len, cap', c0, c1, c2, hll, hl2, hsa, hsb⟩ := hM.get hk
  injection hA with hA
  injection hA with hA1 hA2
  subst hA1 hA2
  have hmb : mb < w.heap.size := by omega
  rw [hl] at c2
  have hz1 : hb < w.heap.size + 1 := by omega
  have hz3 : mb < w.heap.size + 1 := by omega
  have hk0 : (0 : Int) ≤ (k : Int) := by omega
  have hk1 : (k : Int) < (n : Int) := by omega
  have hk2 : (((k : Int) + 1) == 0) = false := by simp; omega
  have hn := hM.2.1
  have hw1 : IntKind.i64.wrap (k : Int) = (k : Int) := IntWalk.i64_in _ (by omega)
  have hw2 : IntKind.i64.wrap ((k : Int) + 1 - 1) = (k : Int) := by rw [Int.add_sub_cancel]; exact hw1
  have hd1 : ((mget M (k + 1)).size != (s : Int)) = true := by simpa using hs
  have HS := Lib.hid (fun (W : World) (hbw : Below (w.heap.size + 1) (w.alloc (.cells #[.int .i64 ((k : Int) + 1), .int .i64 x] 60)) W) => (⟨cell_below (cell_below hc (below1 w _) hpb) hbw (by omega), cell_below (cell_below c0 (below1 w _) hmb) hbw (by omega), cell_below (cell_below c1 (below1 w _) hmb) hbw (by omega), cell_below (cell_below c2 (below1 w _) hmb) hbw (by omega), cell_below (by simp [go_sem]) hbw (by omega)⟩ : W.cell? ⟨hb, 0, none⟩ = some (.slice (some ⟨mb, mo, none⟩) n cap) ∧ W.cell? ⟨mb, mo + k * 3, none⟩ = some (.int .i64 (mget M (k + 1)).size) ∧ W.cell? ⟨mb, mo + k * 3 + 1, none⟩ = some (.slice A' len cap') ∧ W.cell? ⟨mb, mo + k * 3 + 2, none⟩ = some (.bool (!true)) ∧ W.cell? ⟨w.heap.size, 0, none⟩ = some (.int .i64 ((k : Int) + 1))))
  clear hM hk hl hll
  go_enter Try.func49, Try.ntmps49
  refine wp_letter (fun Q hQ => ?_)
  have HQ := Lib.hid hQ
  clear hQ
  go_wp2_with fail
  go_region_held3 (fun w' => w'.cell? ⟨hb, 0, none⟩ = some (.slice (some ⟨mb, mo, none⟩) n cap) ∧ w'.cell? ⟨mb, mo + k * 3, none⟩ = some (.int .i64 (mget M (k + 1)).size) ∧ w'.cell? ⟨mb, mo + k * 3 + 1, none⟩ = some (.slice A' len cap') ∧ w'.cell? ⟨mb, mo + k * 3 + 2, none⟩ = some (.bool (!true)) ∧ w'.cell? ⟨w.heap.size, 0, none⟩ = some (.int .i64 ((k : Int) + 1))) (first | exact HS.out _ (((Below.refl _ _).alloc (by first | (simp; done) | (simp; omega)) _)).drew | go_keep) (fail)
  go_wp2_with fail
  refine HQ.out _ _ _ ?_
  refine bodyPost_ret (v := .pointer none) (by simp [results, Try.results49, go_sem]) rfl ⟨rfl, ?_⟩
  exact (below2 _ _ _).drew

set_option maxRecDepth 100000 in
set_option maxHeartbeats 4000000 in
theorem hat_odd (hb mb mo n cap B k : Nat) (x s : Nat) (M : List MO) (w : World) (hB : B ≤ w.heap.size) (hpb : hb < w.heap.size) (hc : w.cell? ⟨hb, 0, none⟩ = some (.slice (some ⟨mb, mo, none⟩) n cap)) (hM : MemRG w B (some ⟨mb, mo, none⟩) n M) (hk : k + 1 < M.length) (hx : x ≤ 512) (hs1 : 1 ≤ s) (hs2 : s ≤ 8) (hl : (mget M (k + 1)).live = true) (hs : (mget M (k + 1)).size = s) (ho : ¬ x % s = 0) :
    Calls Try.prog 49 #[.pointer (some ⟨hb, 0, none⟩), .agg #[.int .i64 ((k : Int) + 1), .int .i64 x], .int .i64 s] w fun e w' => e = .returned (.pointer none) ∧ Below w.heap.size w w' := by
  obtain ⟨mb', mo', hA, hmb', hkn, A', len, cap', c0, c1, c2, hll, hl2, hsa, hsb⟩ := hM.get hk
  injection hA with hA
  injection hA with hA1 hA2
  subst hA1 hA2
  have hmb : mb < w.heap.size := by omega
  rw [hl] at c2
  have hz1 : hb < w.heap.size + 1 := by omega
  have hz3 : mb < w.heap.size + 1 := by omega
  have hk0 : (0 : Int) ≤ (k : Int) := by omega
  have hk1 : (k : Int) < (n : Int) := by omega
  have hk2 : (((k : Int) + 1) == 0) = false := by simp; omega
  have hn := hM.2.1
  have hw1 : IntKind.i64.wrap (k : Int) = (k : Int) := IntWalk.i64_in _ (by omega)
  have hw2 : IntKind.i64.wrap ((k : Int) + 1 - 1) = (k : Int) := by rw [Int.add_sub_cancel]; exact hw1
  obtain ⟨hlen, hrow⟩ := hll hl
  rw [hs] at c0
  have hbd : (len : Int) * (s : Int) = (mget M (k + 1)).bytes := by unfold MO.bytes; rw [hlen, hs, Int.mul_comm]
  have hbb := MO.bytes_bd hsa hsb (by omega : (mget M (k + 1)).l.length ≤ 64)
  obtain ⟨hb0, hb1⟩ := hbb
  have hlo1 : (0 : Int) ≤ (len : Int) * (s : Int) := by rw [hbd]; omega
  have hlo2 : (len : Int) * (s : Int) ≤ 512 := by rw [hbd]; omega
  have ho' : ((x : Int) % (s : Int) != 0) = true := by simp; omega
  have HBD := Lib.hid hbd
  clear hbd hlen hrow hs
  have HS := Lib.hid (fun (W : World) (hbw : Below (w.heap.size + 1) (w.alloc (.cells #[.int .i64 ((k : Int) + 1), .int .i64 x] 60)) W) => (⟨cell_below (cell_below hc (below1 w _) hpb) hbw (by omega), cell_below (cell_below c0 (below1 w _) hmb) hbw (by omega), cell_below (cell_below c1 (below1 w _) hmb) hbw (by omega), cell_below (cell_below c2 (below1 w _) hmb) hbw (by omega), cell_below (by simp [go_sem]) hbw (by omega)⟩ : W.cell? ⟨hb, 0, none⟩ = some (.slice (some ⟨mb, mo, none⟩) n cap) ∧ W.cell? ⟨mb, mo + k * 3, none⟩ = some (.int .i64 (s : Int)) ∧ W.cell? ⟨mb, mo + k * 3 + 1, none⟩ = some (.slice A' len cap') ∧ W.cell? ⟨mb, mo + k * 3 + 2, none⟩ = some (.bool (!true)) ∧ W.cell? ⟨w.heap.size, 0, none⟩ = some (.int .i64 ((k : Int) + 1))))
  clear hM hk hl hll
  go_enter Try.func49, Try.ntmps49
  refine wp_letter (fun Q hQ => ?_)
  have HQ := Lib.hid hQ
  clear hQ
  go_wp2_with fail
  go_region_held3 (fun w' => w'.cell? ⟨hb, 0, none⟩ = some (.slice (some ⟨mb, mo, none⟩) n cap) ∧ w'.cell? ⟨mb, mo + k * 3, none⟩ = some (.int .i64 (s : Int)) ∧ w'.cell? ⟨mb, mo + k * 3 + 1, none⟩ = some (.slice A' len cap') ∧ w'.cell? ⟨mb, mo + k * 3 + 2, none⟩ = some (.bool (!true)) ∧ w'.cell? ⟨w.heap.size, 0, none⟩ = some (.int .i64 ((k : Int) + 1))) (first | exact HS.out _ (((Below.refl _ _).alloc (by first | (simp; done) | (simp; omega)) _)).drew | go_keep) (fail)
  go_wp2_with fail
  refine HQ.out _ _ _ ?_
  refine bodyPost_ret (v := .pointer none) (by simp [results, Try.results49, go_sem]) rfl ⟨rfl, ?_⟩
  exact (below2 _ _ _).drew

set_option maxRecDepth 100000 in
set_option maxHeartbeats 4000000 in
theorem hat_far (hb mb mo n cap B k : Nat) (x s : Nat) (M : List MO) (w : World) (hB : B ≤ w.heap.size) (hpb : hb < w.heap.size) (hc : w.cell? ⟨hb, 0, none⟩ = some (.slice (some ⟨mb, mo, none⟩) n cap)) (hM : MemRG w B (some ⟨mb, mo, none⟩) n M) (hk : k + 1 < M.length) (hx : x ≤ 512) (hs1 : 1 ≤ s) (hs2 : s ≤ 8) (hl : (mget M (k + 1)).live = true) (hs : (mget M (k + 1)).size = s) (ho : x % s = 0) (hf : (mget M (k + 1)).bytes ≤ x) :
    Calls Try.prog 49 #[.pointer (some ⟨hb, 0, none⟩), .agg #[.int .i64 ((k : Int) + 1), .int .i64 x], .int .i64 s] w fun e w' => e = .returned (.pointer none) ∧ Below w.heap.size w w' := by
  obtain ⟨mb', mo', hA, hmb', hkn, A', len, cap', c0, c1, c2, hll, hl2, hsa, hsb⟩ := hM.get hk
  injection hA with hA
  injection hA with hA1 hA2
  subst hA1 hA2
  have hmb : mb < w.heap.size := by omega
  rw [hl] at c2
  have hz1 : hb < w.heap.size + 1 := by omega
  have hz3 : mb < w.heap.size + 1 := by omega
  have hk0 : (0 : Int) ≤ (k : Int) := by omega
  have hk1 : (k : Int) < (n : Int) := by omega
  have hk2 : (((k : Int) + 1) == 0) = false := by simp; omega
  have hn := hM.2.1
  have hw1 : IntKind.i64.wrap (k : Int) = (k : Int) := IntWalk.i64_in _ (by omega)
  have hw2 : IntKind.i64.wrap ((k : Int) + 1 - 1) = (k : Int) := by rw [Int.add_sub_cancel]; exact hw1
  obtain ⟨hlen, hrow⟩ := hll hl
  rw [hs] at c0
  have hbd : (len : Int) * (s : Int) = (mget M (k + 1)).bytes := by unfold MO.bytes; rw [hlen, hs, Int.mul_comm]
  have hbb := MO.bytes_bd hsa hsb (by omega : (mget M (k + 1)).l.length ≤ 64)
  obtain ⟨hb0, hb1⟩ := hbb
  have hlo1 : (0 : Int) ≤ (len : Int) * (s : Int) := by rw [hbd]; omega
  have hlo2 : (len : Int) * (s : Int) ≤ 512 := by rw [hbd]; omega
  have ho' : ((x : Int) % (s : Int) != 0) = false := by simp; omega
  have hf' : decide ((len : Int) * (s : Int) ≤ (x : Int)) = true := by rw [hbd]; simpa using hf
  rw [← hbd] at hf
  have HBD := Lib.hid hbd
  clear hbd hlen hrow hs
  have HS := Lib.hid (fun (W : World) (hbw : Below (w.heap.size + 1) (w.alloc (.cells #[.int .i64 ((k : Int) + 1), .int .i64 x] 60)) W) => (⟨cell_below (cell_below hc (below1 w _) hpb) hbw (by omega), cell_below (cell_below c0 (below1 w _) hmb) hbw (by omega), cell_below (cell_below c1 (below1 w _) hmb) hbw (by omega), cell_below (cell_below c2 (below1 w _) hmb) hbw (by omega), cell_below (by simp [go_sem]) hbw (by omega)⟩ : W.cell? ⟨hb, 0, none⟩ = some (.slice (some ⟨mb, mo, none⟩) n cap) ∧ W.cell? ⟨mb, mo + k * 3, none⟩ = some (.int .i64 (s : Int)) ∧ W.cell? ⟨mb, mo + k * 3 + 1, none⟩ = some (.slice A' len cap') ∧ W.cell? ⟨mb, mo + k * 3 + 2, none⟩ = some (.bool (!true)) ∧ W.cell? ⟨w.heap.size, 0, none⟩ = some (.int .i64 ((k : Int) + 1))))
  clear hM hk hl hll
  go_enter Try.func49, Try.ntmps49
  refine wp_letter (fun Q hQ => ?_)
  have HQ := Lib.hid hQ
  clear hQ
  go_wp2_with fail
  go_region_held3 (fun w' => w'.cell? ⟨hb, 0, none⟩ = some (.slice (some ⟨mb, mo, none⟩) n cap) ∧ w'.cell? ⟨mb, mo + k * 3, none⟩ = some (.int .i64 (s : Int)) ∧ w'.cell? ⟨mb, mo + k * 3 + 1, none⟩ = some (.slice A' len cap') ∧ w'.cell? ⟨mb, mo + k * 3 + 2, none⟩ = some (.bool (!true)) ∧ w'.cell? ⟨w.heap.size, 0, none⟩ = some (.int .i64 ((k : Int) + 1))) (first | exact HS.out _ (((Below.refl _ _).alloc (by first | (simp; done) | (simp; omega)) _)).drew | go_keep) (fail)
  go_wp2_with fail
  refine HQ.out _ _ _ ?_
  refine bodyPost_ret (v := .pointer none) (by simp [results, Try.results49, go_sem]) rfl ⟨rfl, ?_⟩
  exact (below2 _ _ _).drew

set_option maxRecDepth 100000 in
set_option maxHeartbeats 4000000 in
theorem hat_yes (hb mb mo n cap B k : Nat) (x s : Nat) (M : List MO) (w : World) (hB : B ≤ w.heap.size) (hpb : hb < w.heap.size) (hc : w.cell? ⟨hb, 0, none⟩ = some (.slice (some ⟨mb, mo, none⟩) n cap)) (hM : MemRG w B (some ⟨mb, mo, none⟩) n M) (hk : k + 1 < M.length) (hx : x ≤ 512) (hs1 : 1 ≤ s) (hs2 : s ≤ 8) (hl : (mget M (k + 1)).live = true) (hs : (mget M (k + 1)).size = s) (ho : x % s = 0) (hf : ¬ (mget M (k + 1)).bytes ≤ x) (ob oo len0 cap0 : Nat) (hA0 : w.cell? ⟨mb, mo + k * 3 + 1, none⟩ = some (.slice (some ⟨ob, oo, none⟩) len0 cap0)) :
    Calls Try.prog 49 #[.pointer (some ⟨hb, 0, none⟩), .agg #[.int .i64 ((k : Int) + 1), .int .i64 x], .int .i64 s] w fun e w' => e = .returned (.pointer (some ⟨ob, oo + x / s * 2, none⟩)) ∧ Below w.heap.size w w' := by
  obtain ⟨mb', mo', hA, hmb', hkn, A', len, cap', c0, c1, c2, hll, hl2, hsa, hsb⟩ := hM.get hk
  injection hA with hA
  injection hA with hA1 hA2
  subst hA1 hA2
  have hmb : mb < w.heap.size := by omega
  rw [hl] at c2
  have hz1 : hb < w.heap.size + 1 := by omega
  have hz3 : mb < w.heap.size + 1 := by omega
  have hk0 : (0 : Int) ≤ (k : Int) := by omega
  have hk1 : (k : Int) < (n : Int) := by omega
  have hk2 : (((k : Int) + 1) == 0) = false := by simp; omega
  have hn := hM.2.1
  have hw1 : IntKind.i64.wrap (k : Int) = (k : Int) := IntWalk.i64_in _ (by omega)
  have hw2 : IntKind.i64.wrap ((k : Int) + 1 - 1) = (k : Int) := by rw [Int.add_sub_cancel]; exact hw1
  obtain ⟨hlen, hrow⟩ := hll hl
  rw [hs] at c0
  have hbd : (len : Int) * (s : Int) = (mget M (k + 1)).bytes := by unfold MO.bytes; rw [hlen, hs, Int.mul_comm]
  have hbb := MO.bytes_bd hsa hsb (by omega : (mget M (k + 1)).l.length ≤ 64)
  obtain ⟨hb0, hb1⟩ := hbb
  have hlo1 : (0 : Int) ≤ (len : Int) * (s : Int) := by rw [hbd]; omega
  have hlo2 : (len : Int) * (s : Int) ≤ 512 := by rw [hbd]; omega
  rw [hA0] at c1
  injection c1 with c1
  injection c1 with e1 e2 e3
  subst e1
  have e2' := e2.symm
  have e3' := e3.symm
  subst e2' e3'
  have c1 := hA0
  have ho' : ((x : Int) % (s : Int) != 0) = false := by simp; omega
  have hf' : decide ((len : Int) * (s : Int) ≤ (x : Int)) = false := by rw [hbd]; simpa using hf
  have hlt : x < s * len := by
    have : ¬ ((s * len : Nat) : Int) ≤ (x : Int) := by
      have e : ((s * len : Nat) : Int) = (mget M (k + 1)).bytes := by rw [← hbd]; simp [Int.mul_comm]
      rw [e]; exact hf
    omega
  have hj := div_lt_of_bytes hlt
  have hj3 : (x : Int) / (s : Int) = ((x / s : Nat) : Int) := by simp
  have hj4 : (x : Int) / (s : Int) < (len : Int) := by rw [hj3]; omega
  have hj5 : 0 ≤ (x : Int) / (s : Int) := by rw [hj3]; exact Int.natCast_nonneg _
  have HJ := Lib.hid hj3
  have HJ2 := Lib.hid hj
  rw [← hbd] at hf
  have HBD := Lib.hid hbd
  clear hbd hlen hrow hs hj3 hlt hj hA0 ho
  have HS := Lib.hid (fun (W : World) (hbw : Below (w.heap.size + 1) (w.alloc (.cells #[.int .i64 ((k : Int) + 1), .int .i64 x] 60)) W) => (⟨cell_below (cell_below hc (below1 w _) hpb) hbw (by omega), cell_below (cell_below c0 (below1 w _) hmb) hbw (by omega), cell_below (cell_below c1 (below1 w _) hmb) hbw (by omega), cell_below (cell_below c2 (below1 w _) hmb) hbw (by omega), cell_below (by simp [go_sem]) hbw (by omega)⟩ : W.cell? ⟨hb, 0, none⟩ = some (.slice (some ⟨mb, mo, none⟩) n cap) ∧ W.cell? ⟨mb, mo + k * 3, none⟩ = some (.int .i64 (s : Int)) ∧ W.cell? ⟨mb, mo + k * 3 + 1, none⟩ = some (.slice (some ⟨ob, oo, none⟩) len cap') ∧ W.cell? ⟨mb, mo + k * 3 + 2, none⟩ = some (.bool (!true)) ∧ W.cell? ⟨w.heap.size, 0, none⟩ = some (.int .i64 ((k : Int) + 1))))
  clear hM hk hl hll
  go_enter Try.func49, Try.ntmps49
  refine wp_letter (fun Q hQ => ?_)
  have HQ := Lib.hid hQ
  clear hQ
  go_wp2_with fail
  go_region_held3 (fun w' => w'.cell? ⟨hb, 0, none⟩ = some (.slice (some ⟨mb, mo, none⟩) n cap) ∧ w'.cell? ⟨mb, mo + k * 3, none⟩ = some (.int .i64 (s : Int)) ∧ w'.cell? ⟨mb, mo + k * 3 + 1, none⟩ = some (.slice (some ⟨ob, oo, none⟩) len cap') ∧ w'.cell? ⟨mb, mo + k * 3 + 2, none⟩ = some (.bool (!true)) ∧ w'.cell? ⟨w.heap.size, 0, none⟩ = some (.int .i64 ((k : Int) + 1))) (first | exact HS.out _ (((Below.refl _ _).alloc (by first | (simp; done) | (simp; omega)) _)).drew | go_keep) (fail)
  go_wp2_with fail
  go_quiet (fail)
  go_wp2_with fail
  refine HQ.out _ _ _ ?_
  refine bodyPost_ret (v := .pointer (some ⟨ob, oo + x / s * 2, none⟩)) (by simp [results, Try.results49, go_sem]) rfl ⟨rfl, ?_⟩
  exact (below_drewN ((below2 _ _ _).drew) _)
end Go.Proofs.Ytinmgbodgecoeaa
