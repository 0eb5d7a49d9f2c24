/- The graph's heap: an object, copied out; at, move, apart. Conditions: as stated. -/
import Derived.Test.YtinmgbodgecoeaaQ03Zz
import Derived.Deep.RegionHeld3
import Derived.IntWalk
set_option linter.unusedVariables false
set_option linter.unusedSimpArgs false
namespace Go.Proofs.Ytinmgbodgecoeaa
open Go.RowKit

set_option maxRecDepth 100000 in
set_option maxHeartbeats 4000000 in
theorem apart_dead (hb n cap B k : Nat) (x : Int) (A : Option Addr) (M : List MO) (w : World) (hB : B ≤ w.heap.size) (hpb : hb < w.heap.size) (hc : w.cell? ⟨hb, 0, none⟩ = some (.slice A n cap)) (hM : MemRG w B A n M) (hk : k + 1 < M.length) (hl : (mget M (k + 1)).live = false) :
    Calls Try.prog 59 #[.pointer (some ⟨hb, 0, none⟩), .agg #[.int .i64 ((k : Int) + 1), .int .i64 x]] w fun e w' => e = .returned (.bool false) ∧ Below w.heap.size w w' := by
  obtain ⟨mb, mo, rfl, hmb', hkn, A', len, cap', c0, c1, c2, hll, hl2, hs0, hs1⟩ := hM.get hk
  have hmb : mb < w.heap.size := by omega
  rw [hl] at c2
  have hz1 : hb < w.heap.size + 1 := by omega
  have hz2 : hb < w.heap.size + 1 + 1 := by omega
  have hz3 : mb < w.heap.size + 1 := by omega
  have hz4 : mb < w.heap.size + 1 + 1 := by omega
  have hk0 : (0 : Int) ≤ (k : Int) := by omega
  have hk1 : (k : Int) < (n : Int) := by omega
  have hk2 : (((k : Int) + 1) == 0) = false := by simp; omega
  have hn := hM.2.1
  have hw1 : IntKind.i64.wrap (k : Int) = (k : Int) := IntWalk.i64_in _ (by omega)
  have hw2 : IntKind.i64.wrap ((k : Int) + 1 - 1) = (k : Int) := by rw [Int.add_sub_cancel]; exact hw1
  have HS := Lib.hid (fun (W : World) (hbw : Below (w.heap.size + 1) (w.alloc (.cells #[.int .i64 ((k : Int) + 1), .int .i64 x] 60)) W) => (⟨cell_below (cell_below hc (below1 w _) hpb) hbw (by omega), cell_below (cell_below c0 (below1 w _) hmb) hbw (by omega), cell_below (cell_below c1 (below1 w _) hmb) hbw (by omega), cell_below (cell_below c2 (below1 w _) hmb) hbw (by omega), cell_below (by simp [go_sem]) hbw (by omega)⟩ : W.cell? ⟨hb, 0, none⟩ = some (.slice (some ⟨mb, mo, none⟩) n cap) ∧ W.cell? ⟨mb, mo + k * 3, none⟩ = some (.int .i64 (mget M (k + 1)).size) ∧ W.cell? ⟨mb, mo + k * 3 + 1, none⟩ = some (.slice A' len cap') ∧ W.cell? ⟨mb, mo + k * 3 + 2, none⟩ = some (.bool (!false)) ∧ W.cell? ⟨w.heap.size, 0, none⟩ = some (.int .i64 ((k : Int) + 1))))
  clear hM hk hl hll
  go_enter Try.func59, Try.ntmps59
  refine wp_letter (fun Q hQ => ?_)
  have HQ := Lib.hid hQ
  clear hQ
  go_wp2_with fail
  go_region_held3 (fun w' => w'.cell? ⟨hb, 0, none⟩ = some (.slice (some ⟨mb, mo, none⟩) n cap) ∧ w'.cell? ⟨mb, mo + k * 3, none⟩ = some (.int .i64 (mget M (k + 1)).size) ∧ w'.cell? ⟨mb, mo + k * 3 + 1, none⟩ = some (.slice A' len cap') ∧ w'.cell? ⟨mb, mo + k * 3 + 2, none⟩ = some (.bool (!false)) ∧ w'.cell? ⟨w.heap.size, 0, none⟩ = some (.int .i64 ((k : Int) + 1))) (first | exact HS.out _ (((Below.refl _ _).alloc (by first | (simp; done) | (simp; omega)) _).alloc (by first | (simp; done) | (simp; omega)) _).drew | go_keep) (fail)
  go_wp2_with fail
  refine HQ.out _ _ _ ?_
  refine bodyPost_ret (v := .bool false) (by simp [results, Try.results59, go_sem]) rfl ⟨rfl, ?_⟩
  exact (below2 _ _ _).drew

set_option maxRecDepth 100000 in
set_option maxHeartbeats 4000000 in
theorem apart_near (hb n cap B k : Nat) (x : Int) (A : Option Addr) (M : List MO) (w : World) (hB : B ≤ w.heap.size) (hpb : hb < w.heap.size) (hc : w.cell? ⟨hb, 0, none⟩ = some (.slice A n cap)) (hM : MemRG w B A n M) (hk : k + 1 < M.length) (hl : (mget M (k + 1)).live = true) (hx : x < (mget M (k + 1)).bytes) :
    Calls Try.prog 59 #[.pointer (some ⟨hb, 0, none⟩), .agg #[.int .i64 ((k : Int) + 1), .int .i64 x]] w fun e w' => e = .returned (.bool true) ∧ Below w.heap.size w w' := by
  obtain ⟨mb, mo, rfl, hmb', hkn, A', len, cap', c0, c1, c2, hll, hl2, hs0, hs1⟩ := hM.get hk
  have hmb : mb < w.heap.size := by omega
  rw [hl] at c2
  have hz1 : hb < w.heap.size + 1 := by omega
  have hz2 : hb < w.heap.size + 1 + 1 := by omega
  have hz3 : mb < w.heap.size + 1 := by omega
  have hz4 : mb < w.heap.size + 1 + 1 := by omega
  have hk0 : (0 : Int) ≤ (k : Int) := by omega
  have hk1 : (k : Int) < (n : Int) := by omega
  have hk2 : (((k : Int) + 1) == 0) = false := by simp; omega
  have hn := hM.2.1
  have hw1 : IntKind.i64.wrap (k : Int) = (k : Int) := IntWalk.i64_in _ (by omega)
  have hw2 : IntKind.i64.wrap ((k : Int) + 1 - 1) = (k : Int) := by rw [Int.add_sub_cancel]; exact hw1
  obtain ⟨hlen, hrow⟩ := hll hl
  have hbd : (mget M (k + 1)).size * (len : Int) = (mget M (k + 1)).bytes := by unfold MO.bytes; rw [hlen]
  have hbd' : (len : Int) * (mget M (k + 1)).size = (mget M (k + 1)).bytes := by rw [Int.mul_comm]; exact hbd
  have hbb := MO.bytes_bd hs0 hs1 (by omega : (mget M (k + 1)).l.length ≤ 64)
  obtain ⟨hb0, hb1⟩ := hbb
  have hlo1 : (0 : Int) ≤ (len : Int) * (mget M (k + 1)).size := by rw [hbd']; omega
  have hlo2 : (len : Int) * (mget M (k + 1)).size ≤ 512 := by rw [hbd']; omega
  have hd : decide (x < (len : Int) * (mget M (k + 1)).size) = true := by rw [hbd']; simpa using hx
  rw [← hbd'] at hx
  have HBD := Lib.hid hbd'
  clear hbd hbd' hlen hrow
  have HS := Lib.hid (fun (W : World) (hbw : Below (w.heap.size + 1) (w.alloc (.cells #[.int .i64 ((k : Int) + 1), .int .i64 x] 60)) W) => (⟨cell_below (cell_below hc (below1 w _) hpb) hbw (by omega), cell_below (cell_below c0 (below1 w _) hmb) hbw (by omega), cell_below (cell_below c1 (below1 w _) hmb) hbw (by omega), cell_below (cell_below c2 (below1 w _) hmb) hbw (by omega), cell_below (by simp [go_sem]) hbw (by omega)⟩ : W.cell? ⟨hb, 0, none⟩ = some (.slice (some ⟨mb, mo, none⟩) n cap) ∧ W.cell? ⟨mb, mo + k * 3, none⟩ = some (.int .i64 (mget M (k + 1)).size) ∧ W.cell? ⟨mb, mo + k * 3 + 1, none⟩ = some (.slice A' len cap') ∧ W.cell? ⟨mb, mo + k * 3 + 2, none⟩ = some (.bool (!true)) ∧ W.cell? ⟨w.heap.size, 0, none⟩ = some (.int .i64 ((k : Int) + 1))))
  clear hM hk hl hll
  go_enter Try.func59, Try.ntmps59
  refine wp_letter (fun Q hQ => ?_)
  have HQ := Lib.hid hQ
  clear hQ
  go_wp2_with fail
  go_region_held3 (fun w' => w'.cell? ⟨hb, 0, none⟩ = some (.slice (some ⟨mb, mo, none⟩) n cap) ∧ w'.cell? ⟨mb, mo + k * 3, none⟩ = some (.int .i64 (mget M (k + 1)).size) ∧ w'.cell? ⟨mb, mo + k * 3 + 1, none⟩ = some (.slice A' len cap') ∧ w'.cell? ⟨mb, mo + k * 3 + 2, none⟩ = some (.bool (!true)) ∧ w'.cell? ⟨w.heap.size, 0, none⟩ = some (.int .i64 ((k : Int) + 1))) (first | exact HS.out _ (((Below.refl _ _).alloc (by first | (simp; done) | (simp; omega)) _).alloc (by first | (simp; done) | (simp; omega)) _).drew | go_keep) (fail)
  go_wp2_with fail
  refine HQ.out _ _ _ ?_
  refine bodyPost_ret (v := .bool true) (by simp [results, Try.results59, go_sem]) rfl ⟨rfl, ?_⟩
  exact (below2 _ _ _).drew

set_option maxRecDepth 100000 in
set_option maxHeartbeats 4000000 in
theorem apart_far (hb n cap B k : Nat) (x : Int) (A : Option Addr) (M : List MO) (w : World) (hB : B ≤ w.heap.size) (hpb : hb < w.heap.size) (hc : w.cell? ⟨hb, 0, none⟩ = some (.slice A n cap)) (hM : MemRG w B A n M) (hk : k + 1 < M.length) (hl : (mget M (k + 1)).live = true) (hx : ¬ x < (mget M (k + 1)).bytes) :
    Calls Try.prog 59 #[.pointer (some ⟨hb, 0, none⟩), .agg #[.int .i64 ((k : Int) + 1), .int .i64 x]] w fun e w' => e = .returned (.bool false) ∧ Below w.heap.size w w' := by
  obtain ⟨mb, mo, rfl, hmb', hkn, A', len, cap', c0, c1, c2, hll, hl2, hs0, hs1⟩ := hM.get hk
  have hmb : mb < w.heap.size := by omega
  rw [hl] at c2
  have hz1 : hb < w.heap.size + 1 := by omega
  have hz2 : hb < w.heap.size + 1 + 1 := by omega
  have hz3 : mb < w.heap.size + 1 := by omega
  have hz4 : mb < w.heap.size + 1 + 1 := by omega
  have hk0 : (0 : Int) ≤ (k : Int) := by omega
  have hk1 : (k : Int) < (n : Int) := by omega
  have hk2 : (((k : Int) + 1) == 0) = false := by simp; omega
  have hn := hM.2.1
  have hw1 : IntKind.i64.wrap (k : Int) = (k : Int) := IntWalk.i64_in _ (by omega)
  have hw2 : IntKind.i64.wrap ((k : Int) + 1 - 1) = (k : Int) := by rw [Int.add_sub_cancel]; exact hw1
  obtain ⟨hlen, hrow⟩ := hll hl
  have hbd : (mget M (k + 1)).size * (len : Int) = (mget M (k + 1)).bytes := by unfold MO.bytes; rw [hlen]
  have hbd' : (len : Int) * (mget M (k + 1)).size = (mget M (k + 1)).bytes := by rw [Int.mul_comm]; exact hbd
  have hbb := MO.bytes_bd hs0 hs1 (by omega : (mget M (k + 1)).l.length ≤ 64)
  obtain ⟨hb0, hb1⟩ := hbb
  have hlo1 : (0 : Int) ≤ (len : Int) * (mget M (k + 1)).size := by rw [hbd']; omega
  have hlo2 : (len : Int) * (mget M (k + 1)).size ≤ 512 := by rw [hbd']; omega
  have hd : decide (x < (len : Int) * (mget M (k + 1)).size) = false := by rw [hbd']; simpa using hx
  rw [← hbd'] at hx
  have HBD := Lib.hid hbd'
  clear hbd hbd' hlen hrow
  have HS := Lib.hid (fun (W : World) (hbw : Below (w.heap.size + 1) (w.alloc (.cells #[.int .i64 ((k : Int) + 1), .int .i64 x] 60)) W) => (⟨cell_below (cell_below hc (below1 w _) hpb) hbw (by omega), cell_below (cell_below c0 (below1 w _) hmb) hbw (by omega), cell_below (cell_below c1 (below1 w _) hmb) hbw (by omega), cell_below (cell_below c2 (below1 w _) hmb) hbw (by omega), cell_below (by simp [go_sem]) hbw (by omega)⟩ : W.cell? ⟨hb, 0, none⟩ = some (.slice (some ⟨mb, mo, none⟩) n cap) ∧ W.cell? ⟨mb, mo + k * 3, none⟩ = some (.int .i64 (mget M (k + 1)).size) ∧ W.cell? ⟨mb, mo + k * 3 + 1, none⟩ = some (.slice A' len cap') ∧ W.cell? ⟨mb, mo + k * 3 + 2, none⟩ = some (.bool (!true)) ∧ W.cell? ⟨w.heap.size, 0, none⟩ = some (.int .i64 ((k : Int) + 1))))
  clear hM hk hl hll
  go_enter Try.func59, Try.ntmps59
  refine wp_letter (fun Q hQ => ?_)
  have HQ := Lib.hid hQ
  clear hQ
  go_wp2_with fail
  go_region_held3 (fun w' => w'.cell? ⟨hb, 0, none⟩ = some (.slice (some ⟨mb, mo, none⟩) n cap) ∧ w'.cell? ⟨mb, mo + k * 3, none⟩ = some (.int .i64 (mget M (k + 1)).size) ∧ w'.cell? ⟨mb, mo + k * 3 + 1, none⟩ = some (.slice A' len cap') ∧ w'.cell? ⟨mb, mo + k * 3 + 2, none⟩ = some (.bool (!true)) ∧ w'.cell? ⟨w.heap.size, 0, none⟩ = some (.int .i64 ((k : Int) + 1))) (first | exact HS.out _ (((Below.refl _ _).alloc (by first | (simp; done) | (simp; omega)) _).alloc (by first | (simp; done) | (simp; omega)) _).drew | go_keep) (fail)
  go_wp2_with fail
  refine HQ.out _ _ _ ?_
  refine bodyPost_ret (v := .bool false) (by simp [results, Try.results59, go_sem]) rfl ⟨rfl, ?_⟩
  exact (below2 _ _ _).drew

set_option maxRecDepth 100000 in
set_option maxHeartbeats 4000000 in
theorem move_dead (hb n cap B k : Nat) (x : Int) (A : Option Addr) (M : List MO) (w : World) (hB : B ≤ w.heap.size) (hpb : hb < w.heap.size) (hc : w.cell? ⟨hb, 0, none⟩ = some (.slice A n cap)) (hM : MemRG w B A n M) (hk : k + 1 < M.length) (hl : (mget M (k + 1)).live = false) (hx0 : 0 ≤ x) (hx1 : x ≤ 512) (m : Int) :
    Calls Try.prog 54 #[.pointer (some ⟨hb, 0, none⟩), .agg #[.int .i64 ((k : Int) + 1), .int .i64 x], .int .i64 m] w fun e w' => e = .returned (.tuple #[.agg #[.int .i64 0, .int .i64 0], .bool false]) ∧ Below w.heap.size w w' := by
  obtain ⟨mb, mo, rfl, hmb', hkn, A', len, cap', c0, c1, c2, hll, hl2, hs0, hs1⟩ := hM.get hk
  have hmb : mb < w.heap.size := by omega
  rw [hl] at c2
  have hz1 : hb < w.heap.size + 1 := by omega
  have hz2 : hb < w.heap.size + 1 + 1 := by omega
  have hz3 : mb < w.heap.size + 1 := by omega
  have hz4 : mb < w.heap.size + 1 + 1 := by omega
  have hk0 : (0 : Int) ≤ (k : Int) := by omega
  have hk1 : (k : Int) < (n : Int) := by omega
  have hk2 : (((k : Int) + 1) == 0) = false := by simp; omega
  have hn := hM.2.1
  have hw1 : IntKind.i64.wrap (k : Int) = (k : Int) := IntWalk.i64_in _ (by omega)
  have hw2 : IntKind.i64.wrap ((k : Int) + 1 - 1) = (k : Int) := by rw [Int.add_sub_cancel]; exact hw1
  have HS := Lib.hid (fun (W : World) (hbw : Below (w.heap.size + 1) (w.alloc (.cells #[.int .i64 ((k : Int) + 1), .int .i64 x] 60)) W) => (⟨cell_below (cell_below hc (below1 w _) hpb) hbw (by omega), cell_below (cell_below c0 (below1 w _) hmb) hbw (by omega), cell_below (cell_below c1 (below1 w _) hmb) hbw (by omega), cell_below (cell_below c2 (below1 w _) hmb) hbw (by omega), cell_below (by simp [go_sem]) hbw (by omega)⟩ : W.cell? ⟨hb, 0, none⟩ = some (.slice (some ⟨mb, mo, none⟩) n cap) ∧ W.cell? ⟨mb, mo + k * 3, none⟩ = some (.int .i64 (mget M (k + 1)).size) ∧ W.cell? ⟨mb, mo + k * 3 + 1, none⟩ = some (.slice A' len cap') ∧ W.cell? ⟨mb, mo + k * 3 + 2, none⟩ = some (.bool (!false)) ∧ W.cell? ⟨w.heap.size, 0, none⟩ = some (.int .i64 ((k : Int) + 1))))
  clear hM hk hl hll
  go_enter Try.func54, Try.ntmps54
  refine wp_letter (fun Q hQ => ?_)
  have HQ := Lib.hid hQ
  clear hQ
  go_wp2_with fail
  go_region_held3 (fun w' => w'.cell? ⟨hb, 0, none⟩ = some (.slice (some ⟨mb, mo, none⟩) n cap) ∧ w'.cell? ⟨mb, mo + k * 3, none⟩ = some (.int .i64 (mget M (k + 1)).size) ∧ w'.cell? ⟨mb, mo + k * 3 + 1, none⟩ = some (.slice A' len cap') ∧ w'.cell? ⟨mb, mo + k * 3 + 2, none⟩ = some (.bool (!false)) ∧ w'.cell? ⟨w.heap.size, 0, none⟩ = some (.int .i64 ((k : Int) + 1))) (first | exact HS.out _ (((Below.refl _ _).alloc (by first | (simp; done) | (simp; omega)) _).alloc (by first | (simp; done) | (simp; omega)) _).drew | go_keep) (fail)
  go_wp2_with fail
  refine HQ.out _ _ _ ?_
  refine bodyPost_ret (v := .tuple #[.agg #[.int .i64 0, .int .i64 0], .bool false]) (by simp [results, Try.results54, go_sem]) rfl ⟨rfl, ?_⟩
  exact (below3 _ _ _ _).drew

set_option maxRecDepth 100000 in
set_option maxHeartbeats 4000000 in
theorem move_low (hb n cap B k : Nat) (x : Int) (A : Option Addr) (M : List MO) (w : World) (hB : B ≤ w.heap.size) (hpb : hb < w.heap.size) (hc : w.cell? ⟨hb, 0, none⟩ = some (.slice A n cap)) (hM : MemRG w B A n M) (hk : k + 1 < M.length) (hl : (mget M (k + 1)).live = true) (hx0 : 0 ≤ x) (hx1 : x ≤ 512) (m : Int) (h1 : m < -x) :
    Calls Try.prog 54 #[.pointer (some ⟨hb, 0, none⟩), .agg #[.int .i64 ((k : Int) + 1), .int .i64 x], .int .i64 m] w fun e w' => e = .returned (.tuple #[.agg #[.int .i64 0, .int .i64 0], .bool false]) ∧ Below w.heap.size w w' := by
  obtain ⟨mb, mo, rfl, hmb', hkn, A', len, cap', c0, c1, c2, hll, hl2, hs0, hs1⟩ := hM.get hk
  have hmb : mb < w.heap.size := by omega
  rw [hl] at c2
  have hz1 : hb < w.heap.size + 1 := by omega
  have hz2 : hb < w.heap.size + 1 + 1 := by omega
  have hz3 : mb < w.heap.size + 1 := by omega
  have hz4 : mb < w.heap.size + 1 + 1 := by omega
  have hk0 : (0 : Int) ≤ (k : Int) := by omega
  have hk1 : (k : Int) < (n : Int) := by omega
  have hk2 : (((k : Int) + 1) == 0) = false := by simp; omega
  have hn := hM.2.1
  have hw1 : IntKind.i64.wrap (k : Int) = (k : Int) := IntWalk.i64_in _ (by omega)
  have hw2 : IntKind.i64.wrap ((k : Int) + 1 - 1) = (k : Int) := by rw [Int.add_sub_cancel]; exact hw1
  obtain ⟨hlen, hrow⟩ := hll hl
  have hbd : (mget M (k + 1)).size * (len : Int) = (mget M (k + 1)).bytes := by unfold MO.bytes; rw [hlen]
  have hbd' : (len : Int) * (mget M (k + 1)).size = (mget M (k + 1)).bytes := by rw [Int.mul_comm]; exact hbd
  have hbb := MO.bytes_bd hs0 hs1 (by omega : (mget M (k + 1)).l.length ≤ 64)
  obtain ⟨hb0, hb1⟩ := hbb
  have hlo1 : (0 : Int) ≤ (len : Int) * (mget M (k + 1)).size := by rw [hbd']; omega
  have hlo2 : (len : Int) * (mget M (k + 1)).size ≤ 512 := by rw [hbd']; omega
  have hd1 : decide (m < -x) = true := by simpa using h1
  have HBD := Lib.hid hbd'
  clear hbd hbd' hlen hrow
  have HS := Lib.hid (fun (W : World) (hbw : Below (w.heap.size + 1) (w.alloc (.cells #[.int .i64 ((k : Int) + 1), .int .i64 x] 60)) W) => (⟨cell_below (cell_below hc (below1 w _) hpb) hbw (by omega), cell_below (cell_below c0 (below1 w _) hmb) hbw (by omega), cell_below (cell_below c1 (below1 w _) hmb) hbw (by omega), cell_below (cell_below c2 (below1 w _) hmb) hbw (by omega), cell_below (by simp [go_sem]) hbw (by omega)⟩ : W.cell? ⟨hb, 0, none⟩ = some (.slice (some ⟨mb, mo, none⟩) n cap) ∧ W.cell? ⟨mb, mo + k * 3, none⟩ = some (.int .i64 (mget M (k + 1)).size) ∧ W.cell? ⟨mb, mo + k * 3 + 1, none⟩ = some (.slice A' len cap') ∧ W.cell? ⟨mb, mo + k * 3 + 2, none⟩ = some (.bool (!true)) ∧ W.cell? ⟨w.heap.size, 0, none⟩ = some (.int .i64 ((k : Int) + 1))))
  clear hM hk hl hll
  go_enter Try.func54, Try.ntmps54
  refine wp_letter (fun Q hQ => ?_)
  have HQ := Lib.hid hQ
  clear hQ
  go_wp2_with fail
  go_region_held3 (fun w' => w'.cell? ⟨hb, 0, none⟩ = some (.slice (some ⟨mb, mo, none⟩) n cap) ∧ w'.cell? ⟨mb, mo + k * 3, none⟩ = some (.int .i64 (mget M (k + 1)).size) ∧ w'.cell? ⟨mb, mo + k * 3 + 1, none⟩ = some (.slice A' len cap') ∧ w'.cell? ⟨mb, mo + k * 3 + 2, none⟩ = some (.bool (!true)) ∧ w'.cell? ⟨w.heap.size, 0, none⟩ = some (.int .i64 ((k : Int) + 1))) (first | exact HS.out _ (((Below.refl _ _).alloc (by first | (simp; done) | (simp; omega)) _).alloc (by first | (simp; done) | (simp; omega)) _).drew | go_keep) (fail)
  go_wp2_with fail
  refine HQ.out _ _ _ ?_
  refine bodyPost_ret (v := .tuple #[.agg #[.int .i64 0, .int .i64 0], .bool false]) (by simp [results, Try.results54, go_sem]) rfl ⟨rfl, ?_⟩
  exact (below3 _ _ _ _).drew

set_option maxRecDepth 100000 in
set_option maxHeartbeats 4000000 in
theorem move_high (hb n cap B k : Nat) (x : Int) (A : Option Addr) (M : List MO) (w : World) (hB : B ≤ w.heap.size) (hpb : hb < w.heap.size) (hc : w.cell? ⟨hb, 0, none⟩ = some (.slice A n cap)) (hM : MemRG w B A n M) (hk : k + 1 < M.length) (hl : (mget M (k + 1)).live = true) (hx0 : 0 ≤ x) (hx1 : x ≤ 512) (m : Int) (h1 : ¬ m < -x) (h2 : (mget M (k + 1)).bytes - x < m) :
    Calls Try.prog 54 #[.pointer (some ⟨hb, 0, none⟩), .agg #[.int .i64 ((k : Int) + 1), .int .i64 x], .int .i64 m] w fun e w' => e = .returned (.tuple #[.agg #[.int .i64 0, .int .i64 0], .bool false]) ∧ Below w.heap.size w w' := by
  obtain ⟨mb, mo, rfl, hmb', hkn, A', len, cap', c0, c1, c2, hll, hl2, hs0, hs1⟩ := hM.get hk
  have hmb : mb < w.heap.size := by omega
  rw [hl] at c2
  have hz1 : hb < w.heap.size + 1 := by omega
  have hz2 : hb < w.heap.size + 1 + 1 := by omega
  have hz3 : mb < w.heap.size + 1 := by omega
  have hz4 : mb < w.heap.size + 1 + 1 := by omega
  have hk0 : (0 : Int) ≤ (k : Int) := by omega
  have hk1 : (k : Int) < (n : Int) := by omega
  have hk2 : (((k : Int) + 1) == 0) = false := by simp; omega
  have hn := hM.2.1
  have hw1 : IntKind.i64.wrap (k : Int) = (k : Int) := IntWalk.i64_in _ (by omega)
  have hw2 : IntKind.i64.wrap ((k : Int) + 1 - 1) = (k : Int) := by rw [Int.add_sub_cancel]; exact hw1
  obtain ⟨hlen, hrow⟩ := hll hl
  have hbd : (mget M (k + 1)).size * (len : Int) = (mget M (k + 1)).bytes := by unfold MO.bytes; rw [hlen]
  have hbd' : (len : Int) * (mget M (k + 1)).size = (mget M (k + 1)).bytes := by rw [Int.mul_comm]; exact hbd
  have hbb := MO.bytes_bd hs0 hs1 (by omega : (mget M (k + 1)).l.length ≤ 64)
  obtain ⟨hb0, hb1⟩ := hbb
  have hlo1 : (0 : Int) ≤ (len : Int) * (mget M (k + 1)).size := by rw [hbd']; omega
  have hlo2 : (len : Int) * (mget M (k + 1)).size ≤ 512 := by rw [hbd']; omega
  have hd1 : decide (m < -x) = false := by simpa using h1
  have hd2 : decide ((len : Int) * (mget M (k + 1)).size - x < m) = true := by rw [hbd']; simpa using h2
  rw [← hbd'] at h2
  have HBD := Lib.hid hbd'
  clear hbd hbd' hlen hrow
  have HS := Lib.hid (fun (W : World) (hbw : Below (w.heap.size + 1) (w.alloc (.cells #[.int .i64 ((k : Int) + 1), .int .i64 x] 60)) W) => (⟨cell_below (cell_below hc (below1 w _) hpb) hbw (by omega), cell_below (cell_below c0 (below1 w _) hmb) hbw (by omega), cell_below (cell_below c1 (below1 w _) hmb) hbw (by omega), cell_below (cell_below c2 (below1 w _) hmb) hbw (by omega), cell_below (by simp [go_sem]) hbw (by omega)⟩ : W.cell? ⟨hb, 0, none⟩ = some (.slice (some ⟨mb, mo, none⟩) n cap) ∧ W.cell? ⟨mb, mo + k * 3, none⟩ = some (.int .i64 (mget M (k + 1)).size) ∧ W.cell? ⟨mb, mo + k * 3 + 1, none⟩ = some (.slice A' len cap') ∧ W.cell? ⟨mb, mo + k * 3 + 2, none⟩ = some (.bool (!true)) ∧ W.cell? ⟨w.heap.size, 0, none⟩ = some (.int .i64 ((k : Int) + 1))))
  clear hM hk hl hll
  go_enter Try.func54, Try.ntmps54
  refine wp_letter (fun Q hQ => ?_)
  have HQ := Lib.hid hQ
  clear hQ
  go_wp2_with fail
  go_region_held3 (fun w' => w'.cell? ⟨hb, 0, none⟩ = some (.slice (some ⟨mb, mo, none⟩) n cap) ∧ w'.cell? ⟨mb, mo + k * 3, none⟩ = some (.int .i64 (mget M (k + 1)).size) ∧ w'.cell? ⟨mb, mo + k * 3 + 1, none⟩ = some (.slice A' len cap') ∧ w'.cell? ⟨mb, mo + k * 3 + 2, none⟩ = some (.bool (!true)) ∧ w'.cell? ⟨w.heap.size, 0, none⟩ = some (.int .i64 ((k : Int) + 1))) (first | exact HS.out _ (((Below.refl _ _).alloc (by first | (simp; done) | (simp; omega)) _).alloc (by first | (simp; done) | (simp; omega)) _).drew | go_keep) (fail)
  go_wp2_with fail
  refine HQ.out _ _ _ ?_
  refine bodyPost_ret (v := .tuple #[.agg #[.int .i64 0, .int .i64 0], .bool false]) (by simp [results, Try.results54, go_sem]) rfl ⟨rfl, ?_⟩
  exact (below3 _ _ _ _).drew

set_option maxRecDepth 100000 in
set_option maxHeartbeats 4000000 in
theorem move_yes (hb n cap B k : Nat) (x : Int) (A : Option Addr) (M : List MO) (w : World) (hB : B ≤ w.heap.size) (hpb : hb < w.heap.size) (hc : w.cell? ⟨hb, 0, none⟩ = some (.slice A n cap)) (hM : MemRG w B A n M) (hk : k + 1 < M.length) (hl : (mget M (k + 1)).live = true) (hx0 : 0 ≤ x) (hx1 : x ≤ 512) (m : Int) (h1 : ¬ m < -x) (h2 : ¬ (mget M (k + 1)).bytes - x < m) :
    Calls Try.prog 54 #[.pointer (some ⟨hb, 0, none⟩), .agg #[.int .i64 ((k : Int) + 1), .int .i64 x], .int .i64 m] w fun e w' => e = .returned (.tuple #[.agg #[.int .i64 ((k : Int) + 1), .int .i64 (x + m)], .bool true]) ∧ Below w.heap.size w w' := by
  obtain ⟨mb, mo, rfl, hmb', hkn, A', len, cap', c0, c1, c2, hll, hl2, hs0, hs1⟩ := hM.get hk
  have hmb : mb < w.heap.size := by omega
  rw [hl] at c2
  have hz1 : hb < w.heap.size + 1 := by omega
  have hz2 : hb < w.heap.size + 1 + 1 := by omega
  have hz3 : mb < w.heap.size + 1 := by omega
  have hz4 : mb < w.heap.size + 1 + 1 := by omega
  have hk0 : (0 : Int) ≤ (k : Int) := by omega
  have hk1 : (k : Int) < (n : Int) := by omega
  have hk2 : (((k : Int) + 1) == 0) = false := by simp; omega
  have hn := hM.2.1
  have hw1 : IntKind.i64.wrap (k : Int) = (k : Int) := IntWalk.i64_in _ (by omega)
  have hw2 : IntKind.i64.wrap ((k : Int) + 1 - 1) = (k : Int) := by rw [Int.add_sub_cancel]; exact hw1
  obtain ⟨hlen, hrow⟩ := hll hl
  have hbd : (mget M (k + 1)).size * (len : Int) = (mget M (k + 1)).bytes := by unfold MO.bytes; rw [hlen]
  have hbd' : (len : Int) * (mget M (k + 1)).size = (mget M (k + 1)).bytes := by rw [Int.mul_comm]; exact hbd
  have hbb := MO.bytes_bd hs0 hs1 (by omega : (mget M (k + 1)).l.length ≤ 64)
  obtain ⟨hb0, hb1⟩ := hbb
  have hlo1 : (0 : Int) ≤ (len : Int) * (mget M (k + 1)).size := by rw [hbd']; omega
  have hlo2 : (len : Int) * (mget M (k + 1)).size ≤ 512 := by rw [hbd']; omega
  have hd1 : decide (m < -x) = false := by simpa using h1
  have hd2 : decide ((len : Int) * (mget M (k + 1)).size - x < m) = false := by rw [hbd']; simpa using h2
  rw [← hbd'] at h2
  have HBD := Lib.hid hbd'
  clear hbd hbd' hlen hrow
  have HS := Lib.hid (fun (W : World) (hbw : Below (w.heap.size + 1) (w.alloc (.cells #[.int .i64 ((k : Int) + 1), .int .i64 x] 60)) W) => (⟨cell_below (cell_below hc (below1 w _) hpb) hbw (by omega), cell_below (cell_below c0 (below1 w _) hmb) hbw (by omega), cell_below (cell_below c1 (below1 w _) hmb) hbw (by omega), cell_below (cell_below c2 (below1 w _) hmb) hbw (by omega), cell_below (by simp [go_sem]) hbw (by omega)⟩ : W.cell? ⟨hb, 0, none⟩ = some (.slice (some ⟨mb, mo, none⟩) n cap) ∧ W.cell? ⟨mb, mo + k * 3, none⟩ = some (.int .i64 (mget M (k + 1)).size) ∧ W.cell? ⟨mb, mo + k * 3 + 1, none⟩ = some (.slice A' len cap') ∧ W.cell? ⟨mb, mo + k * 3 + 2, none⟩ = some (.bool (!true)) ∧ W.cell? ⟨w.heap.size, 0, none⟩ = some (.int .i64 ((k : Int) + 1))))
  clear hM hk hl hll
  go_enter Try.func54, Try.ntmps54
  refine wp_letter (fun Q hQ => ?_)
  have HQ := Lib.hid hQ
  clear hQ
  go_wp2_with fail
  go_region_held3 (fun w' => w'.cell? ⟨hb, 0, none⟩ = some (.slice (some ⟨mb, mo, none⟩) n cap) ∧ w'.cell? ⟨mb, mo + k * 3, none⟩ = some (.int .i64 (mget M (k + 1)).size) ∧ w'.cell? ⟨mb, mo + k * 3 + 1, none⟩ = some (.slice A' len cap') ∧ w'.cell? ⟨mb, mo + k * 3 + 2, none⟩ = some (.bool (!true)) ∧ w'.cell? ⟨w.heap.size, 0, none⟩ = some (.int .i64 ((k : Int) + 1))) (first | exact HS.out _ (((Below.refl _ _).alloc (by first | (simp; done) | (simp; omega)) _).alloc (by first | (simp; done) | (simp; omega)) _).drew | go_keep) (fail)
  go_wp2_with fail
  refine HQ.out _ _ _ ?_
  refine bodyPost_ret (v := .tuple #[.agg #[.int .i64 ((k : Int) + 1), .int .i64 (x + m)], .bool true]) (by simp [results, Try.results54, go_sem]) rfl ⟨rfl, ?_⟩
  exact (below3 _ _ _ _).drew
end Go.Proofs.Ytinmgbodgecoeaa
