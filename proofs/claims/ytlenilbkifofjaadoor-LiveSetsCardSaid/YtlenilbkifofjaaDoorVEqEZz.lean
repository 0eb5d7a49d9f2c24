/- Programs that read the same are the same. Conditions: as stated. -/
import Derived.Test.YtlenilbkifofjaaDoorVCopyEZz
set_option linter.unusedVariables false
set_option linter.unusedSimpArgs false
namespace Go.Proofs.YtlenilbkifofjaaDoor
open Go.RowKit

set_option maxRecDepth 100000 in
set_option maxHeartbeats 4000000 in
theorem eqLongs_at (l : List Int) (A A' : Option Addr) (c c' : Nat) (B : Nat) (w : World) (hB : B ≤ w.heap.size) (hv : LongsAt w B l (.slice A l.length c)) (hu : LongsAt w B l (.slice A' l.length c')) :
    Calls Tryd.prog 72 #[.slice A l.length c, .slice A' l.length c'] w fun e w' => e = .returned (.bool true) ∧ Below w.heap.size w w' := by
  have hlm := (SliceAt.len hv).2
  have hb0 : ((l.length : Int) != (l.length : Int)) = false := by simp
  have HA := Lib.hid hv
  have HA' := Lib.hid hu
  clear hv hu
  go_enter Tryd.func72, Tryd.ntmps72
  go_wp2_with fail
  go_loopw [5] (fun i wr => ∃ k : Nat, k ≤ l.length ∧ i = .int .i64 k ∧ Below w.heap.size w wr) (fun i _ => l.length - (intOf i).toNat)
  case atStart => exact ⟨0, by omega, rfl, Below.refl _ _⟩
  case round =>
    obtain ⟨k, hk2, rfl, hbw⟩ := hrel
    by_cases hlt : k < l.length
    · obtain ⟨b, off, x, rfl, hb, hx, e1, _⟩ := SliceAt.get (LongsAt.below HA.out (hbw.mono hB) (Nat.le_refl _)) hlt
      obtain ⟨b', off', x', rfl, hb', hx', e2, _⟩ := SliceAt.get (LongsAt.below HA'.out (hbw.mono hB) (Nat.le_refl _)) hlt
      obtain rfl : x = x' := Option.some.inj (hx.symm.trans hx')
      simp only [Nat.add_zero, Nat.mul_one] at e1 e2
      have hklt : (k : Int) < (l.length : Int) := by omega
      have hxx : (x != x) = false := by simp
      clear hx hx'
      go_wp2_with fail
      go_quiet (fail)
      go_wp2_with fail
      go_roundw
      case rel => exact ⟨k + 1, by omega, by go_num, below_drewN hbw _⟩
      case measure => simp [intOf]; omega
    · obtain rfl : k = l.length := by omega
      go_wp2_with fail
      go_ret
      exact ⟨rfl, hbw⟩
set_option maxRecDepth 100000 in
set_option maxHeartbeats 4000000 in
theorem eqNumbers_at (l : List Int) (A A' : Option Addr) (c c' : Nat) (B : Nat) (w : World) (hB : B ≤ w.heap.size) (hv : LongsAt w B l (.slice A l.length c)) (hu : LongsAt w B l (.slice A' l.length c')) :
    Calls Tryd.prog 6 #[.slice A l.length c, .slice A' l.length c'] w fun e w' => e = .returned (.bool true) ∧ Below w.heap.size w w' := by
  have hlm := (SliceAt.len hv).2
  have hb0 : ((l.length : Int) != (l.length : Int)) = false := by simp
  have HA := Lib.hid hv
  have HA' := Lib.hid hu
  clear hv hu
  go_enter Tryd.func6, Tryd.ntmps6
  go_wp2_with fail
  go_loopw [5] (fun i wr => ∃ k : Nat, k ≤ l.length ∧ i = .int .i64 k ∧ Below w.heap.size w wr) (fun i _ => l.length - (intOf i).toNat)
  case atStart => exact ⟨0, by omega, rfl, Below.refl _ _⟩
  case round =>
    obtain ⟨k, hk2, rfl, hbw⟩ := hrel
    by_cases hlt : k < l.length
    · obtain ⟨b, off, x, rfl, hb, hx, e1, _⟩ := SliceAt.get (LongsAt.below HA.out (hbw.mono hB) (Nat.le_refl _)) hlt
      obtain ⟨b', off', x', rfl, hb', hx', e2, _⟩ := SliceAt.get (LongsAt.below HA'.out (hbw.mono hB) (Nat.le_refl _)) hlt
      obtain rfl : x = x' := Option.some.inj (hx.symm.trans hx')
      simp only [Nat.add_zero, Nat.mul_one] at e1 e2
      have hklt : (k : Int) < (l.length : Int) := by omega
      have hxx : (x != x) = false := by simp
      clear hx hx'
      go_wp2_with fail
      go_quiet (fail)
      go_wp2_with fail
      go_roundw
      case rel => exact ⟨k + 1, by omega, by go_num, below_drewN hbw _⟩
      case measure => simp [intOf]; omega
    · obtain rfl : k = l.length := by omega
      go_wp2_with fail
      go_ret
      exact ⟨rfl, hbw⟩
set_option maxRecDepth 100000 in
set_option maxHeartbeats 4000000 in
theorem eqObj_any (x : ObS) (B : Nat) (w : World) (c c' : Nat → Option Value) (v0 v1 v2 u0 u1 u2 : Value) (hB : B ≤ w.heap.size) (hx : ObE w B c x) (hy : ObE w B c' x) (k0 : c 0 = some v0) (m0 : c' 0 = some u0) (k1 : c 1 = some v1) (m1 : c' 1 = some u1) (k2 : c 2 = some v2) (m2 : c' 2 = some u2) :
    Calls Tryd.prog 47 #[.agg #[v0, v1, v2], .agg #[u0, u1, u2]] w fun e w' => e = .returned (.bool true) ∧ Below w.heap.size w w' := by
  obtain ⟨A2, c2, h0, h1, h2, r2, i0, i1⟩ := hx.shape
  obtain ⟨A2s, c2s, g0, g1, g2, r2s, i0s, i1s⟩ := hy.shape
  rw [h0] at k0; injection k0 with k0; subst k0
  rw [g0] at m0; injection m0 with m0; subst m0
  rw [h1] at k1; injection k1 with k1; subst k1
  rw [g1] at m1; injection m1 with m1; subst m1
  rw [h2] at k2; injection k2 with k2; subst k2
  rw [g2] at m2; injection m2 with m2; subst m2
  have e0 : (x.size == x.size) = true := by simp
  have e1 : (x.count == x.count) = true := by simp
  have HC2 := Lib.hid (fun W (hb : Below w.heap.size w W) => eqLongs_at x.init A2 A2s c2 c2s B W (by have := hb.size; omega) (r2.below (hb.mono hB) (Nat.le_refl _)) (r2s.below (hb.mono hB) (Nat.le_refl _)))
  have HB := Lib.hid (below2 w (.cells #[.int .i64 x.size, .int .i64 x.count, .slice A2 x.init.length c2] 67) (.cells #[.int .i64 x.size, .int .i64 x.count, .slice A2s x.init.length c2s] 67))
  clear hx hy h0 g0 h1 g1 h2 g2 r2 r2s i0 i0s i1 i1s
  go_enter Tryd.func47, Tryd.ntmps47
  refine wp_letter (fun Q hQ => ?_)
  have HQ := Lib.hid hQ
  clear hQ
  go_wp2_with fail
  refine (HC2.out _ (by exact HB.out)).mono ?_
  rintro e w1 ⟨rfl, hb0⟩
  have hz0 : w.heap.size + 1 + 1 ≤ w1.heap.size := by have := hb0.size; first | omega | (simp at this; omega)
  have HB0 := Lib.hid (HB.out.trans (hb0.mono (by first | omega | (simp <;> omega))))
  clear hb0
  go_wp2_with fail
  refine HQ.out _ _ _ ?_
  exact bodyPost_ret (v := .bool true) (by simp [results, Tryd.results47, go_sem]) rfl ⟨rfl, HB0.out⟩
set_option maxRecDepth 100000 in
set_option maxHeartbeats 4000000 in
theorem eqObjs_any (l : List ObS) (A A' : Option Addr) (cap cap' : Nat) (B : Nat) (w : World) (hB : B ≤ w.heap.size) (hv : SliceAt w B 3 (ObE w B) l (.slice A l.length cap)) (hu : SliceAt w B 3 (ObE w B) l (.slice A' l.length cap')) :
    Calls Tryd.prog 31 #[.slice A l.length cap, .slice A' l.length cap'] w fun e w' => e = .returned (.bool true) ∧ Below w.heap.size w w' := by
  have hlm := (SliceAt.len hv).2
  have hb0 : ((l.length : Int) != (l.length : Int)) = false := by simp
  have HA := Lib.hid hv
  have HA' := Lib.hid hu
  clear hv hu
  go_enter Tryd.func31, Tryd.ntmps31
  go_wp2_with fail
  go_loopw [5] (fun i wr => ∃ k : Nat, k ≤ l.length ∧ i = .int .i64 k ∧ Below w.heap.size w wr) (fun i _ => l.length - (intOf i).toNat)
  case atStart => exact ⟨0, by omega, rfl, Below.refl _ _⟩
  case round =>
    obtain ⟨k, hk2, rfl, hbw⟩ := hrel
    by_cases hlt : k < l.length
    · obtain ⟨b, off, x, rfl, hb, hk1, hx⟩ := (HA.out.below (hbw.mono hB) (Nat.le_refl _) (fun _ _ h => h.below (hbw.mono hB) (Nat.le_refl _))).get hlt
      obtain ⟨b', off', x', rfl, hb', hk1', hy⟩ := (HA'.out.below (hbw.mono hB) (Nat.le_refl _) (fun _ _ h => h.below (hbw.mono hB) (Nat.le_refl _))).get hlt
      obtain rfl : x = x' := Option.some.inj (hk1.symm.trans hk1')
      obtain ⟨A2, c2, h0, h1, h2, r2, i0, i1⟩ := hx.shape
      obtain ⟨A2s, c2s, g0, g1, g2, r2s, i0s, i1s⟩ := hy.shape
      have HC := Lib.hid (fun W (hb : Below wr.heap.size wr W) => eqObj_any x B W _ _ (.int .i64 x.size) (.int .i64 x.count) (.slice A2 x.init.length c2) (.int .i64 x.size) (.int .i64 x.count) (.slice A2s x.init.length c2s) (by have := hb.size; have := hbw.size; omega) (hx.below (hb.mono (by have := hbw.size; omega)) (Nat.le_refl _)) (hy.below (hb.mono (by have := hbw.size; omega)) (Nat.le_refl _)) h0 g0 h1 g1 h2 g2)
      simp only [Nat.add_zero] at h0 g0 h1 g1 h2 g2
      have hklt : (k : Int) < (l.length : Int) := by omega
      clear hk1 hk1' hx hy r2 r2s i0 i0s i1 i1s
      go_wp2
      go_still_tail 8, (by kernel_rfl)
      go_wp2_with fail
      refine (HC.out _ (Below.refl _ _).drew).mono ?_
      rintro e w1 ⟨rfl, hb1⟩
      go_wp2_with fail
      go_roundw
      case rel => exact ⟨k + 1, by omega, by go_num, hbw.drew.trans (hb1.mono (show w.heap.size ≤ wr.drew.heap.size from hbw.size))⟩
      case measure => simp [intOf]; omega
    · obtain rfl : k = l.length := by omega
      go_wp2_with fail
      go_ret
      exact ⟨rfl, hbw⟩
set_option maxRecDepth 100000 in
set_option maxHeartbeats 4000000 in
theorem eqIns_any (x : InsS) (B : Nat) (w : World) (c c' : Nat → Option Value) (v0 v1 v2 v3 v4 v5 u0 u1 u2 u3 u4 u5 : Value) (hB : B ≤ w.heap.size) (hx : InsE w B c x) (hy : InsE w B c' x) (k0 : c 0 = some v0) (m0 : c' 0 = some u0) (k1 : c 1 = some v1) (m1 : c' 1 = some u1) (k2 : c 2 = some v2) (m2 : c' 2 = some u2) (k3 : c 3 = some v3) (m3 : c' 3 = some u3) (k4 : c 4 = some v4) (m4 : c' 4 = some u4) (k5 : c 5 = some v5) (m5 : c' 5 = some u5) :
    Calls Tryd.prog 48 #[.agg #[v0, v1, v2, v3, v4, v5], .agg #[u0, u1, u2, u3, u4, u5]] w fun e w' => e = .returned (.bool true) ∧ Below w.heap.size w w' := by
  obtain ⟨A5, c5, h0, h1, h2, h3, h4, h5, r5, i0, i1, i2, i3, i4⟩ := hx.shape
  obtain ⟨A5s, c5s, g0, g1, g2, g3, g4, g5, r5s, i0s, i1s, i2s, i3s, i4s⟩ := hy.shape
  rw [h0] at k0; injection k0 with k0; subst k0
  rw [g0] at m0; injection m0 with m0; subst m0
  rw [h1] at k1; injection k1 with k1; subst k1
  rw [g1] at m1; injection m1 with m1; subst m1
  rw [h2] at k2; injection k2 with k2; subst k2
  rw [g2] at m2; injection m2 with m2; subst m2
  rw [h3] at k3; injection k3 with k3; subst k3
  rw [g3] at m3; injection m3 with m3; subst m3
  rw [h4] at k4; injection k4 with k4; subst k4
  rw [g4] at m4; injection m4 with m4; subst m4
  rw [h5] at k5; injection k5 with k5; subst k5
  rw [g5] at m5; injection m5 with m5; subst m5
  have e0 : (x.op == x.op) = true := by simp
  have e1 : (x.dst == x.dst) = true := by simp
  have e2 : (x.a == x.a) = true := by simp
  have e3 : (x.b == x.b) = true := by simp
  have e4 : (x.n == x.n) = true := by simp
  have HC5 := Lib.hid (fun W (hb : Below w.heap.size w W) => eqNumbers_at x.arg A5 A5s c5 c5s B W (by have := hb.size; omega) (r5.below (hb.mono hB) (Nat.le_refl _)) (r5s.below (hb.mono hB) (Nat.le_refl _)))
  have HB := Lib.hid (below2 w (.cells #[.int .i64 x.op, .int .i64 x.dst, .int .i64 x.a, .int .i64 x.b, .int .i64 x.n, .slice A5 x.arg.length c5] 38) (.cells #[.int .i64 x.op, .int .i64 x.dst, .int .i64 x.a, .int .i64 x.b, .int .i64 x.n, .slice A5s x.arg.length c5s] 38))
  clear hx hy h0 g0 h1 g1 h2 g2 h3 g3 h4 g4 h5 g5 r5 r5s i0 i0s i1 i1s i2 i2s i3 i3s i4 i4s
  go_enter Tryd.func48, Tryd.ntmps48
  refine wp_letter (fun Q hQ => ?_)
  have HQ := Lib.hid hQ
  clear hQ
  go_wp2_with fail
  refine (HC5.out _ (by exact HB.out)).mono ?_
  rintro e w1 ⟨rfl, hb0⟩
  have hz0 : w.heap.size + 1 + 1 ≤ w1.heap.size := by have := hb0.size; first | omega | (simp at this; omega)
  have HB0 := Lib.hid (HB.out.trans (hb0.mono (by first | omega | (simp <;> omega))))
  clear hb0
  go_wp2_with fail
  refine HQ.out _ _ _ ?_
  exact bodyPost_ret (v := .bool true) (by simp [results, Tryd.results48, go_sem]) rfl ⟨rfl, HB0.out⟩
set_option maxRecDepth 100000 in
set_option maxHeartbeats 4000000 in
theorem eqInss_any (l : List InsS) (A A' : Option Addr) (cap cap' : Nat) (B : Nat) (w : World) (hB : B ≤ w.heap.size) (hv : SliceAt w B 6 (InsE w B) l (.slice A l.length cap)) (hu : SliceAt w B 6 (InsE w B) l (.slice A' l.length cap')) :
    Calls Tryd.prog 32 #[.slice A l.length cap, .slice A' l.length cap'] w fun e w' => e = .returned (.bool true) ∧ Below w.heap.size w w' := by
  have hlm := (SliceAt.len hv).2
  have hb0 : ((l.length : Int) != (l.length : Int)) = false := by simp
  have HA := Lib.hid hv
  have HA' := Lib.hid hu
  clear hv hu
  go_enter Tryd.func32, Tryd.ntmps32
  go_wp2_with fail
  go_loopw [5] (fun i wr => ∃ k : Nat, k ≤ l.length ∧ i = .int .i64 k ∧ Below w.heap.size w wr) (fun i _ => l.length - (intOf i).toNat)
  case atStart => exact ⟨0, by omega, rfl, Below.refl _ _⟩
  case round =>
    obtain ⟨k, hk2, rfl, hbw⟩ := hrel
    by_cases hlt : k < l.length
    · obtain ⟨b, off, x, rfl, hb, hk1, hx⟩ := (HA.out.below (hbw.mono hB) (Nat.le_refl _) (fun _ _ h => h.below (hbw.mono hB) (Nat.le_refl _))).get hlt
      obtain ⟨b', off', x', rfl, hb', hk1', hy⟩ := (HA'.out.below (hbw.mono hB) (Nat.le_refl _) (fun _ _ h => h.below (hbw.mono hB) (Nat.le_refl _))).get hlt
      obtain rfl : x = x' := Option.some.inj (hk1.symm.trans hk1')
      obtain ⟨A5, c5, h0, h1, h2, h3, h4, h5, r5, i0, i1, i2, i3, i4⟩ := hx.shape
      obtain ⟨A5s, c5s, g0, g1, g2, g3, g4, g5, r5s, i0s, i1s, i2s, i3s, i4s⟩ := hy.shape
      have HC := Lib.hid (fun W (hb : Below wr.heap.size wr W) => eqIns_any x B W _ _ (.int .i64 x.op) (.int .i64 x.dst) (.int .i64 x.a) (.int .i64 x.b) (.int .i64 x.n) (.slice A5 x.arg.length c5) (.int .i64 x.op) (.int .i64 x.dst) (.int .i64 x.a) (.int .i64 x.b) (.int .i64 x.n) (.slice A5s x.arg.length c5s) (by have := hb.size; have := hbw.size; omega) (hx.below (hb.mono (by have := hbw.size; omega)) (Nat.le_refl _)) (hy.below (hb.mono (by have := hbw.size; omega)) (Nat.le_refl _)) h0 g0 h1 g1 h2 g2 h3 g3 h4 g4 h5 g5)
      simp only [Nat.add_zero] at h0 g0 h1 g1 h2 g2 h3 g3 h4 g4 h5 g5
      have hklt : (k : Int) < (l.length : Int) := by omega
      clear hk1 hk1' hx hy r5 r5s i0 i0s i1 i1s i2 i2s i3 i3s i4 i4s
      go_wp2
      go_still_tail 8, (by kernel_rfl)
      go_wp2_with fail
      refine (HC.out _ (Below.refl _ _).drew).mono ?_
      rintro e w1 ⟨rfl, hb1⟩
      go_wp2_with fail
      go_roundw
      case rel => exact ⟨k + 1, by omega, by go_num, hbw.drew.trans (hb1.mono (show w.heap.size ≤ wr.drew.heap.size from hbw.size))⟩
      case measure => simp [intOf]; omega
    · obtain rfl : k = l.length := by omega
      go_wp2_with fail
      go_ret
      exact ⟨rfl, hbw⟩
set_option maxRecDepth 100000 in
set_option maxHeartbeats 4000000 in
theorem eqCode_any (x : CodeS) (B : Nat) (w : World) (c c' : Nat → Option Value) (v0 v1 v2 v3 u0 u1 u2 u3 : Value) (hB : B ≤ w.heap.size) (hx : CodeE w B c x) (hy : CodeE w B c' x) (k0 : c 0 = some v0) (m0 : c' 0 = some u0) (k1 : c 1 = some v1) (m1 : c' 1 = some u1) (k2 : c 2 = some v2) (m2 : c' 2 = some u2) (k3 : c 3 = some v3) (m3 : c' 3 = some u3) :
    Calls Tryd.prog 17 #[.agg #[v0, v1, v2, v3], .agg #[u0, u1, u2, u3]] w fun e w' => e = .returned (.bool true) ∧ Below w.heap.size w w' := by
  obtain ⟨A2, c2, A3, c3, h0, h1, h2, h3, r2, r3, i0, i1⟩ := hx.shape
  obtain ⟨A2s, c2s, A3s, c3s, g0, g1, g2, g3, r2s, r3s, i0s, i1s⟩ := hy.shape
  rw [h0] at k0; injection k0 with k0; subst k0
  rw [g0] at m0; injection m0 with m0; subst m0
  rw [h1] at k1; injection k1 with k1; subst k1
  rw [g1] at m1; injection m1 with m1; subst m1
  rw [h2] at k2; injection k2 with k2; subst k2
  rw [g2] at m2; injection m2 with m2; subst m2
  rw [h3] at k3; injection k3 with k3; subst k3
  rw [g3] at m3; injection m3 with m3; subst m3
  have e0 : (x.params == x.params) = true := by simp
  have e1 : (x.regs == x.regs) = true := by simp
  have HC2 := Lib.hid (fun W (hb : Below w.heap.size w W) => eqObjs_any x.locs A2 A2s c2 c2s B W (by have := hb.size; omega) (r2.below (hb.mono hB) (Nat.le_refl _) (fun _ _ h => h.below (hb.mono hB) (Nat.le_refl _))) (r2s.below (hb.mono hB) (Nat.le_refl _) (fun _ _ h => h.below (hb.mono hB) (Nat.le_refl _))))
  have HC3 := Lib.hid (fun W (hb : Below w.heap.size w W) => eqInss_any x.ins A3 A3s c3 c3s B W (by have := hb.size; omega) (r3.below (hb.mono hB) (Nat.le_refl _) (fun _ _ h => h.below (hb.mono hB) (Nat.le_refl _))) (r3s.below (hb.mono hB) (Nat.le_refl _) (fun _ _ h => h.below (hb.mono hB) (Nat.le_refl _))))
  have HB := Lib.hid (below2 w (.cells #[.int .i64 x.params, .int .i64 x.regs, .slice A2 x.locs.length c2, .slice A3 x.ins.length c3] 33) (.cells #[.int .i64 x.params, .int .i64 x.regs, .slice A2s x.locs.length c2s, .slice A3s x.ins.length c3s] 33))
  clear hx hy h0 g0 h1 g1 h2 g2 h3 g3 r2 r2s r3 r3s i0 i0s i1 i1s
  go_enter Tryd.func17, Tryd.ntmps17
  refine wp_letter (fun Q hQ => ?_)
  have HQ := Lib.hid hQ
  clear hQ
  go_wp2_with fail
  refine (HC2.out _ (by exact HB.out)).mono ?_
  rintro e w1 ⟨rfl, hb0⟩
  have hz0 : w.heap.size + 1 + 1 ≤ w1.heap.size := by have := hb0.size; first | omega | (simp at this; omega)
  have p03 : w1.cell? ⟨w.heap.size, 3, none⟩ = some (.slice A3 x.ins.length c3) := cell_below (by simp [go_sem]) hb0 (by first | omega | (simp <;> omega))
  have q03 : w1.cell? ⟨w.heap.size + 1, 3, none⟩ = some (.slice A3s x.ins.length c3s) := cell_below (by simp [go_sem]) hb0 (by first | omega | (simp <;> omega))
  have HB0 := Lib.hid (HB.out.trans (hb0.mono (by first | omega | (simp <;> omega))))
  clear hb0
  go_wp2_with fail
  refine (HC3.out _ (by exact HB0.out)).mono ?_
  rintro e w2 ⟨rfl, hb1⟩
  have hz1 : w.heap.size + 1 + 1 ≤ w2.heap.size := by have := hb1.size; first | omega | (simp at this; omega)
  have HB1 := Lib.hid (HB0.out.trans (hb1.mono (by first | omega | (simp <;> omega))))
  clear hb1
  go_wp2_with fail
  refine HQ.out _ _ _ ?_
  exact bodyPost_ret (v := .bool true) (by simp [results, Tryd.results17, go_sem]) rfl ⟨rfl, HB1.out⟩
end Go.Proofs.YtlenilbkifofjaaDoor
