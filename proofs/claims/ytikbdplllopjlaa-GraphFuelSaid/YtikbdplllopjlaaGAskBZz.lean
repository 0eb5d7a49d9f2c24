/- The graph's asker: names; how it lies. Conditions: as stated. -/
import Derived.Test.YtikbdplllopjlaaQ09Zz
import Derived.Test.YtikbdplllopjlaaQ11Zz
import Derived.Test.YtikbdplllopjlaaQ02Zz
set_option linter.unusedVariables false
set_option linter.unusedSimpArgs false
namespace Go.Proofs.Ytikbdplllopjlaa
open Go.RowKit

mutual
def gnamesB (a b c : Int) : T → Bool
  | .node op x ks => if op = 2 then decide (x < a) else if op = 3 then decide (x < b) else if op = 4 then decide (x < c) else gnamesBs a b c ks
def gnamesBs (a b c : Int) : List T → Bool
  | [] => true
  | k :: ks => gnamesB a b c k && gnamesBs a b c ks
end

/-- The asker's own block: the program, the function, how many nodes so far. -/
structure AskAt where
  ga : Option Addr
  ng : Nat
  gc : Nat
  fa : Option Addr
  nf : Nat
  fc : Nat
  main : Int
  params : Int
  temps : Int
  la : Option Addr
  nl : Nat
  lc : Nat
  ba : Option Addr
  nb : Nat
  bc : Nat
def AskAt.cells (a : AskAt) (n : Int) : Array Value := #[.slice a.ga a.ng a.gc, .slice a.fa a.nf a.fc, .int .i64 a.main, .int .i64 a.params, .int .i64 a.temps, .slice a.la a.nl a.lc, .slice a.ba a.nb a.bc, .int .i64 n]
def ARow (w : World) (ab : Nat) (a : AskAt) (n : Int) : Prop := Row w ab (a.cells n) 76

def GNSaid (a : AskAt) (ab : Nat) (n : Int) (m : Nat) : Prop := ∀ (t : T) (B : Nat) (w : World) (v0 v1 v2 : Value), t.size ≤ m → B ≤ w.heap.size → TreeAt w (Under B) t v0 v1 v2 → ARow w ab a n →
    Calls Try.prog 48 #[.pointer (some ⟨ab, 0, none⟩), .agg #[v0, v1, v2]] w fun e w' => e = .returned (.bool (gnamesB a.temps a.nl a.ng t)) ∧ Below w.heap.size w w'

set_option maxRecDepth 100000 in
set_option maxHeartbeats 8000000 in
theorem gnames_all (a : AskAt) (ab : Nat) (n : Int) (m : Nat) : GNSaid a ab n m := by
  induction m with
  | zero => intro t _ _ _ _ _ hm; have := t.size_pos; omega
  | succ m ih =>
    rintro ⟨op, x, ks⟩ B w v0 v1 v2 hm hB hv hr
    obtain ⟨A, cap, len, rfl, rfl, _, _, rfl, hk⟩ := KidsV.of_tree hv
    simp only [T.size] at hm
    have hlen := hk.1
    have hlm := hk.2.1
    have HK := Lib.hid hk
    have HIH := Lib.hid ih
    have HL := Lib.hid hlen
    have HR := Lib.hid hr
    have r0 : w.cell? ⟨ab, 0, none⟩ = some (.slice a.ga a.ng a.gc) := hr.cell rfl
    have r4 : w.cell? ⟨ab, 4, none⟩ = some (.int .i64 a.temps) := hr.cell rfl
    have r5 : w.cell? ⟨ab, 5, none⟩ = some (.slice a.la a.nl a.lc) := hr.cell rfl
    have hrl := hr.lt
    have hrl1 : ab < w.heap.size + 1 := by omega
    clear hv hk ih hr
    by_cases h2 : op = 2
    · subst h2
      rw [show gnamesB a.temps a.nl a.ng (.node 2 x ks) = decide (x < a.temps) from by simp [gnamesB]]
      go_enter Try.func48, Try.ntmps48
      refine wp_letter (fun Q hQ => ?_)
      have HQ := Lib.hid hQ
      clear hQ
      go_wp2_with fail
      go_region
      go_wp2_with fail
      refine HQ.out _ _ _ ?_
      exact bodyPost_ret (v := .bool (decide (x < a.temps))) (by simp [results, Try.results48, go_sem]) rfl ⟨rfl, (below1 _ _).drew⟩
    · by_cases h3 : op = 3
      · subst h3
        rw [show gnamesB a.temps a.nl a.ng (.node 3 x ks) = decide (x < a.nl) from by simp [gnamesB]]
        go_enter Try.func48, Try.ntmps48
        refine wp_letter (fun Q hQ => ?_)
        have HQ := Lib.hid hQ
        clear hQ
        go_wp2_with fail
        go_region
        go_wp2_with fail
        refine HQ.out _ _ _ ?_
        exact bodyPost_ret (v := .bool (decide (x < a.nl))) (by simp [results, Try.results48, go_sem]) rfl ⟨rfl, (below1 _ _).drew⟩
      · by_cases h4 : op = 4
        · subst h4
          rw [show gnamesB a.temps a.nl a.ng (.node 4 x ks) = decide (x < a.ng) from by simp [gnamesB]]
          go_enter Try.func48, Try.ntmps48
          refine wp_letter (fun Q hQ => ?_)
          have HQ := Lib.hid hQ
          clear hQ
          go_wp2_with fail
          go_region
          go_wp2_with fail
          refine HQ.out _ _ _ ?_
          exact bodyPost_ret (v := .bool (decide (x < a.ng))) (by simp [results, Try.results48, go_sem]) rfl ⟨rfl, (below1 _ _).drew⟩
        · rw [show gnamesB a.temps a.nl a.ng (.node op x ks) = gnamesBs a.temps a.nl a.ng ks from by rw [gnamesB, if_neg h2, if_neg h3, if_neg h4]]
          have e2 : (op == 2) = false := by simpa using h2
          have e3 : (op == 3) = false := by simpa using h3
          have e4 : (op == 4) = false := by simpa using h4
          clear r0 r4 r5
          go_enter Try.func48, Try.ntmps48
          refine wp_letter (fun Q hQ => ?_)
          have HQ := Lib.hid hQ
          clear hQ
          go_wp2_with fail
          go_loopw [44] (fun i wr => ∃ j : Nat, j ≤ len ∧ i = .int .i64 j ∧ gnamesBs a.temps a.nl a.ng (ks.drop j) = gnamesBs a.temps a.nl a.ng ks ∧ Below w.heap.size w wr) (fun i _ => len - (intOf i).toNat)
          case atStart => exact ⟨0, by omega, rfl, rfl, below1 _ _⟩
          case round =>
            obtain ⟨j, hj, rfl, heq, hbw⟩ := hrel
            have hzw := hbw.size
            have HBW := Lib.hid hbw
            have HEQ := Lib.hid heq
            by_cases hlt : j < len
            · obtain ⟨b, off, k, u0, u1, u2, rfl, hb, hk1, k0, k1, k2, ht⟩ := (HK.out.below (hbw.mono hB) (Nat.le_refl _)).get hlt
              obtain ⟨a0, b0, A1, n1, c1, rfl, rfl, rfl⟩ := ht.shape0
              have hks := sizes_next hk1
              have hkt := sizes_take_le ks (j + 1)
              have hkp := k.size_pos
              have HC := Lib.hid (HIH.out k B (wr.alloc (.cells #[.int .i64 a0, .int .i64 b0, .slice A1 n1 c1] 62)) _ _ _ (by omega) (by simp; omega) (ht.below ((below1 wr _).mono (by omega)) (Nat.le_refl _)) ((HR.out.below hbw hrl).alloc _))
              have HK1 := Lib.hid (show gnamesBs a.temps a.nl a.ng (ks.drop j) = (gnamesB a.temps a.nl a.ng k && gnamesBs a.temps a.nl a.ng (ks.drop (j + 1))) by rw [drop_of hk1, gnamesBs])
              have hjl : (j : Int) < (len : Int) := by omega
              have hbl : b < wr.heap.size := by omega
              clear hk1 ht hbw heq hks
              cases hn : gnamesB a.temps a.nl a.ng k with
              | true =>
                have HN := Lib.hid hn
                rw [hn] at HC
                clear hn
                go_wp2_with fail
                refine HC.out.mono ?_
                rintro e w1 ⟨rfl, hb1⟩
                have HB1 := Lib.hid (HBW.out.trans (((below1 wr (.cells #[.int .i64 a0, .int .i64 b0, .slice A1 n1 c1] 62)).trans (hb1.mono (below1 wr _).size)).mono hzw))
                clear hb1
                go_wp2_with fail
                go_roundw
                case rel => exact ⟨j + 1, by omega, by go_num, by have h1 := HEQ.out; rw [HK1.out, HN.out, Bool.true_and] at h1; exact h1, HB1.out⟩
                case measure => simp [intOf]; omega
              | false =>
                have HN := Lib.hid hn
                rw [hn] at HC
                clear hn
                go_wp2_with fail
                refine HC.out.mono ?_
                rintro e w1 ⟨rfl, hb1⟩
                have HB1 := Lib.hid (HBW.out.trans (((below1 wr (.cells #[.int .i64 a0, .int .i64 b0, .slice A1 n1 c1] 62)).trans (hb1.mono (below1 wr _).size)).mono hzw))
                clear hb1
                go_wp2_with fail
                refine HQ.out _ _ _ ?_
                refine bodyPost_ret (v := .bool false) (by simp [results, Try.results48, go_sem]) rfl ⟨?_, HB1.out⟩
                rw [← HEQ.out, HK1.out, HN.out, Bool.false_and]
            · obtain rfl : j = len := by omega
              rw [drop_nil_of (by have := HL.out; omega)] at HEQ
              clear hbw heq
              go_wp2_with fail
              refine HQ.out _ _ _ ?_
              refine bodyPost_ret (v := .bool true) (by simp [results, Try.results48, go_sem]) rfl ⟨?_, HBW.out⟩
              rw [← HEQ.out, gnamesBs]
end Go.Proofs.Ytikbdplllopjlaa
