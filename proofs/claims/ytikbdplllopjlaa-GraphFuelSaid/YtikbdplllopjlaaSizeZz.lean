/- size, May: whether a tree may be, as the program asks. Conditions: as stated. -/
import Derived.Test.YtikbdplllopjlaaQ09Zz
set_option linter.unusedVariables false
set_option linter.unusedSimpArgs false
namespace Go.Proofs.Ytikbdplllopjlaa
open Go.RowKit

mutual
def szF : T → Int → Int
  | .node op x ks, most => if badN op x ks.length = true ∨ most < 1 then -1 else szsF ks most 1
def szsF : List T → Int → Int → Int
  | [], _, n => n
  | k :: ks, most, n => if szF k (most - n) < 0 then -1 else szsF ks most (n + szF k (most - n))
end
mutual
theorem szF_bd : ∀ (t : T) (most : Int), szF t most = -1 ∨ 1 ≤ szF t most ∧ szF t most ≤ most
  | .node op x ks, most => by
    unfold szF
    split
    · exact Or.inl rfl
    · rename_i h
      have h1 : 1 ≤ most := by
        rcases Int.lt_or_le most 1 with h' | h'
        · exact absurd (Or.inr h') h
        · exact h'
      exact szsF_bd ks most 1 (by omega) h1
theorem szsF_bd : ∀ (ks : List T) (most n : Int), 1 ≤ n → n ≤ most → szsF ks most n = -1 ∨ 1 ≤ szsF ks most n ∧ szsF ks most n ≤ most
  | [], most, n, h0, h1 => by unfold szsF; exact Or.inr ⟨h0, h1⟩
  | k :: ks, most, n, h0, h1 => by
    unfold szsF
    have hk := szF_bd k (most - n)
    split
    · exact Or.inl rfl
    · rename_i h
      rcases hk with hk | hk
      · omega
      · exact szsF_bd ks most _ (by omega) (by omega)
end

def SzSaid (m : Nat) : Prop := ∀ (t : T) (most : Int) (B : Nat) (w : World) (v0 v1 v2 : Value), t.size ≤ m → B ≤ w.heap.size → TreeAt w (Under B) t v0 v1 v2 → -1000 ≤ most → most ≤ 1000 →
    Calls Try.prog 56 #[.agg #[v0, v1, v2], .int .i64 most] w fun e w' => e = .returned (.int .i64 (szF t most)) ∧ Below w.heap.size w w'

set_option maxRecDepth 100000 in
set_option maxHeartbeats 8000000 in
theorem sz_all (m : Nat) : SzSaid m := by
  induction m with
  | zero => intro t _ _ _ _ _ _ hm; have := t.size_pos; omega
  | succ m ih =>
    rintro ⟨op, x, ks⟩ most B w v0 v1 v2 hm hB hv hn0 hn1
    obtain ⟨A, cap, len, rfl, rfl, _, _, rfl, hk⟩ := KidsV.of_tree hv
    simp only [T.size] at hm
    have hlen := hk.1
    have hlm := hk.2.1
    have HI := Lib.hid (fun W => is_any op W)
    have HA := Lib.hid (fun W => arity_any op W)
    have HL := Lib.hid (fun W => leaf_any op W)
    unfold leafB at HL
    by_cases h1 : 1 ≤ op ∧ op ≤ 36
    · rw [decide_eq_true h1] at HI
      have hka : kidsI op = arityI op := by
        unfold kidsI arityI
        (repeat' split) <;> omega
      by_cases h2 : (len : Int) = arityI op
      · have e2 : ((len : Int) != arityI op) = false := by simp [h2]
        by_cases h3 : 1 ≤ op ∧ op ≤ 4
        · rw [decide_eq_true h3] at HL
          by_cases h4 : op = 1
          · have e4 : (op != 1) = false := by simpa using h4
            have HB := Lib.hid (show badN op x ks.length = false by simp [badN, hlen, hka, h2]; omega)
            clear h1 h2 h3 h4 hka
            by_cases hm1 : most < 1
            · have hr : szF (.node op x ks) most = -1 := by unfold szF; rw [if_pos (Or.inr hm1)]
              rw [hr]
              have dm : decide (most < 1) = true := by simpa using hm1
              clear hv hk ih hm hr hm1
              go_enter Try.func56, Try.ntmps56
              go_wp2_with fail
              go_quiet ((first | (go_at_call 61; exact Calls.quiet_of_same ((HI.out _).mono fun _ _ h => ⟨h.1, h.2.symm⟩)) | (go_at_call 62; exact Calls.quiet_of_same ((HA.out _).mono fun _ _ h => ⟨h.1, h.2.symm⟩)) | (go_at_call 63; exact Calls.quiet_of_same ((HL.out _).mono fun _ _ h => ⟨h.1, h.2.symm⟩))))
              go_wp2_with fail
              go_ret
              exact ⟨rfl, below_drewN (below1 _ _) _⟩
            · have hr : szF (.node op x ks) most = szsF ks most 1 := by unfold szF; rw [if_neg (by simp [HB.out]; omega)]
              rw [hr]
              have dm : decide (most < 1) = false := by simpa using hm1
              have hm2 : 1 ≤ most := by omega
              have HK := Lib.hid hk
              have IH := Lib.hid ih
              clear hv hk ih hr hm1
              go_enter Try.func56, Try.ntmps56
              go_wp2_with fail
              go_quiet ((first | (go_at_call 61; exact Calls.quiet_of_same ((HI.out _).mono fun _ _ h => ⟨h.1, h.2.symm⟩)) | (go_at_call 62; exact Calls.quiet_of_same ((HA.out _).mono fun _ _ h => ⟨h.1, h.2.symm⟩)) | (go_at_call 63; exact Calls.quiet_of_same ((HL.out _).mono fun _ _ h => ⟨h.1, h.2.symm⟩))))
              go_wp2_with fail
              go_loopw [5, 55] (fun a i wr => ∃ (k : Nat) (n : Int), k ≤ len ∧ i = .int .i64 k ∧ a = .int .i64 n ∧ 1 ≤ n ∧ n ≤ most ∧ szsF (ks.drop k) most n = szsF ks most 1 ∧ Below w.heap.size w wr) (fun _ i _ => len - (intOf i).toNat)
              case atStart => exact ⟨0, 1, by omega, rfl, rfl, by omega, by omega, rfl, below_drewN (below1 _ _) _⟩
              case round =>
                obtain ⟨k, n, hk2, rfl, rfl, hm0, hm1', hcs, hbw⟩ := hrel
                have HCS := Lib.hid hcs
                clear hcs
                have hzw := hbw.size
                by_cases hlt : k < len
                · obtain ⟨b, off, t, v0, v1, v2, rfl, hb, hk1, c0, c1, c2, ht⟩ := (HK.out.below (hbw.mono hB) (Nat.le_refl _)).get hlt
                  have hsz : t.size ≤ m := Nat.le_trans (T.sizes_get hk1) (by omega)
                  have hbd := szF_bd t (most - n)
                  have HC := Lib.hid (fun W (hb : Below wr.heap.size wr W) => IH.out t (most - n) B W v0 v1 v2 hsz (by have := hb.size; omega) (ht.below (hb.mono (by omega)) (Nat.le_refl _)) (by omega) (by omega))
                  have HD := Lib.hid (show szsF (ks.drop k) most n = if szF t (most - n) < 0 then -1 else szsF (ks.drop (k + 1)) most (n + szF t (most - n)) from by rw [drop_of hk1]; rfl)
                  have hklt : (k : Int) < (len : Int) := by omega
                  have hbl : b < wr.heap.size := by omega
                  obtain ⟨a0, b0, A0, n0, cc0, rfl, rfl, rfl⟩ := ht.shape0
                  obtain ⟨q, hq⟩ : ∃ q, q = szF t (most - n) := ⟨_, rfl⟩
                  rw [← hq] at HC HD hbd
                  clear hk1 ht hq hsz
                  by_cases hq0 : q < 0
                  · have HE := Lib.hid (show szsF ks most 1 = -1 by rw [← HCS.out, HD.out, if_pos hq0])
                    go_wp2_with fail
                    refine (HC.out _ (below1 _ _)).mono ?_
                    rintro e w1 ⟨rfl, hb1⟩
                    have HB1 := Lib.hid ((below1 wr (.cells #[.int .i64 a0, .int .i64 b0, .slice A0 n0 cc0] 62)).trans (hb1.mono (by simp)))
                    clear hb1
                    go_wp2_with fail
                    go_ret
                    exact ⟨by rw [HE.out]; rfl, hbw.trans (HB1.out.mono hzw)⟩
                  · have hq1 : 1 ≤ q ∧ q ≤ most - n := by rcases hbd with h | h <;> omega
                    obtain ⟨hq1, hq2⟩ := hq1
                    have HD2 := Lib.hid (HD.out.trans (if_neg hq0))
                    go_wp2_with fail
                    refine (HC.out _ (below1 _ _)).mono ?_
                    rintro e w1 ⟨rfl, hb1⟩
                    have HB1 := Lib.hid ((below1 wr (.cells #[.int .i64 a0, .int .i64 b0, .slice A0 n0 cc0] 62)).trans (hb1.mono (by simp)))
                    clear hb1
                    go_wp2_with fail
                    go_roundw
                    case rel => exact ⟨k + 1, n + q, by omega, by go_num, rfl, by omega, by omega, by rw [← HCS.out, HD2.out], hbw.trans (HB1.out.mono hzw)⟩
                    case measure => simp [intOf]; omega
                · obtain rfl : k = len := by omega
                  have HE := Lib.hid (show szsF ks most 1 = n by rw [← HCS.out, drop_nil_of (by omega)]; rfl)
                  go_wp2_with fail
                  go_ret
                  exact ⟨by rw [HE.out]; rfl, hbw⟩
          · have e4 : (op != 1) = true := by simpa using h4
            by_cases h5 : x < 0
            · have e5 : decide (x < 0) = true := by simpa using h5
              have hb : badN op x ks.length = true := by simp [badN]; omega
              have hr : szF (.node op x ks) most = -1 := by unfold szF; rw [if_pos (Or.inl hb)]
              rw [hr]
              clear hv hk ih hm hr hb
              go_enter Try.func56, Try.ntmps56
              go_wp2_with fail
              go_quiet ((first | (go_at_call 61; exact Calls.quiet_of_same ((HI.out _).mono fun _ _ h => ⟨h.1, h.2.symm⟩)) | (go_at_call 62; exact Calls.quiet_of_same ((HA.out _).mono fun _ _ h => ⟨h.1, h.2.symm⟩)) | (go_at_call 63; exact Calls.quiet_of_same ((HL.out _).mono fun _ _ h => ⟨h.1, h.2.symm⟩))))
              go_wp2_with fail
              go_ret
              exact ⟨rfl, below_drewN (below1 _ _) _⟩
            · have e5 : decide (x < 0) = false := by simpa using h5
              have HB := Lib.hid (show badN op x ks.length = false by simp [badN, hlen, hka, h2]; omega)
              clear h1 h2 h3 h4 h5 hka
              by_cases hm1 : most < 1
              · have hr : szF (.node op x ks) most = -1 := by unfold szF; rw [if_pos (Or.inr hm1)]
                rw [hr]
                have dm : decide (most < 1) = true := by simpa using hm1
                clear hv hk ih hm hr hm1
                go_enter Try.func56, Try.ntmps56
                go_wp2_with fail
                go_quiet ((first | (go_at_call 61; exact Calls.quiet_of_same ((HI.out _).mono fun _ _ h => ⟨h.1, h.2.symm⟩)) | (go_at_call 62; exact Calls.quiet_of_same ((HA.out _).mono fun _ _ h => ⟨h.1, h.2.symm⟩)) | (go_at_call 63; exact Calls.quiet_of_same ((HL.out _).mono fun _ _ h => ⟨h.1, h.2.symm⟩))))
                go_wp2_with fail
                go_ret
                exact ⟨rfl, below_drewN (below1 _ _) _⟩
              · have hr : szF (.node op x ks) most = szsF ks most 1 := by unfold szF; rw [if_neg (by simp [HB.out]; omega)]
                rw [hr]
                have dm : decide (most < 1) = false := by simpa using hm1
                have hm2 : 1 ≤ most := by omega
                have HK := Lib.hid hk
                have IH := Lib.hid ih
                clear hv hk ih hr hm1
                go_enter Try.func56, Try.ntmps56
                go_wp2_with fail
                go_quiet ((first | (go_at_call 61; exact Calls.quiet_of_same ((HI.out _).mono fun _ _ h => ⟨h.1, h.2.symm⟩)) | (go_at_call 62; exact Calls.quiet_of_same ((HA.out _).mono fun _ _ h => ⟨h.1, h.2.symm⟩)) | (go_at_call 63; exact Calls.quiet_of_same ((HL.out _).mono fun _ _ h => ⟨h.1, h.2.symm⟩))))
                go_wp2_with fail
                go_loopw [5, 55] (fun a i wr => ∃ (k : Nat) (n : Int), k ≤ len ∧ i = .int .i64 k ∧ a = .int .i64 n ∧ 1 ≤ n ∧ n ≤ most ∧ szsF (ks.drop k) most n = szsF ks most 1 ∧ Below w.heap.size w wr) (fun _ i _ => len - (intOf i).toNat)
                case atStart => exact ⟨0, 1, by omega, rfl, rfl, by omega, by omega, rfl, below_drewN (below1 _ _) _⟩
                case round =>
                  obtain ⟨k, n, hk2, rfl, rfl, hm0, hm1', hcs, hbw⟩ := hrel
                  have HCS := Lib.hid hcs
                  clear hcs
                  have hzw := hbw.size
                  by_cases hlt : k < len
                  · obtain ⟨b, off, t, v0, v1, v2, rfl, hb, hk1, c0, c1, c2, ht⟩ := (HK.out.below (hbw.mono hB) (Nat.le_refl _)).get hlt
                    have hsz : t.size ≤ m := Nat.le_trans (T.sizes_get hk1) (by omega)
                    have hbd := szF_bd t (most - n)
                    have HC := Lib.hid (fun W (hb : Below wr.heap.size wr W) => IH.out t (most - n) B W v0 v1 v2 hsz (by have := hb.size; omega) (ht.below (hb.mono (by omega)) (Nat.le_refl _)) (by omega) (by omega))
                    have HD := Lib.hid (show szsF (ks.drop k) most n = if szF t (most - n) < 0 then -1 else szsF (ks.drop (k + 1)) most (n + szF t (most - n)) from by rw [drop_of hk1]; rfl)
                    have hklt : (k : Int) < (len : Int) := by omega
                    have hbl : b < wr.heap.size := by omega
                    obtain ⟨a0, b0, A0, n0, cc0, rfl, rfl, rfl⟩ := ht.shape0
                    obtain ⟨q, hq⟩ : ∃ q, q = szF t (most - n) := ⟨_, rfl⟩
                    rw [← hq] at HC HD hbd
                    clear hk1 ht hq hsz
                    by_cases hq0 : q < 0
                    · have HE := Lib.hid (show szsF ks most 1 = -1 by rw [← HCS.out, HD.out, if_pos hq0])
                      go_wp2_with fail
                      refine (HC.out _ (below1 _ _)).mono ?_
                      rintro e w1 ⟨rfl, hb1⟩
                      have HB1 := Lib.hid ((below1 wr (.cells #[.int .i64 a0, .int .i64 b0, .slice A0 n0 cc0] 62)).trans (hb1.mono (by simp)))
                      clear hb1
                      go_wp2_with fail
                      go_ret
                      exact ⟨by rw [HE.out]; rfl, hbw.trans (HB1.out.mono hzw)⟩
                    · have hq1 : 1 ≤ q ∧ q ≤ most - n := by rcases hbd with h | h <;> omega
                      obtain ⟨hq1, hq2⟩ := hq1
                      have HD2 := Lib.hid (HD.out.trans (if_neg hq0))
                      go_wp2_with fail
                      refine (HC.out _ (below1 _ _)).mono ?_
                      rintro e w1 ⟨rfl, hb1⟩
                      have HB1 := Lib.hid ((below1 wr (.cells #[.int .i64 a0, .int .i64 b0, .slice A0 n0 cc0] 62)).trans (hb1.mono (by simp)))
                      clear hb1
                      go_wp2_with fail
                      go_roundw
                      case rel => exact ⟨k + 1, n + q, by omega, by go_num, rfl, by omega, by omega, by rw [← HCS.out, HD2.out], hbw.trans (HB1.out.mono hzw)⟩
                      case measure => simp [intOf]; omega
                  · obtain rfl : k = len := by omega
                    have HE := Lib.hid (show szsF ks most 1 = n by rw [← HCS.out, drop_nil_of (by omega)]; rfl)
                    go_wp2_with fail
                    go_ret
                    exact ⟨by rw [HE.out]; rfl, hbw⟩
        · rw [decide_eq_false h3] at HL
          by_cases h5 : x = 0
          · subst h5
            have HB := Lib.hid (show badN op 0 ks.length = false by simp [badN, hlen, hka, h2])
            clear h1 h2 h3 hka
            by_cases hm1 : most < 1
            · have hr : szF (.node op 0 ks) most = -1 := by unfold szF; rw [if_pos (Or.inr hm1)]
              rw [hr]
              have dm : decide (most < 1) = true := by simpa using hm1
              clear hv hk ih hm hr hm1
              go_enter Try.func56, Try.ntmps56
              go_wp2_with fail
              go_quiet ((first | (go_at_call 61; exact Calls.quiet_of_same ((HI.out _).mono fun _ _ h => ⟨h.1, h.2.symm⟩)) | (go_at_call 62; exact Calls.quiet_of_same ((HA.out _).mono fun _ _ h => ⟨h.1, h.2.symm⟩)) | (go_at_call 63; exact Calls.quiet_of_same ((HL.out _).mono fun _ _ h => ⟨h.1, h.2.symm⟩))))
              go_wp2_with fail
              go_ret
              exact ⟨rfl, below_drewN (below1 _ _) _⟩
            · have hr : szF (.node op 0 ks) most = szsF ks most 1 := by unfold szF; rw [if_neg (by simp [HB.out]; omega)]
              rw [hr]
              have dm : decide (most < 1) = false := by simpa using hm1
              have hm2 : 1 ≤ most := by omega
              have HK := Lib.hid hk
              have IH := Lib.hid ih
              clear hv hk ih hr hm1
              go_enter Try.func56, Try.ntmps56
              go_wp2_with fail
              go_quiet ((first | (go_at_call 61; exact Calls.quiet_of_same ((HI.out _).mono fun _ _ h => ⟨h.1, h.2.symm⟩)) | (go_at_call 62; exact Calls.quiet_of_same ((HA.out _).mono fun _ _ h => ⟨h.1, h.2.symm⟩)) | (go_at_call 63; exact Calls.quiet_of_same ((HL.out _).mono fun _ _ h => ⟨h.1, h.2.symm⟩))))
              go_wp2_with fail
              go_loopw [5, 55] (fun a i wr => ∃ (k : Nat) (n : Int), k ≤ len ∧ i = .int .i64 k ∧ a = .int .i64 n ∧ 1 ≤ n ∧ n ≤ most ∧ szsF (ks.drop k) most n = szsF ks most 1 ∧ Below w.heap.size w wr) (fun _ i _ => len - (intOf i).toNat)
              case atStart => exact ⟨0, 1, by omega, rfl, rfl, by omega, by omega, rfl, below_drewN (below1 _ _) _⟩
              case round =>
                obtain ⟨k, n, hk2, rfl, rfl, hm0, hm1', hcs, hbw⟩ := hrel
                have HCS := Lib.hid hcs
                clear hcs
                have hzw := hbw.size
                by_cases hlt : k < len
                · obtain ⟨b, off, t, v0, v1, v2, rfl, hb, hk1, c0, c1, c2, ht⟩ := (HK.out.below (hbw.mono hB) (Nat.le_refl _)).get hlt
                  have hsz : t.size ≤ m := Nat.le_trans (T.sizes_get hk1) (by omega)
                  have hbd := szF_bd t (most - n)
                  have HC := Lib.hid (fun W (hb : Below wr.heap.size wr W) => IH.out t (most - n) B W v0 v1 v2 hsz (by have := hb.size; omega) (ht.below (hb.mono (by omega)) (Nat.le_refl _)) (by omega) (by omega))
                  have HD := Lib.hid (show szsF (ks.drop k) most n = if szF t (most - n) < 0 then -1 else szsF (ks.drop (k + 1)) most (n + szF t (most - n)) from by rw [drop_of hk1]; rfl)
                  have hklt : (k : Int) < (len : Int) := by omega
                  have hbl : b < wr.heap.size := by omega
                  obtain ⟨a0, b0, A0, n0, cc0, rfl, rfl, rfl⟩ := ht.shape0
                  obtain ⟨q, hq⟩ : ∃ q, q = szF t (most - n) := ⟨_, rfl⟩
                  rw [← hq] at HC HD hbd
                  clear hk1 ht hq hsz
                  by_cases hq0 : q < 0
                  · have HE := Lib.hid (show szsF ks most 1 = -1 by rw [← HCS.out, HD.out, if_pos hq0])
                    go_wp2_with fail
                    refine (HC.out _ (below1 _ _)).mono ?_
                    rintro e w1 ⟨rfl, hb1⟩
                    have HB1 := Lib.hid ((below1 wr (.cells #[.int .i64 a0, .int .i64 b0, .slice A0 n0 cc0] 62)).trans (hb1.mono (by simp)))
                    clear hb1
                    go_wp2_with fail
                    go_ret
                    exact ⟨by rw [HE.out]; rfl, hbw.trans (HB1.out.mono hzw)⟩
                  · have hq1 : 1 ≤ q ∧ q ≤ most - n := by rcases hbd with h | h <;> omega
                    obtain ⟨hq1, hq2⟩ := hq1
                    have HD2 := Lib.hid (HD.out.trans (if_neg hq0))
                    go_wp2_with fail
                    refine (HC.out _ (below1 _ _)).mono ?_
                    rintro e w1 ⟨rfl, hb1⟩
                    have HB1 := Lib.hid ((below1 wr (.cells #[.int .i64 a0, .int .i64 b0, .slice A0 n0 cc0] 62)).trans (hb1.mono (by simp)))
                    clear hb1
                    go_wp2_with fail
                    go_roundw
                    case rel => exact ⟨k + 1, n + q, by omega, by go_num, rfl, by omega, by omega, by rw [← HCS.out, HD2.out], hbw.trans (HB1.out.mono hzw)⟩
                    case measure => simp [intOf]; omega
                · obtain rfl : k = len := by omega
                  have HE := Lib.hid (show szsF ks most 1 = n by rw [← HCS.out, drop_nil_of (by omega)]; rfl)
                  go_wp2_with fail
                  go_ret
                  exact ⟨by rw [HE.out]; rfl, hbw⟩
          · have e5 : (x != 0) = true := by simpa using h5
            have hb : badN op x ks.length = true := by simp [badN]; omega
            have hr : szF (.node op x ks) most = -1 := by unfold szF; rw [if_pos (Or.inl hb)]
            rw [hr]
            clear hv hk ih hm hr hb
            go_enter Try.func56, Try.ntmps56
            go_wp2_with fail
            go_quiet ((first | (go_at_call 61; exact Calls.quiet_of_same ((HI.out _).mono fun _ _ h => ⟨h.1, h.2.symm⟩)) | (go_at_call 62; exact Calls.quiet_of_same ((HA.out _).mono fun _ _ h => ⟨h.1, h.2.symm⟩)) | (go_at_call 63; exact Calls.quiet_of_same ((HL.out _).mono fun _ _ h => ⟨h.1, h.2.symm⟩))))
            go_wp2_with fail
            go_ret
            exact ⟨rfl, below_drewN (below1 _ _) _⟩
      · have e2 : ((len : Int) != arityI op) = true := by simpa using h2
        have hb : badN op x ks.length = true := by simp [badN, hlen, hka]; exact Or.inl h2
        have hr : szF (.node op x ks) most = -1 := by unfold szF; rw [if_pos (Or.inl hb)]
        rw [hr]
        clear hv hk ih hm hr hb
        go_enter Try.func56, Try.ntmps56
        go_wp2_with fail
        go_quiet ((first | (go_at_call 61; exact Calls.quiet_of_same ((HI.out _).mono fun _ _ h => ⟨h.1, h.2.symm⟩)) | (go_at_call 62; exact Calls.quiet_of_same ((HA.out _).mono fun _ _ h => ⟨h.1, h.2.symm⟩)) | (go_at_call 63; exact Calls.quiet_of_same ((HL.out _).mono fun _ _ h => ⟨h.1, h.2.symm⟩))))
        go_wp2_with fail
        go_ret
        exact ⟨rfl, below_drewN (below1 _ _) _⟩
    · rw [decide_eq_false h1] at HI
      have hb : badN op x ks.length = true := by simp [badN, kidsI]; rw [if_pos (by omega)]; omega
      have hr : szF (.node op x ks) most = -1 := by unfold szF; rw [if_pos (Or.inl hb)]
      rw [hr]
      clear hv hk ih hm hr hb
      go_enter Try.func56, Try.ntmps56
      go_wp2_with fail
      go_quiet ((first | (go_at_call 61; exact Calls.quiet_of_same ((HI.out _).mono fun _ _ h => ⟨h.1, h.2.symm⟩)) | (go_at_call 62; exact Calls.quiet_of_same ((HA.out _).mono fun _ _ h => ⟨h.1, h.2.symm⟩)) | (go_at_call 63; exact Calls.quiet_of_same ((HL.out _).mono fun _ _ h => ⟨h.1, h.2.symm⟩))))
      go_wp2_with fail
      go_ret
      exact ⟨rfl, below_drewN (below1 _ _) _⟩

def mayB (t : T) : Bool := decide (0 < szF t 200)
theorem may_any (t : T) (B : Nat) (w : World) (v0 v1 v2 : Value) (hB : B ≤ w.heap.size) (hv : TreeAt w (Under B) t v0 v1 v2) :
    Calls Try.prog 47 #[.agg #[v0, v1, v2]] w fun e w' => e = .returned (.bool (mayB t)) ∧ Below w.heap.size w w' := by
  obtain ⟨a, b, A, n, c, rfl, rfl, rfl⟩ := hv.shape0
  have HC := Lib.hid (sz_all t.size t 200 B (w.alloc (.cells #[.int .i64 a, .int .i64 b, .slice A n c] 62)) _ _ _ (Nat.le_refl _) (by simp; omega) (hv.below (below1 w _ |>.mono hB) (Nat.le_refl _)) (by omega) (by omega))
  unfold mayB
  clear hv
  go_enter Try.func47, Try.ntmps47
  go_wp2_with fail
  refine HC.out.mono ?_
  rintro e w1 ⟨rfl, hb1⟩
  go_wp2_with fail
  go_ret
  exact ⟨rfl, (below1 _ _).trans (hb1.mono (by simp))⟩
end Go.Proofs.Ytikbdplllopjlaa
