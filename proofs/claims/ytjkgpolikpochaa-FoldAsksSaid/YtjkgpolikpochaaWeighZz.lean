/- TreeWeight: how much a tree is. Conditions: as stated. -/
import Derived.Test.YtjkgpolikpochaaCntZz
set_option linter.unusedVariables false
set_option linter.unusedSimpArgs false
namespace Go.Proofs.Ytjkgpolikpochaa
open Go.RowKit

mutual
def wgt : T → Int → Int
  | .node _ _ ks, d => if d = 0 then 1048576 else wgts ks d 1
def wgts : List T → Int → Int → Int
  | [], _, n => n
  | k :: ks, d, n => if n < 1048576 then wgts ks d (n + wgt k (d - 1)) else n
end
mutual
theorem wgt_bd : ∀ (t : T) (d : Int), 0 ≤ d → 1 ≤ wgt t d ∧ wgt t d ≤ 1048576 * (d + 1)
  | .node op x ks, d, h => by
    rw [wgt]
    split
    · omega
    · exact wgts_bd ks d 1 (by omega) (by omega) (by omega)
theorem wgts_bd : ∀ (ks : List T) (d n : Int), 1 ≤ d → 1 ≤ n → n ≤ 1048576 * (d + 1) → 1 ≤ wgts ks d n ∧ wgts ks d n ≤ 1048576 * (d + 1)
  | [], d, n, h, h0, h1 => by rw [wgts]; exact ⟨h0, h1⟩
  | k :: ks, d, n, h, h0, h1 => by
    rw [wgts]
    have hk := wgt_bd k (d - 1) (by omega)
    split
    · exact wgts_bd ks d _ h (by omega) (by omega)
    · exact ⟨h0, h1⟩
end
mutual
theorem wgt_size : ∀ (t : T) (d : Int), 0 ≤ d → wgt t d < 1048576 → wgt t d = t.size
  | .node op x ks, d, h, hw => by
    rw [wgt] at hw ⊢
    split at hw
    · omega
    · rename_i hd
      rw [if_neg hd]
      have := wgts_size ks d 1 (by omega) (by omega) hw
      simp only [T.size]
      omega
theorem wgts_size : ∀ (ks : List T) (d n : Int), 1 ≤ d → 0 ≤ n → wgts ks d n < 1048576 → wgts ks d n = n + T.sizes ks
  | [], d, n, h, _, hw => by simp [wgts, T.sizes]
  | k :: ks, d, n, h, h0, hw => by
    rw [wgts] at hw ⊢
    split at hw
    · rename_i hn
      rw [if_pos hn]
      have hk := wgt_bd k (d - 1) (by omega)
      have h1 := wgts_size ks d _ h (by omega) hw
      have hlt : wgt k (d - 1) < 1048576 := by
        rcases Int.lt_or_le (wgt k (d - 1)) 1048576 with h' | h'
        · exact h'
        · have := wgts_ge ks d (n + wgt k (d - 1)) h; omega
      have h2 := wgt_size k (d - 1) (by omega) hlt
      simp only [T.sizes]
      omega
    · omega
theorem wgts_ge : ∀ (ks : List T) (d n : Int), 1 ≤ d → n ≤ wgts ks d n
  | [], d, n, h => by rw [wgts]; exact Int.le_refl _
  | k :: ks, d, n, h => by
    rw [wgts]
    have hk := wgt_bd k (d - 1) (by omega)
    split
    · have := wgts_ge ks d (n + wgt k (d - 1)) h; omega
    · exact Int.le_refl _
end
def WgtSaid (m : Nat) : Prop := ∀ (t : T) (d : Int) (B : Nat) (w : World) (v0 v1 v2 : Value), t.size ≤ m → B ≤ w.heap.size → TreeAt w (Under B) t v0 v1 v2 → 0 ≤ d → d ≤ 1000 →
    Calls Try.prog 21 #[.agg #[v0, v1, v2], .int .i64 d] w fun e w' => e = .returned (.int .i64 (wgt t d)) ∧ Below w.heap.size w w'

set_option maxRecDepth 100000 in
set_option maxHeartbeats 4000000 in
theorem wgt_all (m : Nat) : WgtSaid m := by
  induction m with
  | zero => intro t _ _ _ _ _ _ hm; have := t.size_pos; omega
  | succ m ih =>
    rintro ⟨op, x, ks⟩ d B w v0 v1 v2 hm hB hv hd0 hd1
    obtain ⟨A, cap, len, rfl, rfl, _, _, rfl, hk⟩ := KidsV.of_tree hv
    simp only [T.size] at hm
    have hlen := hk.1
    have hlm := hk.2.1
    by_cases h0 : d = 0
    · subst h0
      have hr : wgt (.node op x ks) 0 = 1048576 := by rw [wgt, if_pos rfl]
      rw [hr]
      clear hv hk ih hm hr
      go_enter Try.func21, Try.ntmps21
      go_wp2_with fail
      go_ret
      exact ⟨rfl, below1 _ _⟩
    · have e0 : (d == 0) = false := by simpa using h0
      have hr : wgt (.node op x ks) d = wgts ks d 1 := by rw [wgt, if_neg h0]
      rw [hr]
      have hd2 : 1 ≤ d := by omega
      have HK := Lib.hid hk
      have IH := Lib.hid ih
      clear hv hk ih hr h0
      go_enter Try.func21, Try.ntmps21
      refine wp_letter (fun Q hQ => ?_)
      have HQ := Lib.hid hQ
      clear hQ
      go_wp2_with fail
      go_loopw [5, 6] (fun a i wr => ∃ (k : Nat) (n : Int), k ≤ len ∧ i = .int .i64 k ∧ a = .int .i64 n ∧ 1 ≤ n ∧ n ≤ 1048576 * (d + 1) ∧ wgts (ks.drop k) d n = wgts ks d 1 ∧ Below w.heap.size w wr ∧ wr.cell? ⟨w.heap.size, 2, none⟩ = some (.slice A len cap) ∧ w.heap.size < wr.heap.size) (fun _ i _ => len - (intOf i).toNat)
      case atStart => exact ⟨0, 1, by omega, rfl, rfl, by omega, by omega, rfl, below1 _ _, by simp [go_sem], by simp [go_sem]⟩
      case round =>
        obtain ⟨k, n, hk2, rfl, rfl, hm0, hm1, hcs, hbw, hc2, hzl⟩ := hrel
        have HCS := Lib.hid hcs
        clear hcs
        have hzw := hbw.size
        by_cases hlt : k < len
        · obtain ⟨b, off, t, v0, v1, v2, rfl, hb, hk1, c0, c1, c2, ht⟩ := (HK.out.below (hbw.mono hB) (Nat.le_refl _)).get hlt
          have hklt : (k : Int) < (len : Int) := by omega
          have hd3 : decide ((k : Int) < (len : Int)) = true := by simpa using hlt
          have HD := Lib.hid (show wgts (ks.drop k) d n = if n < 1048576 then wgts (ks.drop (k + 1)) d (n + wgt t (d - 1)) else n from by rw [drop_of hk1]; rfl)
          have hbl : b < wr.heap.size := by omega
          by_cases hn : n < 1048576
          · have hsz : t.size ≤ m := Nat.le_trans (T.sizes_get hk1) (by omega)
            have hbd := wgt_bd t (d - 1) (by omega)
            have HC := Lib.hid (IH.out t (d - 1) B wr v0 v1 v2 hsz (by omega) ht (by omega) (by omega))
            obtain ⟨q, hq⟩ : ∃ q, q = wgt t (d - 1) := ⟨_, rfl⟩
            rw [← hq] at HC HD hbd
            obtain ⟨hbd0, hbd1⟩ := hbd
            have HD2 := Lib.hid (HD.out.trans (if_pos hn))
            have hd4 : decide (n < 1048576) = true := by simpa using hn
            clear hk1 ht hq hsz HD
            go_wp2_with fail
            refine HC.out.mono ?_
            rintro e w1 ⟨rfl, hb1⟩
            have hc2' : w1.cell? ⟨w.heap.size, 2, none⟩ = some (.slice (some ⟨b, off, none⟩) len cap) := cell_below hc2 hb1 (by omega)
            go_wp2_with fail
            go_roundw
            case rel =>
              exact ⟨k + 1, n + q, by omega, by go_num, rfl, by omega, by omega, by rw [← HCS.out, HD2.out], hbw.trans (hb1.mono hzw), hc2', by have := hb1.size; omega⟩
            case measure => simp [intOf]; omega
          · have HE := Lib.hid (show wgts ks d 1 = n by rw [← HCS.out, HD.out, if_neg hn])
            have hd4 : decide (n < 1048576) = false := by simpa using hn
            clear hk1 ht HD hn
            go_wp2_with fail
            refine HQ.out _ _ _ ?_
            exact bodyPost_ret (v := .int .i64 n) (by simp [results, Try.results21, go_sem]) rfl ⟨by rw [HE.out], hbw⟩
        · obtain rfl : k = len := by omega
          have hd3 : decide ((k : Int) < (k : Int)) = false := by simp
          have HE := Lib.hid (show wgts ks d 1 = n by rw [← HCS.out, drop_nil_of (by omega)]; rfl)
          go_wp2_with fail
          refine HQ.out _ _ _ ?_
          exact bodyPost_ret (v := .int .i64 n) (by simp [results, Try.results21, go_sem]) rfl ⟨by rw [HE.out], hbw⟩
end Go.Proofs.Ytjkgpolikpochaa
