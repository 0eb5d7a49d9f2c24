/- count, Tree: how many nodes a tree has, and whether it may be. Conditions: as stated. -/
import Derived.Test.YtjkgpolikpochaaQ02Zz
set_option linter.unusedVariables false
set_option linter.unusedSimpArgs false
namespace Go.Proofs.Ytjkgpolikpochaa
open Go.RowKit

/-- A node that may not be. -/
def badN (op x : Int) (ks : Nat) : Bool := decide ((ks : Int) ≠ kidsI op ∨ (op > 4 ∧ x ≠ 0) ∨ (op ≠ 1 ∧ x < 0))

mutual
def cnt : T → Int → Int × Bool
  | .node op x ks, n => if n + 1 > 200 ∨ badN op x ks.length = true then (n + 1, false) else cnts ks (n + 1)
def cnts : List T → Int → Int × Bool
  | [], n => (n, true)
  | k :: ks, n => if (cnt k n).2 = false then ((cnt k n).1, false) else cnts ks (cnt k n).1
end

mutual
theorem cnt_bd : ∀ (t : T) (n : Int), 0 ≤ n → n ≤ 200 → n ≤ (cnt t n).1 ∧ (cnt t n).1 ≤ 201 ∧ ((cnt t n).2 = true → (cnt t n).1 ≤ 200)
  | .node op x ks, n, h0, h1 => by
    unfold cnt
    split
    · exact ⟨by simp only; omega, by simp only; omega, fun h => by cases h⟩
    · rename_i h
      have h2 : ¬ n + 1 > 200 := fun h' => h (Or.inl h')
      have := cnts_bd ks (n + 1) (by omega) (by omega)
      exact ⟨by omega, this.2⟩
theorem cnts_bd : ∀ (ks : List T) (n : Int), 0 ≤ n → n ≤ 200 → n ≤ (cnts ks n).1 ∧ (cnts ks n).1 ≤ 201 ∧ ((cnts ks n).2 = true → (cnts ks n).1 ≤ 200)
  | [], n, h0, h1 => by unfold cnts; exact ⟨by simp only; omega, by simp only; omega, fun _ => by simp only; omega⟩
  | k :: ks, n, h0, h1 => by
    unfold cnts
    have hk := cnt_bd k n h0 h1
    split
    · exact ⟨hk.1, hk.2.1, fun h => by cases h⟩
    · rename_i h
      have h2 : (cnt k n).2 = true := by simpa using h
      have := cnts_bd ks (cnt k n).1 (by omega) (hk.2.2 h2)
      exact ⟨by omega, this.2⟩
end

def CntSaid (m : Nat) : Prop := ∀ (t : T) (n : Int) (B : Nat) (w : World) (v0 v1 v2 : Value), t.size ≤ m → B ≤ w.heap.size → TreeAt w (Under B) t v0 v1 v2 → 0 ≤ n → n ≤ 200 →
    Calls Try.prog 25 #[.agg #[v0, v1, v2], .int .i64 n] w fun e w' => e = .returned (.tuple #[.int .i64 (cnt t n).1, .bool (cnt t n).2]) ∧ Below w.heap.size w w'

theorem drop_of {α : Type} {l : List α} {j : Nat} {x : α} (h : l[j]? = some x) : l.drop j = x :: l.drop (j + 1) := by
  have hlt : j < l.length := by
    rcases Nat.lt_or_ge j l.length with h' | h'
    · exact h'
    · rw [List.getElem?_eq_none h'] at h; cases h
  rw [List.drop_eq_getElem_cons hlt]
  rw [List.getElem?_eq_getElem hlt] at h
  injection h with h
  rw [h]
theorem TreeAt.shape0 {w : World} {C : Nat → Nat → Prop} {t : T} {v0 v1 v2 : Value} (h : TreeAt w C t v0 v1 v2) : ∃ a b A n c, v0 = .int .i64 a ∧ v1 = .int .i64 b ∧ v2 = .slice A n c := by
  obtain ⟨op, n, ks⟩ := t
  simp only [TreeAt] at h
  obtain ⟨h0, h1, _, _, _, A, cap, h5, _⟩ := h
  exact ⟨_, _, _, _, _, h0, h1, h5⟩
theorem drop_nil_of {α : Type} {l : List α} {n : Nat} (h : l.length ≤ n) : l.drop n = [] := List.drop_eq_nil_of_le h

set_option maxRecDepth 100000 in
set_option maxHeartbeats 4000000 in
theorem cnt_all (m : Nat) : CntSaid m := by
  induction m with
  | zero => intro t _ _ _ _ _ _ hm; have := t.size_pos; omega
  | succ m ih =>
    rintro ⟨op, x, ks⟩ n B w v0 v1 v2 hm hB hv hn0 hn1
    obtain ⟨A, cap, len, rfl, rfl, _, _, rfl, hk⟩ := KidsV.of_tree hv
    simp only [T.size] at hm
    have hlen := hk.1
    have hlm := hk.2.1
    by_cases h1 : n + 1 > 200
    · have hr : cnt (.node op x ks) n = (n + 1, false) := by unfold cnt; rw [if_pos (Or.inl h1)]
      rw [hr]
      have hd : decide (200 < n + 1) = true := by simpa using h1
      clear hv hk ih hm hr h1
      go_enter Try.func25, Try.ntmps25
      go_wp2_with fail
      go_quiet (fail)
      go_wp2_with fail
      go_ret2
      exact ⟨rfl, below_drewN (below1 _ _) _⟩
    · have hd : decide (200 < n + 1) = false := by simpa using h1
      have hn2 : n + 1 ≤ 200 := by omega
      clear h1
      by_cases h2 : (len : Int) = kidsI op
      · have e2 : ((len : Int) != kidsI op) = false := by simp [h2]
        by_cases h3 : op > 4
        · have d3 : decide (4 < op) = true := by simpa using h3
          have d1 : (op != 1) = true := by simp; omega
          by_cases h4 : x = 0
          · have hr : cnt (.node op x ks) n = cnts ks (n + 1) := by unfold cnt; rw [if_neg (by simp [badN, hlen, h2, h4]; omega)]
            rw [hr]
            subst h4
            have HK := Lib.hid hk
            have IH := Lib.hid ih
            have H2 := Lib.hid h2
            clear hv hk ih hr h2 h3
            go_enter Try.func25, Try.ntmps25
            go_wp2_with fail
            go_quiet ((go_at_call 34; exact Calls.quiet_of_same ((kids_any _ _).mono fun _ _ h => ⟨h.1, h.2.symm⟩)))
            go_wp2_with fail
            go_loopw [1, 6] (fun a i wr => ∃ (k : Nat) (m : Int), k ≤ len ∧ i = .int .i64 k ∧ a = .int .i64 m ∧ 0 ≤ m ∧ m ≤ 200 ∧ cnts (ks.drop k) m = cnts ks (n + 1) ∧ Below w.heap.size w wr ∧ wr.cell? ⟨w.heap.size, 2, none⟩ = some (.slice A len cap) ∧ w.heap.size < wr.heap.size) (fun _ i _ => len - (intOf i).toNat)
            case atStart => exact ⟨0, n + 1, by omega, rfl, rfl, by omega, by omega, rfl, below_drewN (below1 _ _) _, by simp [go_sem], by simp [go_sem]⟩
            case round =>
              obtain ⟨k, m', hk2, rfl, rfl, hm0, hm1, hcs, hbw, hc2, hzl⟩ := hrel
              have HCS := Lib.hid hcs
              clear hcs
              have hzw := hbw.size
              by_cases hlt : k < len
              · obtain ⟨b, off, t, v0, v1, v2, rfl, hb, hk1, c0, c1, c2, ht⟩ := (HK.out.below (hbw.mono hB) (Nat.le_refl _)).get hlt
                have hsz : t.size ≤ m := Nat.le_trans (T.sizes_get hk1) (by omega)
                have hbd := cnt_bd t m' hm0 hm1
                have HC := Lib.hid (IH.out t m' B wr v0 v1 v2 hsz (by omega) ht hm0 hm1)
                have HD := Lib.hid (show cnts (ks.drop k) m' = if (cnt t m').2 = false then ((cnt t m').1, false) else cnts (ks.drop (k + 1)) (cnt t m').1 from by rw [drop_of hk1]; rfl)
                have hklt : (k : Int) < (len : Int) := by omega
                have hbl : b < wr.heap.size := by omega
                obtain ⟨⟨q, ok⟩, hq⟩ : ∃ q, q = cnt t m' := ⟨_, rfl⟩
                rw [← hq] at HC HD hbd
                simp only at hbd
                obtain ⟨hbd0, hbd1, hbd2⟩ := hbd
                clear hk1 ht hq hsz
                cases ok with
                | false =>
                  clear hbd2
                  go_wp2_with fail
                  refine HC.out.mono ?_
                  rintro e w1 ⟨rfl, hb1⟩
                  go_wp2_with fail
                  go_ret2
                  have he : cnts ks (n + 1) = (q, false) := by rw [← HCS.out, HD.out]; simp
                  exact ⟨by rw [he]; rfl, hbw.trans (hb1.mono hzw)⟩
                | true =>
                  have hbd3 := hbd2 rfl
                  clear hbd2
                  go_wp2_with fail
                  refine HC.out.mono ?_
                  rintro e w1 ⟨rfl, hb1⟩
                  have hc2' : w1.cell? ⟨w.heap.size, 2, none⟩ = some (.slice (some ⟨b, off, none⟩) len cap) := cell_below hc2 hb1 (by omega)
                  go_wp2_with fail
                  go_roundw
                  case rel =>
                    refine ⟨k + 1, q, by omega, by go_num, rfl, by omega, hbd3, ?_, hbw.trans (hb1.mono hzw), hc2', by have := hb1.size; omega⟩
                    rw [← HCS.out, HD.out]; simp
                  case measure => simp [intOf]; omega
              · obtain rfl : k = len := by omega
                go_wp2_with fail
                go_ret2
                have he : cnts ks (n + 1) = (m', true) := by rw [← HCS.out, drop_nil_of (by omega)]; rfl
                exact ⟨by rw [he]; rfl, hbw⟩
          · have hr : cnt (.node op x ks) n = (n + 1, false) := by unfold cnt; rw [if_pos (Or.inr (by simp [badN]; exact Or.inr (Or.inl ⟨h3, h4⟩)))]
            rw [hr]
            have d4 : (x != 0) = true := by simpa using h4
            clear hv hk ih hm hr h2 h3 h4
            go_enter Try.func25, Try.ntmps25
            go_wp2_with fail
            go_quiet ((go_at_call 34; exact Calls.quiet_of_same ((kids_any _ _).mono fun _ _ h => ⟨h.1, h.2.symm⟩)))
            go_wp2_with fail
            go_ret2
            exact ⟨rfl, below_drewN (below1 _ _) _⟩
        · have d3 : decide (4 < op) = false := by simpa using h3
          by_cases h5 : op = 1
          · have hr : cnt (.node op x ks) n = cnts ks (n + 1) := by unfold cnt; rw [if_neg (by simp [badN, hlen, h2, h5]; omega)]
            rw [hr]
            have d5 : (op != 1) = false := by simp [h5]
            have HK := Lib.hid hk
            have IH := Lib.hid ih
            clear hv hk ih hr h2 h3 h5
            go_enter Try.func25, Try.ntmps25
            go_wp2_with fail
            go_quiet ((go_at_call 34; exact Calls.quiet_of_same ((kids_any _ _).mono fun _ _ h => ⟨h.1, h.2.symm⟩)))
            go_wp2_with fail
            go_loopw [1, 6] (fun a i wr => ∃ (k : Nat) (m : Int), k ≤ len ∧ i = .int .i64 k ∧ a = .int .i64 m ∧ 0 ≤ m ∧ m ≤ 200 ∧ cnts (ks.drop k) m = cnts ks (n + 1) ∧ Below w.heap.size w wr ∧ wr.cell? ⟨w.heap.size, 2, none⟩ = some (.slice A len cap) ∧ w.heap.size < wr.heap.size) (fun _ i _ => len - (intOf i).toNat)
            case atStart => exact ⟨0, n + 1, by omega, rfl, rfl, by omega, by omega, rfl, below_drewN (below1 _ _) _, by simp [go_sem], by simp [go_sem]⟩
            case round =>
              obtain ⟨k, m', hk2, rfl, rfl, hm0, hm1, hcs, hbw, hc2, hzl⟩ := hrel
              have HCS := Lib.hid hcs
              clear hcs
              have hzw := hbw.size
              by_cases hlt : k < len
              · obtain ⟨b, off, t, v0, v1, v2, rfl, hb, hk1, c0, c1, c2, ht⟩ := (HK.out.below (hbw.mono hB) (Nat.le_refl _)).get hlt
                have hsz : t.size ≤ m := Nat.le_trans (T.sizes_get hk1) (by omega)
                have hbd := cnt_bd t m' hm0 hm1
                have HC := Lib.hid (IH.out t m' B wr v0 v1 v2 hsz (by omega) ht hm0 hm1)
                have HD := Lib.hid (show cnts (ks.drop k) m' = if (cnt t m').2 = false then ((cnt t m').1, false) else cnts (ks.drop (k + 1)) (cnt t m').1 from by rw [drop_of hk1]; rfl)
                have hklt : (k : Int) < (len : Int) := by omega
                have hbl : b < wr.heap.size := by omega
                obtain ⟨⟨q, ok⟩, hq⟩ : ∃ q, q = cnt t m' := ⟨_, rfl⟩
                rw [← hq] at HC HD hbd
                simp only at hbd
                obtain ⟨hbd0, hbd1, hbd2⟩ := hbd
                clear hk1 ht hq hsz
                cases ok with
                | false =>
                  clear hbd2
                  go_wp2_with fail
                  refine HC.out.mono ?_
                  rintro e w1 ⟨rfl, hb1⟩
                  go_wp2_with fail
                  go_ret2
                  have he : cnts ks (n + 1) = (q, false) := by rw [← HCS.out, HD.out]; simp
                  exact ⟨by rw [he]; rfl, hbw.trans (hb1.mono hzw)⟩
                | true =>
                  have hbd3 := hbd2 rfl
                  clear hbd2
                  go_wp2_with fail
                  refine HC.out.mono ?_
                  rintro e w1 ⟨rfl, hb1⟩
                  have hc2' : w1.cell? ⟨w.heap.size, 2, none⟩ = some (.slice (some ⟨b, off, none⟩) len cap) := cell_below hc2 hb1 (by omega)
                  go_wp2_with fail
                  go_roundw
                  case rel =>
                    refine ⟨k + 1, q, by omega, by go_num, rfl, by omega, hbd3, ?_, hbw.trans (hb1.mono hzw), hc2', by have := hb1.size; omega⟩
                    rw [← HCS.out, HD.out]; simp
                  case measure => simp [intOf]; omega
              · obtain rfl : k = len := by omega
                go_wp2_with fail
                go_ret2
                have he : cnts ks (n + 1) = (m', true) := by rw [← HCS.out, drop_nil_of (by omega)]; rfl
                exact ⟨by rw [he]; rfl, hbw⟩
          · have d5 : (op != 1) = true := by simpa using h5
            by_cases h6 : x < 0
            · have hr : cnt (.node op x ks) n = (n + 1, false) := by unfold cnt; rw [if_pos (Or.inr (by simp [badN]; exact Or.inr (Or.inr ⟨h5, h6⟩)))]
              rw [hr]
              have d6 : decide (x < 0) = true := by simpa using h6
              clear hv hk ih hm hr h2 h3 h5 h6
              go_enter Try.func25, Try.ntmps25
              go_wp2_with fail
              go_quiet ((go_at_call 34; exact Calls.quiet_of_same ((kids_any _ _).mono fun _ _ h => ⟨h.1, h.2.symm⟩)))
              go_wp2_with fail
              go_ret2
              exact ⟨rfl, below_drewN (below1 _ _) _⟩
            · have hr : cnt (.node op x ks) n = cnts ks (n + 1) := by unfold cnt; rw [if_neg (by simp [badN, hlen, h2]; omega)]
              rw [hr]
              have d6 : decide (x < 0) = false := by simpa using h6
              have HK := Lib.hid hk
              have IH := Lib.hid ih
              clear hv hk ih hr h2 h3 h5 h6
              go_enter Try.func25, Try.ntmps25
              go_wp2_with fail
              go_quiet ((go_at_call 34; exact Calls.quiet_of_same ((kids_any _ _).mono fun _ _ h => ⟨h.1, h.2.symm⟩)))
              go_wp2_with fail
              go_loopw [1, 6] (fun a i wr => ∃ (k : Nat) (m : Int), k ≤ len ∧ i = .int .i64 k ∧ a = .int .i64 m ∧ 0 ≤ m ∧ m ≤ 200 ∧ cnts (ks.drop k) m = cnts ks (n + 1) ∧ Below w.heap.size w wr ∧ wr.cell? ⟨w.heap.size, 2, none⟩ = some (.slice A len cap) ∧ w.heap.size < wr.heap.size) (fun _ i _ => len - (intOf i).toNat)
              case atStart => exact ⟨0, n + 1, by omega, rfl, rfl, by omega, by omega, rfl, below_drewN (below1 _ _) _, by simp [go_sem], by simp [go_sem]⟩
              case round =>
                obtain ⟨k, m', hk2, rfl, rfl, hm0, hm1, hcs, hbw, hc2, hzl⟩ := hrel
                have HCS := Lib.hid hcs
                clear hcs
                have hzw := hbw.size
                by_cases hlt : k < len
                · obtain ⟨b, off, t, v0, v1, v2, rfl, hb, hk1, c0, c1, c2, ht⟩ := (HK.out.below (hbw.mono hB) (Nat.le_refl _)).get hlt
                  have hsz : t.size ≤ m := Nat.le_trans (T.sizes_get hk1) (by omega)
                  have hbd := cnt_bd t m' hm0 hm1
                  have HC := Lib.hid (IH.out t m' B wr v0 v1 v2 hsz (by omega) ht hm0 hm1)
                  have HD := Lib.hid (show cnts (ks.drop k) m' = if (cnt t m').2 = false then ((cnt t m').1, false) else cnts (ks.drop (k + 1)) (cnt t m').1 from by rw [drop_of hk1]; rfl)
                  have hklt : (k : Int) < (len : Int) := by omega
                  have hbl : b < wr.heap.size := by omega
                  obtain ⟨⟨q, ok⟩, hq⟩ : ∃ q, q = cnt t m' := ⟨_, rfl⟩
                  rw [← hq] at HC HD hbd
                  simp only at hbd
                  obtain ⟨hbd0, hbd1, hbd2⟩ := hbd
                  clear hk1 ht hq hsz
                  cases ok with
                  | false =>
                    clear hbd2
                    go_wp2_with fail
                    refine HC.out.mono ?_
                    rintro e w1 ⟨rfl, hb1⟩
                    go_wp2_with fail
                    go_ret2
                    have he : cnts ks (n + 1) = (q, false) := by rw [← HCS.out, HD.out]; simp
                    exact ⟨by rw [he]; rfl, hbw.trans (hb1.mono hzw)⟩
                  | true =>
                    have hbd3 := hbd2 rfl
                    clear hbd2
                    go_wp2_with fail
                    refine HC.out.mono ?_
                    rintro e w1 ⟨rfl, hb1⟩
                    have hc2' : w1.cell? ⟨w.heap.size, 2, none⟩ = some (.slice (some ⟨b, off, none⟩) len cap) := cell_below hc2 hb1 (by omega)
                    go_wp2_with fail
                    go_roundw
                    case rel =>
                      refine ⟨k + 1, q, by omega, by go_num, rfl, by omega, hbd3, ?_, hbw.trans (hb1.mono hzw), hc2', by have := hb1.size; omega⟩
                      rw [← HCS.out, HD.out]; simp
                    case measure => simp [intOf]; omega
                · obtain rfl : k = len := by omega
                  go_wp2_with fail
                  go_ret2
                  have he : cnts ks (n + 1) = (m', true) := by rw [← HCS.out, drop_nil_of (by omega)]; rfl
                  exact ⟨by rw [he]; rfl, hbw⟩
      · have hr : cnt (.node op x ks) n = (n + 1, false) := by unfold cnt; rw [if_pos (Or.inr (by simp [badN, hlen]; exact Or.inl h2))]
        rw [hr]
        have e2 : ((len : Int) != kidsI op) = true := by simpa using h2
        clear hv hk ih hm hr h2
        go_enter Try.func25, Try.ntmps25
        go_wp2_with fail
        go_quiet ((go_at_call 34; exact Calls.quiet_of_same ((kids_any _ _).mono fun _ _ h => ⟨h.1, h.2.symm⟩)))
        go_wp2_with fail
        go_ret2
        exact ⟨rfl, below_drewN (below1 _ _) _⟩

/-- A tree that may be: how many nodes. -/
def treeC (t : T) : Int × Bool := cnt t 0

theorem tree_cnt (t : T) (B : Nat) (w : World) (v0 v1 v2 : Value) (hB : B ≤ w.heap.size) (hv : TreeAt w (Under B) t v0 v1 v2) :
    Calls Try.prog 12 #[.agg #[v0, v1, v2]] w fun e w' => e = .returned (.tuple #[.int .i64 (treeC t).1, .bool (treeC t).2]) ∧ Below w.heap.size w w' := by
  obtain ⟨a, b, A, n, c, rfl, rfl, rfl⟩ := hv.shape0
  have HC := Lib.hid (cnt_all t.size t 0 B (w.alloc (.cells #[.int .i64 a, .int .i64 b, .slice A n c] 28)) _ _ _ (Nat.le_refl _) (by simp; omega) (hv.below (below1 w _ |>.mono hB) (Nat.le_refl _)) (by omega) (by omega))
  clear hv
  go_enter Try.func12, Try.ntmps12
  go_wp2_with fail
  refine HC.out.mono ?_
  rintro e w1 ⟨rfl, hb1⟩
  go_wp2_with fail
  go_ret2
  exact ⟨rfl, (below1 _ _).trans (hb1.mono (by simp))⟩
end Go.Proofs.Ytjkgpolikpochaa
