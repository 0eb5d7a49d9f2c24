/- names, within: whether all that a tree names is there. Conditions: as stated. -/
import Derived.Test.YtjkgpolikpochaaCntZz
set_option linter.unusedVariables false
set_option linter.unusedSimpArgs false
namespace Go.Proofs.Ytjkgpolikpochaa
open Go.RowKit

mutual
def namesB (a b c : Int) : T → Bool
  | .node op x ks => !decide (op = 2 ∧ x ≥ a ∨ op = 3 ∧ x ≥ b ∨ op = 4 ∧ x ≥ c) && namesBs a b c ks
def namesBs (a b c : Int) : List T → Bool
  | [] => true
  | k :: ks => namesB a b c k && namesBs a b c ks
end

def NamesSaid (na nb nc : Int) (m : Nat) : Prop := ∀ (t : T) (B : Nat) (w : World) (v0 v1 v2 : Value), t.size ≤ m → B ≤ w.heap.size → TreeAt w (Under B) t v0 v1 v2 →
    Calls Try.prog 75 #[.agg #[v0, v1, v2], .int .i64 na, .int .i64 nb, .int .i64 nc] w fun e w' => e = .returned (.bool (namesB na nb nc t)) ∧ Below w.heap.size w w'

set_option maxRecDepth 100000 in
set_option maxHeartbeats 4000000 in
theorem names_all (na nb nc : Int) (m : Nat) : NamesSaid na nb nc m := by
  induction m with
  | zero => intro t _ _ _ _ _ hm; have := t.size_pos; omega
  | succ m ih =>
    rintro ⟨op, x, ks⟩ B w v0 v1 v2 hm hB hv
    obtain ⟨A, cap, len, rfl, rfl, _, _, rfl, hk⟩ := KidsV.of_tree hv
    simp only [T.size] at hm
    have hlen := hk.1
    have hlm := hk.2.1
    by_cases h2 : op = 2
    · subst h2
      by_cases hx : x ≥ na
      · have hr : namesB na nb nc (.node 2 x ks) = false := by simp [namesB, hx]
        rw [hr]
        have hd : decide (na ≤ x) = true := by simpa using hx
        clear hv hk ih hm hr hx
        go_enter Try.func75, Try.ntmps75
        go_wp2_with fail
        go_ret
        exact ⟨rfl, below1 _ _⟩
      · have hr : namesB na nb nc (.node 2 x ks) = namesBs na nb nc ks := by simp [namesB, hx]
        rw [hr]
        have hd : decide (na ≤ x) = false := by simpa using hx
        have HK := Lib.hid hk
        have IH := Lib.hid ih
        clear hv hk ih hr hx
        go_enter Try.func75, Try.ntmps75
        go_wp2_with fail
        go_loopw [9] (fun i wr => ∃ k : Nat, k ≤ len ∧ i = .int .i64 k ∧ namesBs na nb nc (ks.drop k) = namesBs na nb nc ks ∧ Below w.heap.size w wr ∧ wr.cell? ⟨w.heap.size, 2, none⟩ = some (.slice A len cap) ∧ w.heap.size < wr.heap.size) (fun i _ => len - (intOf i).toNat)
        case atStart => exact ⟨0, by omega, rfl, rfl, below1 _ _, by simp [go_sem], by simp [go_sem]⟩
        case round =>
          obtain ⟨k, hk2, rfl, hcs, hbw, hc2, hzl⟩ := hrel
          have HCS := Lib.hid hcs
          clear hcs
          have hzw := hbw.size
          by_cases hlt : k < len
          · obtain ⟨b, off, t, v0, v1, v2, rfl, hb, hk1, c0, c1, c2, ht⟩ := (HK.out.below (hbw.mono hB) (Nat.le_refl _)).get hlt
            have hsz : t.size ≤ m := Nat.le_trans (T.sizes_get hk1) (by omega)
            have HC := Lib.hid (IH.out t B wr v0 v1 v2 hsz (by omega) ht)
            have HD := Lib.hid (show namesBs na nb nc (ks.drop k) = (namesB na nb nc t && namesBs na nb nc (ks.drop (k + 1))) from by rw [drop_of hk1]; rfl)
            have hklt : (k : Int) < (len : Int) := by omega
            have hbl : b < wr.heap.size := by omega
            obtain ⟨q, hq⟩ : ∃ q, q = namesB na nb nc t := ⟨_, rfl⟩
            rw [← hq] at HC HD
            clear hk1 ht hq hsz
            cases q with
            | false =>
              go_wp2_with fail
              refine HC.out.mono ?_
              rintro e w1 ⟨rfl, hb1⟩
              go_wp2_with fail
              go_ret
              have he : namesBs na nb nc ks = false := by rw [← HCS.out, HD.out]; simp
              exact ⟨by rw [he]; rfl, hbw.trans (hb1.mono hzw)⟩
            | true =>
              go_wp2_with fail
              refine HC.out.mono ?_
              rintro e w1 ⟨rfl, hb1⟩
              have hc2' : w1.cell? ⟨w.heap.size, 2, none⟩ = some (.slice (some ⟨b, off, none⟩) len cap) := cell_below hc2 hb1 (by omega)
              go_wp2_with fail
              go_roundw
              case rel =>
                refine ⟨k + 1, by omega, by go_num, ?_, hbw.trans (hb1.mono hzw), hc2', by have := hb1.size; omega⟩
                rw [← HCS.out, HD.out]; simp
              case measure => simp [intOf]; omega
          · obtain rfl : k = len := by omega
            go_wp2_with fail
            go_ret
            have he : namesBs na nb nc ks = true := by rw [← HCS.out, drop_nil_of (by omega)]; rfl
            exact ⟨by rw [he]; rfl, hbw⟩
    by_cases h3 : op = 3
    · subst h3
      by_cases hx : x ≥ nb
      · have hr : namesB na nb nc (.node 3 x ks) = false := by simp [namesB, hx]
        rw [hr]
        have hd : decide (nb ≤ x) = true := by simpa using hx
        clear hv hk ih hm hr hx
        go_enter Try.func75, Try.ntmps75
        go_wp2_with fail
        go_ret
        exact ⟨rfl, below1 _ _⟩
      · have hr : namesB na nb nc (.node 3 x ks) = namesBs na nb nc ks := by simp [namesB, hx]
        rw [hr]
        have hd : decide (nb ≤ x) = false := by simpa using hx
        have HK := Lib.hid hk
        have IH := Lib.hid ih
        clear hv hk ih hr hx
        go_enter Try.func75, Try.ntmps75
        go_wp2_with fail
        go_loopw [9] (fun i wr => ∃ k : Nat, k ≤ len ∧ i = .int .i64 k ∧ namesBs na nb nc (ks.drop k) = namesBs na nb nc ks ∧ Below w.heap.size w wr ∧ wr.cell? ⟨w.heap.size, 2, none⟩ = some (.slice A len cap) ∧ w.heap.size < wr.heap.size) (fun i _ => len - (intOf i).toNat)
        case atStart => exact ⟨0, by omega, rfl, rfl, below1 _ _, by simp [go_sem], by simp [go_sem]⟩
        case round =>
          obtain ⟨k, hk2, rfl, hcs, hbw, hc2, hzl⟩ := hrel
          have HCS := Lib.hid hcs
          clear hcs
          have hzw := hbw.size
          by_cases hlt : k < len
          · obtain ⟨b, off, t, v0, v1, v2, rfl, hb, hk1, c0, c1, c2, ht⟩ := (HK.out.below (hbw.mono hB) (Nat.le_refl _)).get hlt
            have hsz : t.size ≤ m := Nat.le_trans (T.sizes_get hk1) (by omega)
            have HC := Lib.hid (IH.out t B wr v0 v1 v2 hsz (by omega) ht)
            have HD := Lib.hid (show namesBs na nb nc (ks.drop k) = (namesB na nb nc t && namesBs na nb nc (ks.drop (k + 1))) from by rw [drop_of hk1]; rfl)
            have hklt : (k : Int) < (len : Int) := by omega
            have hbl : b < wr.heap.size := by omega
            obtain ⟨q, hq⟩ : ∃ q, q = namesB na nb nc t := ⟨_, rfl⟩
            rw [← hq] at HC HD
            clear hk1 ht hq hsz
            cases q with
            | false =>
              go_wp2_with fail
              refine HC.out.mono ?_
              rintro e w1 ⟨rfl, hb1⟩
              go_wp2_with fail
              go_ret
              have he : namesBs na nb nc ks = false := by rw [← HCS.out, HD.out]; simp
              exact ⟨by rw [he]; rfl, hbw.trans (hb1.mono hzw)⟩
            | true =>
              go_wp2_with fail
              refine HC.out.mono ?_
              rintro e w1 ⟨rfl, hb1⟩
              have hc2' : w1.cell? ⟨w.heap.size, 2, none⟩ = some (.slice (some ⟨b, off, none⟩) len cap) := cell_below hc2 hb1 (by omega)
              go_wp2_with fail
              go_roundw
              case rel =>
                refine ⟨k + 1, by omega, by go_num, ?_, hbw.trans (hb1.mono hzw), hc2', by have := hb1.size; omega⟩
                rw [← HCS.out, HD.out]; simp
              case measure => simp [intOf]; omega
          · obtain rfl : k = len := by omega
            go_wp2_with fail
            go_ret
            have he : namesBs na nb nc ks = true := by rw [← HCS.out, drop_nil_of (by omega)]; rfl
            exact ⟨by rw [he]; rfl, hbw⟩
    by_cases h4 : op = 4
    · subst h4
      by_cases hx : x ≥ nc
      · have hr : namesB na nb nc (.node 4 x ks) = false := by simp [namesB, hx]
        rw [hr]
        have hd : decide (nc ≤ x) = true := by simpa using hx
        clear hv hk ih hm hr hx
        go_enter Try.func75, Try.ntmps75
        go_wp2_with fail
        go_ret
        exact ⟨rfl, below1 _ _⟩
      · have hr : namesB na nb nc (.node 4 x ks) = namesBs na nb nc ks := by simp [namesB, hx]
        rw [hr]
        have hd : decide (nc ≤ x) = false := by simpa using hx
        have HK := Lib.hid hk
        have IH := Lib.hid ih
        clear hv hk ih hr hx
        go_enter Try.func75, Try.ntmps75
        go_wp2_with fail
        go_loopw [9] (fun i wr => ∃ k : Nat, k ≤ len ∧ i = .int .i64 k ∧ namesBs na nb nc (ks.drop k) = namesBs na nb nc ks ∧ Below w.heap.size w wr ∧ wr.cell? ⟨w.heap.size, 2, none⟩ = some (.slice A len cap) ∧ w.heap.size < wr.heap.size) (fun i _ => len - (intOf i).toNat)
        case atStart => exact ⟨0, by omega, rfl, rfl, below1 _ _, by simp [go_sem], by simp [go_sem]⟩
        case round =>
          obtain ⟨k, hk2, rfl, hcs, hbw, hc2, hzl⟩ := hrel
          have HCS := Lib.hid hcs
          clear hcs
          have hzw := hbw.size
          by_cases hlt : k < len
          · obtain ⟨b, off, t, v0, v1, v2, rfl, hb, hk1, c0, c1, c2, ht⟩ := (HK.out.below (hbw.mono hB) (Nat.le_refl _)).get hlt
            have hsz : t.size ≤ m := Nat.le_trans (T.sizes_get hk1) (by omega)
            have HC := Lib.hid (IH.out t B wr v0 v1 v2 hsz (by omega) ht)
            have HD := Lib.hid (show namesBs na nb nc (ks.drop k) = (namesB na nb nc t && namesBs na nb nc (ks.drop (k + 1))) from by rw [drop_of hk1]; rfl)
            have hklt : (k : Int) < (len : Int) := by omega
            have hbl : b < wr.heap.size := by omega
            obtain ⟨q, hq⟩ : ∃ q, q = namesB na nb nc t := ⟨_, rfl⟩
            rw [← hq] at HC HD
            clear hk1 ht hq hsz
            cases q with
            | false =>
              go_wp2_with fail
              refine HC.out.mono ?_
              rintro e w1 ⟨rfl, hb1⟩
              go_wp2_with fail
              go_ret
              have he : namesBs na nb nc ks = false := by rw [← HCS.out, HD.out]; simp
              exact ⟨by rw [he]; rfl, hbw.trans (hb1.mono hzw)⟩
            | true =>
              go_wp2_with fail
              refine HC.out.mono ?_
              rintro e w1 ⟨rfl, hb1⟩
              have hc2' : w1.cell? ⟨w.heap.size, 2, none⟩ = some (.slice (some ⟨b, off, none⟩) len cap) := cell_below hc2 hb1 (by omega)
              go_wp2_with fail
              go_roundw
              case rel =>
                refine ⟨k + 1, by omega, by go_num, ?_, hbw.trans (hb1.mono hzw), hc2', by have := hb1.size; omega⟩
                rw [← HCS.out, HD.out]; simp
              case measure => simp [intOf]; omega
          · obtain rfl : k = len := by omega
            go_wp2_with fail
            go_ret
            have he : namesBs na nb nc ks = true := by rw [← HCS.out, drop_nil_of (by omega)]; rfl
            exact ⟨by rw [he]; rfl, hbw⟩
    have e2 : (op == 2) = false := by simpa using h2
    have e3 : (op == 3) = false := by simpa using h3
    have e4 : (op == 4) = false := by simpa using h4
    have hr : namesB na nb nc (.node op x ks) = namesBs na nb nc ks := by simp [namesB, h2, h3, h4]
    rw [hr]
    have HK := Lib.hid hk
    have IH := Lib.hid ih
    clear hv hk ih hr h2 h3 h4
    go_enter Try.func75, Try.ntmps75
    go_wp2_with fail
    go_loopw [9] (fun i wr => ∃ k : Nat, k ≤ len ∧ i = .int .i64 k ∧ namesBs na nb nc (ks.drop k) = namesBs na nb nc ks ∧ Below w.heap.size w wr ∧ wr.cell? ⟨w.heap.size, 2, none⟩ = some (.slice A len cap) ∧ w.heap.size < wr.heap.size) (fun i _ => len - (intOf i).toNat)
    case atStart => exact ⟨0, by omega, rfl, rfl, below1 _ _, by simp [go_sem], by simp [go_sem]⟩
    case round =>
      obtain ⟨k, hk2, rfl, hcs, hbw, hc2, hzl⟩ := hrel
      have HCS := Lib.hid hcs
      clear hcs
      have hzw := hbw.size
      by_cases hlt : k < len
      · obtain ⟨b, off, t, v0, v1, v2, rfl, hb, hk1, c0, c1, c2, ht⟩ := (HK.out.below (hbw.mono hB) (Nat.le_refl _)).get hlt
        have hsz : t.size ≤ m := Nat.le_trans (T.sizes_get hk1) (by omega)
        have HC := Lib.hid (IH.out t B wr v0 v1 v2 hsz (by omega) ht)
        have HD := Lib.hid (show namesBs na nb nc (ks.drop k) = (namesB na nb nc t && namesBs na nb nc (ks.drop (k + 1))) from by rw [drop_of hk1]; rfl)
        have hklt : (k : Int) < (len : Int) := by omega
        have hbl : b < wr.heap.size := by omega
        obtain ⟨q, hq⟩ : ∃ q, q = namesB na nb nc t := ⟨_, rfl⟩
        rw [← hq] at HC HD
        clear hk1 ht hq hsz
        cases q with
        | false =>
          go_wp2_with fail
          refine HC.out.mono ?_
          rintro e w1 ⟨rfl, hb1⟩
          go_wp2_with fail
          go_ret
          have he : namesBs na nb nc ks = false := by rw [← HCS.out, HD.out]; simp
          exact ⟨by rw [he]; rfl, hbw.trans (hb1.mono hzw)⟩
        | true =>
          go_wp2_with fail
          refine HC.out.mono ?_
          rintro e w1 ⟨rfl, hb1⟩
          have hc2' : w1.cell? ⟨w.heap.size, 2, none⟩ = some (.slice (some ⟨b, off, none⟩) len cap) := cell_below hc2 hb1 (by omega)
          go_wp2_with fail
          go_roundw
          case rel =>
            refine ⟨k + 1, by omega, by go_num, ?_, hbw.trans (hb1.mono hzw), hc2', by have := hb1.size; omega⟩
            rw [← HCS.out, HD.out]; simp
          case measure => simp [intOf]; omega
      · obtain rfl : k = len := by omega
        go_wp2_with fail
        go_ret
        have he : namesBs na nb nc ks = true := by rw [← HCS.out, drop_nil_of (by omega)]; rfl
        exact ⟨by rw [he]; rfl, hbw⟩

/-- within: what it answers. -/
def withC (na nb nc : Int) (t : T) : Int × Bool := ((treeC t).1, (treeC t).2 && namesB na nb nc t)

set_option maxHeartbeats 1000000 in
theorem within_any (na nb nc : Int) (t : T) (B : Nat) (w : World) (v0 v1 v2 : Value) (hB : B ≤ w.heap.size) (hv : TreeAt w (Under B) t v0 v1 v2) :
    Calls Try.prog 70 #[.agg #[v0, v1, v2], .int .i64 na, .int .i64 nb, .int .i64 nc] w fun e w' => e = .returned (.tuple #[.int .i64 (withC na nb nc t).1, .bool (withC na nb nc t).2]) ∧ Below w.heap.size w w' := by
  obtain ⟨a, b, A, n, c, rfl, rfl, rfl⟩ := hv.shape0
  have HT := Lib.hid (tree_cnt t B (w.alloc (.cells #[.int .i64 a, .int .i64 b, .slice A n c] 28)) _ _ _ (by simp; omega) (hv.below (below1 w _ |>.mono hB) (Nat.le_refl _)))
  have HV := Lib.hid hv
  unfold withC
  obtain ⟨⟨q, ok⟩, hq⟩ : ∃ q, q = treeC t := ⟨_, rfl⟩
  rw [← hq] at HT ⊢
  clear hv hq
  cases ok with
  | false =>
    go_enter Try.func70, Try.ntmps70
    go_wp2_with fail
    refine HT.out.mono ?_
    rintro e w1 ⟨rfl, hb1⟩
    go_wp2_with fail
    go_ret2
    exact ⟨rfl, (below1 _ _).trans (hb1.mono (by simp))⟩
  | true =>
    go_enter Try.func70, Try.ntmps70
    go_wp2_with fail
    refine HT.out.mono ?_
    rintro e w1 ⟨rfl, hb1⟩
    have r0 : w1.cell? ⟨w.heap.size, 0, none⟩ = some (.int .i64 a) := cell_below (by simp [go_sem]) hb1 (by simp)
    have r1 : w1.cell? ⟨w.heap.size, 1, none⟩ = some (.int .i64 b) := cell_below (by simp [go_sem]) hb1 (by simp)
    have r2 : w1.cell? ⟨w.heap.size, 2, none⟩ = some (.slice A n c) := cell_below (by simp [go_sem]) hb1 (by simp)
    have hB1 := (below1 w _).trans (hb1.mono (by simp))
    have HN := Lib.hid (names_all na nb nc t.size t B w1 _ _ _ (Nat.le_refl _) (by have := hB1.size; omega) (HV.out.below (hB1.mono hB) (Nat.le_refl _)))
    go_wp2_with fail
    refine HN.out.mono ?_
    rintro e w2 ⟨rfl, hb2⟩
    go_wp2_with fail
    go_ret2
    exact ⟨rfl, hB1.trans (hb2.mono hB1.size)⟩
end Go.Proofs.Ytjkgpolikpochaa
