/- Value, Eval: what a tree of numbers comes to. Conditions: as stated. -/
import Derived.Test.YtjkgpolikpochaaQ06Zz
import Derived.Test.YtjkgpolikpochaaCntZz
import Derived.Test.YtjkgpolikpochaaQ04Zz
set_option linter.unusedVariables false
set_option linter.unusedSimpArgs false
namespace Go.Proofs.Ytjkgpolikpochaa
open Go.RowKit

mutual
def valT : T → Int
  | .node op x ks => match valsT ks with
    | [] => x
    | [a] => unR op a
    | a :: b :: _ => twoR op a b
def valsT : List T → List Int
  | [] => []
  | k :: ks => valT k :: valsT ks
end
mutual
/-- A tree of numbers alone. -/
def valOk : T → Prop
  | .node op _ ks => (op = 1 ∧ ks.length = 0 ∨ (12 ≤ op ∧ op ≤ 30) ∧ ks.length = 2 ∨ (31 ≤ op ∧ op ≤ 36) ∧ ks.length = 1) ∧ valsOk ks
def valsOk : List T → Prop
  | [] => True
  | k :: ks => valOk k ∧ valsOk ks
end
theorem one_of' {α : Type} {l : List α} (h : l.length = 1) : ∃ a, l = [a] := by
  match l, h with
  | [a], _ => exact ⟨a, rfl⟩
theorem two_of' {α : Type} {l : List α} (h : l.length = 2) : ∃ a b, l = [a, b] := by
  match l, h with
  | [a, b], _ => exact ⟨a, b, rfl⟩
mutual
theorem val_in64 : ∀ (t : T), TIn t → valOk t → In64 (valT t)
  | .node op x ks, hi, ho => by
    simp only [TIn] at hi
    simp only [valOk] at ho
    have hs := vals_in64 ks hi.2 ho.2
    rcases ho.1 with ⟨_, h⟩ | ⟨_, h⟩ | ⟨_, h⟩
    · obtain rfl := List.length_eq_zero_iff.1 h
      simpa [valT, valsT] using hi.1
    · obtain ⟨a, b, rfl⟩ := two_of' h
      simp only [valsT] at hs
      simp only [valT, valsT]
      exact two_in64 (hs _ (by simp))
    · obtain ⟨a, rfl⟩ := one_of' h
      simp only [valsT] at hs
      simp only [valT, valsT]
      exact un_in64 (hs _ (by simp))
theorem vals_in64 : ∀ (ks : List T), TsIn ks → valsOk ks → ∀ v, v ∈ valsT ks → In64 v
  | [], _, _, v, hv => by simp [valsT] at hv
  | k :: ks, hi, ho, v, hv => by
    simp only [TsIn] at hi
    simp only [valsOk] at ho
    simp only [valsT, List.mem_cons] at hv
    rcases hv with rfl | hv
    · exact val_in64 k hi.1 ho.1
    · exact vals_in64 ks hi.2 ho.2 v hv
end

theorem cut_any (kind n : Int) (w : World) :
    Calls Try.prog 69 #[.int .i64 kind, .int .i64 n] w fun e w' => e = .returned (.int .i64 (cutK kind n)) ∧ w = w' := by
  go_enter Try.func69, Try.ntmps69
  go_wp2
  all_goals go_ret
  all_goals (refine ⟨ret_i ?_, rfl⟩; simp_all [cutK, cutN, i8_in, i16_in, i32_in, u16_in])
theorem one_any (op n : Int) (w : World) (h0 : 31 ≤ op) (h1 : op ≤ 36) :
    Calls Try.prog 57 #[.int .i64 op, .int .i64 n] w fun e w' => e = .returned (.int .i64 (unR op n)) ∧ Below w.heap.size w w' := by
  have h : op = 31 ∨ op = 32 ∨ op = 33 ∨ op = 34 ∨ op = 35 ∨ op = 36 := by omega
  rcases h with rfl | rfl | rfl | rfl | rfl | rfl
  all_goals
    go_enter Try.func57, Try.ntmps57
    go_wp2_with (go_at_call 69; refine (cut_any _ _ _).mono ?_; rintro e w' ⟨rfl, rfl⟩)
    go_ret
    exact ⟨ret_i (by simp [unR, cutK]), (Below.refl _ _).alloc (Nat.le_refl _) _⟩

def ValueSaid (m : Nat) : Prop := ∀ (t : T) (B : Nat) (w : World) (v0 v1 v2 : Value), t.size ≤ m → B ≤ w.heap.size → TreeAt w (Under B) t v0 v1 v2 → valOk t →
    Calls Try.prog 39 #[.agg #[v0, v1, v2]] w fun e w' => e = .returned (.int .i64 (valT t)) ∧ Below w.heap.size w w'

set_option maxRecDepth 100000 in
set_option maxHeartbeats 8000000 in
theorem value_all (m : Nat) : ValueSaid m := by
  induction m with
  | zero => intro t _ _ _ _ _ hm; have := t.size_pos; omega
  | succ m ih =>
    rintro ⟨op, x, ks⟩ B w v0 v1 v2 hm hB hv hok
    obtain ⟨A, cap, len, rfl, rfl, _, _, rfl, hk⟩ := KidsV.of_tree hv
    simp only [T.size] at hm
    have hlen := hk.1
    have hlm := hk.2.1
    have HB1 := Lib.hid (below1 w (.cells #[.int .i64 op, .int .i64 x, .slice A len cap] 28))
    simp only [valOk] at hok
    obtain ⟨hop, hok⟩ := hok
    rcases hop with ⟨h1, h2⟩ | ⟨h1, h2⟩ | ⟨h1, h2⟩
    · obtain rfl : ks = [] := List.length_eq_zero_iff.1 h2
      obtain rfl : len = 0 := by simpa using hlen.symm
      have HR := Lib.hid (show valT (.node op x []) = x by simp [valT, valsT])
      rw [HR.out]
      subst h1
      clear hv hk ih hm hok HR
      go_enter Try.func39, Try.ntmps39
      go_wp2_with fail
      go_ret
      exact ⟨rfl, HB1.out⟩
    · obtain ⟨t0, t1, rfl⟩ := two_of' h2
      obtain rfl : len = 2 := by simpa using hlen.symm
      simp only [valsOk] at hok
      have hop1 : op ≠ 1 := by omega
      have d1 : (op == 1) = false := by simpa using hop1
      obtain ⟨b0, off0, t0', a00, a01, a02, hA0, hb0, hk0, c00, c01, c02, ht0⟩ := hk.get (k := 0) (by omega)
      obtain rfl : t0 = t0' := by simpa using hk0
      simp only [Nat.zero_mul, Nat.one_mul, Nat.add_zero, Nat.add_assoc, Nat.reduceAdd] at c00 c01 c02
      obtain ⟨b1, off1, t1', a10, a11, a12, hA1, hb1, hk1, c10, c11, c12, ht1⟩ := hk.get (k := 1) (by omega)
      obtain rfl : t1 = t1' := by simpa using hk1
      simp only [Nat.zero_mul, Nat.one_mul, Nat.add_zero, Nat.add_assoc, Nat.reduceAdd] at c10 c11 c12
      subst hA0
      have HC0 := Lib.hid (fun W (hb : Below w.heap.size w W) => ih t0 B W a00 a01 a02 (by simp only [T.sizes] at hm; omega) (by have := hb.size; omega) (ht0.below (hb.mono hB) (Nat.le_refl _)) hok.1)
      have HC1 := Lib.hid (fun W (hb : Below w.heap.size w W) => ih t1 B W a10 a11 a12 (by simp only [T.sizes] at hm; omega) (by have := hb.size; omega) (ht1.below (hb.mono hB) (Nat.le_refl _)) hok.2.1)
      have HI0 := Lib.hid (val_in64 t0 (TreeAt.tin t0 ht0) hok.1)
      have HI1 := Lib.hid (val_in64 t1 (TreeAt.tin t1 ht1) hok.2.1)
      obtain ⟨x0, y0, Z0, n0, d0, rfl, rfl, rfl⟩ := ht0.shape0
      obtain ⟨x1, y1, Z1, n1, d1, rfl, rfl, rfl⟩ := ht1.shape0
      obtain ⟨p0, hp0⟩ : ∃ p, p = valT t0 := ⟨_, rfl⟩
      obtain ⟨p1, hp1⟩ : ∃ p, p = valT t1 := ⟨_, rfl⟩
      have HR := Lib.hid (show valT (.node op x [t0, t1]) = twoR op p0 p1 by rw [hp0, hp1]; simp [valT, valsT])
      rw [HR.out]
      rw [← hp0] at HC0 HI0
      rw [← hp1] at HC1 HI1
      have hbl : b0 < w.heap.size := by omega
      injection hA1 with hA1
      injection hA1 with e1 e2 e3
      subst e1 e2
      clear hv hk ih hm hok hp0 hp1 ht0 ht1 hk0 hk1 hb1 HR
      have HBI := Lib.hid (fun W => decide_eq_true h1 ▸ binary_any op W)
      have HT := Lib.hid (fun W => two_any op p0 p1 W h1.1 h1.2)
      clear h1 h2 hop1
      go_enter Try.func39, Try.ntmps39
      go_wp2_with (go_at_call 55; refine (HBI.out _).mono ?_; rintro e w' ⟨rfl, rfl⟩)
      refine region_grow (by kernel_rfl) (by kernel_rfl) (fun hG => ?_)
      repeat (go_big_quiet_step ((first
        | (go_at_call 39; with_reducible exact call_grow (HC0.out _ (grow_below HB1.out (by simp) _)))
        | (go_at_call 39; with_reducible exact call_grow (HC1.out _ (grow_below HB1.out (by simp) _)))
        | (go_at_call 56; exact call_grow_drew (HT.out _)))))
      refine wpQuiet_nil ?_
      rintro ⟨w5, hb5⟩
      simp only []
      have HB3 := Lib.hid hb5
      clear hG hb5
      go_wp2_with fail
      go_ret
      exact ⟨rfl, HB1.out.trans (HB3.out.mono (by simp))⟩
    · obtain ⟨t0, rfl⟩ := one_of' h2
      obtain rfl : len = 1 := by simpa using hlen.symm
      simp only [valsOk] at hok
      have hop1 : op ≠ 1 := by omega
      have d1 : (op == 1) = false := by simpa using hop1
      obtain ⟨b0, off0, t0', a00, a01, a02, hA0, hb0, hk0, c00, c01, c02, ht0⟩ := hk.get (k := 0) (by omega)
      obtain rfl : t0 = t0' := by simpa using hk0
      simp only [Nat.zero_mul, Nat.one_mul, Nat.add_zero, Nat.add_assoc, Nat.reduceAdd] at c00 c01 c02
      subst hA0
      have HC0 := Lib.hid (fun W (hb : Below w.heap.size w W) => ih t0 B W a00 a01 a02 (by simp only [T.sizes] at hm; omega) (by have := hb.size; omega) (ht0.below (hb.mono hB) (Nat.le_refl _)) hok.1)
      obtain ⟨x0, y0, Z0, n0, d0, rfl, rfl, rfl⟩ := ht0.shape0
      obtain ⟨p0, hp0⟩ : ∃ p, p = valT t0 := ⟨_, rfl⟩
      have HR := Lib.hid (show valT (.node op x [t0]) = unR op p0 by rw [hp0]; simp [valT, valsT])
      rw [HR.out]
      rw [← hp0] at HC0
      have hbl : b0 < w.heap.size := by omega
      clear hv hk ih hm hok hp0 ht0 hk0 HR
      have hb12 : decide (12 ≤ op ∧ op ≤ 30) = false := by simp; omega
      have HBI := Lib.hid (fun W => hb12 ▸ binary_any op W)
      clear hb12
      have HT := Lib.hid (fun W => one_any op p0 W h1.1 h1.2)
      clear h1 h2 hop1
      go_enter Try.func39, Try.ntmps39
      go_wp2_with (go_at_call 55; refine (HBI.out _).mono ?_; rintro e w' ⟨rfl, rfl⟩)
      refine region_grow (by kernel_rfl) (by kernel_rfl) (fun hG => ?_)
      repeat (go_big_quiet_step ((first
        | (go_at_call 39; with_reducible exact call_grow (HC0.out _ (grow_below HB1.out (by simp) _)))
        | (go_at_call 57; exact call_grow (HT.out _)))))
      refine wpQuiet_nil ?_
      rintro ⟨w5, hb5⟩
      simp only []
      have HB3 := Lib.hid hb5
      clear hG hb5
      go_wp2_with fail
      go_ret
      exact ⟨rfl, HB1.out.trans (HB3.out.mono (by simp))⟩

def EvalSaid (m : Nat) : Prop := ∀ (t : T) (B : Nat) (w : World) (v0 v1 v2 : Value), t.size ≤ m → B ≤ w.heap.size → TreeAt w (Under B) t v0 v1 v2 → valOk t →
    Calls Try.prog 16 #[.agg #[v0, v1, v2]] w fun e w' => e = .returned (.int .i64 (valT t)) ∧ Below w.heap.size w w'

set_option maxRecDepth 100000 in
set_option maxHeartbeats 8000000 in
theorem eval_all (m : Nat) : EvalSaid m := by
  induction m with
  | zero => intro t _ _ _ _ _ hm; have := t.size_pos; omega
  | succ m ih =>
    rintro ⟨op, x, ks⟩ B w v0 v1 v2 hm hB hv hok
    obtain ⟨A, cap, len, rfl, rfl, _, _, rfl, hk⟩ := KidsV.of_tree hv
    simp only [T.size] at hm
    have hlen := hk.1
    have hlm := hk.2.1
    have HB1 := Lib.hid (below1 w (.cells #[.int .i64 op, .int .i64 x, .slice A len cap] 28))
    simp only [valOk] at hok
    obtain ⟨hop, hok⟩ := hok
    rcases hop with ⟨h1, h2⟩ | ⟨h1, h2⟩ | ⟨h1, h2⟩
    · obtain rfl : ks = [] := List.length_eq_zero_iff.1 h2
      obtain rfl : len = 0 := by simpa using hlen.symm
      have HR := Lib.hid (show valT (.node op x []) = x by simp [valT, valsT])
      rw [HR.out]
      subst h1
      clear hv hk ih hm hok HR
      go_enter Try.func16, Try.ntmps16
      go_wp2_with fail
      go_ret
      exact ⟨rfl, HB1.out⟩
    · obtain ⟨t0, t1, rfl⟩ := two_of' h2
      obtain rfl : len = 2 := by simpa using hlen.symm
      simp only [valsOk] at hok
      have hop1 : op ≠ 1 := by omega
      have d1 : (op == 1) = false := by simpa using hop1
      obtain ⟨b0, off0, t0', a00, a01, a02, hA0, hb0, hk0, c00, c01, c02, ht0⟩ := hk.get (k := 0) (by omega)
      obtain rfl : t0 = t0' := by simpa using hk0
      simp only [Nat.zero_mul, Nat.one_mul, Nat.add_zero, Nat.add_assoc, Nat.reduceAdd] at c00 c01 c02
      obtain ⟨b1, off1, t1', a10, a11, a12, hA1, hb1, hk1, c10, c11, c12, ht1⟩ := hk.get (k := 1) (by omega)
      obtain rfl : t1 = t1' := by simpa using hk1
      simp only [Nat.zero_mul, Nat.one_mul, Nat.add_zero, Nat.add_assoc, Nat.reduceAdd] at c10 c11 c12
      subst hA0
      have HC0 := Lib.hid (fun W (hb : Below w.heap.size w W) => ih t0 B W a00 a01 a02 (by simp only [T.sizes] at hm; omega) (by have := hb.size; omega) (ht0.below (hb.mono hB) (Nat.le_refl _)) hok.1)
      have HC1 := Lib.hid (fun W (hb : Below w.heap.size w W) => ih t1 B W a10 a11 a12 (by simp only [T.sizes] at hm; omega) (by have := hb.size; omega) (ht1.below (hb.mono hB) (Nat.le_refl _)) hok.2.1)
      have HI0 := Lib.hid (val_in64 t0 (TreeAt.tin t0 ht0) hok.1)
      have HI1 := Lib.hid (val_in64 t1 (TreeAt.tin t1 ht1) hok.2.1)
      obtain ⟨x0, y0, Z0, n0, d0, rfl, rfl, rfl⟩ := ht0.shape0
      obtain ⟨x1, y1, Z1, n1, d1, rfl, rfl, rfl⟩ := ht1.shape0
      obtain ⟨p0, hp0⟩ : ∃ p, p = valT t0 := ⟨_, rfl⟩
      obtain ⟨p1, hp1⟩ : ∃ p, p = valT t1 := ⟨_, rfl⟩
      have HR := Lib.hid (show valT (.node op x [t0, t1]) = twoR op p0 p1 by rw [hp0, hp1]; simp [valT, valsT])
      rw [HR.out]
      rw [← hp0] at HC0 HI0
      rw [← hp1] at HC1 HI1
      have hbl : b0 < w.heap.size := by omega
      injection hA1 with hA1
      injection hA1 with e1 e2 e3
      subst e1 e2
      clear hv hk ih hm hok hp0 hp1 ht0 ht1 hk0 hk1 hb1 HR
      have HT := Lib.hid (fun W => refBin_any op p0 p1 W h1.1 h1.2 HI0.out.1 HI0.out.2 HI1.out.1 HI1.out.2)
      clear h1 h2 hop1
      go_enter Try.func16, Try.ntmps16
      go_wp2_with fail
      refine region_grow (by kernel_rfl) (by kernel_rfl) (fun hG => ?_)
      repeat (go_big_quiet_step ((first
        | (go_at_call 16; with_reducible exact call_grow (HC0.out _ (grow_below HB1.out (by simp) _)))
        | (go_at_call 16; with_reducible exact call_grow (HC1.out _ (grow_below HB1.out (by simp) _)))
        | (go_at_call 29; exact call_grow_same (HT.out _)))))
      refine wpQuiet_nil ?_
      rintro ⟨w5, hb5⟩
      simp only []
      have HB3 := Lib.hid hb5
      clear hG hb5
      go_wp2_with fail
      go_ret
      exact ⟨rfl, HB1.out.trans (HB3.out.mono (by simp))⟩
    · obtain ⟨t0, rfl⟩ := one_of' h2
      obtain rfl : len = 1 := by simpa using hlen.symm
      simp only [valsOk] at hok
      have hop1 : op ≠ 1 := by omega
      have d1 : (op == 1) = false := by simpa using hop1
      obtain ⟨b0, off0, t0', a00, a01, a02, hA0, hb0, hk0, c00, c01, c02, ht0⟩ := hk.get (k := 0) (by omega)
      obtain rfl : t0 = t0' := by simpa using hk0
      simp only [Nat.zero_mul, Nat.one_mul, Nat.add_zero, Nat.add_assoc, Nat.reduceAdd] at c00 c01 c02
      subst hA0
      have HC0 := Lib.hid (fun W (hb : Below w.heap.size w W) => ih t0 B W a00 a01 a02 (by simp only [T.sizes] at hm; omega) (by have := hb.size; omega) (ht0.below (hb.mono hB) (Nat.le_refl _)) hok.1)
      obtain ⟨x0, y0, Z0, n0, d0, rfl, rfl, rfl⟩ := ht0.shape0
      obtain ⟨p0, hp0⟩ : ∃ p, p = valT t0 := ⟨_, rfl⟩
      have HR := Lib.hid (show valT (.node op x [t0]) = unR op p0 by rw [hp0]; simp [valT, valsT])
      rw [HR.out]
      rw [← hp0] at HC0
      have hbl : b0 < w.heap.size := by omega
      clear hv hk ih hm hok hp0 ht0 hk0 HR
      have HT := Lib.hid (fun W => refUn_any op p0 W h1.1 h1.2)
      clear h1 h2 hop1
      go_enter Try.func16, Try.ntmps16
      go_wp2_with fail
      refine region_grow (by kernel_rfl) (by kernel_rfl) (fun hG => ?_)
      repeat (go_big_quiet_step ((first
        | (go_at_call 16; with_reducible exact call_grow (HC0.out _ (grow_below HB1.out (by simp) _)))
        | (go_at_call 28; exact call_grow_same (HT.out _)))))
      refine wpQuiet_nil ?_
      rintro ⟨w5, hb5⟩
      simp only []
      have HB3 := Lib.hid hb5
      clear hG hb5
      go_wp2_with fail
      go_ret
      exact ⟨rfl, HB1.out.trans (HB3.out.mono (by simp))⟩
end Go.Proofs.Ytjkgpolikpochaa
