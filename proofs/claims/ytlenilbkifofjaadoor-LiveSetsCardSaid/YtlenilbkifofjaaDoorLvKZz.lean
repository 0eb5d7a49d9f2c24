/- live's Uses: sorted, compact. Conditions: as stated. -/
import Derived.Test.YtlenilbkifofjaaDoorLvIZz
import Derived.Test.YtlenilbkifofjaaDoorQ03Zz
import Derived.Test.YtlenilbkifofjaaDoorShelfZz
import Derived.Sort.OwnSortedInts
import Derived.Lib.OwnBridge
import Derived.Laws.OwnMore
set_option linter.unusedVariables false
set_option linter.unusedSimpArgs false
namespace Go.Proofs.YtlenilbkifofjaaDoor
open Go.RowKit

/-- New numbers; an empty list lies anywhere. -/
def LongsNew (l : List Int) (w : World) (e : Ending) (w' : World) : Prop := ∃ A c, e = .returned (.slice A l.length c) ∧ LongsAt w' w'.heap.size l (.slice A l.length c) ∧ Below w.heap.size w w'
theorem NewInts.longs {l : List Int} {w w' : World} {e : Ending} (h : NewInts l w e w') : LongsNew l w e w' := by
  obtain ⟨A, c, h1, h2, h3, h4, h5⟩ := h
  exact ⟨A, c, h1, h2, h5⟩
theorem lsort_own (g cap base : Nat) (zs : List Int) (w : World) (hz : zs.length ≤ 4000000000000000000) (h : w.ownsRow base 3 1 (.slice (some ⟨g, 0, none⟩) zs.length cap) zs.length (encI' zs)) :
    Calls Tryd.prog 20 #[.slice (some ⟨g, 0, none⟩) zs.length cap] w fun e w' => e = .returned (.tuple #[]) ∧ w'.ownsRow base 3 1 (.slice (some ⟨g, 0, none⟩) zs.length cap) zs.length (encI' (zs.mergeSort fun x y => decide (x ≤ y))) ∧ Below base w w' := by
  obtain ⟨g', cap', e, hb, hlt, hn, hm, hl, hH⟩ := Lib.holds_of_ownsRow h (by simp)
  injection e with e1 e2 e3
  injection e1 with e1
  injection e1 with e1
  subst e1 e3
  refine (Tryd.slices_Sort_int g 0 cap zs w hH hlt (by omega)).mono ?_
  rintro e w' ⟨rfl, n, os, rfl⟩
  rcases h.2 with ⟨e0, _⟩ | ⟨g', cap', cur, e0, hb', hg, hn', hm', hs, ht⟩
  · cases e0
  · injection e0 with e1 _ e3
    injection e1 with e1
    injection e1 with e1
    subst e1 e3
    refine ⟨rfl, ownsRow_sortedI (ss := zs) (List.length_mergeSort _) hb hg hn' hm' hs, ?_⟩
    exact (Wr.grown (F := fun k => k = g) (grownBy_sortedI _) (fun k hk => by cases hk; rfl)).below (by omega) (fun k hk => by have : k = g := hk; omega)
theorem compact_len (zs : List Int) : (Lib.compact zs).length ≤ zs.length := by
  unfold Lib.compact Lib.compactUpTo
  rw [List.length_map]
  exact Nat.le_trans (List.length_filter_le _ _) (by simp)
theorem lcompact_own (g cap base : Nat) (zs : List Int) (w : World) (hz : zs.length ≤ 4000000000000000000) (h : w.ownsRow base 3 1 (.slice (some ⟨g, 0, none⟩) zs.length cap) zs.length (encI' zs)) :
    Calls Tryd.prog 21 #[.slice (some ⟨g, 0, none⟩) zs.length cap] w fun e w' => e = .returned (.slice (some ⟨g, 0, none⟩) (Lib.compact zs).length cap) ∧ w'.ownsRow base 3 1 (.slice (some ⟨g, 0, none⟩) (Lib.compact zs).length cap) (Lib.compact zs).length (encI' (Lib.compact zs)) ∧ Below base w w' := by
  obtain ⟨g', cap', e, hb, hlt, hn, hm, hl, hH⟩ := Lib.holds_of_ownsRow h (by simp)
  injection e with e1 e2 e3
  injection e1 with e1
  injection e1 with e1
  subst e1 e3
  have hc := compact_len zs
  refine (Tryd.slices_Compact_int g 0 cap zs w hH (by omega) hn).mono ?_
  rintro e w' ⟨rfl, q, rfl⟩
  refine ⟨rfl, ?_, Lib.below_putRow ⟨rfl, rfl, rfl, by omega, fun _ _ => rfl⟩ hb⟩
  have := Lib.ownsRow_putRow (q := q) (ys := Lib.compact zs ++ List.replicate (zs.length - (Lib.compact zs).length) 0) (k := (Lib.compact zs).length) h (by simp; omega) hc
  rw [List.take_left] at this
  exact this
theorem luses_end {x : InsS} {l : List Int} {w w' : World} {base g cap : Nat} (hu : Lib.compact (l.mergeSort fun x y => decide (x ≤ y)) = usesL x) (hin : ∀ x, x ∈ l → In64 x)
    (hown : w'.ownsRow base 3 1 (.slice (some ⟨g, 0, none⟩) (Lib.compact (l.mergeSort fun x y => decide (x ≤ y))).length cap) (Lib.compact (l.mergeSort fun x y => decide (x ≤ y))).length (encI' (Lib.compact (l.mergeSort fun x y => decide (x ≤ y))))) (hb : Below w.heap.size w w') :
    LongsNew (usesL x) w (.returned (.slice (some ⟨g, 0, none⟩) (Lib.compact (l.mergeSort fun x y => decide (x ≤ y))).length cap)) w' := by
  refine ⟨some ⟨g, 0, none⟩, cap, by rw [hu], ?_, hb⟩
  rw [← hu]
  exact owns_longs hown fun y hy => hin y (List.mem_mergeSort.1 ((compact_mem (sort_le _) y).1 hy))
theorem own_lit1 (W : World) (a : Int) (base : Nat) (hb : base ≤ W.heap.size) : (W.alloc (.cells #[.int .i64 a] 3)).ownsRow base 3 1 (.slice (some ⟨W.heap.size, 0, none⟩) [a].length 1) [a].length (encI' [a]) :=
  World.ownsRow_lit W #[.int .i64 a] 1 hb (by unfold maxLen; omega) rfl
theorem own_lit2 (W : World) (a b : Int) (base : Nat) (hb : base ≤ W.heap.size) : (W.alloc (.cells #[.int .i64 a, .int .i64 b] 3)).ownsRow base 3 1 (.slice (some ⟨W.heap.size, 0, none⟩) [a, b].length 2) [a, b].length (encI' [a, b]) :=
  World.ownsRow_lit W #[.int .i64 a, .int .i64 b] 2 hb (by unfold maxLen; omega) rfl
set_option maxRecDepth 100000 in
set_option maxHeartbeats 32000000 in
theorem luses_any (x : InsS) (SA : Option Addr) (scap B : Nat) (w : World) (hB : B ≤ w.heap.size) (hst : LongsAt w B x.arg (.slice SA x.arg.length scap)) (ha : In64 x.a) (hb : In64 x.b) (hd : In64 x.dst) (hal : x.arg.length * 8 ≤ 140737488351232) :
    Calls Tryd.prog 7 #[insV x SA scap] w fun e w' => LongsNew (usesL x) w e w' := by
  obtain ⟨op, dst, a, b, nn, arg⟩ := x
  unfold insV
  simp only at hst ha hb hd hal ⊢
  have hcase : (op = 2 ∨ op = 7 ∨ op = 6 ∨ op = 8 ∨ op = 11 ∨ op = 13 ∨ op = 16 ∨ op = 17) ∨ op = 5 ∨ op = 9 ∨ op = 10 ∨ ((op == 2) = false ∧ (op == 7) = false ∧ (op == 6) = false ∧ (op == 8) = false ∧ (op == 11) = false ∧ (op == 13) = false ∧ (op == 16) = false ∧ (op == 17) = false ∧ (op == 5) = false ∧ (op == 9) = false ∧ (op == 10) = false) := by
    simp only [beq_eq_false_iff_ne]
    omega
  rcases hcase with h | h | h | rfl | ⟨d1, d2, d3, d4, d5, d6, d7, d8, d9, d10, d11⟩
  · rcases h with rfl | rfl | rfl | rfl | rfl | rfl | rfl | rfl
    · have HU := Lib.hid (show Lib.compact ([a].mergeSort fun x y => decide (x ≤ y)) = usesL ⟨2, dst, a, b, nn, arg⟩ from uses_sorted (x := ⟨2, dst, a, b, nn, arg⟩))
      have HB := Lib.hid (below2 w (.cells #[.int .i64 2, .int .i64 dst, .int .i64 a, .int .i64 b, .int .i64 nn, .slice SA arg.length scap] 38) (.cells #[.int .i64 a] 3))
      have HOWN := Lib.hid (own_lit1 (w.alloc (.cells #[.int .i64 2, .int .i64 dst, .int .i64 a, .int .i64 b, .int .i64 nn, .slice SA arg.length scap] 38)) a w.heap.size (by simp))
      rw [show (w.alloc (.cells #[.int .i64 2, .int .i64 dst, .int .i64 a, .int .i64 b, .int .i64 nn, .slice SA arg.length scap] 38)).heap.size = w.heap.size + 1 from by simp] at HOWN
      have HIN := Lib.hid (show ∀ x, x ∈ [a] → In64 x from by simp [ha])
      have HS := Lib.hid (lsort_own (w.heap.size + 1) 1 w.heap.size [a])
      have HC := Lib.hid (lcompact_own (w.heap.size + 1) 1 w.heap.size ([a].mergeSort fun x y => decide (x ≤ y)))
      rw [List.length_mergeSort] at HC
      simp only [List.length_cons, List.length_nil, Nat.zero_add, Nat.reduceAdd] at HS HC HOWN
      go_enter Tryd.func7, Tryd.ntmps7
      refine wp_letter (fun Q hQ => ?_)
      have HQ := Lib.hid hQ
      clear hQ
      go_wp2_with (first | (go_at_call 20; refine (HS.out _ (by omega) HOWN.out).mono ?_; rintro e w2 ⟨rfl, hown2, hb2⟩; have HOWN2 := Lib.hid hown2; have HB2 := Lib.hid hb2; clear hown2 hb2) | (go_at_call 21; refine (HC.out _ (by omega) HOWN2.out).mono ?_; rintro e w3 ⟨rfl, hown3, hb3⟩))
      refine HQ.out _ _ _ ?_
      exact bodyPost_ret (v := .slice (some ⟨w.heap.size + 1, 0, none⟩) (Lib.compact ([a].mergeSort fun x y => decide (x ≤ y))).length 1) (by simp [results, Tryd.results7, go_sem]) rfl (luses_end HU.out HIN.out hown3 ((HB.out.trans (HB2.out.mono (by simp))).trans hb3))
    · have HU := Lib.hid (show Lib.compact ([a].mergeSort fun x y => decide (x ≤ y)) = usesL ⟨7, dst, a, b, nn, arg⟩ from uses_sorted (x := ⟨7, dst, a, b, nn, arg⟩))
      have HB := Lib.hid (below2 w (.cells #[.int .i64 7, .int .i64 dst, .int .i64 a, .int .i64 b, .int .i64 nn, .slice SA arg.length scap] 38) (.cells #[.int .i64 a] 3))
      have HOWN := Lib.hid (own_lit1 (w.alloc (.cells #[.int .i64 7, .int .i64 dst, .int .i64 a, .int .i64 b, .int .i64 nn, .slice SA arg.length scap] 38)) a w.heap.size (by simp))
      rw [show (w.alloc (.cells #[.int .i64 7, .int .i64 dst, .int .i64 a, .int .i64 b, .int .i64 nn, .slice SA arg.length scap] 38)).heap.size = w.heap.size + 1 from by simp] at HOWN
      have HIN := Lib.hid (show ∀ x, x ∈ [a] → In64 x from by simp [ha])
      have HS := Lib.hid (lsort_own (w.heap.size + 1) 1 w.heap.size [a])
      have HC := Lib.hid (lcompact_own (w.heap.size + 1) 1 w.heap.size ([a].mergeSort fun x y => decide (x ≤ y)))
      rw [List.length_mergeSort] at HC
      simp only [List.length_cons, List.length_nil, Nat.zero_add, Nat.reduceAdd] at HS HC HOWN
      go_enter Tryd.func7, Tryd.ntmps7
      refine wp_letter (fun Q hQ => ?_)
      have HQ := Lib.hid hQ
      clear hQ
      go_wp2_with (first | (go_at_call 20; refine (HS.out _ (by omega) HOWN.out).mono ?_; rintro e w2 ⟨rfl, hown2, hb2⟩; have HOWN2 := Lib.hid hown2; have HB2 := Lib.hid hb2; clear hown2 hb2) | (go_at_call 21; refine (HC.out _ (by omega) HOWN2.out).mono ?_; rintro e w3 ⟨rfl, hown3, hb3⟩))
      refine HQ.out _ _ _ ?_
      exact bodyPost_ret (v := .slice (some ⟨w.heap.size + 1, 0, none⟩) (Lib.compact ([a].mergeSort fun x y => decide (x ≤ y))).length 1) (by simp [results, Tryd.results7, go_sem]) rfl (luses_end HU.out HIN.out hown3 ((HB.out.trans (HB2.out.mono (by simp))).trans hb3))
    · have HU := Lib.hid (show Lib.compact ([a].mergeSort fun x y => decide (x ≤ y)) = usesL ⟨6, dst, a, b, nn, arg⟩ from uses_sorted (x := ⟨6, dst, a, b, nn, arg⟩))
      have HB := Lib.hid (below2 w (.cells #[.int .i64 6, .int .i64 dst, .int .i64 a, .int .i64 b, .int .i64 nn, .slice SA arg.length scap] 38) (.cells #[.int .i64 a] 3))
      have HOWN := Lib.hid (own_lit1 (w.alloc (.cells #[.int .i64 6, .int .i64 dst, .int .i64 a, .int .i64 b, .int .i64 nn, .slice SA arg.length scap] 38)) a w.heap.size (by simp))
      rw [show (w.alloc (.cells #[.int .i64 6, .int .i64 dst, .int .i64 a, .int .i64 b, .int .i64 nn, .slice SA arg.length scap] 38)).heap.size = w.heap.size + 1 from by simp] at HOWN
      have HIN := Lib.hid (show ∀ x, x ∈ [a] → In64 x from by simp [ha])
      have HS := Lib.hid (lsort_own (w.heap.size + 1) 1 w.heap.size [a])
      have HC := Lib.hid (lcompact_own (w.heap.size + 1) 1 w.heap.size ([a].mergeSort fun x y => decide (x ≤ y)))
      rw [List.length_mergeSort] at HC
      simp only [List.length_cons, List.length_nil, Nat.zero_add, Nat.reduceAdd] at HS HC HOWN
      go_enter Tryd.func7, Tryd.ntmps7
      refine wp_letter (fun Q hQ => ?_)
      have HQ := Lib.hid hQ
      clear hQ
      go_wp2_with (first | (go_at_call 20; refine (HS.out _ (by omega) HOWN.out).mono ?_; rintro e w2 ⟨rfl, hown2, hb2⟩; have HOWN2 := Lib.hid hown2; have HB2 := Lib.hid hb2; clear hown2 hb2) | (go_at_call 21; refine (HC.out _ (by omega) HOWN2.out).mono ?_; rintro e w3 ⟨rfl, hown3, hb3⟩))
      refine HQ.out _ _ _ ?_
      exact bodyPost_ret (v := .slice (some ⟨w.heap.size + 1, 0, none⟩) (Lib.compact ([a].mergeSort fun x y => decide (x ≤ y))).length 1) (by simp [results, Tryd.results7, go_sem]) rfl (luses_end HU.out HIN.out hown3 ((HB.out.trans (HB2.out.mono (by simp))).trans hb3))
    · have HU := Lib.hid (show Lib.compact ([a].mergeSort fun x y => decide (x ≤ y)) = usesL ⟨8, dst, a, b, nn, arg⟩ from uses_sorted (x := ⟨8, dst, a, b, nn, arg⟩))
      have HB := Lib.hid (below2 w (.cells #[.int .i64 8, .int .i64 dst, .int .i64 a, .int .i64 b, .int .i64 nn, .slice SA arg.length scap] 38) (.cells #[.int .i64 a] 3))
      have HOWN := Lib.hid (own_lit1 (w.alloc (.cells #[.int .i64 8, .int .i64 dst, .int .i64 a, .int .i64 b, .int .i64 nn, .slice SA arg.length scap] 38)) a w.heap.size (by simp))
      rw [show (w.alloc (.cells #[.int .i64 8, .int .i64 dst, .int .i64 a, .int .i64 b, .int .i64 nn, .slice SA arg.length scap] 38)).heap.size = w.heap.size + 1 from by simp] at HOWN
      have HIN := Lib.hid (show ∀ x, x ∈ [a] → In64 x from by simp [ha])
      have HS := Lib.hid (lsort_own (w.heap.size + 1) 1 w.heap.size [a])
      have HC := Lib.hid (lcompact_own (w.heap.size + 1) 1 w.heap.size ([a].mergeSort fun x y => decide (x ≤ y)))
      rw [List.length_mergeSort] at HC
      simp only [List.length_cons, List.length_nil, Nat.zero_add, Nat.reduceAdd] at HS HC HOWN
      go_enter Tryd.func7, Tryd.ntmps7
      refine wp_letter (fun Q hQ => ?_)
      have HQ := Lib.hid hQ
      clear hQ
      go_wp2_with (first | (go_at_call 20; refine (HS.out _ (by omega) HOWN.out).mono ?_; rintro e w2 ⟨rfl, hown2, hb2⟩; have HOWN2 := Lib.hid hown2; have HB2 := Lib.hid hb2; clear hown2 hb2) | (go_at_call 21; refine (HC.out _ (by omega) HOWN2.out).mono ?_; rintro e w3 ⟨rfl, hown3, hb3⟩))
      refine HQ.out _ _ _ ?_
      exact bodyPost_ret (v := .slice (some ⟨w.heap.size + 1, 0, none⟩) (Lib.compact ([a].mergeSort fun x y => decide (x ≤ y))).length 1) (by simp [results, Tryd.results7, go_sem]) rfl (luses_end HU.out HIN.out hown3 ((HB.out.trans (HB2.out.mono (by simp))).trans hb3))
    · have HU := Lib.hid (show Lib.compact ([a].mergeSort fun x y => decide (x ≤ y)) = usesL ⟨11, dst, a, b, nn, arg⟩ from uses_sorted (x := ⟨11, dst, a, b, nn, arg⟩))
      have HB := Lib.hid (below2 w (.cells #[.int .i64 11, .int .i64 dst, .int .i64 a, .int .i64 b, .int .i64 nn, .slice SA arg.length scap] 38) (.cells #[.int .i64 a] 3))
      have HOWN := Lib.hid (own_lit1 (w.alloc (.cells #[.int .i64 11, .int .i64 dst, .int .i64 a, .int .i64 b, .int .i64 nn, .slice SA arg.length scap] 38)) a w.heap.size (by simp))
      rw [show (w.alloc (.cells #[.int .i64 11, .int .i64 dst, .int .i64 a, .int .i64 b, .int .i64 nn, .slice SA arg.length scap] 38)).heap.size = w.heap.size + 1 from by simp] at HOWN
      have HIN := Lib.hid (show ∀ x, x ∈ [a] → In64 x from by simp [ha])
      have HS := Lib.hid (lsort_own (w.heap.size + 1) 1 w.heap.size [a])
      have HC := Lib.hid (lcompact_own (w.heap.size + 1) 1 w.heap.size ([a].mergeSort fun x y => decide (x ≤ y)))
      rw [List.length_mergeSort] at HC
      simp only [List.length_cons, List.length_nil, Nat.zero_add, Nat.reduceAdd] at HS HC HOWN
      go_enter Tryd.func7, Tryd.ntmps7
      refine wp_letter (fun Q hQ => ?_)
      have HQ := Lib.hid hQ
      clear hQ
      go_wp2_with (first | (go_at_call 20; refine (HS.out _ (by omega) HOWN.out).mono ?_; rintro e w2 ⟨rfl, hown2, hb2⟩; have HOWN2 := Lib.hid hown2; have HB2 := Lib.hid hb2; clear hown2 hb2) | (go_at_call 21; refine (HC.out _ (by omega) HOWN2.out).mono ?_; rintro e w3 ⟨rfl, hown3, hb3⟩))
      refine HQ.out _ _ _ ?_
      exact bodyPost_ret (v := .slice (some ⟨w.heap.size + 1, 0, none⟩) (Lib.compact ([a].mergeSort fun x y => decide (x ≤ y))).length 1) (by simp [results, Tryd.results7, go_sem]) rfl (luses_end HU.out HIN.out hown3 ((HB.out.trans (HB2.out.mono (by simp))).trans hb3))
    · have HU := Lib.hid (show Lib.compact ([a].mergeSort fun x y => decide (x ≤ y)) = usesL ⟨13, dst, a, b, nn, arg⟩ from uses_sorted (x := ⟨13, dst, a, b, nn, arg⟩))
      have HB := Lib.hid (below2 w (.cells #[.int .i64 13, .int .i64 dst, .int .i64 a, .int .i64 b, .int .i64 nn, .slice SA arg.length scap] 38) (.cells #[.int .i64 a] 3))
      have HOWN := Lib.hid (own_lit1 (w.alloc (.cells #[.int .i64 13, .int .i64 dst, .int .i64 a, .int .i64 b, .int .i64 nn, .slice SA arg.length scap] 38)) a w.heap.size (by simp))
      rw [show (w.alloc (.cells #[.int .i64 13, .int .i64 dst, .int .i64 a, .int .i64 b, .int .i64 nn, .slice SA arg.length scap] 38)).heap.size = w.heap.size + 1 from by simp] at HOWN
      have HIN := Lib.hid (show ∀ x, x ∈ [a] → In64 x from by simp [ha])
      have HS := Lib.hid (lsort_own (w.heap.size + 1) 1 w.heap.size [a])
      have HC := Lib.hid (lcompact_own (w.heap.size + 1) 1 w.heap.size ([a].mergeSort fun x y => decide (x ≤ y)))
      rw [List.length_mergeSort] at HC
      simp only [List.length_cons, List.length_nil, Nat.zero_add, Nat.reduceAdd] at HS HC HOWN
      go_enter Tryd.func7, Tryd.ntmps7
      refine wp_letter (fun Q hQ => ?_)
      have HQ := Lib.hid hQ
      clear hQ
      go_wp2_with (first | (go_at_call 20; refine (HS.out _ (by omega) HOWN.out).mono ?_; rintro e w2 ⟨rfl, hown2, hb2⟩; have HOWN2 := Lib.hid hown2; have HB2 := Lib.hid hb2; clear hown2 hb2) | (go_at_call 21; refine (HC.out _ (by omega) HOWN2.out).mono ?_; rintro e w3 ⟨rfl, hown3, hb3⟩))
      refine HQ.out _ _ _ ?_
      exact bodyPost_ret (v := .slice (some ⟨w.heap.size + 1, 0, none⟩) (Lib.compact ([a].mergeSort fun x y => decide (x ≤ y))).length 1) (by simp [results, Tryd.results7, go_sem]) rfl (luses_end HU.out HIN.out hown3 ((HB.out.trans (HB2.out.mono (by simp))).trans hb3))
    · have HU := Lib.hid (show Lib.compact ([a].mergeSort fun x y => decide (x ≤ y)) = usesL ⟨16, dst, a, b, nn, arg⟩ from uses_sorted (x := ⟨16, dst, a, b, nn, arg⟩))
      have HB := Lib.hid (below2 w (.cells #[.int .i64 16, .int .i64 dst, .int .i64 a, .int .i64 b, .int .i64 nn, .slice SA arg.length scap] 38) (.cells #[.int .i64 a] 3))
      have HOWN := Lib.hid (own_lit1 (w.alloc (.cells #[.int .i64 16, .int .i64 dst, .int .i64 a, .int .i64 b, .int .i64 nn, .slice SA arg.length scap] 38)) a w.heap.size (by simp))
      rw [show (w.alloc (.cells #[.int .i64 16, .int .i64 dst, .int .i64 a, .int .i64 b, .int .i64 nn, .slice SA arg.length scap] 38)).heap.size = w.heap.size + 1 from by simp] at HOWN
      have HIN := Lib.hid (show ∀ x, x ∈ [a] → In64 x from by simp [ha])
      have HS := Lib.hid (lsort_own (w.heap.size + 1) 1 w.heap.size [a])
      have HC := Lib.hid (lcompact_own (w.heap.size + 1) 1 w.heap.size ([a].mergeSort fun x y => decide (x ≤ y)))
      rw [List.length_mergeSort] at HC
      simp only [List.length_cons, List.length_nil, Nat.zero_add, Nat.reduceAdd] at HS HC HOWN
      go_enter Tryd.func7, Tryd.ntmps7
      refine wp_letter (fun Q hQ => ?_)
      have HQ := Lib.hid hQ
      clear hQ
      go_wp2_with (first | (go_at_call 20; refine (HS.out _ (by omega) HOWN.out).mono ?_; rintro e w2 ⟨rfl, hown2, hb2⟩; have HOWN2 := Lib.hid hown2; have HB2 := Lib.hid hb2; clear hown2 hb2) | (go_at_call 21; refine (HC.out _ (by omega) HOWN2.out).mono ?_; rintro e w3 ⟨rfl, hown3, hb3⟩))
      refine HQ.out _ _ _ ?_
      exact bodyPost_ret (v := .slice (some ⟨w.heap.size + 1, 0, none⟩) (Lib.compact ([a].mergeSort fun x y => decide (x ≤ y))).length 1) (by simp [results, Tryd.results7, go_sem]) rfl (luses_end HU.out HIN.out hown3 ((HB.out.trans (HB2.out.mono (by simp))).trans hb3))
    · have HU := Lib.hid (show Lib.compact ([a].mergeSort fun x y => decide (x ≤ y)) = usesL ⟨17, dst, a, b, nn, arg⟩ from uses_sorted (x := ⟨17, dst, a, b, nn, arg⟩))
      have HB := Lib.hid (below2 w (.cells #[.int .i64 17, .int .i64 dst, .int .i64 a, .int .i64 b, .int .i64 nn, .slice SA arg.length scap] 38) (.cells #[.int .i64 a] 3))
      have HOWN := Lib.hid (own_lit1 (w.alloc (.cells #[.int .i64 17, .int .i64 dst, .int .i64 a, .int .i64 b, .int .i64 nn, .slice SA arg.length scap] 38)) a w.heap.size (by simp))
      rw [show (w.alloc (.cells #[.int .i64 17, .int .i64 dst, .int .i64 a, .int .i64 b, .int .i64 nn, .slice SA arg.length scap] 38)).heap.size = w.heap.size + 1 from by simp] at HOWN
      have HIN := Lib.hid (show ∀ x, x ∈ [a] → In64 x from by simp [ha])
      have HS := Lib.hid (lsort_own (w.heap.size + 1) 1 w.heap.size [a])
      have HC := Lib.hid (lcompact_own (w.heap.size + 1) 1 w.heap.size ([a].mergeSort fun x y => decide (x ≤ y)))
      rw [List.length_mergeSort] at HC
      simp only [List.length_cons, List.length_nil, Nat.zero_add, Nat.reduceAdd] at HS HC HOWN
      go_enter Tryd.func7, Tryd.ntmps7
      refine wp_letter (fun Q hQ => ?_)
      have HQ := Lib.hid hQ
      clear hQ
      go_wp2_with (first | (go_at_call 20; refine (HS.out _ (by omega) HOWN.out).mono ?_; rintro e w2 ⟨rfl, hown2, hb2⟩; have HOWN2 := Lib.hid hown2; have HB2 := Lib.hid hb2; clear hown2 hb2) | (go_at_call 21; refine (HC.out _ (by omega) HOWN2.out).mono ?_; rintro e w3 ⟨rfl, hown3, hb3⟩))
      refine HQ.out _ _ _ ?_
      exact bodyPost_ret (v := .slice (some ⟨w.heap.size + 1, 0, none⟩) (Lib.compact ([a].mergeSort fun x y => decide (x ≤ y))).length 1) (by simp [results, Tryd.results7, go_sem]) rfl (luses_end HU.out HIN.out hown3 ((HB.out.trans (HB2.out.mono (by simp))).trans hb3))
  · rcases h with rfl
    · have HU := Lib.hid (show Lib.compact ([a, b].mergeSort fun x y => decide (x ≤ y)) = usesL ⟨5, dst, a, b, nn, arg⟩ from uses_sorted (x := ⟨5, dst, a, b, nn, arg⟩))
      have HB := Lib.hid (below2 w (.cells #[.int .i64 5, .int .i64 dst, .int .i64 a, .int .i64 b, .int .i64 nn, .slice SA arg.length scap] 38) (.cells #[.int .i64 a, .int .i64 b] 3))
      have HOWN := Lib.hid (own_lit2 (w.alloc (.cells #[.int .i64 5, .int .i64 dst, .int .i64 a, .int .i64 b, .int .i64 nn, .slice SA arg.length scap] 38)) a b w.heap.size (by simp))
      rw [show (w.alloc (.cells #[.int .i64 5, .int .i64 dst, .int .i64 a, .int .i64 b, .int .i64 nn, .slice SA arg.length scap] 38)).heap.size = w.heap.size + 1 from by simp] at HOWN
      have HIN := Lib.hid (show ∀ x, x ∈ [a, b] → In64 x from by simp [ha, hb])
      have HS := Lib.hid (lsort_own (w.heap.size + 1) 2 w.heap.size [a, b])
      have HC := Lib.hid (lcompact_own (w.heap.size + 1) 2 w.heap.size ([a, b].mergeSort fun x y => decide (x ≤ y)))
      rw [List.length_mergeSort] at HC
      simp only [List.length_cons, List.length_nil, Nat.zero_add, Nat.reduceAdd] at HS HC HOWN
      go_enter Tryd.func7, Tryd.ntmps7
      refine wp_letter (fun Q hQ => ?_)
      have HQ := Lib.hid hQ
      clear hQ
      go_wp2_with (first | (go_at_call 20; refine (HS.out _ (by omega) HOWN.out).mono ?_; rintro e w2 ⟨rfl, hown2, hb2⟩; have HOWN2 := Lib.hid hown2; have HB2 := Lib.hid hb2; clear hown2 hb2) | (go_at_call 21; refine (HC.out _ (by omega) HOWN2.out).mono ?_; rintro e w3 ⟨rfl, hown3, hb3⟩))
      refine HQ.out _ _ _ ?_
      exact bodyPost_ret (v := .slice (some ⟨w.heap.size + 1, 0, none⟩) (Lib.compact ([a, b].mergeSort fun x y => decide (x ≤ y))).length 2) (by simp [results, Tryd.results7, go_sem]) rfl (luses_end HU.out HIN.out hown3 ((HB.out.trans (HB2.out.mono (by simp))).trans hb3))
  · rcases h with rfl
    · have HU := Lib.hid (show Lib.compact ([a, dst].mergeSort fun x y => decide (x ≤ y)) = usesL ⟨9, dst, a, b, nn, arg⟩ from uses_sorted (x := ⟨9, dst, a, b, nn, arg⟩))
      have HB := Lib.hid (below2 w (.cells #[.int .i64 9, .int .i64 dst, .int .i64 a, .int .i64 b, .int .i64 nn, .slice SA arg.length scap] 38) (.cells #[.int .i64 a, .int .i64 dst] 3))
      have HOWN := Lib.hid (own_lit2 (w.alloc (.cells #[.int .i64 9, .int .i64 dst, .int .i64 a, .int .i64 b, .int .i64 nn, .slice SA arg.length scap] 38)) a dst w.heap.size (by simp))
      rw [show (w.alloc (.cells #[.int .i64 9, .int .i64 dst, .int .i64 a, .int .i64 b, .int .i64 nn, .slice SA arg.length scap] 38)).heap.size = w.heap.size + 1 from by simp] at HOWN
      have HIN := Lib.hid (show ∀ x, x ∈ [a, dst] → In64 x from by simp [ha, hd])
      have HS := Lib.hid (lsort_own (w.heap.size + 1) 2 w.heap.size [a, dst])
      have HC := Lib.hid (lcompact_own (w.heap.size + 1) 2 w.heap.size ([a, dst].mergeSort fun x y => decide (x ≤ y)))
      rw [List.length_mergeSort] at HC
      simp only [List.length_cons, List.length_nil, Nat.zero_add, Nat.reduceAdd] at HS HC HOWN
      go_enter Tryd.func7, Tryd.ntmps7
      refine wp_letter (fun Q hQ => ?_)
      have HQ := Lib.hid hQ
      clear hQ
      go_wp2_with (first | (go_at_call 20; refine (HS.out _ (by omega) HOWN.out).mono ?_; rintro e w2 ⟨rfl, hown2, hb2⟩; have HOWN2 := Lib.hid hown2; have HB2 := Lib.hid hb2; clear hown2 hb2) | (go_at_call 21; refine (HC.out _ (by omega) HOWN2.out).mono ?_; rintro e w3 ⟨rfl, hown3, hb3⟩))
      refine HQ.out _ _ _ ?_
      exact bodyPost_ret (v := .slice (some ⟨w.heap.size + 1, 0, none⟩) (Lib.compact ([a, dst].mergeSort fun x y => decide (x ≤ y))).length 2) (by simp [results, Tryd.results7, go_sem]) rfl (luses_end HU.out HIN.out hown3 ((HB.out.trans (HB2.out.mono (by simp))).trans hb3))
  · have HU := Lib.hid (show Lib.compact (arg.mergeSort fun x y => decide (x ≤ y)) = usesL ⟨10, dst, a, b, nn, arg⟩ from uses_sorted (x := ⟨10, dst, a, b, nn, arg⟩))
    have HB := Lib.hid (below1 w (.cells #[.int .i64 10, .int .i64 dst, .int .i64 a, .int .i64 b, .int .i64 nn, .slice SA arg.length scap] 38))
    have HIN := Lib.hid (show ∀ x, x ∈ arg → In64 x from hst.in64')
    have hst1 := LongsAt.below hst ((below1 w (.cells #[.int .i64 10, .int .i64 dst, .int .i64 a, .int .i64 b, .int .i64 nn, .slice SA arg.length scap] 38)).mono hB) (Nat.le_refl _)
    by_cases h0 : arg.length = 0
    · have harg : arg = [] := List.length_eq_zero_iff.1 h0
      subst harg
      have HN := Lib.hid (show ∀ (A : Option Addr) (c : Nat) (w' : World), Below w.heap.size w w' → LongsNew (usesL ⟨10, dst, a, b, nn, []⟩) w (.returned (.slice A 0 c)) w' from fun A c w' hb => ⟨A, c, rfl, ⟨A, c, rfl, by simp [usesL, regsL], fun h => by simp [usesL, regsL] at h⟩, hb⟩)
      have HCL := Lib.hid (show Calls Tryd.prog 19 #[.slice SA 0 scap] (w.alloc (.cells #[.int .i64 10, .int .i64 dst, .int .i64 a, .int .i64 b, .int .i64 nn, .slice SA 0 scap] 38)) (fun e w' => ∃ A c, e = .returned (.slice A 0 c) ∧ Below (w.heap.size + 1) (w.alloc (.cells #[.int .i64 10, .int .i64 dst, .int .i64 a, .int .i64 b, .int .i64 nn, .slice SA 0 scap] 38)) w') from by
        cases SA with
        | none =>
          refine (Tryd.slices_Clone_int_nil 0 scap _).mono ?_
          rintro e w' ⟨rfl, rfl⟩
          exact ⟨none, 0, rfl, Below.refl _ _⟩
        | some p =>
          refine (Tryd.slices_Clone_int_zero p scap _).mono ?_
          rintro e w' ⟨v, rfl, ho, hv, hb⟩
          rcases ho.2 with ⟨e0, _⟩ | ⟨g, cap, cur, e0, _⟩
          · exact absurd e0 hv
          · exact ⟨_, _, by rw [e0], by simpa using hb⟩)
      simp only [List.length_nil] at HN HCL HB ⊢
      clear hst hst1 HU HIN
      go_enter Tryd.func7, Tryd.ntmps7
      refine wp_letter (fun Q hQ => ?_)
      have HQ := Lib.hid hQ
      clear hQ
      go_wp2_with (first | (go_at_call 19; refine HCL.out.mono ?_; rintro e w1 ⟨A1, c1, rfl, hb1⟩; have HB1 := Lib.hid hb1; clear hb1) | (go_at_call 20; refine (Tryd.slices_Sort_int_none A1 c1 _).mono ?_; rintro e w2 ⟨rfl, hw2⟩; rw [hw2]; clear hw2 w2) | (go_at_call 21; refine (Tryd.slices_Compact_int_empty A1 c1 _).mono ?_; rintro e w3 ⟨rfl, hw3⟩; rw [hw3]; clear hw3 w3))
      refine HQ.out _ _ _ ?_
      exact bodyPost_ret (v := .slice A1 0 c1) (by simp [results, Tryd.results7, go_sem]) rfl (HN.out _ _ _ (HB.out.trans (HB1.out.mono (by omega))))
    · obtain ⟨sb, soff, r0, rfl, hsb, _, _, _⟩ := SliceAt.get hst1 (show 0 < arg.length by omega)
      have HCL := Lib.hid (Tryd.slices_Clone_int sb soff arg.length scap arg (w.alloc (.cells #[.int .i64 10, .int .i64 dst, .int .i64 a, .int .i64 b, .int .i64 nn, .slice (some ⟨sb, soff, none⟩) arg.length scap] 38)) (Nat.le_refl _) (by omega) (fun j hj => by
        obtain ⟨h1, h2⟩ := longs_cell hst1 (List.getElem?_eq_getElem hj)
        rw [h1, List.getD_eq_getElem?_getD, List.getElem?_eq_getElem hj]
        rfl))
      have han : arg.length ≤ 4000000000000000000 := by omega
      have HS := Lib.hid (fun g cap W h => lsort_own g cap (w.heap.size + 1) arg W han h)
      have HC := Lib.hid (fun g cap W h => lcompact_own g cap (w.heap.size + 1) (arg.mergeSort fun x y => decide (x ≤ y)) W (by rw [List.length_mergeSort]; exact han) (by rw [List.length_mergeSort]; exact h))
      rw [List.length_mergeSort] at HC
      rw [List.take_length] at HCL
      have hz1 : (w.alloc (.cells #[.int .i64 10, .int .i64 dst, .int .i64 a, .int .i64 b, .int .i64 nn, .slice (some ⟨sb, soff, none⟩) arg.length scap] 38)).heap.size = w.heap.size + 1 := by simp
      rw [hz1] at HCL
      clear hst hst1 hz1
      go_enter Tryd.func7, Tryd.ntmps7
      refine wp_letter (fun Q hQ => ?_)
      have HQ := Lib.hid hQ
      clear hQ
      go_wp2_with (first | (go_at_call 19; refine HCL.out.mono ?_; rintro e w1 ⟨v1, rfl, hown1, hne1, hb1⟩; have HB1 := Lib.hid hb1; clear hb1; obtain ⟨g, cap, rfl, hg⟩ : ∃ g cap, v1 = .slice (some ⟨g, 0, none⟩) arg.length cap ∧ True := (by rcases hown1.2 with ⟨e0, _⟩ | ⟨g, cap, cur, e0, _⟩; exact absurd e0 hne1; exact ⟨g, cap, e0, trivial⟩); clear hne1 hg; have HOWN := Lib.hid hown1; clear hown1) | (go_at_call 20; refine (HS.out g cap _ HOWN.out).mono ?_; rintro e w2 ⟨rfl, hown2, hb2⟩; have HOWN2 := Lib.hid hown2; have HB2 := Lib.hid hb2; clear hown2 hb2) | (go_at_call 21; refine (HC.out g cap _ HOWN2.out).mono ?_; rintro e w3 ⟨rfl, hown3, hb3⟩))
      refine HQ.out _ _ _ ?_
      exact bodyPost_ret (v := .slice (some ⟨g, 0, none⟩) (Lib.compact (arg.mergeSort fun x y => decide (x ≤ y))).length cap) (by simp [results, Tryd.results7, go_sem]) rfl (luses_end HU.out HIN.out hown3 ((HB.out.trans (HB1.out.mono (by omega))).trans ((HB2.out.mono (by omega)).trans (hb3.mono (by omega)))))
  · have HU := Lib.hid (show usesL ⟨op, dst, a, b, nn, arg⟩ = [] from by
      simp only [beq_eq_false_iff_ne] at d1 d2 d3 d4 d5 d6 d7 d8 d9 d10 d11
      simp [usesL, regsL, d1, d2, d3, d4, d5, d6, d7, d8, d9, d10, d11])
    rw [HU.out]
    go_enter Tryd.func7, Tryd.ntmps7
    refine wp_letter (fun Q hQ => ?_)
    have HQ := Lib.hid hQ
    clear hQ
    go_wp2_with (first | (go_at_call 20; refine (Tryd.slices_Sort_int_none none 0 _).mono ?_; rintro e w2 ⟨rfl, hw2⟩; rw [hw2]; clear hw2 w2) | (go_at_call 21; refine (Tryd.slices_Compact_int_empty none 0 _).mono ?_; rintro e w3 ⟨rfl, hw3⟩; rw [hw3]; clear hw3 w3))
    refine HQ.out _ _ _ ?_
    exact bodyPost_ret (v := (.slice none 0 0)) (by simp [results, Tryd.results7, go_sem]) rfl (newInts_nil _ _ (below1 _ _)).longs
end Go.Proofs.YtlenilbkifofjaaDoor
