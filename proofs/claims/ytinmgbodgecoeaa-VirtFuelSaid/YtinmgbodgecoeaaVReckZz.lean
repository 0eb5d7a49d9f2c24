/- virt: address, reckon. Conditions: as stated. -/
import Derived.Test.YtinmgbodgecoeaaVReckRZz
import Derived.Test.YtinmgbodgecoeaaQ07Zz
import Derived.Test.YtinmgbodgecoeaaQ06Zz
set_option linter.unusedVariables false
set_option linter.unusedSimpArgs false
namespace Go.Proofs.Ytinmgbodgecoeaa
open Go.RowKit

set_option maxRecDepth 100000 in
set_option maxHeartbeats 8000000 in
theorem vaddr_any (op dst b n : Int) (AV : Value) (ma : Nat) (rb fb : Nat) (M : List MO) (tp : List V) (lo : List Nat) (ng : Nat) (w : World) (hR : RunR w w.heap.size rb fb M tp lo ng) (hN : NumOk M) (hFr : FrOk M tp lo ng) (hma : ma < tp.length) (hb64 : In64 b) :
    Calls Try.prog 37 #[.pointer (some ⟨rb, 0, none⟩), .pointer (some ⟨fb, 0, none⟩), .agg #[.int .i64 op, .int .i64 dst, .int .i64 (ma : Nat), .int .i64 b, .int .i64 n, AV]] w fun e w' => AnsV (binF twoR M 12 (tp.getD ma ⟨0, 0⟩) ⟨0, b⟩) e ∧ Below w.heap.size w w' := by
  obtain ⟨hb', n', cap', tc, lc, gc, A', TA, LA, GA, r4, h0, hM, r5, hG, f0, hT, f1, hL, l1, l2, l3⟩ := hR
  obtain ⟨va, hva⟩ : ∃ v, tp[ma]? = some v := ⟨_, List.getElem?_eq_getElem hma⟩
  obtain ⟨tba, tofa, hTAa, ltba, ta0, ta1⟩ := hT ma va hva
  have hgda : tp.getD ma ⟨0, 0⟩ = va := by rw [List.getD_eq_getElem?_getD, hva]; rfl
  obtain ⟨va1, va2, va3⟩ := hFr.temps va (List.mem_of_getElem? hva)
  subst hTAa
  have HC := fun W (hW : Below w.heap.size w W) => (gtwo_any hb' n' cap' w.heap.size 12 va ⟨0, b⟩ A' M W hW.size (Nat.lt_of_lt_of_le l3 hW.size) (cell_below h0 hW l3) (hM.below hW (Nat.le_refl _)) (fun h => ⟨va1, va2 h⟩) (fun h => absurd rfl h) hb64 (by decide) (by decide) : Calls Try.prog _ _ W fun e w' => AnsV _ e ∧ Below W.heap.size W w').mono (fun e w' h => (⟨h.1.fits, h.2⟩ : (∃ y0 y1, e = .returned (.tuple #[.agg #[.int .i64 y0, .int .i64 y1], .bool _]) ∧ Fits _ y0 y1) ∧ Below W.heap.size W w'))
  rw [hgda]
  obtain ⟨r, hr⟩ : ∃ r : Option V, r = binF twoR M 12 va ⟨0, b⟩ := ⟨_, rfl⟩
  rw [← hr]
  rw [← hr] at HC
  have HC := Lib.hid HC
  have HB2 := Lib.hid (below2 w (.cells #[.int .i64 op, .int .i64 dst, .int .i64 (ma : Nat), .int .i64 b, .int .i64 n, AV] 68) (.cells #[.int .i64 0, .int .i64 0] 60))
  clear hr hM hG hL hN hFr
  go_enter Try.func37, Try.ntmps37
  refine wp_letter (fun Q hQ => ?_)
  have HQ := Lib.hid hQ
  clear hQ
  go_wp2_with fail
  refine vad_region rb fb w.heap.size (w.heap.size + 1) hb' tba tofa tp.length tc ma op dst b n AV va r ((w.alloc (.cells #[.int .i64 op, .int .i64 dst, .int .i64 (ma : Nat), .int .i64 b, .int .i64 n, AV] 68)).alloc (.cells #[.int .i64 0, .int .i64 0] 60)) (cell_below r4 HB2.out l1) (by simp; omega) (by omega) (cell_below f0 HB2.out l2) (by simp; omega) (by omega) ((Row.new w _ 68).alloc _) (by omega) hma (by simp; omega) (by omega) (cell_below ta0 HB2.out ltba) (cell_below ta1 HB2.out ltba) (by have := Row.new (w.alloc (.cells #[.int .i64 op, .int .i64 dst, .int .i64 (ma : Nat), .int .i64 b, .int .i64 n, AV] 68)) #[.int .i64 0, .int .i64 0] 60; simpa using this) (fun W hW => HC.out W (HB2.out.trans (hW.below HB2.out.size (fun i (hi : i = w.heap.size + 1) => by omega)))) _ _ _ _ _ _ _ _ _ _ _ _ _ _ _ _ _ _ _ _ _ _ _ (fun W y0 y1 Y hw hrow hf => ?_)
  have c0 := hrow.cell (j := 0) rfl
  have c1 := hrow.cell (j := 1) rfl
  have hrl := hrow.lt
  have HF := Lib.hid hf
  have HW := Lib.hid hw
  clear hrow hf hw
  go_wp2_with fail
  refine HQ.out _ _ _ ?_
  exact bodyPost_ret (v := .tuple #[.agg #[.int .i64 y0, .int .i64 y1], .bool r.isSome]) (by simp [results, Try.results37, go_sem, c0, c1]) rfl ⟨HF.out.ans, HB2.out.trans (HW.out.below HB2.out.size (fun i (hi : i = w.heap.size + 1) => by omega))⟩
set_option maxRecDepth 100000 in
set_option maxHeartbeats 8000000 in
theorem vreck5 (dst n : Int) (AV : Value) (ma mb : Nat) (rb fb : Nat) (M : List MO) (tp : List V) (lo : List Nat) (ng : Nat) (w : World) (hR : RunR w w.heap.size rb fb M tp lo ng) (hN : NumOk M) (hFr : FrOk M tp lo ng) (hma : ma < tp.length) (hmb : mb < tp.length) (hn : 12 ≤ n ∧ n ≤ 30) :
    Calls Try.prog 42 #[.pointer (some ⟨rb, 0, none⟩), .pointer (some ⟨fb, 0, none⟩), .agg #[.int .i64 5, .int .i64 dst, .int .i64 (ma : Nat), .int .i64 (mb : Nat), .int .i64 n, AV]] w fun e w' => AnsV (binF twoR M n (tp.getD ma ⟨0, 0⟩) (tp.getD mb ⟨0, 0⟩)) e ∧ Below w.heap.size w w' := by
  obtain ⟨hb', n', cap', tc, lc, gc, A', TA, LA, GA, r4, h0, hM, r5, hG, f0, hT, f1, hL, l1, l2, l3⟩ := hR
  obtain ⟨va, hva⟩ : ∃ v, tp[ma]? = some v := ⟨_, List.getElem?_eq_getElem hma⟩
  obtain ⟨tba, tofa, hTAa, ltba, ta0, ta1⟩ := hT ma va hva
  have hgda : tp.getD ma ⟨0, 0⟩ = va := by rw [List.getD_eq_getElem?_getD, hva]; rfl
  obtain ⟨va1, va2, va3⟩ := hFr.temps va (List.mem_of_getElem? hva)
  subst hTAa
  obtain ⟨vb, hvb⟩ : ∃ v, tp[mb]? = some v := ⟨_, List.getElem?_eq_getElem hmb⟩
  obtain ⟨tbb, tofb, hTAb, ltbb, tb0, tb1⟩ := hT mb vb hvb
  have hgdb : tp.getD mb ⟨0, 0⟩ = vb := by rw [List.getD_eq_getElem?_getD, hvb]; rfl
  obtain ⟨vb1, vb2, vb3⟩ := hFr.temps vb (List.mem_of_getElem? hvb)
  injection hTAb with hTAb
  injection hTAb with e1 e2
  subst e1 e2
  have HC := fun W (hW : Below w.heap.size w W) => (gtwo_any hb' n' cap' w.heap.size n va vb A' M W hW.size (Nat.lt_of_lt_of_le l3 hW.size) (cell_below h0 hW l3) (hM.below hW (Nat.le_refl _)) (fun h => ⟨va1, va2 h⟩) (fun h => ⟨vb1, vb2 h⟩) vb3 hn.1 hn.2 : Calls Try.prog _ _ W fun e w' => AnsV _ e ∧ Below W.heap.size W w').mono (fun e w' h => (⟨h.1.fits, h.2⟩ : (∃ y0 y1, e = .returned (.tuple #[.agg #[.int .i64 y0, .int .i64 y1], .bool _]) ∧ Fits _ y0 y1) ∧ Below W.heap.size W w'))
  rw [hgda, hgdb]
  obtain ⟨r, hr⟩ : ∃ r : Option V, r = binF twoR M n va vb := ⟨_, rfl⟩
  rw [← hr]
  rw [← hr] at HC
  have HC := Lib.hid HC
  have HB2 := Lib.hid (below2 w (.cells #[.int .i64 5, .int .i64 dst, .int .i64 (ma : Nat), .int .i64 (mb : Nat), .int .i64 n, AV] 68) (.cells #[.int .i64 0, .int .i64 0] 60))
  clear hr hM hG hL hN hFr
  go_enter Try.func42, Try.ntmps42
  refine wp_letter (fun Q hQ => ?_)
  have HQ := Lib.hid hQ
  clear hQ
  go_wp2_with fail
  refine vr5_region mb rb fb w.heap.size (w.heap.size + 1) hb' tba tofa tp.length tc ma 5 dst (mb : Nat) n AV va vb r ((w.alloc (.cells #[.int .i64 5, .int .i64 dst, .int .i64 (ma : Nat), .int .i64 (mb : Nat), .int .i64 n, AV] 68)).alloc (.cells #[.int .i64 0, .int .i64 0] 60)) (cell_below r4 HB2.out l1) (by simp; omega) (by omega) (cell_below f0 HB2.out l2) (by simp; omega) (by omega) ((Row.new w _ 68).alloc _) (by omega) hma (by simp; omega) (by omega) (cell_below ta0 HB2.out ltba) (cell_below ta1 HB2.out ltba) (by have := Row.new (w.alloc (.cells #[.int .i64 5, .int .i64 dst, .int .i64 (ma : Nat), .int .i64 (mb : Nat), .int .i64 n, AV] 68)) #[.int .i64 0, .int .i64 0] 60; simpa using this) hmb (cell_below tb0 HB2.out ltba) (cell_below tb1 HB2.out ltba) (fun W hW => HC.out W (HB2.out.trans (hW.below HB2.out.size (fun i (hi : i = w.heap.size + 1) => by omega)))) _ _ _ _ _ _ _ _ _ _ _ _ _ _ _ _ _ _ _ _ _ _ _ _ _ _ _ _ _ _ _ _ _ _ _ _ _ _ _ _ _ _ _ _ _ _ _ _ _ _ _ _ _ _ _ _ _ _ _ _ _ _ _ _ _ _ _ _ _ _ _ _ _ _ _ _ _ _ _ _ _ _ _ _ _ _ _ _ _ _ _ _ _ _ _ _ _ _ _ _ _ _ _ _ _ _ _ _ _ _ _ _ _ _ _ _ _ _ _ _ _ _ _ _ _ _ _ _ _ _ _ _ _ _ (fun W y0 y1 Y hw hrow hf => ?_)
  have c0 := hrow.cell (j := 0) rfl
  have c1 := hrow.cell (j := 1) rfl
  have hrl := hrow.lt
  have HF := Lib.hid hf
  have HW := Lib.hid hw
  clear hrow hf hw
  go_wp2_with fail
  refine HQ.out _ _ _ ?_
  exact bodyPost_ret (v := .tuple #[.agg #[.int .i64 y0, .int .i64 y1], .bool r.isSome]) (by simp [results, Try.results42, go_sem, c0, c1]) rfl ⟨HF.out.ans, HB2.out.trans (HW.out.below HB2.out.size (fun i (hi : i = w.heap.size + 1) => by omega))⟩
set_option maxRecDepth 100000 in
set_option maxHeartbeats 8000000 in
theorem vreck6 (dst b n xv : Int) (ab aof ac ma : Nat) (rb fb : Nat) (M : List MO) (tp : List V) (lo : List Nat) (ng : Nat) (w : World) (hR : RunR w w.heap.size rb fb M tp lo ng) (hN : NumOk M) (hFr : FrOk M tp lo ng) (hma : ma < tp.length) (hn : 12 ≤ n ∧ n ≤ 30) (hx64 : In64 xv) (hab : ab < w.heap.size) (hab0 : w.cell? ⟨ab, aof, none⟩ = some (.int .i64 xv)) :
    Calls Try.prog 42 #[.pointer (some ⟨rb, 0, none⟩), .pointer (some ⟨fb, 0, none⟩), .agg #[.int .i64 6, .int .i64 dst, .int .i64 (ma : Nat), .int .i64 b, .int .i64 n, .slice (some ⟨ab, aof, none⟩) 1 ac]] w fun e w' => AnsV (binF twoR M n (tp.getD ma ⟨0, 0⟩) ⟨0, xv⟩) e ∧ Below w.heap.size w w' := by
  obtain ⟨hb', n', cap', tc, lc, gc, A', TA, LA, GA, r4, h0, hM, r5, hG, f0, hT, f1, hL, l1, l2, l3⟩ := hR
  obtain ⟨va, hva⟩ : ∃ v, tp[ma]? = some v := ⟨_, List.getElem?_eq_getElem hma⟩
  obtain ⟨tba, tofa, hTAa, ltba, ta0, ta1⟩ := hT ma va hva
  have hgda : tp.getD ma ⟨0, 0⟩ = va := by rw [List.getD_eq_getElem?_getD, hva]; rfl
  obtain ⟨va1, va2, va3⟩ := hFr.temps va (List.mem_of_getElem? hva)
  subst hTAa
  have HC := fun W (hW : Below w.heap.size w W) => (gtwo_any hb' n' cap' w.heap.size n va ⟨0, xv⟩ A' M W hW.size (Nat.lt_of_lt_of_le l3 hW.size) (cell_below h0 hW l3) (hM.below hW (Nat.le_refl _)) (fun h => ⟨va1, va2 h⟩) (fun h => absurd rfl h) hx64 hn.1 hn.2 : Calls Try.prog _ _ W fun e w' => AnsV _ e ∧ Below W.heap.size W w').mono (fun e w' h => (⟨h.1.fits, h.2⟩ : (∃ y0 y1, e = .returned (.tuple #[.agg #[.int .i64 y0, .int .i64 y1], .bool _]) ∧ Fits _ y0 y1) ∧ Below W.heap.size W w'))
  rw [hgda]
  obtain ⟨r, hr⟩ : ∃ r : Option V, r = binF twoR M n va ⟨0, xv⟩ := ⟨_, rfl⟩
  rw [← hr]
  rw [← hr] at HC
  have HC := Lib.hid HC
  have HB2 := Lib.hid (below2 w (.cells #[.int .i64 6, .int .i64 dst, .int .i64 (ma : Nat), .int .i64 b, .int .i64 n, .slice (some ⟨ab, aof, none⟩) 1 ac] 68) (.cells #[.int .i64 0, .int .i64 0] 60))
  clear hr hM hG hL hN hFr
  go_enter Try.func42, Try.ntmps42
  refine wp_letter (fun Q hQ => ?_)
  have HQ := Lib.hid hQ
  clear hQ
  go_wp2_with fail
  refine vr6_region ab aof 1 ac rb fb w.heap.size (w.heap.size + 1) hb' tba tofa tp.length tc ma 6 dst b n xv va r ((w.alloc (.cells #[.int .i64 6, .int .i64 dst, .int .i64 (ma : Nat), .int .i64 b, .int .i64 n, .slice (some ⟨ab, aof, none⟩) 1 ac] 68)).alloc (.cells #[.int .i64 0, .int .i64 0] 60)) (cell_below r4 HB2.out l1) (by simp; omega) (by omega) (cell_below f0 HB2.out l2) (by simp; omega) (by omega) ((Row.new w _ 68).alloc _) (by omega) hma (by simp; omega) (by omega) (cell_below ta0 HB2.out ltba) (cell_below ta1 HB2.out ltba) (by have := Row.new (w.alloc (.cells #[.int .i64 6, .int .i64 dst, .int .i64 (ma : Nat), .int .i64 b, .int .i64 n, .slice (some ⟨ab, aof, none⟩) 1 ac] 68)) #[.int .i64 0, .int .i64 0] 60; simpa using this) (by omega) (by simp; omega) (by omega) (cell_below hab0 HB2.out hab) (fun W hW => HC.out W (HB2.out.trans (hW.below HB2.out.size (fun i (hi : i = w.heap.size + 1) => by omega)))) _ _ _ _ _ _ _ _ _ _ _ _ _ _ _ _ _ _ _ _ _ _ _ _ _ _ _ _ _ _ _ _ _ _ _ _ _ _ _ _ _ _ _ _ _ _ _ _ _ _ _ _ _ _ _ _ _ _ _ _ _ _ _ _ _ _ _ _ _ _ _ _ _ _ _ _ _ _ _ _ _ _ _ _ _ _ _ _ _ _ _ _ _ _ _ _ _ _ _ _ _ _ _ _ _ _ _ _ _ _ _ _ _ _ _ _ _ _ _ _ _ _ _ _ _ _ _ _ _ _ _ _ _ _ (fun W y0 y1 Y hw hrow hf => ?_)
  have c0 := hrow.cell (j := 0) rfl
  have c1 := hrow.cell (j := 1) rfl
  have hrl := hrow.lt
  have HF := Lib.hid hf
  have HW := Lib.hid hw
  clear hrow hf hw
  go_wp2_with fail
  refine HQ.out _ _ _ ?_
  exact bodyPost_ret (v := .tuple #[.agg #[.int .i64 y0, .int .i64 y1], .bool r.isSome]) (by simp [results, Try.results42, go_sem, c0, c1]) rfl ⟨HF.out.ans, HB2.out.trans (HW.out.below HB2.out.size (fun i (hi : i = w.heap.size + 1) => by omega))⟩
set_option maxRecDepth 100000 in
set_option maxHeartbeats 8000000 in
theorem vreck7 (dst b n : Int) (AV : Value) (ma : Nat) (rb fb : Nat) (M : List MO) (tp : List V) (lo : List Nat) (ng : Nat) (w : World) (hR : RunR w w.heap.size rb fb M tp lo ng) (hN : NumOk M) (hFr : FrOk M tp lo ng) (hma : ma < tp.length) (hn : 31 ≤ n ∧ n ≤ 36) :
    Calls Try.prog 42 #[.pointer (some ⟨rb, 0, none⟩), .pointer (some ⟨fb, 0, none⟩), .agg #[.int .i64 7, .int .i64 dst, .int .i64 (ma : Nat), .int .i64 b, .int .i64 n, AV]] w fun e w' => AnsV ((if (tp.getD ma ⟨0, 0⟩).obj = 0 then some ⟨0, unR n (tp.getD ma ⟨0, 0⟩).n⟩ else none)) e ∧ Below w.heap.size w w' := by
  obtain ⟨hb', n', cap', tc, lc, gc, A', TA, LA, GA, r4, h0, hM, r5, hG, f0, hT, f1, hL, l1, l2, l3⟩ := hR
  obtain ⟨va, hva⟩ : ∃ v, tp[ma]? = some v := ⟨_, List.getElem?_eq_getElem hma⟩
  obtain ⟨tba, tofa, hTAa, ltba, ta0, ta1⟩ := hT ma va hva
  have hgda : tp.getD ma ⟨0, 0⟩ = va := by rw [List.getD_eq_getElem?_getD, hva]; rfl
  obtain ⟨va1, va2, va3⟩ := hFr.temps va (List.mem_of_getElem? hva)
  subst hTAa
  have HC := fun W (hW : Below w.heap.size w W) => (goneh_any hb' n va W hn.1 hn.2 : Calls Try.prog _ _ W fun e w' => AnsV _ e ∧ Below W.heap.size W w').mono (fun e w' h => (⟨h.1.fits, h.2⟩ : (∃ y0 y1, e = .returned (.tuple #[.agg #[.int .i64 y0, .int .i64 y1], .bool _]) ∧ Fits _ y0 y1) ∧ Below W.heap.size W w'))
  rw [hgda]
  obtain ⟨r, hr⟩ : ∃ r : Option V, r = (if va.obj = 0 then some ⟨0, unR n va.n⟩ else none) := ⟨_, rfl⟩
  rw [← hr]
  rw [← hr] at HC
  have HC := Lib.hid HC
  have HB2 := Lib.hid (below2 w (.cells #[.int .i64 7, .int .i64 dst, .int .i64 (ma : Nat), .int .i64 b, .int .i64 n, AV] 68) (.cells #[.int .i64 0, .int .i64 0] 60))
  clear hr hM hG hL hN hFr
  go_enter Try.func42, Try.ntmps42
  refine wp_letter (fun Q hQ => ?_)
  have HQ := Lib.hid hQ
  clear hQ
  go_wp2_with fail
  refine vr7_region rb fb w.heap.size (w.heap.size + 1) hb' tba tofa tp.length tc ma 7 dst b n AV va r ((w.alloc (.cells #[.int .i64 7, .int .i64 dst, .int .i64 (ma : Nat), .int .i64 b, .int .i64 n, AV] 68)).alloc (.cells #[.int .i64 0, .int .i64 0] 60)) (cell_below r4 HB2.out l1) (by simp; omega) (by omega) (cell_below f0 HB2.out l2) (by simp; omega) (by omega) ((Row.new w _ 68).alloc _) (by omega) hma (by simp; omega) (by omega) (cell_below ta0 HB2.out ltba) (cell_below ta1 HB2.out ltba) (by have := Row.new (w.alloc (.cells #[.int .i64 7, .int .i64 dst, .int .i64 (ma : Nat), .int .i64 b, .int .i64 n, AV] 68)) #[.int .i64 0, .int .i64 0] 60; simpa using this) (fun W hW => HC.out W (HB2.out.trans (hW.below HB2.out.size (fun i (hi : i = w.heap.size + 1) => by omega)))) _ _ _ _ _ _ _ _ _ _ _ _ _ _ _ _ _ _ _ _ _ _ _ _ _ _ _ _ _ _ _ _ _ _ _ _ _ _ _ _ _ _ _ _ _ _ _ _ _ _ _ _ _ _ _ _ _ _ _ _ _ _ _ _ _ _ _ _ _ _ _ _ _ _ _ _ _ _ _ _ _ _ _ _ _ _ _ _ _ _ _ _ _ _ _ _ _ _ _ _ _ _ _ _ _ _ _ _ _ _ _ _ _ _ _ _ _ _ _ _ _ _ _ _ _ _ _ _ _ _ _ _ _ _ (fun W y0 y1 Y hw hrow hf => ?_)
  have c0 := hrow.cell (j := 0) rfl
  have c1 := hrow.cell (j := 1) rfl
  have hrl := hrow.lt
  have HF := Lib.hid hf
  have HW := Lib.hid hw
  clear hrow hf hw
  go_wp2_with fail
  refine HQ.out _ _ _ ?_
  exact bodyPost_ret (v := .tuple #[.agg #[.int .i64 y0, .int .i64 y1], .bool r.isSome]) (by simp [results, Try.results42, go_sem, c0, c1]) rfl ⟨HF.out.ans, HB2.out.trans (HW.out.below HB2.out.size (fun i (hi : i = w.heap.size + 1) => by omega))⟩
set_option maxRecDepth 100000 in
set_option maxHeartbeats 8000000 in
theorem vreck1 (dst b n ma : Int) (AV : Value) (p q : Option Addr) (w : World) :
    Calls Try.prog 42 #[.pointer p, .pointer q, .agg #[.int .i64 1, .int .i64 dst, .int .i64 ma, .int .i64 b, .int .i64 n, AV]] w fun e w' => AnsV (some ⟨0, n⟩) e ∧ Below w.heap.size w w' := by
  have HB2 := Lib.hid (below2 w (.cells #[.int .i64 1, .int .i64 dst, .int .i64 ma, .int .i64 b, .int .i64 n, AV] 68) (.cells #[.int .i64 0, .int .i64 n] 60))
  go_enter Try.func42, Try.ntmps42
  refine wp_letter (fun Q hQ => ?_)
  have HQ := Lib.hid hQ
  clear hQ
  go_wp2_with fail
  refine HQ.out _ _ _ ?_
  exact bodyPost_ret (v := .tuple #[.agg #[.int .i64 0, .int .i64 n], .bool true]) (by simp [results, Try.results42, go_sem]) rfl ⟨rfl, HB2.out⟩
set_option maxRecDepth 100000 in
set_option maxHeartbeats 8000000 in
theorem vreck2 (dst b n : Int) (AV : Value) (ma : Nat) (rb fb : Nat) (M : List MO) (tp : List V) (lo : List Nat) (ng : Nat) (w : World) (hR : RunR w w.heap.size rb fb M tp lo ng) (hN : NumOk M) (hFr : FrOk M tp lo ng) (hma : ma < tp.length) (htl : tp.length ≤ 1000000) :
    Calls Try.prog 42 #[.pointer (some ⟨rb, 0, none⟩), .pointer (some ⟨fb, 0, none⟩), .agg #[.int .i64 2, .int .i64 dst, .int .i64 (ma : Nat), .int .i64 b, .int .i64 n, AV]] w fun e w' => AnsV (some (tp.getD ma ⟨0, 0⟩)) e ∧ Below w.heap.size w w' := by
  obtain ⟨hb', n', cap', tc, lc, gc, A', TA, LA, GA, r4, h0, hM, r5, hG, f0, hT, f1, hL, l1, l2, l3⟩ := hR
  obtain ⟨va, hva⟩ : ∃ v, tp[ma]? = some v := ⟨_, List.getElem?_eq_getElem hma⟩
  obtain ⟨tba, tofa, hTAa, ltba, ta0, ta1⟩ := hT ma va hva
  have hgda : tp.getD ma ⟨0, 0⟩ = va := by rw [List.getD_eq_getElem?_getD, hva]; rfl
  obtain ⟨va1, va2, va3⟩ := hFr.temps va (List.mem_of_getElem? hva)
  subst hTAa
  rw [hgda]
  have hm1 : (ma : Int) < (tp.length : Int) := by omega
  have hm0 : (0 : Int) ≤ (ma : Int) := by omega
  have hz1 : rb < w.heap.size + 1 := by omega
  have hz2 : rb < w.heap.size + 1 + 1 := by omega
  have hz3 : fb < w.heap.size + 1 := by omega
  have hz4 : fb < w.heap.size + 1 + 1 := by omega
  have hz5 : tba < w.heap.size + 1 := by omega
  have hz6 : tba < w.heap.size + 1 + 1 := by omega
  have HB2 := Lib.hid (below2 w (.cells #[.int .i64 2, .int .i64 dst, .int .i64 (ma : Nat), .int .i64 b, .int .i64 n, AV] 68) (.cells #[.int .i64 0, .int .i64 0] 60))
  have HBW := Lib.hid (show ∀ W : World, Wr (fun i => i = w.heap.size + 1) ((w.alloc (.cells #[.int .i64 2, .int .i64 dst, .int .i64 (ma : Nat), .int .i64 b, .int .i64 n, AV] 68)).alloc (.cells #[.int .i64 0, .int .i64 0] 60)) W → Below w.heap.size w W from fun W hW => HB2.out.trans (hW.below HB2.out.size (fun i (hi : i = w.heap.size + 1) => by omega)))
  clear hM hG hL hN hFr hT
  go_enter Try.func42, Try.ntmps42
  refine wp_letter (fun Q hQ => ?_)
  have HQ := Lib.hid hQ
  clear hQ
  go_wp2_with fail
  refine still_tailq 8 (by kernel_rfl) (by kernel_rfl) ?_
  simp only [List.take_succ_cons, List.take_zero, List.drop_succ_cons, List.drop_zero]
  repeat (go_big_quiet_step (fail))
  refine wpQuiet_nil ?_
  go_wp2_with fail
  refine HQ.out _ _ _ ?_
  refine bodyPost_ret (v := .tuple #[.agg #[.int .i64 va.obj, .int .i64 va.n], .bool true]) (by simp [results, Try.results42, go_sem]) rfl ⟨rfl, by first | exact below2 w _ _ | exact (below2 w _ _).drew⟩
set_option maxRecDepth 100000 in
set_option maxHeartbeats 8000000 in
theorem vreck3 (dst b av : Int) (AV : Value) (ma : Nat) (rb fb : Nat) (M : List MO) (tp : List V) (lo : List Nat) (ng : Nat) (w : World) (hR : RunR w w.heap.size rb fb M tp lo ng) (hN : NumOk M) (hFr : FrOk M tp lo ng) (hma : ma < lo.length) (htl : lo.length ≤ 1000000) :
    Calls Try.prog 42 #[.pointer (some ⟨rb, 0, none⟩), .pointer (some ⟨fb, 0, none⟩), .agg #[.int .i64 3, .int .i64 dst, .int .i64 av, .int .i64 b, .int .i64 (ma : Nat), AV]] w fun e w' => AnsV (some ⟨lo.getD ma 0, 0⟩) e ∧ Below w.heap.size w w' := by
  obtain ⟨hb', n', cap', tc, lc, gc, A', TA, LA, GA, r4, h0, hM, r5, hG, f0, hT, f1, hL, l1, l2, l3⟩ := hR
  obtain ⟨tba, tofa, hTAa, ltba, ta0, ta1⟩ := hL ma _ (locV_get hma)
  subst hTAa
  have hm1 : (ma : Int) < (lo.length : Int) := by omega
  obtain ⟨va, hva⟩ : ∃ va : V, va = ⟨lo.getD ma 0, 0⟩ := ⟨_, rfl⟩
  rw [← hva] at ta0 ta1 ⊢
  clear hva
  have hm0 : (0 : Int) ≤ (ma : Int) := by omega
  have hz1 : rb < w.heap.size + 1 := by omega
  have hz2 : rb < w.heap.size + 1 + 1 := by omega
  have hz3 : fb < w.heap.size + 1 := by omega
  have hz4 : fb < w.heap.size + 1 + 1 := by omega
  have hz5 : tba < w.heap.size + 1 := by omega
  have hz6 : tba < w.heap.size + 1 + 1 := by omega
  have HB2 := Lib.hid (below2 w (.cells #[.int .i64 3, .int .i64 dst, .int .i64 av, .int .i64 b, .int .i64 (ma : Nat), AV] 68) (.cells #[.int .i64 0, .int .i64 0] 60))
  have HBW := Lib.hid (show ∀ W : World, Wr (fun i => i = w.heap.size + 1) ((w.alloc (.cells #[.int .i64 3, .int .i64 dst, .int .i64 av, .int .i64 b, .int .i64 (ma : Nat), AV] 68)).alloc (.cells #[.int .i64 0, .int .i64 0] 60)) W → Below w.heap.size w W from fun W hW => HB2.out.trans (hW.below HB2.out.size (fun i (hi : i = w.heap.size + 1) => by omega)))
  clear hM hG hL hN hFr hT
  go_enter Try.func42, Try.ntmps42
  refine wp_letter (fun Q hQ => ?_)
  have HQ := Lib.hid hQ
  clear hQ
  go_wp2_with fail
  refine still_tailq 8 (by kernel_rfl) (by kernel_rfl) ?_
  simp only [List.take_succ_cons, List.take_zero, List.drop_succ_cons, List.drop_zero]
  repeat (go_big_quiet_step (fail))
  refine wpQuiet_nil ?_
  go_wp2_with fail
  refine HQ.out _ _ _ ?_
  refine bodyPost_ret (v := .tuple #[.agg #[.int .i64 va.obj, .int .i64 va.n], .bool true]) (by simp [results, Try.results42, go_sem]) rfl ⟨rfl, by first | exact below2 w _ _ | exact (below2 w _ _).drew⟩
set_option maxRecDepth 100000 in
set_option maxHeartbeats 8000000 in
theorem vreck4 (dst b av : Int) (AV : Value) (ma : Nat) (rb fb : Nat) (M : List MO) (tp : List V) (lo : List Nat) (ng : Nat) (w : World) (hR : RunR w w.heap.size rb fb M tp lo ng) (hN : NumOk M) (hFr : FrOk M tp lo ng) (hma : ma < ng) (htl : ng ≤ 1000000) :
    Calls Try.prog 42 #[.pointer (some ⟨rb, 0, none⟩), .pointer (some ⟨fb, 0, none⟩), .agg #[.int .i64 4, .int .i64 dst, .int .i64 av, .int .i64 b, .int .i64 (ma : Nat), AV]] w fun e w' => AnsV (some ⟨ma + 1, 0⟩) e ∧ Below w.heap.size w w' := by
  obtain ⟨hb', n', cap', tc, lc, gc, A', TA, LA, GA, r4, h0, hM, r5, hG, f0, hT, f1, hL, l1, l2, l3⟩ := hR
  obtain ⟨tba, tofa, hTAa, ltba, ta0, ta1⟩ := hG ma _ (globV_get hma)
  subst hTAa
  have hm1 : (ma : Int) < (ng : Int) := by omega
  obtain ⟨va, hva⟩ : ∃ va : V, va = ⟨ma + 1, 0⟩ := ⟨_, rfl⟩
  rw [← hva] at ta0 ta1 ⊢
  clear hva
  have hm0 : (0 : Int) ≤ (ma : Int) := by omega
  have hz1 : rb < w.heap.size + 1 := by omega
  have hz2 : rb < w.heap.size + 1 + 1 := by omega
  have hz3 : fb < w.heap.size + 1 := by omega
  have hz4 : fb < w.heap.size + 1 + 1 := by omega
  have hz5 : tba < w.heap.size + 1 := by omega
  have hz6 : tba < w.heap.size + 1 + 1 := by omega
  have HB2 := Lib.hid (below2 w (.cells #[.int .i64 4, .int .i64 dst, .int .i64 av, .int .i64 b, .int .i64 (ma : Nat), AV] 68) (.cells #[.int .i64 0, .int .i64 0] 60))
  have HBW := Lib.hid (show ∀ W : World, Wr (fun i => i = w.heap.size + 1) ((w.alloc (.cells #[.int .i64 4, .int .i64 dst, .int .i64 av, .int .i64 b, .int .i64 (ma : Nat), AV] 68)).alloc (.cells #[.int .i64 0, .int .i64 0] 60)) W → Below w.heap.size w W from fun W hW => HB2.out.trans (hW.below HB2.out.size (fun i (hi : i = w.heap.size + 1) => by omega)))
  clear hM hG hL hN hFr hT
  go_enter Try.func42, Try.ntmps42
  refine wp_letter (fun Q hQ => ?_)
  have HQ := Lib.hid hQ
  clear hQ
  go_wp2_with fail
  refine still_tailq 8 (by kernel_rfl) (by kernel_rfl) ?_
  simp only [List.take_succ_cons, List.take_zero, List.drop_succ_cons, List.drop_zero]
  repeat (go_big_quiet_step (fail))
  refine wpQuiet_nil ?_
  go_wp2_with fail
  refine HQ.out _ _ _ ?_
  refine bodyPost_ret (v := .tuple #[.agg #[.int .i64 va.obj, .int .i64 va.n], .bool true]) (by simp [results, Try.results42, go_sem]) rfl ⟨rfl, by first | exact below2 w _ _ | exact (below2 w _ _).drew⟩
set_option maxRecDepth 100000 in
set_option maxHeartbeats 8000000 in
theorem vreck8 (dst b n : Int) (AV : Value) (ma : Nat) (rb fb : Nat) (M : List MO) (tp : List V) (lo : List Nat) (ng : Nat) (w : World) (hR : RunR w w.heap.size rb fb M tp lo ng) (hN : NumOk M) (hFr : FrOk M tp lo ng) (hMO : MemOk M) (hma : ma < tp.length) (hb64 : In64 b) (hn : 5 ≤ n ∧ n ≤ 11) :
    Calls Try.prog 42 #[.pointer (some ⟨rb, 0, none⟩), .pointer (some ⟨fb, 0, none⟩), .agg #[.int .i64 8, .int .i64 dst, .int .i64 (ma : Nat), .int .i64 b, .int .i64 n, AV]] w fun e w' => AnsV (match binF twoR M 12 (tp.getD ma ⟨0, 0⟩) ⟨0, b⟩ with | none => none | some v => loadF M n v) e ∧ Below w.heap.size w w' := by
  have HAD := Lib.hid (fun W (hW : Below w.heap.size w W) => vaddr_any 8 dst b n AV ma rb fb M tp lo ng W (hR.below hW hW.size) hN hFr hma hb64)
  have hvo : VOk M.length (tp.getD ma ⟨0, 0⟩) := hFr.temps _ (by rw [List.getD_eq_getElem?_getD, List.getElem?_eq_getElem hma]; exact List.getElem_mem hma)
  obtain ⟨hb', n', cap', tc, lc, gc, A', TA, LA, GA, r4, h0, hM, r5, hG, f0, hT, f1, hL, l1, l2, l3⟩ := hR
  obtain ⟨va, hva⟩ : ∃ v, tp[ma]? = some v := ⟨_, List.getElem?_eq_getElem hma⟩
  obtain ⟨tba, tofa, hTAa, ltba, ta0, ta1⟩ := hT ma va hva
  have hgda : tp.getD ma ⟨0, 0⟩ = va := by rw [List.getD_eq_getElem?_getD, hva]; rfl
  obtain ⟨va1, va2, va3⟩ := hFr.temps va (List.mem_of_getElem? hva)
  subst hTAa
  rw [hgda] at HAD hvo ⊢
  have HB2 := Lib.hid (below2 w (.cells #[.int .i64 8, .int .i64 dst, .int .i64 (ma : Nat), .int .i64 b, .int .i64 n, AV] 68) (.cells #[.int .i64 0, .int .i64 0] 60))
  obtain ⟨ra, hra⟩ : ∃ ra : Option V, ra = binF twoR M 12 va ⟨0, b⟩ := ⟨_, rfl⟩
  have hrok : ∀ v, ra = some v → VOk M.length v := fun v hv => bin_ok hMO hvo (VOk.num (by have := hFr.globs; omega) hb64) (hra ▸ hv)
  rw [← hra] at HAD ⊢
  have HR4 := Lib.hid r4
  have HF0 := Lib.hid f0
  have HTA0 := Lib.hid ta0
  have HTA1 := Lib.hid ta1
  cases ra with
  | none =>
    clear hra hrok hM hG hL hN hFr hT r4 f0 ta0 ta1
    have HADN := Lib.hid (fun W (hW : Below w.heap.size w W) => (HAD.out W hW).mono (fun e w' h => (⟨h.1.fits, h.2⟩ : (∃ y0 y1, e = .returned (.tuple #[.agg #[.int .i64 y0, .int .i64 y1], .bool false]) ∧ Fits none y0 y1) ∧ Below W.heap.size W w')))
    clear HAD
    go_enter Try.func42, Try.ntmps42
    refine wp_letter (fun Q hQ => ?_)
    have HQ := Lib.hid hQ
    clear hQ
    go_wp2_with fail
    refine (HADN.out _ HB2.out).mono ?_
    rintro e w3 ⟨⟨y0, y1, rfl, _⟩, hb3⟩
    have q0 : w3.cell? ⟨w.heap.size + 1, 0, none⟩ = some (.int .i64 0) := cell_below (by simp [go_sem]) hb3 (by simp)
    have q1 : w3.cell? ⟨w.heap.size + 1, 1, none⟩ = some (.int .i64 0) := cell_below (by simp [go_sem]) hb3 (by simp)
    have q2 : w3.frozen? ⟨w.heap.size + 1, 0, none⟩ = false := ((bcell hb3).2 _ _ (by simp)).trans (by simp [go_sem])
    have q3 : w3.frozen? ⟨w.heap.size + 1, 1, none⟩ = false := ((bcell hb3).2 _ _ (by simp)).trans (by simp [go_sem])
    have q4 : w.heap.size + 1 < w3.heap.size := by have := hb3.size; simp at this; omega
    have HB3 := Lib.hid (HB2.out.trans (hb3.mono HB2.out.size))
    have HBW := Lib.hid (show ∀ W : World, Wr (fun i => i = w.heap.size + 1) w3 W → Below w.heap.size w W from fun W hW => HB3.out.trans (hW.below HB3.out.size (fun i (hi : i = w.heap.size + 1) => by omega)))
    clear hb3
    go_wp2_with fail
    refine HQ.out _ _ _ ?_
    refine bodyPost_ret (v := .tuple #[.agg #[.int .i64 y0, .int .i64 y1], .bool false]) (by simp [results, Try.results42, go_sem, q0, q1, q4, Nat.ne_of_lt q4]) rfl ⟨⟨_, _, rfl⟩, HBW.out _ ?_⟩
    repeat (first | (with_reducible exact Wr.refl _ _) | (with_reducible refine Wr.drewR ?_) | (with_reducible refine Wr.allocR ?_ _) | (with_reducible refine Wr.setR ?_ _ _ _ (Or.inl rfl)))
  | some wv =>
    have hwo := hrok wv rfl
    have HLD := Lib.hid (fun W (hW : Below w.heap.size w W) => (gload_any hb' A' n' cap' w.heap.size n wv M W hW.size (Nat.lt_of_lt_of_le l3 hW.size) (cell_below h0 hW l3) (hM.below hW (Nat.le_refl _)) hN (fun _ => hwo.1) hwo.2.1 hn.1 hn.2).mono (fun e w' h => (⟨h.1.fits, h.2⟩ : (∃ y0 y1, e = .returned (.tuple #[.agg #[.int .i64 y0, .int .i64 y1], .bool (loadF M n wv).isSome]) ∧ Fits (loadF M n wv) y0 y1) ∧ Below W.heap.size W w')))
    show Calls _ _ _ w fun e w' => AnsV (loadF M n wv) e ∧ Below w.heap.size w w'
    obtain ⟨r, hr⟩ : ∃ r, r = loadF M n wv := ⟨_, rfl⟩
    rw [← hr] at HLD ⊢
    clear hr hra hrok hM hG hL hN hFr hT r4 f0 ta0 ta1
    go_enter Try.func42, Try.ntmps42
    refine wp_letter (fun Q hQ => ?_)
    have HQ := Lib.hid hQ
    clear hQ
    go_wp2_with fail
    refine (HAD.out _ HB2.out).mono ?_
    rintro e w3 ⟨he, hb3⟩
    simp only [AnsV, ansV] at he
    subst he
    have hrow2 := (show Row ((w.alloc (.cells #[.int .i64 8, .int .i64 dst, .int .i64 (ma : Nat), .int .i64 b, .int .i64 n, AV] 68)).alloc (.cells #[.int .i64 0, .int .i64 0] 60)) (w.heap.size + 1) #[.int .i64 0, .int .i64 0] 60 from by have := Row.new (w.alloc (.cells #[.int .i64 8, .int .i64 dst, .int .i64 (ma : Nat), .int .i64 b, .int .i64 n, AV] 68)) #[.int .i64 0, .int .i64 0] 60; simpa using this)
    have HI3 := Lib.hid (((Row.new w #[.int .i64 8, .int .i64 dst, .int .i64 (ma : Nat), .int .i64 b, .int .i64 n, AV] 68).alloc (.cells #[.int .i64 0, .int .i64 0] 60)).below hb3 (by simp; omega))
    have HP3 := Lib.hid (hrow2.below hb3 (by simp))
    have HB3 := Lib.hid (HB2.out.trans (hb3.mono HB2.out.size))
    have q4 : w.heap.size + 1 < w3.heap.size := by have := hb3.size; simp at this; omega
    clear hb3 hrow2
    go_wp2_with fail
    have HB4 := Lib.hid (HB3.out.trans ((below1 w3 (.cells #[.int .i64 wv.obj, .int .i64 wv.n] 60)).mono HB3.out.size))
    refine vr8_region w3.heap.size rb fb w.heap.size (w.heap.size + 1) hb' tba tofa tp.length tc ma 8 dst b n AV va wv r _ (cell_below HR4.out HB4.out l1) (by simp; omega) (by omega) (cell_below HF0.out HB4.out l2) (by simp; omega) (by omega) (HI3.out.alloc _) (by omega) hma (by simp; omega) (by omega) (cell_below HTA0.out HB4.out ltba) (cell_below HTA1.out HB4.out ltba) (HP3.out.alloc _) (Row.new w3 _ _) (by omega) (fun W hW => HLD.out W (HB4.out.trans (hW.below HB4.out.size (fun i (hi : i = w.heap.size + 1) => by omega)))) _ _ _ _ _ _ _ _ _ _ _ _ _ _ _ _ _ _ _ _ _ _ _ _ _ _ _ _ _ _ _ _ _ _ _ _ _ _ _ _ _ _ _ _ _ _ _ _ _ _ _ _ _ _ _ _ _ _ _ _ _ _ _ _ _ _ _ _ _ _ _ _ _ _ _ _ _ _ _ _ _ _ _ _ _ _ _ _ _ _ _ _ _ _ _ _ _ _ _ _ _ _ _ _ _ _ _ _ _ _ _ _ _ _ _ _ _ _ _ _ _ _ _ _ _ _ _ _ _ _ _ _ _ (fun W y0 y1 Y hw hrow hf => ?_)
    have c0 := hrow.cell (j := 0) rfl
    have c1 := hrow.cell (j := 1) rfl
    have hrl := hrow.lt
    have HF := Lib.hid hf
    have HW := Lib.hid hw
    clear hrow hf hw
    go_wp2_with fail
    refine HQ.out _ _ _ ?_
    exact bodyPost_ret (v := .tuple #[.agg #[.int .i64 y0, .int .i64 y1], .bool r.isSome]) (by simp [results, Try.results42, go_sem, c0, c1]) rfl ⟨HF.out.ans, HB4.out.trans (HW.out.below HB4.out.size (fun i (hi : i = w.heap.size + 1) => by omega))⟩
end Go.Proofs.Ytinmgbodgecoeaa
