/- The page's Uses. Conditions: as stated. -/
import Derived.Test.YtlenilbkifofjaaDoorLvHZz
set_option linter.unusedVariables false
set_option linter.unusedSimpArgs false
namespace Go.Proofs.YtlenilbkifofjaaDoor
open Go.RowKit

theorem IntsV.new {l : List Int} {w w' : World} {v : Value} (h : IntsV w' l v) (hb : Below w.heap.size w w') : NewInts l w (.returned v) w' := by
  obtain ⟨A, c, rfl, h2, h3, h4⟩ := h
  exact ⟨A, c, rfl, h2, h3, h4, hb⟩
theorem putL_len_le {l : List Int} {n : Int} : (putL l n).length ≤ l.length + 1 := by
  induction l with
  | nil => simp [putL]
  | cons x r ih =>
    rw [putL]
    split
    · simp only [List.length_cons]; omega
    · split <;> simp
theorem foldPut_len {m : List Int} : ∀ {l : List Int}, (m.foldl putL l).length ≤ l.length + m.length := by
  induction m with
  | nil => intro l; simp
  | cons a m ih =>
    intro l
    have h1 := ih (l := putL l a)
    have h2 := putL_len_le (l := l) (n := a)
    simp only [List.foldl_cons, List.length_cons]
    omega
set_option maxRecDepth 100000 in
set_option maxHeartbeats 32000000 in
theorem ruses_any (x : InsS) (SA : Option Addr) (scap B : Nat) (w : World) (hB : B ≤ w.heap.size) (hst : LongsAt w B x.arg (.slice SA x.arg.length scap)) (ha : In64 x.a) (hb : In64 x.b) (hd : In64 x.dst) (hal : x.arg.length * 8 ≤ 140737488351232) :
    Calls Tryd.prog 8 #[insV x SA scap] w fun e w' => NewInts (usesL x) w e w' := by
  obtain ⟨op, dst, a, b, nn, arg⟩ := x
  unfold insV
  simp only at hst ha hb hd hal ⊢
  have hcase : (op = 2 ∨ op = 7 ∨ op = 6 ∨ op = 8 ∨ op = 11 ∨ op = 13 ∨ op = 16 ∨ op = 17) ∨ op = 5 ∨ op = 9 ∨ op = 10 ∨ ((op == 2) = false ∧ (op == 7) = false ∧ (op == 6) = false ∧ (op == 8) = false ∧ (op == 11) = false ∧ (op == 13) = false ∧ (op == 16) = false ∧ (op == 17) = false ∧ (op == 5) = false ∧ (op == 9) = false ∧ (op == 10) = false) := by
    simp only [beq_eq_false_iff_ne]
    omega
  rcases hcase with h | rfl | rfl | rfl | ⟨d1, d2, d3, d4, d5, d6, d7, d8, d9, d10, d11⟩
  · rcases h with rfl | rfl | rfl | rfl | rfl | rfl | rfl | rfl
    · have HU := Lib.hid (show usesL ⟨2, dst, a, b, nn, arg⟩ = putL [] a from rfl)
      rw [HU.out]
      have HC := Lib.hid (fun W => rput_any [] a none 0 0 W (Nat.zero_le _) ⟨none, 0, rfl, by simp, fun h => by simp at h⟩ (fun _ => ⟨rfl, rfl⟩) (Nat.le_refl _) (by simp) ha)
      simp only [List.length_nil] at HC
      go_enter Tryd.func8, Tryd.ntmps8
      refine wp_letter (fun Q hQ => ?_)
      have HQ := Lib.hid hQ
      clear hQ
      go_wp2_with (go_at_call 22; refine (HC.out _).mono ?_; intro e w1 h; obtain ⟨v, rfl, hv, hb1⟩ := h.v)
      refine HQ.out _ _ _ ?_
      exact bodyPost_ret (v := v) (by simp [results, Tryd.results8, go_sem]) rfl (IntsV.new hv ((below1 w _).trans (hb1.mono (below1 w _).size)))
    · have HU := Lib.hid (show usesL ⟨7, dst, a, b, nn, arg⟩ = putL [] a from rfl)
      rw [HU.out]
      have HC := Lib.hid (fun W => rput_any [] a none 0 0 W (Nat.zero_le _) ⟨none, 0, rfl, by simp, fun h => by simp at h⟩ (fun _ => ⟨rfl, rfl⟩) (Nat.le_refl _) (by simp) ha)
      simp only [List.length_nil] at HC
      go_enter Tryd.func8, Tryd.ntmps8
      refine wp_letter (fun Q hQ => ?_)
      have HQ := Lib.hid hQ
      clear hQ
      go_wp2_with (go_at_call 22; refine (HC.out _).mono ?_; intro e w1 h; obtain ⟨v, rfl, hv, hb1⟩ := h.v)
      refine HQ.out _ _ _ ?_
      exact bodyPost_ret (v := v) (by simp [results, Tryd.results8, go_sem]) rfl (IntsV.new hv ((below1 w _).trans (hb1.mono (below1 w _).size)))
    · have HU := Lib.hid (show usesL ⟨6, dst, a, b, nn, arg⟩ = putL [] a from rfl)
      rw [HU.out]
      have HC := Lib.hid (fun W => rput_any [] a none 0 0 W (Nat.zero_le _) ⟨none, 0, rfl, by simp, fun h => by simp at h⟩ (fun _ => ⟨rfl, rfl⟩) (Nat.le_refl _) (by simp) ha)
      simp only [List.length_nil] at HC
      go_enter Tryd.func8, Tryd.ntmps8
      refine wp_letter (fun Q hQ => ?_)
      have HQ := Lib.hid hQ
      clear hQ
      go_wp2_with (go_at_call 22; refine (HC.out _).mono ?_; intro e w1 h; obtain ⟨v, rfl, hv, hb1⟩ := h.v)
      refine HQ.out _ _ _ ?_
      exact bodyPost_ret (v := v) (by simp [results, Tryd.results8, go_sem]) rfl (IntsV.new hv ((below1 w _).trans (hb1.mono (below1 w _).size)))
    · have HU := Lib.hid (show usesL ⟨8, dst, a, b, nn, arg⟩ = putL [] a from rfl)
      rw [HU.out]
      have HC := Lib.hid (fun W => rput_any [] a none 0 0 W (Nat.zero_le _) ⟨none, 0, rfl, by simp, fun h => by simp at h⟩ (fun _ => ⟨rfl, rfl⟩) (Nat.le_refl _) (by simp) ha)
      simp only [List.length_nil] at HC
      go_enter Tryd.func8, Tryd.ntmps8
      refine wp_letter (fun Q hQ => ?_)
      have HQ := Lib.hid hQ
      clear hQ
      go_wp2_with (go_at_call 22; refine (HC.out _).mono ?_; intro e w1 h; obtain ⟨v, rfl, hv, hb1⟩ := h.v)
      refine HQ.out _ _ _ ?_
      exact bodyPost_ret (v := v) (by simp [results, Tryd.results8, go_sem]) rfl (IntsV.new hv ((below1 w _).trans (hb1.mono (below1 w _).size)))
    · have HU := Lib.hid (show usesL ⟨11, dst, a, b, nn, arg⟩ = putL [] a from rfl)
      rw [HU.out]
      have HC := Lib.hid (fun W => rput_any [] a none 0 0 W (Nat.zero_le _) ⟨none, 0, rfl, by simp, fun h => by simp at h⟩ (fun _ => ⟨rfl, rfl⟩) (Nat.le_refl _) (by simp) ha)
      simp only [List.length_nil] at HC
      go_enter Tryd.func8, Tryd.ntmps8
      refine wp_letter (fun Q hQ => ?_)
      have HQ := Lib.hid hQ
      clear hQ
      go_wp2_with (go_at_call 22; refine (HC.out _).mono ?_; intro e w1 h; obtain ⟨v, rfl, hv, hb1⟩ := h.v)
      refine HQ.out _ _ _ ?_
      exact bodyPost_ret (v := v) (by simp [results, Tryd.results8, go_sem]) rfl (IntsV.new hv ((below1 w _).trans (hb1.mono (below1 w _).size)))
    · have HU := Lib.hid (show usesL ⟨13, dst, a, b, nn, arg⟩ = putL [] a from rfl)
      rw [HU.out]
      have HC := Lib.hid (fun W => rput_any [] a none 0 0 W (Nat.zero_le _) ⟨none, 0, rfl, by simp, fun h => by simp at h⟩ (fun _ => ⟨rfl, rfl⟩) (Nat.le_refl _) (by simp) ha)
      simp only [List.length_nil] at HC
      go_enter Tryd.func8, Tryd.ntmps8
      refine wp_letter (fun Q hQ => ?_)
      have HQ := Lib.hid hQ
      clear hQ
      go_wp2_with (go_at_call 22; refine (HC.out _).mono ?_; intro e w1 h; obtain ⟨v, rfl, hv, hb1⟩ := h.v)
      refine HQ.out _ _ _ ?_
      exact bodyPost_ret (v := v) (by simp [results, Tryd.results8, go_sem]) rfl (IntsV.new hv ((below1 w _).trans (hb1.mono (below1 w _).size)))
    · have HU := Lib.hid (show usesL ⟨16, dst, a, b, nn, arg⟩ = putL [] a from rfl)
      rw [HU.out]
      have HC := Lib.hid (fun W => rput_any [] a none 0 0 W (Nat.zero_le _) ⟨none, 0, rfl, by simp, fun h => by simp at h⟩ (fun _ => ⟨rfl, rfl⟩) (Nat.le_refl _) (by simp) ha)
      simp only [List.length_nil] at HC
      go_enter Tryd.func8, Tryd.ntmps8
      refine wp_letter (fun Q hQ => ?_)
      have HQ := Lib.hid hQ
      clear hQ
      go_wp2_with (go_at_call 22; refine (HC.out _).mono ?_; intro e w1 h; obtain ⟨v, rfl, hv, hb1⟩ := h.v)
      refine HQ.out _ _ _ ?_
      exact bodyPost_ret (v := v) (by simp [results, Tryd.results8, go_sem]) rfl (IntsV.new hv ((below1 w _).trans (hb1.mono (below1 w _).size)))
    · have HU := Lib.hid (show usesL ⟨17, dst, a, b, nn, arg⟩ = putL [] a from rfl)
      rw [HU.out]
      have HC := Lib.hid (fun W => rput_any [] a none 0 0 W (Nat.zero_le _) ⟨none, 0, rfl, by simp, fun h => by simp at h⟩ (fun _ => ⟨rfl, rfl⟩) (Nat.le_refl _) (by simp) ha)
      simp only [List.length_nil] at HC
      go_enter Tryd.func8, Tryd.ntmps8
      refine wp_letter (fun Q hQ => ?_)
      have HQ := Lib.hid hQ
      clear hQ
      go_wp2_with (go_at_call 22; refine (HC.out _).mono ?_; intro e w1 h; obtain ⟨v, rfl, hv, hb1⟩ := h.v)
      refine HQ.out _ _ _ ?_
      exact bodyPost_ret (v := v) (by simp [results, Tryd.results8, go_sem]) rfl (IntsV.new hv ((below1 w _).trans (hb1.mono (below1 w _).size)))
  · have HU := Lib.hid (show usesL ⟨5, dst, a, b, nn, arg⟩ = putL (putL [] a) b from rfl)
    rw [HU.out]
    have HX := Lib.hid (Row.new w #[.int .i64 5, .int .i64 dst, .int .i64 a, .int .i64 b, .int .i64 nn, .slice SA arg.length scap] 38)
    have HB := Lib.hid (below1 w (.cells #[.int .i64 5, .int .i64 dst, .int .i64 a, .int .i64 b, .int .i64 nn, .slice SA arg.length scap] 38))
    go_enter Tryd.func8, Tryd.ntmps8
    refine wp_letter (fun Q hQ => ?_)
    have HQ := Lib.hid hQ
    clear hQ
    go_wp2_with fail
    refine luA_region w.heap.size _ a b _ HX.out rfl rfl ha hb _ _ _ _ _ _ _ _ _ _ _ _ _ _ _ _ _ _ _ _ _ _ _ _ _ _ _ _ _ _ _ _ _ _ _ _ _ _ _ _ _ _ _ _ _ _ _ _ _ _ _ _ _ _ ?_
    intro W Y hb1 hv
    have HV := Lib.hid hv
    have HBW := Lib.hid (HB.out.trans (hb1.mono HB.out.size))
    clear hb1 hv
    go_wp2_with fail
    refine HQ.out _ _ _ ?_
    exact bodyPost_ret (v := Y 6) (by simp [results, Tryd.results8, go_sem]) rfl (IntsV.new HV.out HBW.out)
  · have HU := Lib.hid (show usesL ⟨9, dst, a, b, nn, arg⟩ = putL (putL [] a) dst from rfl)
    rw [HU.out]
    have HX := Lib.hid (Row.new w #[.int .i64 9, .int .i64 dst, .int .i64 a, .int .i64 b, .int .i64 nn, .slice SA arg.length scap] 38)
    have HB := Lib.hid (below1 w (.cells #[.int .i64 9, .int .i64 dst, .int .i64 a, .int .i64 b, .int .i64 nn, .slice SA arg.length scap] 38))
    go_enter Tryd.func8, Tryd.ntmps8
    refine wp_letter (fun Q hQ => ?_)
    have HQ := Lib.hid hQ
    clear hQ
    go_wp2_with fail
    refine luB_region w.heap.size _ a dst _ HX.out rfl rfl ha hd _ _ _ _ _ _ _ _ _ _ _ _ _ _ _ _ _ _ _ _ _ _ _ _ _ _ _ _ _ _ _ _ _ _ _ _ _ _ _ _ _ _ _ _ _ _ _ _ _ _ _ _ _ _ ?_
    intro W Y hb1 hv
    have HV := Lib.hid hv
    have HBW := Lib.hid (HB.out.trans (hb1.mono HB.out.size))
    clear hb1 hv
    go_wp2_with fail
    refine HQ.out _ _ _ ?_
    exact bodyPost_ret (v := Y 6) (by simp [results, Tryd.results8, go_sem]) rfl (IntsV.new HV.out HBW.out)
  · have HU := Lib.hid (show usesL ⟨10, dst, a, b, nn, arg⟩ = arg.foldl putL [] from rfl)
    rw [HU.out]
    have HX := Lib.hid (Row.new w #[.int .i64 10, .int .i64 dst, .int .i64 a, .int .i64 b, .int .i64 nn, .slice SA arg.length scap] 38)
    have HB := Lib.hid (below1 w (.cells #[.int .i64 10, .int .i64 dst, .int .i64 a, .int .i64 b, .int .i64 nn, .slice SA arg.length scap] 38))
    have HST := Lib.hid hst
    have han := (SliceAt.len hst).2
    clear hst
    go_enter Tryd.func8, Tryd.ntmps8
    refine wp_letter (fun Q hQ => ?_)
    have HQ := Lib.hid hQ
    clear hQ
    go_wp2_with fail
    go_loopw [3, 4] (fun r i wr => ∃ k : Nat, i = .int .i64 (k : Nat) ∧ k ≤ arg.length ∧ IntsV wr ((arg.take k).foldl putL []) r ∧ Below (w.heap.size + 1) (w.alloc (.cells #[.int .i64 10, .int .i64 dst, .int .i64 a, .int .i64 b, .int .i64 nn, .slice SA arg.length scap] 38)) wr) (fun _ i _ => arg.length - (intOf i).toNat)
    case atStart => exact ⟨0, rfl, Nat.zero_le _, ⟨none, 0, rfl, ⟨none, 0, rfl, by simp, fun h => by simp at h⟩, fun _ => ⟨rfl, rfl⟩, Nat.le_refl _⟩, Below.refl _ _⟩
    case round =>
      obtain ⟨k, rfl, hk, hv, hbw⟩ := hrel
      have hx := HX.out.below hbw (by omega)
      have x5 := hx.cell (j := 5) rfl
      have xl := hx.lt
      by_cases hlt : k < arg.length
      · have hb0 := HB.out.trans (hbw.mono (by omega))
        obtain ⟨ab, aof, r, rfl, hab, hr, hc0, hr64⟩ := SliceAt.get (LongsAt.below HST.out (hb0.mono hB) (Nat.le_refl _)) hlt
        simp only [Nat.mul_one, Nat.add_zero] at hc0
        obtain ⟨A, c, rfl, hl, hn, hc⟩ := hv
        have hlen := foldPut_len (m := arg.take k) (l := [])
        have htk : (arg.take k).length ≤ arg.length := by simp; omega
        have HC := Lib.hid (rput_any _ r A c wr.heap.size wr (Nat.le_refl _) hl hn hc (by simp at hlen; omega) hr64)
        have HR := Lib.hid hr
        have HBW := Lib.hid hbw
        have habl : ab < wr.heap.size := by have := hb0.size; omega
        have hk0 : (k : Int) < (arg.length : Int) := by omega
        clear hl hn hc hlen htk hr hbw hx hb0 hr64
        go_wp2_with (go_at_call 22; refine HC.out.mono ?_; intro e w1 h; obtain ⟨v, rfl, hv, hb1⟩ := h.v)
        go_roundw
        case rel => exact ⟨k + 1, by go_num, hlt, by rw [take_succ_of HR.out, List.foldl_append]; exact hv, HBW.out.trans (hb1.mono (by have := HBW.out.size; simp at this; omega))⟩
        case measure => simp [intOf]; omega
      · obtain rfl : k = arg.length := by omega
        rw [List.take_length] at hv
        have HV := Lib.hid hv
        have HBW := Lib.hid hbw
        clear hv hbw hx
        go_wp2_with fail
        refine HQ.out _ _ _ ?_
        exact bodyPost_ret (v := u3) (by simp [results, Tryd.results8, go_sem]) rfl (IntsV.new HV.out (HB.out.trans (HBW.out.mono (by omega))))
  · have HU := Lib.hid (show usesL ⟨op, dst, a, b, nn, arg⟩ = [] from by
      simp only [beq_eq_false_iff_ne] at d1 d2 d3 d4 d5 d6 d7 d8 d9 d10 d11
      simp [usesL, regsL, d1, d2, d3, d4, d5, d6, d7, d8, d9, d10, d11])
    rw [HU.out]
    go_enter Tryd.func8, Tryd.ntmps8
    refine wp_letter (fun Q hQ => ?_)
    have HQ := Lib.hid hQ
    clear hQ
    go_wp2_with fail
    refine HQ.out _ _ _ ?_
    exact bodyPost_ret (v := (.slice none 0 0)) (by simp [results, Tryd.results8, go_sem]) rfl (newInts_nil _ _ (below1 _ _))
end Go.Proofs.YtlenilbkifofjaaDoor
