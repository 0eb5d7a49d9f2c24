/- live's sets: put, drop. Conditions: as stated. -/
import Derived.Test.YtlenilbkifofjaaDoorQ03Zz
import Derived.Shelf.Spec.TrailingZeros
set_option linter.unusedVariables false
set_option linter.unusedSimpArgs false
namespace Go.Proofs.YtlenilbkifofjaaDoor
open Go.RowKit

/-- A set's words in a block of their own. -/
def WordsAt (w : World) (b : Nat) (ws : List Nat) : Prop := ∃ cs, Row w b cs 85 ∧ cs.size = ws.length ∧ (∀ (j x : Nat), ws[j]? = some x → cs[j]? = some (Value.int .u64 (x : Nat))) ∧ In64W ws
theorem WordsAt.wr {F : Nat → Prop} {w w' : World} {b : Nat} {ws : List Nat} (h : WordsAt w b ws) (hw : Wr F w w') (hF : ¬ F b) : WordsAt w' b ws := by
  obtain ⟨cs, h1, h2⟩ := h
  exact ⟨cs, h1.wr hw hF, h2⟩
theorem WordsAt.below {B : Nat} {w w' : World} {b : Nat} {ws : List Nat} (h : WordsAt w b ws) (hw : Below B w w') (hb : b < B) : WordsAt w' b ws := by
  obtain ⟨cs, h1, h2⟩ := h
  exact ⟨cs, h1.below hw hb, h2⟩
theorem WordsAt.lt {w : World} {b : Nat} {ws : List Nat} (h : WordsAt w b ws) : b < w.heap.size := by
  obtain ⟨cs, h1, _⟩ := h
  exact h1.lt
theorem WordsAt.free {w : World} {b : Nat} {ws : List Nat} (h : WordsAt w b ws) (j : Nat) : w.frozen? ⟨b, j, none⟩ = false := by
  obtain ⟨cs, h1, _⟩ := h
  exact h1.free j
theorem WordsAt.cell {w : World} {b : Nat} {ws : List Nat} (h : WordsAt w b ws) {j : Nat} (hj : j < ws.length) : w.cell? ⟨b, j, none⟩ = some (.int .u64 (ws.getD j 0 : Nat)) := by
  obtain ⟨cs, h1, _, h3, _⟩ := h
  exact h1.cell (h3 j _ (by rw [getD_of hj]; exact List.getElem?_eq_getElem hj))
theorem WordsAt.set {w : World} {b : Nat} {ws : List Nat} (h : WordsAt w b ws) {j v : Nat} (hj : j < ws.length) (hv : v < 2 ^ 64) : WordsAt (w.setCell ⟨b, j, none⟩ (.int .u64 v)) b (ws.set j v) := by
  obtain ⟨cs, h1, h2, h3, h4⟩ := h
  refine ⟨_, h1.set j _, by simp [h2], fun i x hi => ?_, set_64 h4 hv⟩
  by_cases hij : j = i
  · subst hij
    rw [List.getElem?_set_self hj] at hi
    rw [Array.getElem?_setIfInBounds_self_of_lt (by omega)]
    simp at hi
    rw [hi]
  · rw [List.getElem?_set_ne hij] at hi
    rw [Array.getElem?_setIfInBounds_ne hij]
    exact h3 i x hi
/-- A set's store answers. -/
def SetSays (b : Nat) (ws : List Nat) (w : World) (e : Ending) (w' : World) : Prop := e = .returned (.tuple #[]) ∧ WordsAt w' b ws ∧ Wr (fun k => k = b) w w'
theorem bits_or_word {a n : Nat} (ha : a < 2 ^ 64) (hn : n < 64) : bits .or .u64 (a : Int) (IntKind.u64.wrap (2 ^ n)) = ((a ||| 2 ^ n : Nat) : Int) := by
  have h := Nat.pow_lt_pow_right (a := 2) (by omega) hn
  have e0 : ((2 ^ n : Nat) : Int) = (2 : Int) ^ n := by simp
  have e : IntKind.u64.wrap (2 ^ n) = ((2 ^ n : Nat) : Int) := by
    rw [IntKind.wrap_u64, ← e0]
    have hh : 2 ^ n < 18446744073709551616 := by simpa using h
    generalize (2 : Nat) ^ n = p at hh ⊢
    omega
  rw [e]
  exact bits_or_u64_nat _ _ (by omega) (by omega)
theorem bits_andNot_word {a n : Nat} (ha : a < 2 ^ 64) (hn : n < 64) : bits .andNot .u64 (a : Int) (IntKind.u64.wrap (2 ^ n)) = ((a &&& (2 ^ 64 - 1 - 2 ^ n) : Nat) : Int) := by
  have h := Nat.pow_lt_pow_right (a := 2) (by omega) hn
  have e0 : ((2 ^ n : Nat) : Int) = (2 : Int) ^ n := by simp
  have e : IntKind.u64.wrap (2 ^ n) = ((2 ^ n : Nat) : Int) := by
    rw [IntKind.wrap_u64, ← e0]
    have hh : 2 ^ n < 18446744073709551616 := by simpa using h
    generalize (2 : Nat) ^ n = p at hh ⊢
    omega
  rw [e]
  have h1 : (BitVec.ofInt 64 (a : Int)).toNat = a := by
    rw [BitVec.ofInt_natCast, BitVec.toNat_ofNat]; exact Nat.mod_eq_of_lt (by omega)
  have h2 : (BitVec.ofInt 64 ((2 ^ n : Nat) : Int)).toNat = 2 ^ n := by
    rw [BitVec.ofInt_natCast, BitVec.toNat_ofNat]; exact Nat.mod_eq_of_lt (by omega)
  show IntKind.u64.wrap ((BitVec.ofInt 64 (a : Int) &&& ~~~ BitVec.ofInt 64 ((2 ^ n : Nat) : Int)).toNat : Int) = _
  rw [BitVec.toNat_and, BitVec.toNat_not, h1, h2, IntKind.wrap_u64]
  have := Nat.and_le_left (n := a) (m := 2 ^ 64 - 1 - 2 ^ n)
  omega
set_option maxRecDepth 100000 in
set_option maxHeartbeats 8000000 in
theorem lput_any (b : Nat) (ws : List Nat) (r : Nat) (cap : Nat) (w : World) (h : WordsAt w b ws) (hr : r / 64 < ws.length) (h64 : r < 2 ^ 62) :
    Calls Tryd.prog 67 #[.slice (some ⟨b, 0, none⟩) ws.length cap, .int .i64 (r : Nat)] w fun e w' => SetSays b (putW ws r) w e w' := by
  have c0 := h.cell hr
  have c1 := h.free (r / 64)
  have cl := h.lt
  have hlt : ws[r / 64] < 2 ^ 64 := by obtain ⟨_, _, _, _, h4⟩ := h; exact h4 _ (List.getElem_mem hr)
  have HS := Lib.hid (h.set hr (v := ws[r / 64] ||| 2 ^ (r % 64)) (Nat.or_lt_two_pow hlt (Nat.pow_lt_pow_right (by omega) (by omega))))
  have HE := Lib.hid (bits_or_word hlt (show r % 64 < 64 by omega))
  have HP := Lib.hid (show putW ws r = ws.set (r / 64) (ws[r / 64] ||| 2 ^ (r % 64)) from by rw [putW, getD_of hr])
  clear h
  go_enter Tryd.func67, Tryd.ntmps67
  refine wp_letter (fun Q hQ => ?_)
  have HQ := Lib.hid hQ
  clear hQ
  go_wp2_with fail
  go_region
  refine HQ.out _ _ _ ?_
  exact bodyPost_ret (v := .tuple #[]) (by simp [results, Tryd.results67, go_sem]) rfl ⟨rfl, by rw [HE.out, HP.out]; exact HS.out, (Wr.cell1 w b _ _).drewR⟩
set_option maxRecDepth 100000 in
set_option maxHeartbeats 8000000 in
theorem ldrop_any (b : Nat) (ws : List Nat) (r : Nat) (cap : Nat) (w : World) (h : WordsAt w b ws) (hr : r / 64 < ws.length) (h64 : r < 2 ^ 62) :
    Calls Tryd.prog 66 #[.slice (some ⟨b, 0, none⟩) ws.length cap, .int .i64 (r : Nat)] w fun e w' => SetSays b (dropW ws r) w e w' := by
  have c0 := h.cell hr
  have c1 := h.free (r / 64)
  have cl := h.lt
  have hlt : ws[r / 64] < 2 ^ 64 := by obtain ⟨_, _, _, _, h4⟩ := h; exact h4 _ (List.getElem_mem hr)
  have HS := Lib.hid (h.set hr (v := ws[r / 64] &&& (2 ^ 64 - 1 - 2 ^ (r % 64))) (Nat.lt_of_le_of_lt Nat.and_le_left hlt))
  have HE := Lib.hid (bits_andNot_word hlt (show r % 64 < 64 by omega))
  have HP := Lib.hid (show dropW ws r = ws.set (r / 64) (ws[r / 64] &&& (2 ^ 64 - 1 - 2 ^ (r % 64))) from by rw [dropW, getD_of hr])
  clear h
  go_enter Tryd.func66, Tryd.ntmps66
  refine wp_letter (fun Q hQ => ?_)
  have HQ := Lib.hid hQ
  clear hQ
  go_wp2_with fail
  go_region
  refine HQ.out _ _ _ ?_
  exact bodyPost_ret (v := .tuple #[]) (by simp [results, Tryd.results66, go_sem]) rfl ⟨rfl, by rw [HE.out, HP.out]; exact HS.out, (Wr.cell1 w b _ _).drewR⟩
/-- Joined up to a place. -/
def mixW (k : Nat) (a c : List Nat) : List Nat := (joinW a c).take k ++ a.drop k
theorem mixW_len {k : Nat} {a c : List Nat} (hl : a.length = c.length) : (mixW k a c).length = a.length := by
  simp [mixW, joinW_len hl]
  omega
theorem mixW_zero {a c : List Nat} : mixW 0 a c = a := by simp [mixW]
theorem mixW_all {a c : List Nat} (hl : a.length = c.length) : mixW a.length a c = joinW a c := by
  simp [mixW, ← joinW_len hl]
theorem mixW_get {k : Nat} {a c : List Nat} (hl : a.length = c.length) (hk : k < a.length) : (mixW k a c)[k]'(by rw [mixW_len hl]; exact hk) = a[k] := by
  unfold mixW
  rw [List.getElem_append_right (by simp; omega)]
  simp [joinW_len hl, Nat.min_eq_left (Nat.le_of_lt hk)]
theorem mixW_next {k : Nat} {a c : List Nat} (hl : a.length = c.length) (hk : k < a.length) (hk' : k < c.length) : (mixW k a c).set k (a[k] ||| c[k]) = mixW (k + 1) a c := by
  have hj := joinW_len hl
  refine List.ext_getElem (by rw [List.length_set, mixW_len hl, mixW_len hl]) fun i h1 h2 => ?_
  rw [List.getElem_set]
  simp only [mixW, List.getElem_append, List.length_take, hj, List.getElem_take, List.getElem_drop]
  by_cases e : k = i
  · subst e
    rw [if_pos rfl, dif_pos (by omega)]
    simp [joinW]
  · rw [if_neg e]
    by_cases h3 : i < k
    · rw [dif_pos (by omega), dif_pos (by omega)]
    · rw [dif_neg (by omega), dif_neg (by omega)]
      congr 1
      omega
set_option maxRecDepth 100000 in
set_option maxHeartbeats 8000000 in
theorem ljoin_any (b tb : Nat) (a c : List Nat) (cap cap' : Nat) (w : World) (h : WordsAt w b a) (h' : WordsAt w tb c) (hl : a.length = c.length) (hne : tb ≠ b) (h62 : a.length < 2 ^ 62) :
    Calls Tryd.prog 65 #[.slice (some ⟨b, 0, none⟩) a.length cap, .slice (some ⟨tb, 0, none⟩) c.length cap'] w fun e w' => SetSays b (joinW a c) w e w' := by
  have HT := Lib.hid h'
  have HS := Lib.hid h
  have H64a : In64W a := by obtain ⟨_, _, _, _, h4⟩ := h; exact h4
  have H64c : In64W c := by obtain ⟨_, _, _, _, h4⟩ := h'; exact h4
  have HA := Lib.hid H64a
  have HC := Lib.hid H64c
  have hnm : (a.length : Int) = (c.length : Int) := by omega
  clear h h' H64a H64c
  go_enter Tryd.func65, Tryd.ntmps65
  refine wp_letter (fun Q hQ => ?_)
  have HQ := Lib.hid hQ
  clear hQ
  go_wp2_with fail
  go_loopw [7] (fun i wr => ∃ k : Nat, i = .int .i64 (k : Nat) ∧ k ≤ a.length ∧ WordsAt wr b (mixW k a c) ∧ Wr (fun k => k = b) w wr) (fun i _ => a.length - (intOf i).toNat)
  case atStart => exact ⟨0, rfl, Nat.zero_le _, by rw [mixW_zero]; exact HS.out, Wr.refl _ _⟩
  case round =>
    obtain ⟨k, rfl, hk, hm, hw⟩ := hrel
    by_cases hlt : k < a.length
    · have hlt' : k < c.length := by omega
      have hkm : k < (mixW k a c).length := by rw [mixW_len hl]; exact hlt
      have c0 := hm.cell hkm
      have c1 := hm.free k
      have cl := hm.lt
      have ht := HT.out.wr hw (fun h => hne h)
      have d0 := ht.cell hlt'
      have dl := ht.lt
      rw [getD_of hkm, mixW_get hl hlt] at c0
      rw [getD_of hlt'] at d0
      have hk0 : (k : Int) < (a.length : Int) := by omega
      have hk1 : (k : Int) < (c.length : Int) := by omega
      have HE := Lib.hid (bits_or_u64_nat a[k] c[k] (HA.out _ (List.getElem_mem hlt)) (HC.out _ (List.getElem_mem hlt')))
      have HM := Lib.hid (hm.set hkm (v := a[k] ||| c[k]) (Nat.or_lt_two_pow (HA.out _ (List.getElem_mem hlt)) (HC.out _ (List.getElem_mem hlt'))))
      have HN := Lib.hid (mixW_next hl hlt hlt')
      have HW := Lib.hid (hw.trans (Wr.cell1 wr b k (.int .u64 ((a[k] ||| c[k] : Nat) : Int))) (fun _ h => Or.inl h))
      clear hm hw ht hl
      go_wp2_with fail
      go_region
      go_wp2_with fail
      go_roundw
      case rel => exact ⟨k + 1, by go_num, hlt, by rw [HE.out, ← HN.out]; exact HM.out, by rw [HE.out]; exact HW.out.drewR⟩
      case measure => simp [intOf]; omega
    · obtain rfl : k = a.length := by omega
      have HM := Lib.hid hm
      have HW := Lib.hid hw
      have HN := Lib.hid (mixW_all hl)
      clear hm hw
      go_wp2_with fail
      refine HQ.out _ _ _ ?_
      exact bodyPost_ret (v := .tuple #[]) (by simp [results, Tryd.results65, go_sem]) rfl ⟨rfl, by rw [← HN.out]; exact HM.out, HW.out⟩
end Go.Proofs.YtlenilbkifofjaaDoor
