/- Heavy: whether an ask is more than is played. Conditions: as stated. -/
import Derived.Test.YtjkgpolikpochaaWeighZz
set_option linter.unusedVariables false
set_option linter.unusedSimpArgs false
namespace Go.Proofs.Ytjkgpolikpochaa
open Go.RowKit

def hvT : List T → Int → Int
  | [], n => n
  | t :: l, n => if n < 1048576 then hvT l (n + wgt t 300) else n
def hvS : List ByteArray → Int → Int
  | [], n => n
  | s :: l, n => if n < 1048576 then hvS l (n + s.size) else n
def heavyB (ts : List T) (ss : List ByteArray) : Bool := decide (6000 < hvS ss (hvT ts (ss.length + ts.length)))
theorem hvT_ge : ∀ (l : List T) (n : Int), n ≤ hvT l n
  | [], n => by rw [hvT]; exact Int.le_refl _
  | t :: l, n => by
    rw [hvT]
    have hk := wgt_bd t 300 (by omega)
    split
    · have := hvT_ge l (n + wgt t 300); omega
    · exact Int.le_refl _
theorem hvS_ge : ∀ (l : List ByteArray) (n : Int), n ≤ hvS l n
  | [], n => by rw [hvS]; exact Int.le_refl _
  | t :: l, n => by
    rw [hvS]
    split
    · have := hvS_ge l (n + t.size); omega
    · exact Int.le_refl _
theorem hvT_size : ∀ (l : List T) (n : Int), 0 ≤ n → hvT l n < 1048576 → hvT l n = n + T.sizes l
  | [], n, _, h => by simp [hvT, T.sizes]
  | t :: l, n, h0, h => by
    rw [hvT] at h ⊢
    split at h
    · rename_i hn
      rw [if_pos hn]
      have hk := wgt_bd t 300 (by omega)
      have hlt : wgt t 300 < 1048576 := by have := hvT_ge l (n + wgt t 300); omega
      have h1 := wgt_size t 300 (by omega) hlt
      have h2 := hvT_size l _ (by omega) h
      simp only [T.sizes]
      omega
    · omega
/-- What is not heavy is small. -/
theorem heavy_no {ts : List T} {ss : List ByteArray} (h : heavyB ts ss = false) : T.sizes ts ≤ 6000 ∧ ts.length ≤ 6000 := by
  simp only [heavyB, decide_eq_false_iff_not] at h
  have h1 := hvS_ge ss (hvT ts (ss.length + ts.length))
  have h2 := hvT_size ts (ss.length + ts.length) (by omega) (by omega)
  have := T.length_sizes ts
  omega

def StrsAt (w : World) (B : Nat) (ss : List ByteArray) (A : Option Addr) (n : Nat) : Prop :=
  ss.length = n ∧ n ≤ 140737488355328 ∧ (∀ s, s ∈ ss → s.size ≤ 140737488355328) ∧ (0 < n → ∃ b off, A = some ⟨b, off, none⟩ ∧ b < B ∧ ∀ i s, ss[i]? = some s → w.cell? ⟨b, off + i, none⟩ = some (.string s))

set_option maxRecDepth 100000 in
set_option maxHeartbeats 4000000 in
theorem heavy_any (ts : List T) (ss : List ByteArray) (TA SA : Option Addr) (tn tc sn sc B : Nat) (w : World) (hB : B ≤ w.heap.size) (hT : KidsV w B ts TA tn) (htn : tn ≤ 140737488355328) (hS : StrsAt w B ss SA sn) :
    Calls Try.prog 9 #[.agg #[.slice TA tn tc, .slice SA sn sc]] w fun e w' => e = .returned (.bool (heavyB ts ss)) ∧ Below w.heap.size w w' := by
  have htl := hT.1
  obtain ⟨hsl, hsn, hss, hsc⟩ := hS
  have HT := Lib.hid hT
  have HSS := Lib.hid hss
  have HSC := Lib.hid hsc
  have HTL := Lib.hid htl
  have HSL := Lib.hid hsl
  clear hT hss hsc htl hsl
  go_enter Try.func9, Try.ntmps9
  refine wp_letter (fun Q hQ => ?_)
  have HQ := Lib.hid hQ
  clear hQ
  go_wp2_with fail
  go_loopw [3, 4] (fun a i wr => ∃ (k : Nat) (n : Int), k ≤ tn ∧ i = .int .i64 k ∧ a = .int .i64 n ∧ 0 ≤ n ∧ n ≤ 281474976710656 ∧ hvT (ts.drop k) n = hvT ts (sn + tn) ∧ Below w.heap.size w wr ∧ wr.cell? ⟨w.heap.size, 0, none⟩ = some (.slice TA tn tc) ∧ wr.cell? ⟨w.heap.size, 1, none⟩ = some (.slice SA sn sc) ∧ w.heap.size < wr.heap.size) (fun _ i _ => tn - (intOf i).toNat)
  case atStart => exact ⟨0, sn + tn, by omega, rfl, rfl, by omega, by omega, rfl, below1 _ _, by simp [go_sem], by simp [go_sem], by simp [go_sem]⟩
  case round =>
    obtain ⟨k, n, hk2, rfl, rfl, hm0, hm1, hcs, hbw, hc0, hc1, hzl⟩ := hrel
    have HCS := Lib.hid hcs
    clear hcs
    have hzw := hbw.size
    by_cases hgo : k < tn ∧ n < 1048576
    · obtain ⟨hlt, hn⟩ := hgo
      obtain ⟨b, off, t, v0, v1, v2, rfl, hb, hk1, c0, c1, c2, ht⟩ := (HT.out.below (hbw.mono hB) (Nat.le_refl _)).get hlt
      have hklt : (k : Int) < (tn : Int) := by omega
      have hd3 : decide ((k : Int) < (tn : Int)) = true := by simpa using hlt
      have HD := Lib.hid (show hvT (ts.drop k) n = hvT (ts.drop (k + 1)) (n + wgt t 300) from by rw [drop_of hk1, hvT, if_pos hn])
      have hbl : b < wr.heap.size := by omega
      have hbd := wgt_bd t 300 (by omega)
      have HC := Lib.hid (wgt_all t.size t 300 B wr v0 v1 v2 (Nat.le_refl _) (by omega) ht (by omega) (by omega))
      obtain ⟨q, hq⟩ : ∃ q, q = wgt t 300 := ⟨_, rfl⟩
      rw [← hq] at HC HD hbd
      obtain ⟨hbd0, hbd1⟩ := hbd
      have hd4 : decide (n < 1048576) = true := by simpa using hn
      clear hk1 ht hq
      go_wp2_with fail
      refine HC.out.mono ?_
      rintro e w1 ⟨rfl, hb1⟩
      have hc0' : w1.cell? ⟨w.heap.size, 0, none⟩ = some (.slice (some ⟨b, off, none⟩) tn tc) := cell_below hc0 hb1 (by omega)
      have hc1' : w1.cell? ⟨w.heap.size, 1, none⟩ = some (.slice SA sn sc) := cell_below hc1 hb1 (by omega)
      go_wp2_with fail
      go_roundw
      case rel => exact ⟨k + 1, n + q, by omega, by go_num, rfl, by omega, by omega, by rw [← HCS.out, HD.out], hbw.trans (hb1.mono hzw), hc0', hc1', by have := hb1.size; omega⟩
      case measure => simp [intOf]; omega
    · have he : hvT ts (sn + tn) = n := by
        rw [← HCS.out]
        by_cases hlt : k < tn
        · have hn : ¬ n < 1048576 := fun h => hgo ⟨hlt, h⟩
          have hkl : k < ts.length := by rw [HTL.out]; exact hlt
          rw [drop_of (List.getElem?_eq_getElem hkl), hvT, if_neg hn]
        · rw [drop_nil_of (by rw [HTL.out]; omega)]; rfl
      have HE := Lib.hid he
      have hor : decide (k < tn) = false ∨ (decide (k < tn) = true ∧ decide (n < 1048576) = false) := by
        by_cases hlt : k < tn
        · exact Or.inr ⟨by simpa using hlt, by simp; exact Int.not_lt.1 (fun h => hgo ⟨hlt, h⟩)⟩
        · exact Or.inl (by simp; omega)
      clear he hgo
      obtain ⟨w4, rfl⟩ : ∃ w4 : World, w4 = wr := ⟨_, rfl⟩
      rcases hor with hd | ⟨hd, hd2⟩
      all_goals
        go_wp2_with fail
        go_loopw [3, 5] (fun a i wr => ∃ (j : Nat) (n2 : Int), j ≤ sn ∧ i = .int .i64 j ∧ a = .int .i64 n2 ∧ 0 ≤ n2 ∧ n2 ≤ 281474976710656 ∧ hvS (ss.drop j) n2 = hvS ss n ∧ wr = w4) (fun _ i _ => sn - (intOf i).toNat)
        case atStart => exact ⟨0, n, by omega, rfl, rfl, by omega, by omega, rfl, rfl⟩
        case round =>
          obtain ⟨j, n2, hj2, rfl, rfl, hn0, hn1, hcs, rfl⟩ := hrel
          have HCS2 := Lib.hid hcs
          clear hcs
          have hres : ∀ n3 : Int, hvS ss n = n3 → heavyB ts ss = decide (6000 < n3) := fun n3 h => by unfold heavyB; rw [HSL.out, HTL.out, HE.out, h]
          have HRES := Lib.hid hres
          clear hres
          by_cases hgo : j < sn ∧ n2 < 1048576
          · obtain ⟨hlt, hn⟩ := hgo
            obtain ⟨sb, soff, rfl, hsb, hcell⟩ := HSC.out (by omega)
            have hjl : j < ss.length := by rw [HSL.out]; exact hlt
            have hsj : ss[j]? = some ss[j] := List.getElem?_eq_getElem hjl
            obtain ⟨s, hs⟩ : ∃ s, s = ss[j] := ⟨_, rfl⟩
            rw [← hs] at hsj
            have hc := (hbw.cell (p := ⟨sb, soff + j, none⟩) (show sb < w.heap.size by omega)).trans (hcell j s hsj)
            have hsz := HSS.out s (List.mem_of_getElem? hsj)
            have HD := Lib.hid (show hvS (ss.drop j) n2 = hvS (ss.drop (j + 1)) (n2 + s.size) from by rw [drop_of hsj, hvS, if_pos hn])
            have hjlt : (j : Int) < (sn : Int) := by omega
            have hd3 : decide ((j : Int) < (sn : Int)) = true := by simpa using hlt
            have hd4 : decide (n2 < 1048576) = true := by simpa using hn
            clear hcell hsj hs hjl
            go_wp2_with fail
            go_roundw
            case rel => exact ⟨j + 1, n2 + s.size, by omega, by go_num, rfl, by omega, by omega, by rw [← HCS2.out, HD.out], trivial⟩
            case measure => simp [intOf]; omega
          · have he2 : hvS ss n = n2 := by
              rw [← HCS2.out]
              by_cases hlt : j < sn
              · have hn : ¬ n2 < 1048576 := fun h => hgo ⟨hlt, h⟩
                have hkl : j < ss.length := by rw [HSL.out]; exact hlt
                rw [drop_of (List.getElem?_eq_getElem hkl), hvS, if_neg hn]
              · rw [drop_nil_of (by rw [HSL.out]; omega)]; rfl
            have HE2 := Lib.hid (HRES.out n2 he2)
            have hor : decide (j < sn) = false ∨ (decide (j < sn) = true ∧ decide (n2 < 1048576) = false) := by
              by_cases hlt : j < sn
              · exact Or.inr ⟨by simpa using hlt, by simp; exact Int.not_lt.1 (fun h => hgo ⟨hlt, h⟩)⟩
              · exact Or.inl (by simp; omega)
            clear he2 hgo
            rcases hor with hdd | ⟨hdd, hdd2⟩
            all_goals
              go_wp2_with fail
              refine HQ.out _ _ _ ?_
              exact bodyPost_ret (v := .bool (decide (6000 < n2))) (by simp [results, Try.results9, go_sem]) rfl ⟨by rw [HE2.out], hbw⟩
end Go.Proofs.Ytjkgpolikpochaa
