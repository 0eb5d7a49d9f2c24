/- The page's machine: a tree one of whose kids comes to nothing. Conditions: as stated. -/
import Derived.Test.YtjkgpolikpochaaQ04Zz
set_option linter.unusedVariables false
set_option linter.unusedSimpArgs false
namespace Go.Proofs.Ytjkgpolikpochaa
open Go.RowKit
set_option maxRecDepth 100000 in
set_option maxHeartbeats 8000000 in
theorem tree_fail (m : Nat) (ih : TreeSaid m) : TreeFor (m + 1) (fun t s tp lo => ∃ op x ks, t = .node op x ks ∧ evalTs s.mem tp lo ks = none) := by
  rintro ⟨op, x, ks⟩ base mc own P fuel s fb tb G tp lv lo ng w v0 v1 v2 hm hM hkind hF hMo hFo hT hv hQ
  obtain ⟨A, cap, n, rfl, rfl, hop, hx, rfl, hk⟩ := KidsV.of_tree hv
  have hTs : TsIn ks := (TreeAt.tin _ hv).2
  simp only [T.size] at hm
  simp only [TOk] at hT
  obtain ⟨o1, o2, o3, o4, o5, o6, o7⟩ := hT
  have hB : base ≤ w.heap.size := by
    obtain ⟨_, _, _, _, h⟩ := hM
    have := h.rest.own mc h.mine
    omega
  have hn := hk.2.1
  have hn2 : n ≤ 2 := by
    have h := hk.1
    rw [o3] at h
    unfold kidsN at h
    (repeat' split at h) <;> omega
  have HK := Lib.hid hk
  have HM := Lib.hid hM
  have HF := Lib.hid hF
  have IH := Lib.hid ih
  have HO := Lib.hid (And.intro hMo hFo)
  have H7 := Lib.hid o7
  have H3 := Lib.hid o3
  have HS := Lib.hid hm
  have HI := Lib.hid hkind
  have HL := Lib.hid (show evalTs s.mem tp lo ks = none from by obtain ⟨_, _, _, he, hn⟩ := hQ; injection he with _ _ h3; rw [h3]; exact hn)
  clear hQ
  clear hk hM hF ih hMo hFo o7 o3 hm hkind hv
  go_enter Try.func66, Try.ntmps66
  go_wp2_with fail
  go_loopw [8, 9] (fun v i wr => ∃ (k : Nat) (l : List V), k ≤ n ∧ i = .int .i64 k ∧ evalTs s.mem tp lo (ks.take k) = some l ∧ wr.ownsRow (w.heap.size + 2) 90 2 v k (flatV l) ∧
      Below (w.heap.size + 2) ((w.alloc (.cells #[.int .i64 op, .int .i64 x, .slice A n cap] 28)).alloc (.cells #[.int .i64 0, .int .i64 0] 90)) wr)
    (fun _ i _ => n - (intOf i).toNat)
  case atStart => exact ⟨0, [], by omega, rfl, by simp [evalTs], World.ownsRow_nil _ _ _ _, Below.refl _ _⟩
  case round =>
    obtain ⟨k, l, hk, rfl, hev, hown, hnx⟩ := hrel
    obtain ⟨hr0, hr1⟩ := own_two hnx
    have hbw : Below w.heap.size w wr := (below2 _ _ _).trans (hnx.mono (by omega))
    have hsz := hnx.size
    simp only [World.size_alloc] at hsz
    have hlow := Lib.hid (show ∀ k, own k → base ≤ k ∧ k < w.heap.size from by obtain ⟨_, _, _, _, h⟩ := HM.out; exact h.rest.own)
    have c0 : wr.cell? ⟨w.heap.size, 0, none⟩ = some (.int .i64 op) := hr0.cell (j := 0) rfl
    have c1 : wr.cell? ⟨w.heap.size, 1, none⟩ = some (.int .i64 x) := hr0.cell (j := 1) rfl
    have c2 : wr.cell? ⟨w.heap.size, 2, none⟩ = some (.slice A n cap) := hr0.cell (j := 2) rfl
    have HM' := Lib.hid (HM.out.below hbw)
    have HF' := Lib.hid (HF.out.below hbw)
    by_cases hlt : k < n
    · obtain ⟨b, off, t, v0, v1, v2, rfl, hb, hk1, k0, k1, k2, ht⟩ := (HK.out.below (hbw.mono hB) (Nat.le_refl _)).get hlt
      have hts : t.size ≤ m := by have := T.sizes_get hk1; have := HS.out; omega
      have HC := Lib.hid (IH.out t base mc own P fuel s fb tb G tp lv lo ng wr v0 v1 v2 hts HM'.out HI.out HF'.out HO.out.1 HO.out.2 (H7.out.get hk1) ht)
      have HK1 := Lib.hid hk1
      have hklt : (k : Int) < (n : Int) := by omega
      have HE := Lib.hid hev
      have HW := Lib.hid hown
      have HX := Lib.hid hnx
      have R0 := Lib.hid hr0
      have R1 := Lib.hid hr1
      have HBW := Lib.hid hbw
      clear hk1 ht hev hown hnx hr0 hr1 hbw
      cases hv : evalT s.mem tp lo t with
      | none =>
        rw [hv] at HC
        go_wp2_with fail
        refine HC.out.mono ?_
        rintro e w1 ⟨⟨x', y', rfl⟩, hM1, hw1⟩
        have hmc : mc < w.heap.size := (hlow.out mc (by obtain ⟨_, _, _, _, h⟩ := HM.out; exact h.mine)).2
        have S0 := R0.out.wr hw1 (by omega)
        have S1 := R1.out.wr hw1 (by omega)
        have d0 : w1.cell? ⟨w.heap.size + 1, 0, none⟩ = some (.int .i64 0) := S1.cell (j := 0) rfl
        have d1 : w1.cell? ⟨w.heap.size + 1, 1, none⟩ = some (.int .i64 0) := S1.cell (j := 1) rfl
        have f0 := S1.free 0
        have f1 := S1.free 1
        have hz1 := hw1.size
        have hz2 : w.heap.size + 1 < w1.heap.size := by omega
        have hz3 : ¬ w.heap.size + 1 = w1.heap.size := by omega
        have HM1 := Lib.hid hM1
        have HW1 := Lib.hid hw1
        clear hM1 hw1 S0 S1
        go_wp2_with fail
        refine bodyPost_ret (v := .tuple #[.agg #[.int .i64 0, .int .i64 0], .bool false]) ?_ rfl ?_
        · simp [results, Try.results66, go_sem, *]
        · have hnone : evalT s.mem tp lo (T.node op x ks) = none := by simp [evalT, evalTs_fail HK1.out hv]
          rw [hnone]
          exact ⟨⟨0, 0, rfl⟩, HM1.out.wr (wr_two_alloc _ _ _ _ _) (fun k hk => ⟨by omega, fun ho => by have := hlow.out k ho; omega⟩),
            ((Wr.of_below HBW.out).trans HW1.out (fun i hi => Or.inl hi)).trans (wr_two_alloc _ _ _ _ _) (fun i hi => Or.inr (by omega))⟩
      | some v =>
        rw [hv] at HC
        obtain ⟨i0, hi, hz0, hz1, hz2⟩ := info_parts val_info
        go_wp2_with fail
        refine HC.out.mono ?_
        rintro e w1 ⟨rfl, hb1⟩
        simp only [ansV]
        have hz := hb1.size
        have hown1 := (ownsRow_wr HW.out (Wr.of_below (F := fun _ => False) hb1) (fun _ _ h => h))
        have hlenk : l.length = k := by
          have := evalTs_length HE.out
          rw [List.length_take, HK.out.1] at this
          omega
        go_wp2_with (at_builtin; refine wpList_append_own _ rfl (.tmp 35) (.tmp 37) 97 rfl (w.heap.size + 2) 90 i0 (.agg #[.int .i64 0, .int .i64 0]) 2 16 Try.underlying97 hi hz0 hz1 hz2 rfl (by decide) _ _ _ rfl ((hown1.alloc _).alloc _) ⟨w1.heap.size + 1, 0, none⟩ 1 1 [.int .i64 v.obj, .int .i64 v.n] rfl rfl ?c1 ?c2 ?c3 ?c4 ?c5 ?_)
        case c1 => exact pair_cells _ _ _ _ _ (by simp)
        case c2 => exact pair_one _ _
        case c3 => have := hn2; unfold maxLen; omega
        case c4 => have := hn2; omega
        case c5 => simp; omega
        · intro v' w2 hown2 hgrow _
          have HB2 := Lib.hid ((((HX.out.trans (hb1.mono (show w.heap.size + 2 ≤ wr.heap.size from by omega))).alloc (by omega) _).alloc (by simp; omega) _).grown hgrow (by simp; omega) (fun g hg => (HW.out.lt g hg).1))
          have HO2 := Lib.hid hown2
          clear hown2 hgrow hown1 hb1
          go_wp2_with fail
          go_roundw
          case rel => exact ⟨k + 1, l ++ [v], by omega, by go_num, evalTs_next HE.out HK1.out hv, by rw [flatV_append]; exact HO2.out, HB2.out⟩
          case measure => simp [intOf]; omega
    · obtain rfl : k = n := by omega
      rw [show ks.take k = ks from by rw [← HK.out.1, List.take_length], HL.out] at hev
      cases hev
end Go.Proofs.Ytjkgpolikpochaa
