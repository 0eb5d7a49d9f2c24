/- The page's machine: a leaf's value. Conditions: as stated. -/
import Derived.Test.YtjkgpolikpochaaQ04Zz
set_option linter.unusedVariables false
set_option linter.unusedSimpArgs false
namespace Go.Proofs.Ytjkgpolikpochaa
open Go.RowKit
set_option maxRecDepth 100000 in
set_option maxHeartbeats 8000000 in
theorem tree_leaf (m : Nat) (ih : TreeSaid m) : TreeFor (m + 1) (fun t s tp lo => ∃ op x ks lf, t = .node op x ks ∧ evalTs s.mem tp lo ks = some lf ∧ op ≤ 4) := by
  rintro ⟨op, x, ks⟩ base mc own P fuel s fb tb G tp lv lo ng w v0 v1 v2 hm hM hkind hF hMo hFo hT hv hQ
  obtain ⟨A, cap, n, rfl, rfl, hop, hx, rfl, hk⟩ := KidsV.of_tree hv
  have hTs : TsIn ks := (TreeAt.tin _ hv).2
  simp only [T.size] at hm
  simp only [TOk] at hT
  obtain ⟨o1, o2, o3, o4, o5, o6, o7⟩ := hT
  have hB : base ≤ w.heap.size := by
    obtain ⟨_, _, _, _, h⟩ := hM
    have := h.rest.own mc h.mine
    omega
  have hn := hk.2.1
  have hn2 : n ≤ 2 := by
    have h := hk.1
    rw [o3] at h
    unfold kidsN at h
    (repeat' split at h) <;> omega
  have HK := Lib.hid hk
  have HM := Lib.hid hM
  have HF := Lib.hid hF
  have IH := Lib.hid ih
  have HO := Lib.hid (And.intro hMo hFo)
  have H7 := Lib.hid o7
  have H3 := Lib.hid o3
  have HS := Lib.hid hm
  have HI := Lib.hid hkind
  have HL := Lib.hid (show ∃ lf, evalTs s.mem tp lo ks = some lf from by obtain ⟨_, _, _, lf, he, hn, _⟩ := hQ; injection he with _ _ h3; rw [h3]; exact ⟨lf, hn⟩)
  have p5 : op ≤ 4 := by obtain ⟨_, _, _, lf, he, _, h⟩ := hQ; injection he with h1; omega
  clear hQ
  clear hk hM hF ih hMo hFo o7 o3 hm hkind hv
  go_enter Try.func66, Try.ntmps66
  go_wp2_with fail
  go_loopw [8, 9] (fun v i wr => ∃ (k : Nat) (l : List V), k ≤ n ∧ i = .int .i64 k ∧ evalTs s.mem tp lo (ks.take k) = some l ∧ wr.ownsRow (w.heap.size + 2) 90 2 v k (flatV l) ∧
      Below (w.heap.size + 2) ((w.alloc (.cells #[.int .i64 op, .int .i64 x, .slice A n cap] 28)).alloc (.cells #[.int .i64 0, .int .i64 0] 90)) wr)
    (fun _ i _ => n - (intOf i).toNat)
  case atStart => exact ⟨0, [], by omega, rfl, by simp [evalTs], World.ownsRow_nil _ _ _ _, Below.refl _ _⟩
  case round =>
    obtain ⟨k, l, hk, rfl, hev, hown, hnx⟩ := hrel
    obtain ⟨hr0, hr1⟩ := own_two hnx
    have hbw : Below w.heap.size w wr := (below2 _ _ _).trans (hnx.mono (by omega))
    have hsz := hnx.size
    simp only [World.size_alloc] at hsz
    have hlow := Lib.hid (show ∀ k, own k → base ≤ k ∧ k < w.heap.size from by obtain ⟨_, _, _, _, h⟩ := HM.out; exact h.rest.own)
    have c0 : wr.cell? ⟨w.heap.size, 0, none⟩ = some (.int .i64 op) := hr0.cell (j := 0) rfl
    have c1 : wr.cell? ⟨w.heap.size, 1, none⟩ = some (.int .i64 x) := hr0.cell (j := 1) rfl
    have c2 : wr.cell? ⟨w.heap.size, 2, none⟩ = some (.slice A n cap) := hr0.cell (j := 2) rfl
    have HM' := Lib.hid (HM.out.below hbw)
    have HF' := Lib.hid (HF.out.below hbw)
    by_cases hlt : k < n
    · obtain ⟨b, off, t, v0, v1, v2, rfl, hb, hk1, k0, k1, k2, ht⟩ := (HK.out.below (hbw.mono hB) (Nat.le_refl _)).get hlt
      have hts : t.size ≤ m := by have := T.sizes_get hk1; have := HS.out; omega
      have HC := Lib.hid (IH.out t base mc own P fuel s fb tb G tp lv lo ng wr v0 v1 v2 hts HM'.out HI.out HF'.out HO.out.1 HO.out.2 (H7.out.get hk1) ht)
      have HK1 := Lib.hid hk1
      have hklt : (k : Int) < (n : Int) := by omega
      have HE := Lib.hid hev
      have HW := Lib.hid hown
      have HX := Lib.hid hnx
      have R0 := Lib.hid hr0
      have R1 := Lib.hid hr1
      have HBW := Lib.hid hbw
      clear hk1 ht hev hown hnx hr0 hr1 hbw
      cases hv : evalT s.mem tp lo t with
      | none =>
        exact absurd (evalTs_fail HK1.out hv) (by rw [HL.out.choose_spec]; simp)
      | some v =>
        rw [hv] at HC
        obtain ⟨i0, hi, hz0, hz1, hz2⟩ := info_parts val_info
        go_wp2_with fail
        refine HC.out.mono ?_
        rintro e w1 ⟨rfl, hb1⟩
        simp only [ansV]
        have hz := hb1.size
        have hown1 := (ownsRow_wr HW.out (Wr.of_below (F := fun _ => False) hb1) (fun _ _ h => h))
        have hlenk : l.length = k := by
          have := evalTs_length HE.out
          rw [List.length_take, HK.out.1] at this
          omega
        go_wp2_with (at_builtin; refine wpList_append_own _ rfl (.tmp 35) (.tmp 37) 97 rfl (w.heap.size + 2) 90 i0 (.agg #[.int .i64 0, .int .i64 0]) 2 16 Try.underlying97 hi hz0 hz1 hz2 rfl (by decide) _ _ _ rfl ((hown1.alloc _).alloc _) ⟨w1.heap.size + 1, 0, none⟩ 1 1 [.int .i64 v.obj, .int .i64 v.n] rfl rfl ?c1 ?c2 ?c3 ?c4 ?c5 ?_)
        case c1 => exact pair_cells _ _ _ _ _ (by simp)
        case c2 => exact pair_one _ _
        case c3 => have := hn2; unfold maxLen; omega
        case c4 => have := hn2; omega
        case c5 => simp; omega
        · intro v' w2 hown2 hgrow _
          have HB2 := Lib.hid ((((HX.out.trans (hb1.mono (show w.heap.size + 2 ≤ wr.heap.size from by omega))).alloc (by omega) _).alloc (by simp; omega) _).grown hgrow (by simp; omega) (fun g hg => (HW.out.lt g hg).1))
          have HO2 := Lib.hid hown2
          clear hown2 hgrow hown1 hb1
          go_wp2_with fail
          go_roundw
          case rel => exact ⟨k + 1, l ++ [v], by omega, by go_num, evalTs_next HE.out HK1.out hv, by rw [flatV_append]; exact HO2.out, HB2.out⟩
          case measure => simp [intOf]; omega
    · obtain rfl : k = n := by omega
      rw [show ks.take k = ks from by rw [← HK.out.1, List.take_length]] at hev
      have hlenk : l.length = k := by rw [evalTs_length hev, HK.out.1]
      have hE := Lib.hid (show evalT s.mem tp lo (.node op x ks) = opF s.mem tp lo op x l from by simp [evalT, hev])
      have e0 : wr.cell? ⟨w.heap.size + 1, 0, none⟩ = some (.int .i64 0) := hr1.cell (j := 0) rfl
      have e1 : wr.cell? ⟨w.heap.size + 1, 1, none⟩ = some (.int .i64 0) := hr1.cell (j := 1) rfl
      have f0 := hr1.free 0
      have f1 := hr1.free 1
      have HBW := Lib.hid hbw
      have HOW := Lib.hid hown
      have HEV := Lib.hid hev
      have R1 := Lib.hid hr1
      clear hev hown hnx hbw hr0 hr1
      by_cases p1 : op = 1
      · subst p1
        go_wp2_with fail
        refine bodyPost_ret (v := ansV (some ⟨0, x⟩)) ?_ rfl ?_
        · simp [results, Try.results66, go_sem, ansV, *]
        · rw [hE.out]
          exact ⟨rfl, below_two HBW.out (by omega) _ _⟩
      · have q1 : (op == 1) = false := by simpa using p1
        by_cases p2 : op = 2
        · subst p2
          obtain ⟨p0, p1'⟩ := o4 rfl
          obtain ⟨m', rfl⟩ := Int.eq_ofNat_of_zero_le p0
          have hm' : m' < tp.length := by omega
          have hget : tp[m']? = some (tp.getD m' ⟨0, 0⟩) := by rw [List.getD_eq_getElem?_getD, List.getElem?_eq_getElem hm']; rfl
          have hres : opF s.mem tp lo 2 m' l = some (tp.getD m' ⟨0, 0⟩) := by simp [opF]
          rw [hres] at hE
          clear hres
          generalize tp.getD m' ⟨0, 0⟩ = r at hget hE
          obtain ⟨hfr, ⟨cs, htr, hvi⟩, _, hfew⟩ := HF'.out
          have t4 : wr.cell? ⟨fb, 4, none⟩ = some (.slice (some ⟨tb, 0, none⟩) tp.length tp.length) := hfr.cell (j := 4) rfl
          have t5 : wr.cell? ⟨tb, m' * 2, none⟩ = some (.int .i64 r.obj) := htr.cell (hvi.2 _ _ hget).1
          have t6 : wr.cell? ⟨tb, m' * 2 + 1, none⟩ = some (.int .i64 r.n) := htr.cell (hvi.2 _ _ hget).2
          have hlt' : (m' : Int) < (tp.length : Int) := by omega
          clear hfr htr hvi hget
          go_wp2_with fail
          go_region
          all_goals (try go_wp2_with fail)
          all_goals
            refine bodyPost_ret (v := ansV (some r)) ?_ rfl ?_
            · simp [results, Try.results66, go_sem, ansV, *]
            · rw [hE.out]
              exact ⟨rfl, below_two HBW.out.drew (by omega) _ _⟩
        · have q2 : (op == 2) = false := by simpa using p2
          by_cases p3 : op = 3
          · subst p3
            obtain ⟨p0, p1'⟩ := o5 rfl
            obtain ⟨m', rfl⟩ := Int.eq_ofNat_of_zero_le p0
            have hm' : m' < lo.length := by omega
            have hres : opF s.mem tp lo 3 m' l = some ⟨lo.getD m' 0, 0⟩ := by simp [opF]
            rw [hres] at hE
            have hget : (lo.map fun y => Value.int .i64 (y : Nat))[m']? = some (.int .i64 (lo.getD m' 0 : Nat)) := by
              rw [List.getElem?_map, List.getD_eq_getElem?_getD, List.getElem?_eq_getElem hm']; rfl
            clear hres
            generalize lo.getD m' 0 = r at hget hE
            obtain ⟨hfr, _, hlo, _⟩ := HF'.out
            have t4 : wr.cell? ⟨fb, 5, none⟩ = some lv := hfr.cell (j := 5) rfl
            obtain ⟨_, hlo2⟩ := id hlo
            rcases hlo2 with ⟨_, h0⟩ | ⟨g, cap', cur, rfl, _, _, hcap, hcap2, _, _⟩
            · omega
            have t5 := hlo.cells rfl _ _ hget
            have t6 : wr.cell? ⟨g, m', none⟩ = some (.int .i64 r) := by rw [addr0] at t5; exact t5
            have hlt' : (m' : Int) < (lo.length : Int) := by omega
            unfold maxLen at hcap2
            clear hfr hlo hget t5
            go_wp2_with fail
            go_region
            all_goals (try go_wp2_with fail)
            all_goals
              refine bodyPost_ret (v := ansV (some ⟨r, 0⟩)) ?_ rfl ?_
              · simp [results, Try.results66, go_sem, ansV, *]
              · rw [hE.out]
                exact ⟨rfl, below_two HBW.out.drew (by omega) _ _⟩
          · have q3 : (op == 3) = false := by simpa using p3
            by_cases p4 : op = 4
            · subst p4
              obtain ⟨p0, p1'⟩ := o6 rfl
              obtain ⟨m', rfl⟩ := Int.eq_ofNat_of_zero_le p0
              have hres : opF s.mem tp lo 4 m' l = some ⟨m' + 1, 0⟩ := by simp [opF]
              rw [hres] at hE
              have hbig : m' < 4294967296 := by
                have h1 := HO.out.2.globs
                have h2 := HO.out.1.many
                omega
              clear hres
              go_wp2_with fail
              refine bodyPost_ret (v := ansV (some ⟨m' + 1, 0⟩)) ?_ rfl ?_
              · simp [results, Try.results66, go_sem, ansV, *]
              · rw [hE.out]
                exact ⟨rfl, below_two HBW.out (by omega) _ _⟩
            · omega
end Go.Proofs.Ytjkgpolikpochaa
