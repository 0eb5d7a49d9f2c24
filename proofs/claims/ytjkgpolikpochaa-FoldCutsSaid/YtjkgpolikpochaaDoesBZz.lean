/- The page's machine: a step for which no fuel is left. Conditions: as stated. -/
import Derived.Test.YtjkgpolikpochaaQ05Zz
set_option linter.unusedVariables false
set_option linter.unusedSimpArgs false
namespace Go.Proofs.Ytjkgpolikpochaa
open Go.RowKit

set_option maxRecDepth 100000 in
set_option maxHeartbeats 8000000 in
theorem does_dry (base mc : Nat) (own : Nat → Prop) (P : Value × Value × Value) (fuel : Int) (s : St) (fb tb : Nat) (G : Value × Value × Value × Value) (tp : List V) (lv : Value) (lo : List Nat) (ng : Nat) (R : CallR) (op dst size fn : Int) (ks : List T) (A : Option Addr) (n cap : Nat) (w : World)
    (hM : Mach w base mc own P fuel s) (hkind : s.kind = 0) (hs0 : 0 ≤ s.steps) (hs1 : s.steps ≤ fuel) (hf : fuel ≤ 1000000000) (hF : FrameAt w fb G tb tp lv lo) (hO : OffAt base own fb tb lv) (hFo : FrOk s.mem tp lo ng) (hT : TsOk tp.length lo.length ng ks) (hk : KidsV w base ks A n) (hn2 : n ≤ 4)
    (hy : (stepF fuel 1 s).1 = false) :
    Calls Try.prog 65 #[.pointer (some ⟨mc, 0, none⟩), .pointer (some ⟨fb, 0, none⟩), .agg #[.int .i64 op, .int .i64 dst, .int .i64 size, .int .i64 fn, .slice A n cap]] w fun e w' => DoesSays base mc own P fuel fb tb G lv lo (doesF R fuel lo s tp ⟨op, dst, size, fn, ks⟩) w e w' := by
  have hres : doesF R fuel lo s tp ⟨op, dst, size, fn, ks⟩ = (false, (stepF fuel 1 s).2, tp) := by simp [doesF, hy]
  rw [hres]
  have HST := Lib.hid (fun W (hb : Below w.heap.size w W) => hy ▸ step_any base mc own P fuel 1 s W (hM.below hb) hs0 hs1 hf (by omega) (by omega))
  clear hM hkind hF hO hFo hT hk hy hres hs0 hs1
  go_enter Try.func65, Try.ntmps65
  go_wp2_with (go_at_call 64; refine (HST.out _ (below1 _ _)).mono ?_; rintro e w1 ⟨rfl, hM1, hw1⟩; have HM1 := Lib.hid hM1; have HW1 := Lib.hid hw1; clear hM1 hw1)
  go_ret
  refine ⟨rfl, own, fun _ h => h, fun _ h => Or.inl h, HM1.out, fun h => (by cases h), ?_⟩
  have hm : own mc := (by obtain ⟨_, _, _, _, h⟩ := HM1.out; exact h.mine)
  exact (Wr.of_below (below1 _ _)).trans HW1.out (fun i hi => Or.inl (Or.inl (hi ▸ hm)))

set_option maxRecDepth 100000 in
set_option maxHeartbeats 8000000 in
theorem does_fail (base mc : Nat) (own : Nat → Prop) (P : Value × Value × Value) (fuel : Int) (s : St) (fb tb : Nat) (G : Value × Value × Value × Value) (tp : List V) (lv : Value) (lo : List Nat) (ng : Nat) (R : CallR) (op dst size fn : Int) (ks : List T) (A : Option Addr) (n cap : Nat) (w : World)
    (hM : Mach w base mc own P fuel s) (hkind : s.kind = 0) (hs0 : 0 ≤ s.steps) (hs1 : s.steps ≤ fuel) (hf : fuel ≤ 1000000000) (hF : FrameAt w fb G tb tp lv lo) (hO : OffAt base own fb tb lv) (hFo : FrOk s.mem tp lo ng) (hT : TsOk tp.length lo.length ng ks) (hk : KidsV w base ks A n) (hn2 : n ≤ 4)
    (hTI : TsIn ks) (hy : (stepF fuel 1 s).1 = true) (hev : evalTs s.mem tp lo ks = none) :
    Calls Try.prog 65 #[.pointer (some ⟨mc, 0, none⟩), .pointer (some ⟨fb, 0, none⟩), .agg #[.int .i64 op, .int .i64 dst, .int .i64 size, .int .i64 fn, .slice A n cap]] w fun e w' => DoesSays base mc own P fuel fb tb G lv lo (doesF R fuel lo s tp ⟨op, dst, size, fn, ks⟩) w e w' := by
  obtain ⟨hy0, hy1, hy2⟩ := stepF_yes hy
  have hm : own mc := (by obtain ⟨_, _, _, _, h⟩ := hM; exact h.mine)
  have hmc := (by obtain ⟨_, _, _, _, h⟩ := hM; exact h.rest.own mc h.mine : base ≤ mc ∧ mc < w.heap.size)
  have hTs : TsIn ks := hTI
  have HST := Lib.hid (fun W (hb : Below w.heap.size w W) => (hy2 ▸ hy ▸ step_any base mc own P fuel 1 s W (hM.below hb) hs0 hs1 hf (by omega) (by omega) : Calls Try.prog 64 #[.pointer (some ⟨mc, 0, none⟩), .int .i64 1] W fun e w' => e = .returned (.bool true) ∧ Mach w' base mc own P fuel { s with steps := s.steps + 1 } ∧ Wr (fun b => b = mc) W w'))
  have HKI := Lib.hid hkind
  have HF := Lib.hid hF
  have HO := Lib.hid hO
  have HFo := Lib.hid hFo
  have HT := Lib.hid hT
  have HK := Lib.hid hk
  have HTS := Lib.hid hTs
  have hB : base ≤ w.heap.size := by omega
  have hnn := hk.2.1
  have HEV := Lib.hid hev
  clear hev
  have HY2 := Lib.hid hy2
  have HY := Lib.hid hy
  have HM0 := Lib.hid hm
  obtain ⟨hmc0, hmc1⟩ := hmc
  clear hM hkind hF hO hFo hT hk hy hy0 hy1 hy2 hm hTI hTs hs0 hs1
  go_enter Try.func65, Try.ntmps65
  go_wp2_with (go_at_call 64; refine (HST.out _ (below1 _ _)).mono ?_; rintro e w1 ⟨rfl, hM1, hw1⟩; have HM1 := Lib.hid hM1; have HW1 := Lib.hid hw1; have hz1 : w.heap.size + 1 ≤ w1.heap.size := (by have := hw1.size; simpa using this); clear hM1 hw1)
  have HR0 := Lib.hid (show Row w1 w.heap.size #[.int .i64 op, .int .i64 dst, .int .i64 size, .int .i64 fn, .slice A n cap] 71 from (Row.new w _ _).wr HW1.out (show ¬ w.heap.size = mc by omega))
  have HB1 := Lib.hid (show Below base w w1 from ((below1 w _).mono hB).trans (HW1.out.below (by simp; omega) (fun k hk => by omega)))
  have HF1 := Lib.hid (show FrameAt w1 fb G tb tp lv lo from (HF.out.below (below1 _ _)).wr HW1.out (fun e => HO.out.fb.1 (by rw [e]; exact HM0.out)) (fun e => HO.out.tb.1 (by rw [e]; exact HM0.out)) (fun g hg e => (HO.out.lv g hg).1 (by rw [e]; exact HM0.out)))
  have HK1 := Lib.hid (HK.out.below HB1.out (Nat.le_refl _))
  go_loopw [7, 8] (fun v i wr => ∃ (k : Nat) (l : List V), k ≤ n ∧ i = .int .i64 k ∧ evalTs s.mem tp lo (ks.take k) = some l ∧ wr.ownsRow w1.heap.size 90 2 v k (flatV l) ∧ Below w1.heap.size w1 wr)
    (fun _ i _ => n - (intOf i).toNat)
  case atStart => exact ⟨0, [], by omega, rfl, by simp [evalTs], World.ownsRow_nil _ _ _ _, Below.refl _ _⟩
  case round =>
    obtain ⟨k, l, hk, rfl, hev, hown, hnx⟩ := hrel
    have hz2 := hnx.size
    have hz3 : w.heap.size < wr.heap.size := by omega
    have hr0 := HR0.out.below hnx (by omega)
    have c0 : wr.cell? ⟨w.heap.size, 0, none⟩ = some (.int .i64 op) := hr0.cell (j := 0) rfl
    have c1 : wr.cell? ⟨w.heap.size, 1, none⟩ = some (.int .i64 dst) := hr0.cell (j := 1) rfl
    have c2 : wr.cell? ⟨w.heap.size, 2, none⟩ = some (.int .i64 size) := hr0.cell (j := 2) rfl
    have c3 : wr.cell? ⟨w.heap.size, 3, none⟩ = some (.int .i64 fn) := hr0.cell (j := 3) rfl
    have c4 : wr.cell? ⟨w.heap.size, 4, none⟩ = some (.slice A n cap) := hr0.cell (j := 4) rfl
    clear hr0
    have HM2 := Lib.hid (HM1.out.below hnx)
    have HF2 := Lib.hid (HF1.out.below hnx)
    have hBw : base ≤ w1.heap.size := by omega
    by_cases hlt : k < n
    · obtain ⟨b, off, t, v0, v1, v2, rfl, hb, hk1, k0, k1, k2, ht⟩ := (HK1.out.below (hnx.mono hBw) (Nat.le_refl _)).get hlt
      have HMOK := (by obtain ⟨_, _, _, _, h⟩ := HM2.out; exact h.rest.mem.ok : MemOk s.mem)
      have HC := Lib.hid (tree_all t.size t base mc own P fuel { s with steps := s.steps + 1 } fb tb G tp lv lo ng wr v0 v1 v2 (Nat.le_refl _) HM2.out HKI.out HF2.out HMOK HFo.out (HT.out.get hk1) ht)
      have HK2 := Lib.hid hk1
      have hklt : (k : Int) < (n : Int) := by omega
      have HE := Lib.hid hev
      have HW := Lib.hid hown
      have HX := Lib.hid hnx
      have hlenk : l.length = k := by
        have := evalTs_length hev
        rw [List.length_take, HK.out.1] at this
        omega
      clear hk1 ht hev hown hnx HMOK
      cases hv : evalT s.mem tp lo t with
      | none =>
        rw [hv] at HC
        go_wp2_with fail
        refine HC.out.mono ?_
        rintro e w2 ⟨⟨x', y', rfl⟩, hM2, hw2⟩
        have HM3 := Lib.hid hM2
        have HW2 := Lib.hid hw2
        clear hM2 hw2
        go_wp2_with fail
        go_ret
        have hres : doesF R fuel lo s tp ⟨op, dst, size, fn, ks⟩ = (false, { s with steps := s.steps + 1, kind := 3 }, tp) := by simp [doesF, HY.out, HY2.out, HEV.out]
        rw [hres]
        refine ⟨rfl, own, fun _ h => h, fun _ h => Or.inl h, HM3.out.wr (Wr.of_below (F := fun _ => False) (below1 _ _)) (fun _ h => h.elim), fun h => (by cases h), ?_⟩
        exact ((((Wr.of_below (below1 _ _)).trans HW1.out (fun i hi => Or.inl (Or.inl (hi ▸ HM0.out)))).trans (Wr.of_below (F := fun _ => False) HX.out) (fun i hi => hi.elim)).trans HW2.out (fun i hi => Or.inl (Or.inl (hi ▸ HM0.out)))).trans (Wr.of_below (F := fun _ => False) (below1 _ _)) (fun i hi => hi.elim)
      | some v =>
        rw [hv] at HC
        obtain ⟨i0, hi, hz0, hz1', hz2'⟩ := info_parts val_info
        go_wp2_with fail
        refine HC.out.mono ?_
        rintro e w2 ⟨rfl, hb1⟩
        simp only [ansV]
        have hz := hb1.size
        have hown1 := (ownsRow_wr HW.out (Wr.of_below (F := fun _ => False) hb1) (fun _ _ h => h))
        go_wp2_with (at_builtin; refine wpList_append_own _ rfl (.tmp 37) (.tmp 39) 97 rfl w1.heap.size 90 i0 (.agg #[.int .i64 0, .int .i64 0]) 2 16 Try.underlying97 hi hz0 hz1' hz2' rfl (by decide) _ _ _ rfl ((hown1.alloc _).alloc _) ⟨w2.heap.size + 1, 0, none⟩ 1 1 [.int .i64 v.obj, .int .i64 v.n] rfl rfl ?c1 ?c2 ?c3 ?c4 ?c5 ?_)
        case c1 => exact pair_cells _ _ _ _ _ (by simp)
        case c2 => exact pair_one _ _
        case c3 => have := hn2; unfold maxLen; omega
        case c4 => have := hn2; omega
        case c5 => simp; omega
        · intro v' w3 hown2 hgrow _
          have HB2 := Lib.hid ((((HX.out.trans (hb1.mono (show w1.heap.size ≤ wr.heap.size from by omega))).alloc (by omega) _).alloc (by simp; omega) _).grown hgrow (by simp; omega) (fun g hg => (HW.out.lt g hg).1))
          have HO2 := Lib.hid hown2
          clear hown2 hgrow hown1 hb1
          go_wp2_with fail
          go_roundw
          case rel => exact ⟨k + 1, l ++ [v], by omega, by go_num, evalTs_next HE.out HK2.out hv, by rw [flatV_append]; exact HO2.out, HB2.out⟩
          case measure => simp [intOf]; omega
    · obtain rfl : k = n := by omega
      rw [show ks.take k = ks from by rw [← HK.out.1, List.take_length], HEV.out] at hev
      cases hev
end Go.Proofs.Ytjkgpolikpochaa
