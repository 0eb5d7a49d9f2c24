/- The graph's heap: Load, One. Conditions: as stated. -/
import Derived.Test.YtinmgbodgecoeaaGAtBZz
import Derived.Test.YtinmgbodgecoeaaMemApplyZz
set_option linter.unusedVariables false
set_option linter.unusedSimpArgs false
namespace Go.Proofs.Ytinmgbodgecoeaa
open Go.RowKit

theorem gcut_any (kind n : Int) (w : World) :
    Calls Try.prog 60 #[.int .i64 kind, .int .i64 n] w fun e w' => e = .returned (.int .i64 (cutK kind n)) ∧ w = w' := by
  go_enter Try.func60, Try.ntmps60
  go_wp2
  all_goals go_ret
  all_goals (refine ⟨ret_i ?_, rfl⟩; simp_all [cutK, cutN, i8_in, i16_in, i32_in, u16_in])
theorem gone_any (op n : Int) (w : World) (h0 : 31 ≤ op) (h1 : op ≤ 36) :
    Calls Try.prog 55 #[.int .i64 op, .int .i64 n] w fun e w' => e = .returned (.int .i64 (unR op n)) ∧ Below w.heap.size w w' := by
  have h : op = 31 ∨ op = 32 ∨ op = 33 ∨ op = 34 ∨ op = 35 ∨ op = 36 := by omega
  rcases h with rfl | rfl | rfl | rfl | rfl | rfl
  all_goals
    go_enter Try.func55, Try.ntmps55
    go_wp2_with (go_at_call 60; refine (gcut_any _ _ _).mono ?_; rintro e w' ⟨rfl, rfl⟩)
    go_ret
    exact ⟨ret_i (by simp [unR, cutK]), (Below.refl _ _).alloc (Nat.le_refl _) _⟩

theorem hat_none (hb : Nat) (A : Option Addr) (n cap B s : Nat) (a : V) (M : List MO) (w : World) (hB : B ≤ w.heap.size) (hpb : hb < w.heap.size) (hc : w.cell? ⟨hb, 0, none⟩ = some (.slice A n cap)) (hM : MemRG w B A n M) (hk : a.obj ≠ 0 → a.obj < M.length) (hx : a.obj ≠ 0 → 0 ≤ a.n ∧ a.n ≤ 512) (hs0 : 1 ≤ s) (hs1 : s ≤ 8) (hF : atF M a s = none) :
    Calls Try.prog 49 #[.pointer (some ⟨hb, 0, none⟩), .agg #[.int .i64 a.obj, .int .i64 a.n], .int .i64 s] w fun e w' => e = .returned (.pointer none) ∧ Below w.heap.size w w' := by
  obtain ⟨obj, x⟩ := a
  rcases obj with _ | k
  · exact hat_zero hb x s w
  · obtain ⟨hx0, hx⟩ := hx (by simp)
    have hk := hk (by simp)
    obtain ⟨x', rfl⟩ := Int.eq_ofNat_of_zero_le hx0
    simp only at hk hx
    obtain ⟨mb, mo, rfl, _⟩ := hM.get hk
    unfold atF at hF
    show Calls _ _ #[_, .agg #[.int .i64 ((k + 1 : Nat) : Int), .int .i64 x'], _] w _
    rw [Int.natCast_add, Int.natCast_one]
    by_cases hd : (mget M (k + 1)).live = true
    · by_cases hs : (mget M (k + 1)).size = s
      · by_cases ho : x' % s = 0
        · by_cases hf : (mget M (k + 1)).bytes ≤ (x' : Int)
          · exact hat_far hb mb mo n cap B k x' s M w hB hpb hc hM hk (by omega) hs0 hs1 hd hs ho hf
          · rw [if_pos ⟨by simp, hd, hs, by simp only; omega, by simp only; omega⟩] at hF
            cases hF
        · exact hat_odd hb mb mo n cap B k x' s M w hB hpb hc hM hk (by omega) hs0 hs1 hd hs ho
      · exact hat_size hb mb mo n cap B k x' s M w hB hpb hc hM hk (by omega) hs0 hs1 hd hs
    · exact hat_dead hb mb mo n cap B k x' s M w hB hpb hc hM hk (by omega) hs0 hs1 (by simpa using hd)
theorem atF_some {M : List MO} {a : V} {s j : Nat} (h : atF M a s = some j) : 0 < a.obj ∧ (mget M a.obj).live = true ∧ (mget M a.obj).size = s ∧ a.n % s = 0 ∧ a.n < (mget M a.obj).bytes ∧ j = a.n.toNat / s := by
  unfold atF at h
  split at h
  · rename_i h1
    simp only [Option.some.injEq] at h
    exact ⟨h1.1, h1.2.1, h1.2.2.1, h1.2.2.2.1, h1.2.2.2.2, h.symm⟩
  · cases h
/-- Where the element lies. -/
theorem hat_some (hb : Nat) (A : Option Addr) (n cap B s j : Nat) (a : V) (M : List MO) (w : World) (hB : B ≤ w.heap.size) (hpb : hb < w.heap.size) (hc : w.cell? ⟨hb, 0, none⟩ = some (.slice A n cap)) (hM : MemRG w B A n M) (hk : a.obj < M.length) (hx : 0 ≤ a.n ∧ a.n ≤ 512) (hs0 : 1 ≤ s) (hs1 : s ≤ 8) (hF : atF M a s = some j) :
    j < (mget M a.obj).l.length ∧ ∃ ob oo mb mo len cap', A = some ⟨mb, mo, none⟩ ∧ w.cell? ⟨mb, mo + (a.obj - 1) * 3 + 1, none⟩ = some (.slice (some ⟨ob, oo, none⟩) len cap') ∧ ob < B ∧ ValCells w ob (oo + j * 2) ((mget M a.obj).l.getD j ⟨0, 0⟩) ∧
    Calls Try.prog 49 #[.pointer (some ⟨hb, 0, none⟩), .agg #[.int .i64 a.obj, .int .i64 a.n], .int .i64 s] w fun e w' => e = .returned (.pointer (some ⟨ob, oo + j * 2, none⟩)) ∧ Below w.heap.size w w' := by
  obtain ⟨hp, hd, hs, ho, hf, hj⟩ := atF_some hF
  obtain ⟨obj, x⟩ := a
  rcases obj with _ | k
  · exact absurd hp (by simp)
  · obtain ⟨hx0, hx⟩ := hx
    obtain ⟨x', rfl⟩ := Int.eq_ofNat_of_zero_le hx0
    simp only at hk hx hd hs ho hf hj
    obtain ⟨mb, mo, rfl, hmb, hkn, A', len, cap', c0, c1, c2, hll, hl2, hsa, hsb⟩ := hM.get hk
    obtain ⟨hlen, hrow⟩ := hll hd
    have hlt : x' < s * len := by
      have e : ((s * len : Nat) : Int) = (mget M (k + 1)).bytes := by unfold MO.bytes; rw [hs, hlen]; simp
      rw [← e] at hf
      omega
    have hjl := div_lt_of_bytes hlt
    have hj' : j = x' / s := by rw [hj]; simp
    have hjj : j < (mget M (k + 1)).l.length := by rw [hlen, hj']; exact hjl
    obtain ⟨ob, oo, rfl, hob, hcell⟩ := hrow j _ (List.getElem?_eq_getElem hjj)
    refine ⟨hjj, ob, oo, mb, mo, len, cap', rfl, c1, hob, ?_, ?_⟩
    · have e : (mget M (k + 1)).l.getD j ⟨0, 0⟩ = (mget M (k + 1)).l[j] := by rw [List.getD_eq_getElem?_getD, List.getElem?_eq_getElem hjj]; rfl
      rw [e]
      exact hcell
    · show Calls _ _ #[_, .agg #[.int .i64 ((k + 1 : Nat) : Int), .int .i64 x'], _] w _
      rw [Int.natCast_add, Int.natCast_one, hj']
      exact hat_yes hb mb mo n cap B k x' s M w hB hpb hc hM hk (by omega) hs0 hs1 hd hs (by omega) (by omega) ob oo len cap' c1

def fitL (op : Int) : Int := if op = 5 then 31 else if op = 6 then 32 else if op = 7 then 33 else if op = 9 then 34 else if op = 10 then 35 else if op = 11 then 36 else 0
theorem loads_any (op : Int) (w : World) (h0 : 5 ≤ op) (h1 : op ≤ 11) :
    Calls Try.prog 56 #[.int .i64 op] w fun e w' => e = .returned (.tuple #[.int .i64 (sizeL op), .int .i64 (fitL op)]) ∧ w = w' := by
  rcases loads_seven h0 h1 with rfl | rfl | rfl | rfl | rfl | rfl | rfl
  all_goals
    go_enter Try.func56, Try.ntmps56
    go_wp2
    go_ret2
    exact ⟨by simp [sizeL, fitL], rfl⟩
theorem fit_loaded {op n : Int} (h0 : 5 ≤ op) (h1 : op ≤ 11) (h8 : op ≠ 8) : 31 ≤ fitL op ∧ fitL op ≤ 36 ∧ unR (fitL op) n = loadedF op n := by
  rcases loads_seven h0 h1 with rfl | rfl | rfl | rfl | rfl | rfl | rfl
  all_goals first | (exact absurd rfl h8) | (simp [fitL, unR, loadedF, sizeL])

set_option maxRecDepth 100000 in
set_option maxHeartbeats 2000000 in
theorem gload_any (hb : Nat) (A : Option Addr) (n cap B : Nat) (op : Int) (a : V) (M : List MO) (w : World) (hB : B ≤ w.heap.size) (hpb : hb < w.heap.size) (hc : w.cell? ⟨hb, 0, none⟩ = some (.slice A n cap)) (hM : MemRG w B A n M) (hN : NumOk M) (hk : a.obj ≠ 0 → a.obj < M.length) (hx : a.obj ≠ 0 → 0 ≤ a.n ∧ a.n ≤ 512) (h0 : 5 ≤ op) (h1 : op ≤ 11) :
    Calls Try.prog 51 #[.pointer (some ⟨hb, 0, none⟩), .int .i64 op, .agg #[.int .i64 a.obj, .int .i64 a.n]] w fun e w' => AnsV (loadF M op a) e ∧ Below w.heap.size w w' := by
  cases hF : atF M a (sizeL op) with
  | none =>
    have hlf : loadF M op a = none := by unfold loadF; rw [hF]
    rw [hlf]
    have HC := Lib.hid (fun W (hbw : Below w.heap.size w W) => hat_none hb A n cap B (sizeL op) a M W (Nat.le_trans hB hbw.size) (Nat.lt_of_lt_of_le hpb hbw.size) (cell_below hc hbw hpb) (hM.below (hbw.mono hB) (Nat.le_refl _)) hk hx (sizeL_bd op).1 (sizeL_bd op).2 hF)
    clear hc hM hF hlf
    go_enter Try.func51, Try.ntmps51
    refine wp_letter (fun Q hQ => ?_)
    have HQ := Lib.hid hQ
    clear hQ
    go_wp2_with fail
    refine (loads_any _ _ h0 h1).mono ?_
    rintro e w' ⟨rfl, rfl⟩
    go_wp2_with fail
    refine (HC.out _ (below2 _ _ _)).mono ?_
    rintro e w2 ⟨rfl, hb2⟩
    have HB2 := Lib.hid ((below2 w _ _).trans (hb2.mono (below2 w _ _).size))
    have hr := (Row.new' (w := w.alloc (.cells #[.int .i64 a.obj, .int .i64 a.n] 60)) #[.int .i64 0, .int .i64 0] 60 (g := w.heap.size + 1) (by simp)).below hb2 (by simp)
    have r0 := hr.cell (j := 0) rfl
    have r1 := hr.cell (j := 1) rfl
    have f0 := hr.free 0
    have f1 := hr.free 1
    clear hr
    clear hb2
    go_wp2_with fail
    refine HQ.out _ _ _ ?_
    refine bodyPost_ret (v := .tuple #[.agg #[.int .i64 0, .int .i64 0], .bool false]) (by simp [results, Try.results51, go_sem, r0, r1]) rfl ⟨⟨0, 0, rfl⟩, ?_⟩
    exact (HB2.out.setCell (by simp) _).setCell (by simp) _
  | some j =>
    have hp := (atF_some hF).1
    have hk' := hk (by omega)
    obtain ⟨hjl, ob, oo, mb, mo, len, cap', rfl, hs1, hob, hv, _⟩ := hat_some hb A n cap B (sizeL op) j a M w hB hpb hc hM hk' (hx (by omega)) (sizeL_bd op).1 (sizeL_bd op).2 hF
    have HC := Lib.hid (fun W (hbw : Below w.heap.size w W) => by
      obtain ⟨_, ob', oo', mb', mo', len', cap'', hA, hs1', _, _, hcall⟩ := hat_some hb _ n cap B (sizeL op) j a M W (Nat.le_trans hB hbw.size) (Nat.lt_of_lt_of_le hpb hbw.size) (cell_below hc hbw hpb) (hM.below (hbw.mono hB) (Nat.le_refl _)) hk' (hx (by omega)) (sizeL_bd op).1 (sizeL_bd op).2 hF
      obtain ⟨mb2, mo2, hA2, hmb2, _⟩ := hM.get (k := a.obj - 1) (by omega)
      simp only [Option.some.injEq, Addr.mk.injEq, and_true] at hA hA2
      obtain ⟨rfl, rfl⟩ := hA
      obtain ⟨rfl, rfl⟩ := hA2
      rw [cell_below hs1 hbw (by omega)] at hs1'
      simp only [Option.some.injEq, Value.slice.injEq, Addr.mk.injEq, and_true] at hs1'
      obtain ⟨⟨rfl, rfl⟩, rfl, rfl⟩ := hs1'
      exact hcall)
    rw [loadF_num hN h0 h1 hF hjl hk']
    obtain ⟨v, hve⟩ : ∃ v, v = (mget M a.obj).l.getD j ⟨0, 0⟩ := ⟨_, rfl⟩
    rw [← hve] at hv ⊢
    have HV := Lib.hid hv
    have hobw : ob < w.heap.size := by omega
    clear hc hM hF hve hs1 hv
    have h8 : op = 8 ∨ op ≠ 8 := by omega
    rcases h8 with h8 | h8
    · rw [if_pos h8]
      have hfit : (fitL op == 0) = true := by rw [h8]; rfl
      have hfit2 : fitL op = 0 := by rw [h8]; rfl
      clear hfit2 h8
      go_enter Try.func51, Try.ntmps51
      refine wp_letter (fun Q hQ => ?_)
      have HQ := Lib.hid hQ
      clear hQ
      go_wp2_with fail
      refine (loads_any _ _ h0 h1).mono ?_
      rintro e w' ⟨rfl, rfl⟩
      go_wp2_with fail
      refine (HC.out _ (below2 _ _ _)).mono ?_
      rintro e w2 ⟨rfl, hb2⟩
      have HB2 := Lib.hid ((below2 w _ _).trans (hb2.mono (below2 w _ _).size))
      have hr := (Row.new' (w := w.alloc (.cells #[.int .i64 a.obj, .int .i64 a.n] 60)) #[.int .i64 0, .int .i64 0] 60 (g := w.heap.size + 1) (by simp)).below hb2 (by simp)
      have HR := Lib.hid hr
      have v0 := cell_below HV.out.1 HB2.out hobw
      have v1 := cell_below HV.out.2 HB2.out hobw
      have r0 := hr.cell (j := 0) rfl
      have r1 := hr.cell (j := 1) rfl
      have f0 := hr.free 0
      have f1 := hr.free 1
      clear hr hb2
      go_wp2_with fail
      refine HQ.out _ _ _ ?_
      refine bodyPost_ret (v := .tuple #[.agg #[.int .i64 v.obj, .int .i64 v.n], .bool true]) (by simp [results, Try.results51, go_sem, r0, r1]) rfl ⟨rfl, ?_⟩
      exact (HB2.out.setCell (by simp) _).setCell (by simp) _
    · rw [if_neg h8]
      obtain ⟨hf1, hf2, hf3⟩ := fit_loaded (n := v.n) h0 h1 h8
      have hfit : (fitL op == 0) = false := by simp; omega
      have HF3 := Lib.hid hf3
      clear hf3
      go_enter Try.func51, Try.ntmps51
      refine wp_letter (fun Q hQ => ?_)
      have HQ := Lib.hid hQ
      clear hQ
      go_wp2_with fail
      refine (loads_any _ _ h0 h1).mono ?_
      rintro e w' ⟨rfl, rfl⟩
      go_wp2_with fail
      refine (HC.out _ (below2 _ _ _)).mono ?_
      rintro e w2 ⟨rfl, hb2⟩
      have HB2 := Lib.hid ((below2 w _ _).trans (hb2.mono (below2 w _ _).size))
      have hr := (Row.new' (w := w.alloc (.cells #[.int .i64 a.obj, .int .i64 a.n] 60)) #[.int .i64 0, .int .i64 0] 60 (g := w.heap.size + 1) (by simp)).below hb2 (by simp)
      have HR := Lib.hid hr
      have v0 := cell_below HV.out.1 HB2.out hobw
      have v1 := cell_below HV.out.2 HB2.out hobw
      have r0 := hr.cell (j := 0) rfl
      have r1 := hr.cell (j := 1) rfl
      have f0 := hr.free 0
      have f1 := hr.free 1
      clear hr hb2
      go_wp2_with fail
      refine (gone_any _ _ _ hf1 hf2).mono ?_
      rintro e w3 ⟨rfl, hb3⟩
      rw [HF3.out]
      have HB3 := Lib.hid (HB2.out.trans (hb3.mono HB2.out.size))
      have hr := HR.out.below hb3 HR.out.lt
      clear r0 r1 f0 f1 v0 v1
      have r0 := hr.cell (j := 0) rfl
      have r1 := hr.cell (j := 1) rfl
      have f0 := hr.free 0
      have f1 := hr.free 1
      clear hr hb3
      go_wp2_with fail
      refine HQ.out _ _ _ ?_
      refine bodyPost_ret (v := .tuple #[.agg #[.int .i64 0, .int .i64 (loadedF op v.n)], .bool true]) (by simp [results, Try.results51, go_sem, r0, r1]) rfl ⟨rfl, ?_⟩
      exact (HB3.out.setCell (by simp) _).setCell (by simp) _
end Go.Proofs.Ytinmgbodgecoeaa
