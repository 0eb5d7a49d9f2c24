/- The graph's asker: a step. Conditions: as stated. -/
import Derived.Test.YtikbdplllopjlaaGAskDZz
set_option linter.unusedVariables false
set_option linter.unusedSimpArgs false
namespace Go.Proofs.Ytikbdplllopjlaa
open Go.RowKit

def gtreesB (na nb nc : Int) : List T → Int → Bool × Int
  | [], n => (true, n)
  | k :: ks, n => if (gtreeB na nb nc n k).1 = true then gtreesB na nb nc ks (gtreeB na nb nc n k).2 else (false, (gtreeB na nb nc n k).2)
def gbadA (p : ProgS) (g : GraphS) (x : StepS) : Prop := (gshape p x).2.2 = false ∨ (x.args.length : Int) ≠ (gshape p x).1 ∨ ((gshape p x).2.1 = true ∧ ¬ (0 ≤ x.to ∧ x.to < g.temps)) ∨ ((gshape p x).2.1 = false ∧ x.to ≠ -1)
instance (p : ProgS) (g : GraphS) (x : StepS) : Decidable (gbadA p g x) := by unfold gbadA; exact inferInstance
def gstepB (p : ProgS) (g : GraphS) (n : Int) (x : StepS) : Bool × Int :=
  if gbadA p g x then (false, n) else if (x.op ≠ 2 ∧ x.size ≠ 0) ∨ (x.op ≠ 3 ∧ x.fn ≠ 0) then (false, n) else gtreesB g.temps g.locs.length p.globs.length x.args n
theorem gtreeB_bd {na nb nc n : Int} {t : T} (h : (gtreeB na nb nc n t).1 = true) (hn : 0 ≤ n) : 0 ≤ (gtreeB na nb nc n t).2 ∧ (gtreeB na nb nc n t).2 ≤ 8000 := by
  unfold gtreeB at h ⊢
  split
  · rename_i hc
    rw [if_pos hc] at h
    simp only [decide_eq_true_eq] at h
    exact ⟨by simp only; omega, h⟩
  · rename_i hc
    rw [if_neg hc] at h
    cases h


set_option maxRecDepth 100000 in
set_option maxHeartbeats 16000000 in
theorem gstepc_any (a : AskAt) (ab : Nat) (n : Int) (p : ProgS) (g : GraphS) (x : StepS) (A : Option Addr) (kn kc : Nat) (B : Nat) (w : World) (hB : B ≤ w.heap.size) (hab : B ≤ ab) (ha : AskOk w B a p g) (hr : ARow w ab a n) (hn0 : 0 ≤ n) (hn1 : n ≤ 8000) (hk : KidsV w B x.args A kn) (hfn : In64 x.fn)  :
    Calls Try.prog 29 #[.pointer (some ⟨ab, 0, none⟩), .agg #[.int .i64 x.op, .int .i64 x.to, .int .i64 x.size, .int .i64 x.fn, .slice A kn kc]] w fun e w' => AskSays a ab (gstepB p g n x) w e w' := by
  have HSH := Lib.hid (gshape_any a ab n p g x A kn kc B (w.alloc (.cells #[.int .i64 x.op, .int .i64 x.to, .int .i64 x.size, .int .i64 x.fn, .slice A kn kc] 71)) (by simp; omega) (ha.below ((below1 w _).mono hB)) (hr.below (below1 w _)) hfn)
  obtain ⟨op, to, size, fn, ks⟩ := x
  obtain ⟨ar, tob, okb, hsh⟩ : ∃ ar tob okb, gshape p ⟨op, to, size, fn, ks⟩ = (ar, tob, okb) := ⟨_, _, _, rfl⟩
  simp only at hk hfn HSH ⊢
  rw [hsh] at HSH
  simp only [ShapeSays] at HSH
  have hkl := hk.1
  have hkm := hk.2.1
  have HK := Lib.hid hk
  have HR := Lib.hid hr
  have HA := Lib.hid ha
  have hrl := Row.lt hr
  have HBX := Lib.hid (Row.new w #[.int .i64 op, .int .i64 to, .int .i64 size, .int .i64 fn, .slice A kn kc] 71)
  clear hk hr ha
  cases okb with
  | false =>
    have HW2 := Lib.hid (show ∀ W, Calls Try.prog 19 #[.int .i64 to, .int .i64 a.temps] W fun e w' => e = .returned (.bool (decide (0 ≤ to ∧ to < a.temps))) ∧ W = w' from fun W => gwithin_any to a.temps W)
    rw [show gstepB p g n ⟨op, to, size, fn, ks⟩ = (false, n) from by unfold gstepB; rw [if_pos (show gbadA p g ⟨op, to, size, fn, ks⟩ from by unfold gbadA; rw [hsh]; exact Or.inl rfl)]]
    go_enter Try.func29, Try.ntmps29
    refine wp_letter (fun Q hQ => ?_)
    have HQ := Lib.hid hQ
    clear hQ
    go_wp2_with fail
    refine HSH.out.mono ?_
    rintro e w1 ⟨rfl, hb1⟩
    have HB1 := Lib.hid ((below1 w _).trans (hb1.mono (below1 w _).size))
    have hbx1 := HBX.out.below hb1 HBX.out.lt
    have HBX1 := Lib.hid hbx1
    have x0 := hbx1.cell (j := 0) rfl
    have x1 := hbx1.cell (j := 1) rfl
    have x2 := hbx1.cell (j := 2) rfl
    have x3 := hbx1.cell (j := 3) rfl
    have x4 := hbx1.cell (j := 4) rfl
    have xl := hbx1.lt
    have hr1 := HR.out.below HB1.out
    have HR1 := Lib.hid hr1
    have r4 : w1.cell? ⟨ab, 4, none⟩ = some (.int .i64 a.temps) := Row.cell hr1 rfl
    have rl := Row.lt hr1
    clear hb1 hbx1 hr1
    go_wp2_with fail
    go_quiet ((go_at_call 19; exact Calls.quiet_of_same ((HW2.out _).mono fun _ _ h => ⟨h.1, h.2.symm⟩)))
    go_wp2_with fail
    refine HQ.out _ _ _ ?_
    exact bodyPost_ret (v := .bool false) (by simp [results, Try.results29, go_sem]) rfl ⟨rfl, HR.out.below (below_drewN HB1.out _), Wr.of_below (below_drewN HB1.out _)⟩
  | true =>
    by_cases h2 : (kn : Int) = ar
    · have e2 : ((kn : Int) != ar) = false := by simpa using h2
      have h2' : (ks.length : Int) = ar := by omega
      cases tob with
      | true =>
        by_cases h3 : 0 ≤ to ∧ to < a.temps
        · have HW2 := Lib.hid (show ∀ W, Calls Try.prog 19 #[.int .i64 to, .int .i64 a.temps] W fun e w' => e = .returned (.bool true) ∧ W = w' from fun W => by have := gwithin_any to a.temps W; rwa [decide_eq_true h3] at this)
          have hgA : ¬ gbadA p g ⟨op, to, size, fn, ks⟩ := by
            unfold gbadA
            rw [hsh]
            simp only
            rw [not_or, not_or, not_or]
            exact ⟨by simp, fun h => h h2', fun h => h.2 (by rw [← HA.out.temps]; exact h3), fun h => by cases h.1⟩
          by_cases hb1 : op ≠ 2 ∧ size ≠ 0
          · rw [show gstepB p g n ⟨op, to, size, fn, ks⟩ = (false, n) from by unfold gstepB; rw [if_neg hgA, if_pos (Or.inl hb1)]]
            have e5 : (op != 2) = true := by simpa using hb1.1
            have e6 : (size != 0) = true := by simpa using hb1.2
            clear hb1 hgA h2 h2'
            go_enter Try.func29, Try.ntmps29
            refine wp_letter (fun Q hQ => ?_)
            have HQ := Lib.hid hQ
            clear hQ
            go_wp2_with fail
            refine HSH.out.mono ?_
            rintro e w1 ⟨rfl, hb1⟩
            have HB1 := Lib.hid ((below1 w _).trans (hb1.mono (below1 w _).size))
            have hbx1 := HBX.out.below hb1 HBX.out.lt
            have HBX1 := Lib.hid hbx1
            have x0 := hbx1.cell (j := 0) rfl
            have x1 := hbx1.cell (j := 1) rfl
            have x2 := hbx1.cell (j := 2) rfl
            have x3 := hbx1.cell (j := 3) rfl
            have x4 := hbx1.cell (j := 4) rfl
            have xl := hbx1.lt
            have hr1 := HR.out.below HB1.out
            have HR1 := Lib.hid hr1
            have r4 : w1.cell? ⟨ab, 4, none⟩ = some (.int .i64 a.temps) := Row.cell hr1 rfl
            have rl := Row.lt hr1
            clear hb1 hbx1 hr1
            go_wp2_with fail
            go_quiet ((go_at_call 19; exact Calls.quiet_of_same ((HW2.out _).mono fun _ _ h => ⟨h.1, h.2.symm⟩)))
            go_wp2_with fail
            refine HQ.out _ _ _ ?_
            exact bodyPost_ret (v := .bool false) (by simp [results, Try.results29, go_sem]) rfl ⟨rfl, HR.out.below (below_drewN HB1.out _), Wr.of_below (below_drewN HB1.out _)⟩
          · by_cases hb2 : op ≠ 3 ∧ fn ≠ 0
            · rw [show gstepB p g n ⟨op, to, size, fn, ks⟩ = (false, n) from by unfold gstepB; rw [if_neg hgA, if_pos (Or.inr hb2)]]
              have e7 : (op != 3) = true := by simpa using hb2.1
              have e8 : (fn != 0) = true := by simpa using hb2.2
              by_cases h5 : op = 2
              · subst h5
                clear hb1 hb2 hgA h2
                go_enter Try.func29, Try.ntmps29
                refine wp_letter (fun Q hQ => ?_)
                have HQ := Lib.hid hQ
                clear hQ
                go_wp2_with fail
                refine HSH.out.mono ?_
                rintro e w1 ⟨rfl, hb1⟩
                have HB1 := Lib.hid ((below1 w _).trans (hb1.mono (below1 w _).size))
                have hbx1 := HBX.out.below hb1 HBX.out.lt
                have HBX1 := Lib.hid hbx1
                have x0 := hbx1.cell (j := 0) rfl
                have x1 := hbx1.cell (j := 1) rfl
                have x2 := hbx1.cell (j := 2) rfl
                have x3 := hbx1.cell (j := 3) rfl
                have x4 := hbx1.cell (j := 4) rfl
                have xl := hbx1.lt
                have hr1 := HR.out.below HB1.out
                have HR1 := Lib.hid hr1
                have r4 : w1.cell? ⟨ab, 4, none⟩ = some (.int .i64 a.temps) := Row.cell hr1 rfl
                have rl := Row.lt hr1
                clear hb1 hbx1 hr1
                go_wp2_with fail
                go_quiet ((go_at_call 19; exact Calls.quiet_of_same ((HW2.out _).mono fun _ _ h => ⟨h.1, h.2.symm⟩)))
                go_wp2_with fail
                refine HQ.out _ _ _ ?_
                exact bodyPost_ret (v := .bool false) (by simp [results, Try.results29, go_sem]) rfl ⟨rfl, HR.out.below (below_drewN HB1.out _), Wr.of_below (below_drewN HB1.out _)⟩
              · have h6 : size = 0 := by omega
                subst h6
                have e5 : (op != 2) = true := by simpa using h5
                clear hb1 hb2 hgA h2 h5
                go_enter Try.func29, Try.ntmps29
                refine wp_letter (fun Q hQ => ?_)
                have HQ := Lib.hid hQ
                clear hQ
                go_wp2_with fail
                refine HSH.out.mono ?_
                rintro e w1 ⟨rfl, hb1⟩
                have HB1 := Lib.hid ((below1 w _).trans (hb1.mono (below1 w _).size))
                have hbx1 := HBX.out.below hb1 HBX.out.lt
                have HBX1 := Lib.hid hbx1
                have x0 := hbx1.cell (j := 0) rfl
                have x1 := hbx1.cell (j := 1) rfl
                have x2 := hbx1.cell (j := 2) rfl
                have x3 := hbx1.cell (j := 3) rfl
                have x4 := hbx1.cell (j := 4) rfl
                have xl := hbx1.lt
                have hr1 := HR.out.below HB1.out
                have HR1 := Lib.hid hr1
                have r4 : w1.cell? ⟨ab, 4, none⟩ = some (.int .i64 a.temps) := Row.cell hr1 rfl
                have rl := Row.lt hr1
                clear hb1 hbx1 hr1
                go_wp2_with fail
                go_quiet ((go_at_call 19; exact Calls.quiet_of_same ((HW2.out _).mono fun _ _ h => ⟨h.1, h.2.symm⟩)))
                go_wp2_with fail
                refine HQ.out _ _ _ ?_
                exact bodyPost_ret (v := .bool false) (by simp [results, Try.results29, go_sem]) rfl ⟨rfl, HR.out.below (below_drewN HB1.out _), Wr.of_below (below_drewN HB1.out _)⟩
            · rw [show gstepB p g n ⟨op, to, size, fn, ks⟩ = gtreesB g.temps g.locs.length p.globs.length ks n from by unfold gstepB; rw [if_neg hgA, if_neg (by simp only; omega)]]
              have hq : (op = 2 ∧ fn = 0) ∨ (op = 3 ∧ size = 0) ∨ (op ≠ 2 ∧ op ≠ 3 ∧ size = 0 ∧ fn = 0) := by omega
              clear hb1 hb2 hgA
              rcases hq with ⟨rfl, rfl⟩ | ⟨rfl, rfl⟩ | ⟨h7, h8, rfl, rfl⟩
              · clear h2 h2'
                go_enter Try.func29, Try.ntmps29
                refine wp_letter (fun Q hQ => ?_)
                have HQ := Lib.hid hQ
                clear hQ
                go_wp2_with fail
                refine HSH.out.mono ?_
                rintro e w1 ⟨rfl, hb1⟩
                have HB1 := Lib.hid ((below1 w _).trans (hb1.mono (below1 w _).size))
                have hbx1 := HBX.out.below hb1 HBX.out.lt
                have HBX1 := Lib.hid hbx1
                have x0 := hbx1.cell (j := 0) rfl
                have x1 := hbx1.cell (j := 1) rfl
                have x2 := hbx1.cell (j := 2) rfl
                have x3 := hbx1.cell (j := 3) rfl
                have x4 := hbx1.cell (j := 4) rfl
                have xl := hbx1.lt
                have hr1 := HR.out.below HB1.out
                have HR1 := Lib.hid hr1
                have r4 : w1.cell? ⟨ab, 4, none⟩ = some (.int .i64 a.temps) := Row.cell hr1 rfl
                have rl := Row.lt hr1
                clear hb1 hbx1 hr1
                go_wp2_with fail
                go_quiet ((go_at_call 19; exact Calls.quiet_of_same ((HW2.out _).mono fun _ _ h => ⟨h.1, h.2.symm⟩)))
                go_wp2_with fail
                go_loopw [70] (fun i wr => ∃ (j : Nat) (m : Int), i = .int .i64 j ∧ j ≤ kn ∧ 0 ≤ m ∧ m ≤ 8000 ∧ gtreesB g.temps g.locs.length p.globs.length (ks.drop j) m = gtreesB g.temps g.locs.length p.globs.length ks n ∧ ARow wr ab a m ∧ Wr (fun k => k = ab) w wr) (fun i _ => kn - (intOf i).toNat)
                case atStart => exact ⟨0, n, rfl, by omega, hn0, hn1, rfl, HR.out.below (below_drewN HB1.out _), Wr.of_below (below_drewN HB1.out _)⟩
                case round =>
                  obtain ⟨j, m, rfl, hj, hm0, hm1, heq, hrm, hwr⟩ := hrel
                  have HEQ := Lib.hid heq
                  have HWR := Lib.hid hwr
                  have hzw := hwr.size
                  have hBw : Below B w wr := hwr.below hB (fun k hk => by omega)
                  by_cases hlt : j < kn
                  · obtain ⟨b, off, k, u0, u1, u2, rfl, hb, hk1, k0, k1, k2, ht⟩ := (HK.out.below hBw (Nat.le_refl _)).get hlt
                    obtain ⟨a0, b0, A1, n1, c1, rfl, rfl, rfl⟩ := ht.shape0
                    have HC := Lib.hid (gtree_any a ab m k B (wr.alloc (.cells #[.int .i64 a0, .int .i64 b0, .slice A1 n1 c1] 62)) _ _ _ (by simp; omega) (ht.below ((below1 wr _).mono (by omega)) (Nat.le_refl _)) (hrm.below (below1 wr _)) hm0 (by omega))
                    rw [HA.out.temps, HA.out.nl, HA.out.ng] at HC
                    have HK1 := Lib.hid hk1
                    have hjl : (j : Int) < (kn : Int) := by omega
                    have hbl : b < wr.heap.size := by omega
                    have habl : ab < wr.heap.size := by omega
                    clear hk1 ht heq hwr hrm hBw
                    cases hg1 : (gtreeB g.temps g.locs.length p.globs.length m k).1 with
                    | true =>
                      have HG := Lib.hid hg1
                      have hbd := gtreeB_bd hg1 hm0
                      simp only [AskSays] at HC
                      rw [hg1] at HC
                      clear hg1
                      go_wp2_with fail
                      refine HC.out.mono ?_
                      rintro e w3 ⟨rfl, hr3, hw3⟩
                      have HR3 := Lib.hid hr3
                      have HW3 := Lib.hid ((HWR.out.trans (Wr.of_below (F := fun _ => False) (below1 wr (.cells #[.int .i64 a0, .int .i64 b0, .slice A1 n1 c1] 62))) (fun _ h => h.elim)).trans hw3 (fun _ h => Or.inl h))
                      clear hr3 hw3
                      go_wp2_with fail
                      go_roundw
                      case rel => exact ⟨j + 1, (gtreeB g.temps g.locs.length p.globs.length m k).2, by go_num, by omega, hbd.1, hbd.2, by have h9 := HEQ.out; rw [drop_of HK1.out, gtreesB, if_pos HG.out] at h9; exact h9, HR3.out, HW3.out⟩
                      case measure => simp [intOf]; omega
                    | false =>
                      have HG := Lib.hid hg1
                      simp only [AskSays] at HC
                      rw [hg1] at HC
                      clear hg1
                      go_wp2_with fail
                      refine HC.out.mono ?_
                      rintro e w3 ⟨rfl, hr3, hw3⟩
                      have HR3 := Lib.hid hr3
                      have HW3 := Lib.hid ((HWR.out.trans (Wr.of_below (F := fun _ => False) (below1 wr (.cells #[.int .i64 a0, .int .i64 b0, .slice A1 n1 c1] 62))) (fun _ h => h.elim)).trans hw3 (fun _ h => Or.inl h))
                      clear hr3 hw3
                      go_wp2_with fail
                      refine HQ.out _ _ _ ?_
                      have hfin : gtreesB g.temps g.locs.length p.globs.length ks n = (false, (gtreeB g.temps g.locs.length p.globs.length m k).2) := by
                        rw [← HEQ.out, drop_of HK1.out, gtreesB, if_neg (by rw [HG.out]; simp)]
                      rw [hfin]
                      exact bodyPost_ret (v := .bool false) (by simp [results, Try.results29, go_sem]) rfl ⟨rfl, HR3.out, HW3.out⟩
                  · obtain rfl : j = kn := by omega
                    rw [drop_nil_of (by omega)] at HEQ
                    have HRM := Lib.hid hrm
                    clear hwr heq hrm hBw
                    go_wp2_with fail
                    refine HQ.out _ _ _ ?_
                    rw [← HEQ.out, gtreesB]
                    exact bodyPost_ret (v := .bool true) (by simp [results, Try.results29, go_sem]) rfl ⟨rfl, HRM.out, HWR.out⟩
              · clear h2 h2'
                go_enter Try.func29, Try.ntmps29
                refine wp_letter (fun Q hQ => ?_)
                have HQ := Lib.hid hQ
                clear hQ
                go_wp2_with fail
                refine HSH.out.mono ?_
                rintro e w1 ⟨rfl, hb1⟩
                have HB1 := Lib.hid ((below1 w _).trans (hb1.mono (below1 w _).size))
                have hbx1 := HBX.out.below hb1 HBX.out.lt
                have HBX1 := Lib.hid hbx1
                have x0 := hbx1.cell (j := 0) rfl
                have x1 := hbx1.cell (j := 1) rfl
                have x2 := hbx1.cell (j := 2) rfl
                have x3 := hbx1.cell (j := 3) rfl
                have x4 := hbx1.cell (j := 4) rfl
                have xl := hbx1.lt
                have hr1 := HR.out.below HB1.out
                have HR1 := Lib.hid hr1
                have r4 : w1.cell? ⟨ab, 4, none⟩ = some (.int .i64 a.temps) := Row.cell hr1 rfl
                have rl := Row.lt hr1
                clear hb1 hbx1 hr1
                go_wp2_with fail
                go_quiet ((go_at_call 19; exact Calls.quiet_of_same ((HW2.out _).mono fun _ _ h => ⟨h.1, h.2.symm⟩)))
                go_wp2_with fail
                go_loopw [70] (fun i wr => ∃ (j : Nat) (m : Int), i = .int .i64 j ∧ j ≤ kn ∧ 0 ≤ m ∧ m ≤ 8000 ∧ gtreesB g.temps g.locs.length p.globs.length (ks.drop j) m = gtreesB g.temps g.locs.length p.globs.length ks n ∧ ARow wr ab a m ∧ Wr (fun k => k = ab) w wr) (fun i _ => kn - (intOf i).toNat)
                case atStart => exact ⟨0, n, rfl, by omega, hn0, hn1, rfl, HR.out.below (below_drewN HB1.out _), Wr.of_below (below_drewN HB1.out _)⟩
                case round =>
                  obtain ⟨j, m, rfl, hj, hm0, hm1, heq, hrm, hwr⟩ := hrel
                  have HEQ := Lib.hid heq
                  have HWR := Lib.hid hwr
                  have hzw := hwr.size
                  have hBw : Below B w wr := hwr.below hB (fun k hk => by omega)
                  by_cases hlt : j < kn
                  · obtain ⟨b, off, k, u0, u1, u2, rfl, hb, hk1, k0, k1, k2, ht⟩ := (HK.out.below hBw (Nat.le_refl _)).get hlt
                    obtain ⟨a0, b0, A1, n1, c1, rfl, rfl, rfl⟩ := ht.shape0
                    have HC := Lib.hid (gtree_any a ab m k B (wr.alloc (.cells #[.int .i64 a0, .int .i64 b0, .slice A1 n1 c1] 62)) _ _ _ (by simp; omega) (ht.below ((below1 wr _).mono (by omega)) (Nat.le_refl _)) (hrm.below (below1 wr _)) hm0 (by omega))
                    rw [HA.out.temps, HA.out.nl, HA.out.ng] at HC
                    have HK1 := Lib.hid hk1
                    have hjl : (j : Int) < (kn : Int) := by omega
                    have hbl : b < wr.heap.size := by omega
                    have habl : ab < wr.heap.size := by omega
                    clear hk1 ht heq hwr hrm hBw
                    cases hg1 : (gtreeB g.temps g.locs.length p.globs.length m k).1 with
                    | true =>
                      have HG := Lib.hid hg1
                      have hbd := gtreeB_bd hg1 hm0
                      simp only [AskSays] at HC
                      rw [hg1] at HC
                      clear hg1
                      go_wp2_with fail
                      refine HC.out.mono ?_
                      rintro e w3 ⟨rfl, hr3, hw3⟩
                      have HR3 := Lib.hid hr3
                      have HW3 := Lib.hid ((HWR.out.trans (Wr.of_below (F := fun _ => False) (below1 wr (.cells #[.int .i64 a0, .int .i64 b0, .slice A1 n1 c1] 62))) (fun _ h => h.elim)).trans hw3 (fun _ h => Or.inl h))
                      clear hr3 hw3
                      go_wp2_with fail
                      go_roundw
                      case rel => exact ⟨j + 1, (gtreeB g.temps g.locs.length p.globs.length m k).2, by go_num, by omega, hbd.1, hbd.2, by have h9 := HEQ.out; rw [drop_of HK1.out, gtreesB, if_pos HG.out] at h9; exact h9, HR3.out, HW3.out⟩
                      case measure => simp [intOf]; omega
                    | false =>
                      have HG := Lib.hid hg1
                      simp only [AskSays] at HC
                      rw [hg1] at HC
                      clear hg1
                      go_wp2_with fail
                      refine HC.out.mono ?_
                      rintro e w3 ⟨rfl, hr3, hw3⟩
                      have HR3 := Lib.hid hr3
                      have HW3 := Lib.hid ((HWR.out.trans (Wr.of_below (F := fun _ => False) (below1 wr (.cells #[.int .i64 a0, .int .i64 b0, .slice A1 n1 c1] 62))) (fun _ h => h.elim)).trans hw3 (fun _ h => Or.inl h))
                      clear hr3 hw3
                      go_wp2_with fail
                      refine HQ.out _ _ _ ?_
                      have hfin : gtreesB g.temps g.locs.length p.globs.length ks n = (false, (gtreeB g.temps g.locs.length p.globs.length m k).2) := by
                        rw [← HEQ.out, drop_of HK1.out, gtreesB, if_neg (by rw [HG.out]; simp)]
                      rw [hfin]
                      exact bodyPost_ret (v := .bool false) (by simp [results, Try.results29, go_sem]) rfl ⟨rfl, HR3.out, HW3.out⟩
                  · obtain rfl : j = kn := by omega
                    rw [drop_nil_of (by omega)] at HEQ
                    have HRM := Lib.hid hrm
                    clear hwr heq hrm hBw
                    go_wp2_with fail
                    refine HQ.out _ _ _ ?_
                    rw [← HEQ.out, gtreesB]
                    exact bodyPost_ret (v := .bool true) (by simp [results, Try.results29, go_sem]) rfl ⟨rfl, HRM.out, HWR.out⟩
              · have e7 : (op != 2) = true := by simpa using h7
                have e8 : (op != 3) = true := by simpa using h8
                clear h2 h7 h8
                go_enter Try.func29, Try.ntmps29
                refine wp_letter (fun Q hQ => ?_)
                have HQ := Lib.hid hQ
                clear hQ
                go_wp2_with fail
                refine HSH.out.mono ?_
                rintro e w1 ⟨rfl, hb1⟩
                have HB1 := Lib.hid ((below1 w _).trans (hb1.mono (below1 w _).size))
                have hbx1 := HBX.out.below hb1 HBX.out.lt
                have HBX1 := Lib.hid hbx1
                have x0 := hbx1.cell (j := 0) rfl
                have x1 := hbx1.cell (j := 1) rfl
                have x2 := hbx1.cell (j := 2) rfl
                have x3 := hbx1.cell (j := 3) rfl
                have x4 := hbx1.cell (j := 4) rfl
                have xl := hbx1.lt
                have hr1 := HR.out.below HB1.out
                have HR1 := Lib.hid hr1
                have r4 : w1.cell? ⟨ab, 4, none⟩ = some (.int .i64 a.temps) := Row.cell hr1 rfl
                have rl := Row.lt hr1
                clear hb1 hbx1 hr1
                go_wp2_with fail
                go_quiet ((go_at_call 19; exact Calls.quiet_of_same ((HW2.out _).mono fun _ _ h => ⟨h.1, h.2.symm⟩)))
                go_wp2_with fail
                go_loopw [70] (fun i wr => ∃ (j : Nat) (m : Int), i = .int .i64 j ∧ j ≤ kn ∧ 0 ≤ m ∧ m ≤ 8000 ∧ gtreesB g.temps g.locs.length p.globs.length (ks.drop j) m = gtreesB g.temps g.locs.length p.globs.length ks n ∧ ARow wr ab a m ∧ Wr (fun k => k = ab) w wr) (fun i _ => kn - (intOf i).toNat)
                case atStart => exact ⟨0, n, rfl, by omega, hn0, hn1, rfl, HR.out.below (below_drewN HB1.out _), Wr.of_below (below_drewN HB1.out _)⟩
                case round =>
                  obtain ⟨j, m, rfl, hj, hm0, hm1, heq, hrm, hwr⟩ := hrel
                  have HEQ := Lib.hid heq
                  have HWR := Lib.hid hwr
                  have hzw := hwr.size
                  have hBw : Below B w wr := hwr.below hB (fun k hk => by omega)
                  by_cases hlt : j < kn
                  · obtain ⟨b, off, k, u0, u1, u2, rfl, hb, hk1, k0, k1, k2, ht⟩ := (HK.out.below hBw (Nat.le_refl _)).get hlt
                    obtain ⟨a0, b0, A1, n1, c1, rfl, rfl, rfl⟩ := ht.shape0
                    have HC := Lib.hid (gtree_any a ab m k B (wr.alloc (.cells #[.int .i64 a0, .int .i64 b0, .slice A1 n1 c1] 62)) _ _ _ (by simp; omega) (ht.below ((below1 wr _).mono (by omega)) (Nat.le_refl _)) (hrm.below (below1 wr _)) hm0 (by omega))
                    rw [HA.out.temps, HA.out.nl, HA.out.ng] at HC
                    have HK1 := Lib.hid hk1
                    have hjl : (j : Int) < (kn : Int) := by omega
                    have hbl : b < wr.heap.size := by omega
                    have habl : ab < wr.heap.size := by omega
                    clear hk1 ht heq hwr hrm hBw
                    cases hg1 : (gtreeB g.temps g.locs.length p.globs.length m k).1 with
                    | true =>
                      have HG := Lib.hid hg1
                      have hbd := gtreeB_bd hg1 hm0
                      simp only [AskSays] at HC
                      rw [hg1] at HC
                      clear hg1
                      go_wp2_with fail
                      refine HC.out.mono ?_
                      rintro e w3 ⟨rfl, hr3, hw3⟩
                      have HR3 := Lib.hid hr3
                      have HW3 := Lib.hid ((HWR.out.trans (Wr.of_below (F := fun _ => False) (below1 wr (.cells #[.int .i64 a0, .int .i64 b0, .slice A1 n1 c1] 62))) (fun _ h => h.elim)).trans hw3 (fun _ h => Or.inl h))
                      clear hr3 hw3
                      go_wp2_with fail
                      go_roundw
                      case rel => exact ⟨j + 1, (gtreeB g.temps g.locs.length p.globs.length m k).2, by go_num, by omega, hbd.1, hbd.2, by have h9 := HEQ.out; rw [drop_of HK1.out, gtreesB, if_pos HG.out] at h9; exact h9, HR3.out, HW3.out⟩
                      case measure => simp [intOf]; omega
                    | false =>
                      have HG := Lib.hid hg1
                      simp only [AskSays] at HC
                      rw [hg1] at HC
                      clear hg1
                      go_wp2_with fail
                      refine HC.out.mono ?_
                      rintro e w3 ⟨rfl, hr3, hw3⟩
                      have HR3 := Lib.hid hr3
                      have HW3 := Lib.hid ((HWR.out.trans (Wr.of_below (F := fun _ => False) (below1 wr (.cells #[.int .i64 a0, .int .i64 b0, .slice A1 n1 c1] 62))) (fun _ h => h.elim)).trans hw3 (fun _ h => Or.inl h))
                      clear hr3 hw3
                      go_wp2_with fail
                      refine HQ.out _ _ _ ?_
                      have hfin : gtreesB g.temps g.locs.length p.globs.length ks n = (false, (gtreeB g.temps g.locs.length p.globs.length m k).2) := by
                        rw [← HEQ.out, drop_of HK1.out, gtreesB, if_neg (by rw [HG.out]; simp)]
                      rw [hfin]
                      exact bodyPost_ret (v := .bool false) (by simp [results, Try.results29, go_sem]) rfl ⟨rfl, HR3.out, HW3.out⟩
                  · obtain rfl : j = kn := by omega
                    rw [drop_nil_of (by omega)] at HEQ
                    have HRM := Lib.hid hrm
                    clear hwr heq hrm hBw
                    go_wp2_with fail
                    refine HQ.out _ _ _ ?_
                    rw [← HEQ.out, gtreesB]
                    exact bodyPost_ret (v := .bool true) (by simp [results, Try.results29, go_sem]) rfl ⟨rfl, HRM.out, HWR.out⟩
        · have HW2 := Lib.hid (show ∀ W, Calls Try.prog 19 #[.int .i64 to, .int .i64 a.temps] W fun e w' => e = .returned (.bool false) ∧ W = w' from fun W => by have := gwithin_any to a.temps W; rwa [decide_eq_false h3] at this)
          rw [show gstepB p g n ⟨op, to, size, fn, ks⟩ = (false, n) from by unfold gstepB; rw [if_pos (show gbadA p g ⟨op, to, size, fn, ks⟩ from by unfold gbadA; rw [hsh]; exact Or.inr (Or.inr (Or.inl ⟨rfl, fun h => h3 (by rw [HA.out.temps]; exact h)⟩)))]]
          clear h2 h2' h3
          go_enter Try.func29, Try.ntmps29
          refine wp_letter (fun Q hQ => ?_)
          have HQ := Lib.hid hQ
          clear hQ
          go_wp2_with fail
          refine HSH.out.mono ?_
          rintro e w1 ⟨rfl, hb1⟩
          have HB1 := Lib.hid ((below1 w _).trans (hb1.mono (below1 w _).size))
          have hbx1 := HBX.out.below hb1 HBX.out.lt
          have HBX1 := Lib.hid hbx1
          have x0 := hbx1.cell (j := 0) rfl
          have x1 := hbx1.cell (j := 1) rfl
          have x2 := hbx1.cell (j := 2) rfl
          have x3 := hbx1.cell (j := 3) rfl
          have x4 := hbx1.cell (j := 4) rfl
          have xl := hbx1.lt
          have hr1 := HR.out.below HB1.out
          have HR1 := Lib.hid hr1
          have r4 : w1.cell? ⟨ab, 4, none⟩ = some (.int .i64 a.temps) := Row.cell hr1 rfl
          have rl := Row.lt hr1
          clear hb1 hbx1 hr1
          go_wp2_with fail
          go_quiet ((go_at_call 19; exact Calls.quiet_of_same ((HW2.out _).mono fun _ _ h => ⟨h.1, h.2.symm⟩)))
          go_wp2_with fail
          refine HQ.out _ _ _ ?_
          exact bodyPost_ret (v := .bool false) (by simp [results, Try.results29, go_sem]) rfl ⟨rfl, HR.out.below (below_drewN HB1.out _), Wr.of_below (below_drewN HB1.out _)⟩
      | false =>
        by_cases h3 : to = -1
        · subst h3
          have HW2 := Lib.hid (show ∀ W, Calls Try.prog 19 #[.int .i64 (-1), .int .i64 a.temps] W fun e w' => e = .returned (.bool (decide (0 ≤ (-1) ∧ (-1) < a.temps))) ∧ W = w' from fun W => gwithin_any (-1) a.temps W)
          have hgA : ¬ gbadA p g ⟨op, -1, size, fn, ks⟩ := by
            unfold gbadA
            rw [hsh]
            simp only
            rw [not_or, not_or, not_or]
            exact ⟨by simp, fun h => h h2', fun h => (by cases h.1), fun h => h.2 rfl⟩
          by_cases hb1 : op ≠ 2 ∧ size ≠ 0
          · rw [show gstepB p g n ⟨op, -1, size, fn, ks⟩ = (false, n) from by unfold gstepB; rw [if_neg hgA, if_pos (Or.inl hb1)]]
            have e5 : (op != 2) = true := by simpa using hb1.1
            have e6 : (size != 0) = true := by simpa using hb1.2
            clear hb1 hgA h2
            go_enter Try.func29, Try.ntmps29
            refine wp_letter (fun Q hQ => ?_)
            have HQ := Lib.hid hQ
            clear hQ
            go_wp2_with fail
            refine HSH.out.mono ?_
            rintro e w1 ⟨rfl, hb1⟩
            have HB1 := Lib.hid ((below1 w _).trans (hb1.mono (below1 w _).size))
            have hbx1 := HBX.out.below hb1 HBX.out.lt
            have HBX1 := Lib.hid hbx1
            have x0 := hbx1.cell (j := 0) rfl
            have x1 := hbx1.cell (j := 1) rfl
            have x2 := hbx1.cell (j := 2) rfl
            have x3 := hbx1.cell (j := 3) rfl
            have x4 := hbx1.cell (j := 4) rfl
            have xl := hbx1.lt
            have hr1 := HR.out.below HB1.out
            have HR1 := Lib.hid hr1
            have r4 : w1.cell? ⟨ab, 4, none⟩ = some (.int .i64 a.temps) := Row.cell hr1 rfl
            have rl := Row.lt hr1
            clear hb1 hbx1 hr1
            go_wp2_with fail
            go_quiet ((go_at_call 19; exact Calls.quiet_of_same ((HW2.out _).mono fun _ _ h => ⟨h.1, h.2.symm⟩)))
            go_wp2_with fail
            refine HQ.out _ _ _ ?_
            exact bodyPost_ret (v := .bool false) (by simp [results, Try.results29, go_sem]) rfl ⟨rfl, HR.out.below (below_drewN HB1.out _), Wr.of_below (below_drewN HB1.out _)⟩
          · by_cases hb2 : op ≠ 3 ∧ fn ≠ 0
            · rw [show gstepB p g n ⟨op, -1, size, fn, ks⟩ = (false, n) from by unfold gstepB; rw [if_neg hgA, if_pos (Or.inr hb2)]]
              have e7 : (op != 3) = true := by simpa using hb2.1
              have e8 : (fn != 0) = true := by simpa using hb2.2
              by_cases h5 : op = 2
              · subst h5
                clear hb1 hb2 hgA h2
                go_enter Try.func29, Try.ntmps29
                refine wp_letter (fun Q hQ => ?_)
                have HQ := Lib.hid hQ
                clear hQ
                go_wp2_with fail
                refine HSH.out.mono ?_
                rintro e w1 ⟨rfl, hb1⟩
                have HB1 := Lib.hid ((below1 w _).trans (hb1.mono (below1 w _).size))
                have hbx1 := HBX.out.below hb1 HBX.out.lt
                have HBX1 := Lib.hid hbx1
                have x0 := hbx1.cell (j := 0) rfl
                have x1 := hbx1.cell (j := 1) rfl
                have x2 := hbx1.cell (j := 2) rfl
                have x3 := hbx1.cell (j := 3) rfl
                have x4 := hbx1.cell (j := 4) rfl
                have xl := hbx1.lt
                have hr1 := HR.out.below HB1.out
                have HR1 := Lib.hid hr1
                have r4 : w1.cell? ⟨ab, 4, none⟩ = some (.int .i64 a.temps) := Row.cell hr1 rfl
                have rl := Row.lt hr1
                clear hb1 hbx1 hr1
                go_wp2_with fail
                go_quiet ((go_at_call 19; exact Calls.quiet_of_same ((HW2.out _).mono fun _ _ h => ⟨h.1, h.2.symm⟩)))
                go_wp2_with fail
                refine HQ.out _ _ _ ?_
                exact bodyPost_ret (v := .bool false) (by simp [results, Try.results29, go_sem]) rfl ⟨rfl, HR.out.below (below_drewN HB1.out _), Wr.of_below (below_drewN HB1.out _)⟩
              · have h6 : size = 0 := by omega
                subst h6
                have e5 : (op != 2) = true := by simpa using h5
                clear hb1 hb2 hgA h2 h5
                go_enter Try.func29, Try.ntmps29
                refine wp_letter (fun Q hQ => ?_)
                have HQ := Lib.hid hQ
                clear hQ
                go_wp2_with fail
                refine HSH.out.mono ?_
                rintro e w1 ⟨rfl, hb1⟩
                have HB1 := Lib.hid ((below1 w _).trans (hb1.mono (below1 w _).size))
                have hbx1 := HBX.out.below hb1 HBX.out.lt
                have HBX1 := Lib.hid hbx1
                have x0 := hbx1.cell (j := 0) rfl
                have x1 := hbx1.cell (j := 1) rfl
                have x2 := hbx1.cell (j := 2) rfl
                have x3 := hbx1.cell (j := 3) rfl
                have x4 := hbx1.cell (j := 4) rfl
                have xl := hbx1.lt
                have hr1 := HR.out.below HB1.out
                have HR1 := Lib.hid hr1
                have r4 : w1.cell? ⟨ab, 4, none⟩ = some (.int .i64 a.temps) := Row.cell hr1 rfl
                have rl := Row.lt hr1
                clear hb1 hbx1 hr1
                go_wp2_with fail
                go_quiet ((go_at_call 19; exact Calls.quiet_of_same ((HW2.out _).mono fun _ _ h => ⟨h.1, h.2.symm⟩)))
                go_wp2_with fail
                refine HQ.out _ _ _ ?_
                exact bodyPost_ret (v := .bool false) (by simp [results, Try.results29, go_sem]) rfl ⟨rfl, HR.out.below (below_drewN HB1.out _), Wr.of_below (below_drewN HB1.out _)⟩
            · rw [show gstepB p g n ⟨op, -1, size, fn, ks⟩ = gtreesB g.temps g.locs.length p.globs.length ks n from by unfold gstepB; rw [if_neg hgA, if_neg (by simp only; omega)]]
              have hq : (op = 2 ∧ fn = 0) ∨ (op = 3 ∧ size = 0) ∨ (op ≠ 2 ∧ op ≠ 3 ∧ size = 0 ∧ fn = 0) := by omega
              clear hb1 hb2 hgA
              rcases hq with ⟨rfl, rfl⟩ | ⟨rfl, rfl⟩ | ⟨h7, h8, rfl, rfl⟩
              · clear h2
                go_enter Try.func29, Try.ntmps29
                refine wp_letter (fun Q hQ => ?_)
                have HQ := Lib.hid hQ
                clear hQ
                go_wp2_with fail
                refine HSH.out.mono ?_
                rintro e w1 ⟨rfl, hb1⟩
                have HB1 := Lib.hid ((below1 w _).trans (hb1.mono (below1 w _).size))
                have hbx1 := HBX.out.below hb1 HBX.out.lt
                have HBX1 := Lib.hid hbx1
                have x0 := hbx1.cell (j := 0) rfl
                have x1 := hbx1.cell (j := 1) rfl
                have x2 := hbx1.cell (j := 2) rfl
                have x3 := hbx1.cell (j := 3) rfl
                have x4 := hbx1.cell (j := 4) rfl
                have xl := hbx1.lt
                have hr1 := HR.out.below HB1.out
                have HR1 := Lib.hid hr1
                have r4 : w1.cell? ⟨ab, 4, none⟩ = some (.int .i64 a.temps) := Row.cell hr1 rfl
                have rl := Row.lt hr1
                clear hb1 hbx1 hr1
                go_wp2_with fail
                go_quiet ((go_at_call 19; exact Calls.quiet_of_same ((HW2.out _).mono fun _ _ h => ⟨h.1, h.2.symm⟩)))
                go_wp2_with fail
                go_loopw [70] (fun i wr => ∃ (j : Nat) (m : Int), i = .int .i64 j ∧ j ≤ kn ∧ 0 ≤ m ∧ m ≤ 8000 ∧ gtreesB g.temps g.locs.length p.globs.length (ks.drop j) m = gtreesB g.temps g.locs.length p.globs.length ks n ∧ ARow wr ab a m ∧ Wr (fun k => k = ab) w wr) (fun i _ => kn - (intOf i).toNat)
                case atStart => exact ⟨0, n, rfl, by omega, hn0, hn1, rfl, HR.out.below (below_drewN HB1.out _), Wr.of_below (below_drewN HB1.out _)⟩
                case round =>
                  obtain ⟨j, m, rfl, hj, hm0, hm1, heq, hrm, hwr⟩ := hrel
                  have HEQ := Lib.hid heq
                  have HWR := Lib.hid hwr
                  have hzw := hwr.size
                  have hBw : Below B w wr := hwr.below hB (fun k hk => by omega)
                  by_cases hlt : j < kn
                  · obtain ⟨b, off, k, u0, u1, u2, rfl, hb, hk1, k0, k1, k2, ht⟩ := (HK.out.below hBw (Nat.le_refl _)).get hlt
                    obtain ⟨a0, b0, A1, n1, c1, rfl, rfl, rfl⟩ := ht.shape0
                    have HC := Lib.hid (gtree_any a ab m k B (wr.alloc (.cells #[.int .i64 a0, .int .i64 b0, .slice A1 n1 c1] 62)) _ _ _ (by simp; omega) (ht.below ((below1 wr _).mono (by omega)) (Nat.le_refl _)) (hrm.below (below1 wr _)) hm0 (by omega))
                    rw [HA.out.temps, HA.out.nl, HA.out.ng] at HC
                    have HK1 := Lib.hid hk1
                    have hjl : (j : Int) < (kn : Int) := by omega
                    have hbl : b < wr.heap.size := by omega
                    have habl : ab < wr.heap.size := by omega
                    clear hk1 ht heq hwr hrm hBw
                    cases hg1 : (gtreeB g.temps g.locs.length p.globs.length m k).1 with
                    | true =>
                      have HG := Lib.hid hg1
                      have hbd := gtreeB_bd hg1 hm0
                      simp only [AskSays] at HC
                      rw [hg1] at HC
                      clear hg1
                      go_wp2_with fail
                      refine HC.out.mono ?_
                      rintro e w3 ⟨rfl, hr3, hw3⟩
                      have HR3 := Lib.hid hr3
                      have HW3 := Lib.hid ((HWR.out.trans (Wr.of_below (F := fun _ => False) (below1 wr (.cells #[.int .i64 a0, .int .i64 b0, .slice A1 n1 c1] 62))) (fun _ h => h.elim)).trans hw3 (fun _ h => Or.inl h))
                      clear hr3 hw3
                      go_wp2_with fail
                      go_roundw
                      case rel => exact ⟨j + 1, (gtreeB g.temps g.locs.length p.globs.length m k).2, by go_num, by omega, hbd.1, hbd.2, by have h9 := HEQ.out; rw [drop_of HK1.out, gtreesB, if_pos HG.out] at h9; exact h9, HR3.out, HW3.out⟩
                      case measure => simp [intOf]; omega
                    | false =>
                      have HG := Lib.hid hg1
                      simp only [AskSays] at HC
                      rw [hg1] at HC
                      clear hg1
                      go_wp2_with fail
                      refine HC.out.mono ?_
                      rintro e w3 ⟨rfl, hr3, hw3⟩
                      have HR3 := Lib.hid hr3
                      have HW3 := Lib.hid ((HWR.out.trans (Wr.of_below (F := fun _ => False) (below1 wr (.cells #[.int .i64 a0, .int .i64 b0, .slice A1 n1 c1] 62))) (fun _ h => h.elim)).trans hw3 (fun _ h => Or.inl h))
                      clear hr3 hw3
                      go_wp2_with fail
                      refine HQ.out _ _ _ ?_
                      have hfin : gtreesB g.temps g.locs.length p.globs.length ks n = (false, (gtreeB g.temps g.locs.length p.globs.length m k).2) := by
                        rw [← HEQ.out, drop_of HK1.out, gtreesB, if_neg (by rw [HG.out]; simp)]
                      rw [hfin]
                      exact bodyPost_ret (v := .bool false) (by simp [results, Try.results29, go_sem]) rfl ⟨rfl, HR3.out, HW3.out⟩
                  · obtain rfl : j = kn := by omega
                    rw [drop_nil_of (by omega)] at HEQ
                    have HRM := Lib.hid hrm
                    clear hwr heq hrm hBw
                    go_wp2_with fail
                    refine HQ.out _ _ _ ?_
                    rw [← HEQ.out, gtreesB]
                    exact bodyPost_ret (v := .bool true) (by simp [results, Try.results29, go_sem]) rfl ⟨rfl, HRM.out, HWR.out⟩
              · clear h2
                go_enter Try.func29, Try.ntmps29
                refine wp_letter (fun Q hQ => ?_)
                have HQ := Lib.hid hQ
                clear hQ
                go_wp2_with fail
                refine HSH.out.mono ?_
                rintro e w1 ⟨rfl, hb1⟩
                have HB1 := Lib.hid ((below1 w _).trans (hb1.mono (below1 w _).size))
                have hbx1 := HBX.out.below hb1 HBX.out.lt
                have HBX1 := Lib.hid hbx1
                have x0 := hbx1.cell (j := 0) rfl
                have x1 := hbx1.cell (j := 1) rfl
                have x2 := hbx1.cell (j := 2) rfl
                have x3 := hbx1.cell (j := 3) rfl
                have x4 := hbx1.cell (j := 4) rfl
                have xl := hbx1.lt
                have hr1 := HR.out.below HB1.out
                have HR1 := Lib.hid hr1
                have r4 : w1.cell? ⟨ab, 4, none⟩ = some (.int .i64 a.temps) := Row.cell hr1 rfl
                have rl := Row.lt hr1
                clear hb1 hbx1 hr1
                go_wp2_with fail
                go_quiet ((go_at_call 19; exact Calls.quiet_of_same ((HW2.out _).mono fun _ _ h => ⟨h.1, h.2.symm⟩)))
                go_wp2_with fail
                go_loopw [70] (fun i wr => ∃ (j : Nat) (m : Int), i = .int .i64 j ∧ j ≤ kn ∧ 0 ≤ m ∧ m ≤ 8000 ∧ gtreesB g.temps g.locs.length p.globs.length (ks.drop j) m = gtreesB g.temps g.locs.length p.globs.length ks n ∧ ARow wr ab a m ∧ Wr (fun k => k = ab) w wr) (fun i _ => kn - (intOf i).toNat)
                case atStart => exact ⟨0, n, rfl, by omega, hn0, hn1, rfl, HR.out.below (below_drewN HB1.out _), Wr.of_below (below_drewN HB1.out _)⟩
                case round =>
                  obtain ⟨j, m, rfl, hj, hm0, hm1, heq, hrm, hwr⟩ := hrel
                  have HEQ := Lib.hid heq
                  have HWR := Lib.hid hwr
                  have hzw := hwr.size
                  have hBw : Below B w wr := hwr.below hB (fun k hk => by omega)
                  by_cases hlt : j < kn
                  · obtain ⟨b, off, k, u0, u1, u2, rfl, hb, hk1, k0, k1, k2, ht⟩ := (HK.out.below hBw (Nat.le_refl _)).get hlt
                    obtain ⟨a0, b0, A1, n1, c1, rfl, rfl, rfl⟩ := ht.shape0
                    have HC := Lib.hid (gtree_any a ab m k B (wr.alloc (.cells #[.int .i64 a0, .int .i64 b0, .slice A1 n1 c1] 62)) _ _ _ (by simp; omega) (ht.below ((below1 wr _).mono (by omega)) (Nat.le_refl _)) (hrm.below (below1 wr _)) hm0 (by omega))
                    rw [HA.out.temps, HA.out.nl, HA.out.ng] at HC
                    have HK1 := Lib.hid hk1
                    have hjl : (j : Int) < (kn : Int) := by omega
                    have hbl : b < wr.heap.size := by omega
                    have habl : ab < wr.heap.size := by omega
                    clear hk1 ht heq hwr hrm hBw
                    cases hg1 : (gtreeB g.temps g.locs.length p.globs.length m k).1 with
                    | true =>
                      have HG := Lib.hid hg1
                      have hbd := gtreeB_bd hg1 hm0
                      simp only [AskSays] at HC
                      rw [hg1] at HC
                      clear hg1
                      go_wp2_with fail
                      refine HC.out.mono ?_
                      rintro e w3 ⟨rfl, hr3, hw3⟩
                      have HR3 := Lib.hid hr3
                      have HW3 := Lib.hid ((HWR.out.trans (Wr.of_below (F := fun _ => False) (below1 wr (.cells #[.int .i64 a0, .int .i64 b0, .slice A1 n1 c1] 62))) (fun _ h => h.elim)).trans hw3 (fun _ h => Or.inl h))
                      clear hr3 hw3
                      go_wp2_with fail
                      go_roundw
                      case rel => exact ⟨j + 1, (gtreeB g.temps g.locs.length p.globs.length m k).2, by go_num, by omega, hbd.1, hbd.2, by have h9 := HEQ.out; rw [drop_of HK1.out, gtreesB, if_pos HG.out] at h9; exact h9, HR3.out, HW3.out⟩
                      case measure => simp [intOf]; omega
                    | false =>
                      have HG := Lib.hid hg1
                      simp only [AskSays] at HC
                      rw [hg1] at HC
                      clear hg1
                      go_wp2_with fail
                      refine HC.out.mono ?_
                      rintro e w3 ⟨rfl, hr3, hw3⟩
                      have HR3 := Lib.hid hr3
                      have HW3 := Lib.hid ((HWR.out.trans (Wr.of_below (F := fun _ => False) (below1 wr (.cells #[.int .i64 a0, .int .i64 b0, .slice A1 n1 c1] 62))) (fun _ h => h.elim)).trans hw3 (fun _ h => Or.inl h))
                      clear hr3 hw3
                      go_wp2_with fail
                      refine HQ.out _ _ _ ?_
                      have hfin : gtreesB g.temps g.locs.length p.globs.length ks n = (false, (gtreeB g.temps g.locs.length p.globs.length m k).2) := by
                        rw [← HEQ.out, drop_of HK1.out, gtreesB, if_neg (by rw [HG.out]; simp)]
                      rw [hfin]
                      exact bodyPost_ret (v := .bool false) (by simp [results, Try.results29, go_sem]) rfl ⟨rfl, HR3.out, HW3.out⟩
                  · obtain rfl : j = kn := by omega
                    rw [drop_nil_of (by omega)] at HEQ
                    have HRM := Lib.hid hrm
                    clear hwr heq hrm hBw
                    go_wp2_with fail
                    refine HQ.out _ _ _ ?_
                    rw [← HEQ.out, gtreesB]
                    exact bodyPost_ret (v := .bool true) (by simp [results, Try.results29, go_sem]) rfl ⟨rfl, HRM.out, HWR.out⟩
              · have e7 : (op != 2) = true := by simpa using h7
                have e8 : (op != 3) = true := by simpa using h8
                clear h2 h7 h8
                go_enter Try.func29, Try.ntmps29
                refine wp_letter (fun Q hQ => ?_)
                have HQ := Lib.hid hQ
                clear hQ
                go_wp2_with fail
                refine HSH.out.mono ?_
                rintro e w1 ⟨rfl, hb1⟩
                have HB1 := Lib.hid ((below1 w _).trans (hb1.mono (below1 w _).size))
                have hbx1 := HBX.out.below hb1 HBX.out.lt
                have HBX1 := Lib.hid hbx1
                have x0 := hbx1.cell (j := 0) rfl
                have x1 := hbx1.cell (j := 1) rfl
                have x2 := hbx1.cell (j := 2) rfl
                have x3 := hbx1.cell (j := 3) rfl
                have x4 := hbx1.cell (j := 4) rfl
                have xl := hbx1.lt
                have hr1 := HR.out.below HB1.out
                have HR1 := Lib.hid hr1
                have r4 : w1.cell? ⟨ab, 4, none⟩ = some (.int .i64 a.temps) := Row.cell hr1 rfl
                have rl := Row.lt hr1
                clear hb1 hbx1 hr1
                go_wp2_with fail
                go_quiet ((go_at_call 19; exact Calls.quiet_of_same ((HW2.out _).mono fun _ _ h => ⟨h.1, h.2.symm⟩)))
                go_wp2_with fail
                go_loopw [70] (fun i wr => ∃ (j : Nat) (m : Int), i = .int .i64 j ∧ j ≤ kn ∧ 0 ≤ m ∧ m ≤ 8000 ∧ gtreesB g.temps g.locs.length p.globs.length (ks.drop j) m = gtreesB g.temps g.locs.length p.globs.length ks n ∧ ARow wr ab a m ∧ Wr (fun k => k = ab) w wr) (fun i _ => kn - (intOf i).toNat)
                case atStart => exact ⟨0, n, rfl, by omega, hn0, hn1, rfl, HR.out.below (below_drewN HB1.out _), Wr.of_below (below_drewN HB1.out _)⟩
                case round =>
                  obtain ⟨j, m, rfl, hj, hm0, hm1, heq, hrm, hwr⟩ := hrel
                  have HEQ := Lib.hid heq
                  have HWR := Lib.hid hwr
                  have hzw := hwr.size
                  have hBw : Below B w wr := hwr.below hB (fun k hk => by omega)
                  by_cases hlt : j < kn
                  · obtain ⟨b, off, k, u0, u1, u2, rfl, hb, hk1, k0, k1, k2, ht⟩ := (HK.out.below hBw (Nat.le_refl _)).get hlt
                    obtain ⟨a0, b0, A1, n1, c1, rfl, rfl, rfl⟩ := ht.shape0
                    have HC := Lib.hid (gtree_any a ab m k B (wr.alloc (.cells #[.int .i64 a0, .int .i64 b0, .slice A1 n1 c1] 62)) _ _ _ (by simp; omega) (ht.below ((below1 wr _).mono (by omega)) (Nat.le_refl _)) (hrm.below (below1 wr _)) hm0 (by omega))
                    rw [HA.out.temps, HA.out.nl, HA.out.ng] at HC
                    have HK1 := Lib.hid hk1
                    have hjl : (j : Int) < (kn : Int) := by omega
                    have hbl : b < wr.heap.size := by omega
                    have habl : ab < wr.heap.size := by omega
                    clear hk1 ht heq hwr hrm hBw
                    cases hg1 : (gtreeB g.temps g.locs.length p.globs.length m k).1 with
                    | true =>
                      have HG := Lib.hid hg1
                      have hbd := gtreeB_bd hg1 hm0
                      simp only [AskSays] at HC
                      rw [hg1] at HC
                      clear hg1
                      go_wp2_with fail
                      refine HC.out.mono ?_
                      rintro e w3 ⟨rfl, hr3, hw3⟩
                      have HR3 := Lib.hid hr3
                      have HW3 := Lib.hid ((HWR.out.trans (Wr.of_below (F := fun _ => False) (below1 wr (.cells #[.int .i64 a0, .int .i64 b0, .slice A1 n1 c1] 62))) (fun _ h => h.elim)).trans hw3 (fun _ h => Or.inl h))
                      clear hr3 hw3
                      go_wp2_with fail
                      go_roundw
                      case rel => exact ⟨j + 1, (gtreeB g.temps g.locs.length p.globs.length m k).2, by go_num, by omega, hbd.1, hbd.2, by have h9 := HEQ.out; rw [drop_of HK1.out, gtreesB, if_pos HG.out] at h9; exact h9, HR3.out, HW3.out⟩
                      case measure => simp [intOf]; omega
                    | false =>
                      have HG := Lib.hid hg1
                      simp only [AskSays] at HC
                      rw [hg1] at HC
                      clear hg1
                      go_wp2_with fail
                      refine HC.out.mono ?_
                      rintro e w3 ⟨rfl, hr3, hw3⟩
                      have HR3 := Lib.hid hr3
                      have HW3 := Lib.hid ((HWR.out.trans (Wr.of_below (F := fun _ => False) (below1 wr (.cells #[.int .i64 a0, .int .i64 b0, .slice A1 n1 c1] 62))) (fun _ h => h.elim)).trans hw3 (fun _ h => Or.inl h))
                      clear hr3 hw3
                      go_wp2_with fail
                      refine HQ.out _ _ _ ?_
                      have hfin : gtreesB g.temps g.locs.length p.globs.length ks n = (false, (gtreeB g.temps g.locs.length p.globs.length m k).2) := by
                        rw [← HEQ.out, drop_of HK1.out, gtreesB, if_neg (by rw [HG.out]; simp)]
                      rw [hfin]
                      exact bodyPost_ret (v := .bool false) (by simp [results, Try.results29, go_sem]) rfl ⟨rfl, HR3.out, HW3.out⟩
                  · obtain rfl : j = kn := by omega
                    rw [drop_nil_of (by omega)] at HEQ
                    have HRM := Lib.hid hrm
                    clear hwr heq hrm hBw
                    go_wp2_with fail
                    refine HQ.out _ _ _ ?_
                    rw [← HEQ.out, gtreesB]
                    exact bodyPost_ret (v := .bool true) (by simp [results, Try.results29, go_sem]) rfl ⟨rfl, HRM.out, HWR.out⟩
        · have e3 : (to != -1) = true := by simpa using h3
          have HW2 := Lib.hid (show ∀ W, Calls Try.prog 19 #[.int .i64 to, .int .i64 a.temps] W fun e w' => e = .returned (.bool (decide (0 ≤ to ∧ to < a.temps))) ∧ W = w' from fun W => gwithin_any to a.temps W)
          rw [show gstepB p g n ⟨op, to, size, fn, ks⟩ = (false, n) from by unfold gstepB; rw [if_pos (show gbadA p g ⟨op, to, size, fn, ks⟩ from by unfold gbadA; rw [hsh]; exact Or.inr (Or.inr (Or.inr ⟨rfl, h3⟩)))]]
          clear h2 h2' h3
          go_enter Try.func29, Try.ntmps29
          refine wp_letter (fun Q hQ => ?_)
          have HQ := Lib.hid hQ
          clear hQ
          go_wp2_with fail
          refine HSH.out.mono ?_
          rintro e w1 ⟨rfl, hb1⟩
          have HB1 := Lib.hid ((below1 w _).trans (hb1.mono (below1 w _).size))
          have hbx1 := HBX.out.below hb1 HBX.out.lt
          have HBX1 := Lib.hid hbx1
          have x0 := hbx1.cell (j := 0) rfl
          have x1 := hbx1.cell (j := 1) rfl
          have x2 := hbx1.cell (j := 2) rfl
          have x3 := hbx1.cell (j := 3) rfl
          have x4 := hbx1.cell (j := 4) rfl
          have xl := hbx1.lt
          have hr1 := HR.out.below HB1.out
          have HR1 := Lib.hid hr1
          have r4 : w1.cell? ⟨ab, 4, none⟩ = some (.int .i64 a.temps) := Row.cell hr1 rfl
          have rl := Row.lt hr1
          clear hb1 hbx1 hr1
          go_wp2_with fail
          go_quiet ((go_at_call 19; exact Calls.quiet_of_same ((HW2.out _).mono fun _ _ h => ⟨h.1, h.2.symm⟩)))
          go_wp2_with fail
          refine HQ.out _ _ _ ?_
          exact bodyPost_ret (v := .bool false) (by simp [results, Try.results29, go_sem]) rfl ⟨rfl, HR.out.below (below_drewN HB1.out _), Wr.of_below (below_drewN HB1.out _)⟩
    · have e2 : ((kn : Int) != ar) = true := by simpa using h2
      have HW2 := Lib.hid (show ∀ W, Calls Try.prog 19 #[.int .i64 to, .int .i64 a.temps] W fun e w' => e = .returned (.bool (decide (0 ≤ to ∧ to < a.temps))) ∧ W = w' from fun W => gwithin_any to a.temps W)
      rw [show gstepB p g n ⟨op, to, size, fn, ks⟩ = (false, n) from by unfold gstepB; rw [if_pos (show gbadA p g ⟨op, to, size, fn, ks⟩ from by unfold gbadA; rw [hsh]; exact Or.inr (Or.inl (by simp only; omega)))]]
      clear h2
      go_enter Try.func29, Try.ntmps29
      refine wp_letter (fun Q hQ => ?_)
      have HQ := Lib.hid hQ
      clear hQ
      go_wp2_with fail
      refine HSH.out.mono ?_
      rintro e w1 ⟨rfl, hb1⟩
      have HB1 := Lib.hid ((below1 w _).trans (hb1.mono (below1 w _).size))
      have hbx1 := HBX.out.below hb1 HBX.out.lt
      have HBX1 := Lib.hid hbx1
      have x0 := hbx1.cell (j := 0) rfl
      have x1 := hbx1.cell (j := 1) rfl
      have x2 := hbx1.cell (j := 2) rfl
      have x3 := hbx1.cell (j := 3) rfl
      have x4 := hbx1.cell (j := 4) rfl
      have xl := hbx1.lt
      have hr1 := HR.out.below HB1.out
      have HR1 := Lib.hid hr1
      have r4 : w1.cell? ⟨ab, 4, none⟩ = some (.int .i64 a.temps) := Row.cell hr1 rfl
      have rl := Row.lt hr1
      clear hb1 hbx1 hr1
      go_wp2_with fail
      go_quiet ((go_at_call 19; exact Calls.quiet_of_same ((HW2.out _).mono fun _ _ h => ⟨h.1, h.2.symm⟩)))
      go_wp2_with fail
      refine HQ.out _ _ _ ?_
      exact bodyPost_ret (v := .bool false) (by simp [results, Try.results29, go_sem]) rfl ⟨rfl, HR.out.below (below_drewN HB1.out _), Wr.of_below (below_drewN HB1.out _)⟩
end Go.Proofs.Ytikbdplllopjlaa
