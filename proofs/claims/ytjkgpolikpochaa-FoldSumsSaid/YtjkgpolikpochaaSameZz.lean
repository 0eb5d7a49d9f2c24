/- same: whether two trees come to the same. Conditions: as stated. -/
import Derived.Test.YtjkgpolikpochaaQ09Zz
set_option linter.unusedVariables false
set_option linter.unusedSimpArgs false
namespace Go.Proofs.Ytjkgpolikpochaa
open Go.RowKit

structure BoxP (W : World) (p : Nat) (P : Value × Value × Value) : Prop where
  c0 : W.cell? ⟨p, 0, none⟩ = some P.1
  c1 : W.cell? ⟨p, 1, none⟩ = some P.2.1
  c2 : W.cell? ⟨p, 2, none⟩ = some P.2.2
  lt : p < W.heap.size

theorem arr3 {cs : Array Value} (h : cs.size = 3) : ∃ a b c, cs = #[a, b, c] := by
  obtain ⟨l⟩ := cs
  match l, h with
  | [a, b, c], _ => exact ⟨a, b, c, rfl⟩
theorem run_at {t : T} {n : Int} {W : World} {lo hi : Nat} {a b : Int} {A : Option Addr} {an ac : Nat} {P : Value × Value × Value} {g : Nat} (hP : PrgRows W lo hi a b A an ac P) (hT : TreeAt W (Under W.heap.size) t (.int .i64 a) (.int .i64 b) (.slice A an ac)) (hw : (withC 2 2 2 t).2 = true) (hn : In64 n) (hg : g < W.heap.size) (hc : W.cell? ⟨g, 0, none⟩ = some (.int .i64 n)) :
    Calls Try.prog 32 #[.agg #[P.1, P.2.1, P.2.2], .slice (some ⟨g, 0, none⟩) 1 1, .int .i64 100] W fun e w' => RunSays (outOf n t) W.heap.size W e w' := by
  rw [← run_prog]
  refine run_any W.heap.size P 100 (progOf t) [n] _ 0 2 (graphOf t) W (Nat.le_refl _) (hP.progV hT) ⟨_, _, rfl, by simp, by omega, fun _ => ⟨g, 0, rfl, hg, fun j x hj => ?_⟩⟩ (main_ok hw) (by omega) (by omega)
  rcases j with _ | j
  · simp at hj
    subst hj
    exact ⟨hc, hn⟩
  · simp at hj

set_option maxRecDepth 100000 in
set_option maxHeartbeats 8000000 in
theorem same_any (t x : T) (n : Int) (B : Nat) (w : World) (v0 v1 v2 u0 u1 u2 : Value) (hB : B ≤ w.heap.size) (hv : TreeAt w (Under B) t v0 v1 v2) (hu : TreeAt w (Under B) x u0 u1 u2) (hnn : In64 n) (hwx : (withC 2 2 2 t).2 = true → (withC 2 2 2 x).2 = true) (hout : (withC 2 2 2 t).2 = true → (outOf n t).kind = 1 → outOf n x = outOf n t) :
    Calls Try.prog 17 #[.agg #[v0, v1, v2], .agg #[u0, u1, u2], .int .i64 n] w fun e w' => e = .returned (.bool true) ∧ Below w.heap.size w w' := by
  obtain ⟨a, b, A, an, ac, rfl, rfl, rfl⟩ := hv.shape0
  obtain ⟨a', b', A', an', ac', rfl, rfl, rfl⟩ := hu.shape0
  have HV := Lib.hid hv
  have HU := Lib.hid hu
  clear hv hu
  go_enter Try.func17, Try.ntmps17
  refine wp_letter (fun Q hQ => ?_)
  have HQ := Lib.hid hQ
  clear hQ
  go_upto_region 1 with fail
  refine wp_region_inv (by kernel_rfl) (fun L act W => L.size = 8 ∧ ∃ (y7 y8 y10 y11 y12 y13 : Value) (lo1 hi1 lo2 hi2 p7 p8 : Nat) (P1 P2 : Value × Value × Value), act = ⟨#[Value.agg #[.int .i64 a, .int .i64 b, .slice A an ac], .agg #[.int .i64 a', .int .i64 b', .slice A' an' ac'], .int .i64 n, .pointer (some ⟨w.heap.size, 0, none⟩), .pointer (some ⟨w.heap.size + 1, 0, none⟩), undef, .bool false, y7, y8, undef, y10, y11, y12, y13, undef, undef, undef, undef, undef, undef, undef, undef, undef, undef, undef, undef, undef, undef, undef, undef, undef, undef, undef, undef, undef], []⟩ ∧ SJ w a b A an ac a' b' A' an' ac' L y7 y8 y10 y11 y12 y13 lo1 hi1 lo2 hi2 p7 p8 P1 P2 W) ?_ ?_ ?_
  · exact ⟨by simp, undef, undef, undef, undef, undef, undef, 0, 0, 0, 0, 0, 0, (undef, undef, undef), (undef, undef, undef), rfl, SJ.start _ (((Row.new _ _ _).alloc _).drew) ((Row.new' _ _ (by simp)).drew) (below2 _ _ _).drew⟩
  · rintro L act W i hi ⟨hsz, y7, y8, y10, y11, y12, y13, lo1, hi1, lo2, hi2, p7, p8, P1, P2, rfl, hJ⟩
    obtain ⟨hn, o, ho, hall⟩ := mem_ready.1 hi
    have hil : i < 8 := by
      rcases Nat.lt_or_ge i 8 with h | h
      · exact h
      · rw [Array.getElem?_eq_none (by simpa using h)] at ho; cases ho
    have HJ := Lib.hid hJ
    clear hJ hi
    rcases i with _ | _ | _ | _ | _ | _ | _ | _ | i
    · refine wpOp_plain rfl rfl (fun K hK => ?_)
      have c0 := HJ.out.r0.cell (j := 0) rfl
      have c1 := HJ.out.r0.cell (j := 1) rfl
      have c2 := HJ.out.r0.cell (j := 2) rfl
      go_simp
      exact hK _ _ ⟨by simp [hsz], _, _, _, _, _, _, _, _, _, _, _, _, _, _, rfl, HJ.out.load0⟩
    · simp at ho
      subst ho
      have hd := hall { on := 0, ground := Ground.data } (by simp) rfl
      obtain rfl := HJ.out.l0 hd
      refine wpOp_plain rfl rfl (fun K hK => ?_)
      go_simp
      refine (prgOf_any _ _ _ _ _ _).mono ?_
      rintro e w1 ⟨P, rfl, hP, hb⟩
      obtain ⟨A0, n0, c0, A1, n1, c1, rfl⟩ := hP.shape
      go_simp
      exact hK _ _ ⟨by simp [hsz], _, _, _, _, _, _, _, _, _, _, _, _, _, _, rfl, HJ.out.call1 hsz hn hb hP⟩
    · refine wpOp_plain rfl rfl (fun K hK => ?_)
      have c0 := HJ.out.r1.cell (j := 0) rfl
      have c1 := HJ.out.r1.cell (j := 1) rfl
      have c2 := HJ.out.r1.cell (j := 2) rfl
      go_simp
      exact hK _ _ ⟨by simp [hsz], _, _, _, _, _, _, _, _, _, _, _, _, _, _, rfl, HJ.out.load2 hsz⟩
    · simp at ho
      subst ho
      have hd := hall { on := 2, ground := Ground.data } (by simp) rfl
      obtain rfl := HJ.out.l2 hd
      refine wpOp_plain rfl rfl (fun K hK => ?_)
      go_simp
      refine (prgOf_any _ _ _ _ _ _).mono ?_
      rintro e w1 ⟨P, rfl, hP, hb⟩
      obtain ⟨A0, n0, c0, A1, n1, c1, rfl⟩ := hP.shape
      go_simp
      exact hK _ _ ⟨by simp [hsz], _, _, _, _, _, _, _, _, _, _, _, _, _, _, rfl, HJ.out.call3 hsz hn hb hP⟩
    · refine wpOp_plain rfl rfl (fun K hK => ?_)
      go_simp
      exact hK _ _ ⟨by simp [hsz], _, _, _, _, _, _, _, _, _, _, _, _, _, _, rfl, HJ.out.alloc4 hsz hn (below1 _ _) (Row.new _ _ _)⟩
    · refine wpOp_plain rfl rfl (fun K hK => ?_)
      go_simp
      exact hK _ _ ⟨by simp [hsz], _, _, _, _, _, _, _, _, _, _, _, _, _, _, rfl, HJ.out.alloc5 hsz hn (below1 _ _) (Row.new _ _ _)⟩
    · simp at ho
      subst ho
      have hd1 := hall { on := 1, ground := Ground.data } (by simp) rfl
      have hd2 := hall { on := 4, ground := Ground.data } (by simp) rfl
      obtain ⟨rfl, hr, _⟩ := HJ.out.c1 hd1
      obtain ⟨rfl, _, _, cs, hrow, hcs, _⟩ := HJ.out.a4 hd2
      obtain ⟨A0, n0, c0, A1, n1, c1, rfl⟩ := hr.shape
      obtain ⟨e0, e1, e2, rfl⟩ := arr3 hcs
      have q0 := hrow.cell (j := 0) rfl
      have q1 := hrow.cell (j := 1) rfl
      have q2 := hrow.cell (j := 2) rfl
      have f0 := hrow.free 0
      have f1 := hrow.free 1
      have f2 := hrow.free 2
      have HROW := Lib.hid hrow
      clear hr hrow hcs
      refine wpOp_plain rfl rfl (fun K hK => ?_)
      go_simp
      exact hK _ _ ⟨by simp [hsz], _, _, _, _, _, _, _, _, _, _, _, _, _, _, rfl, HJ.out.store6 hsz hd1 hd2 ((((Wr.refl (fun i => i = p7) W).setR p7 _ _ (Or.inl rfl)).setR p7 _ _ (Or.inl rfl)).setR p7 _ _ (Or.inl rfl)) (((HROW.out.set 0 _).set 1 _).set 2 _)⟩
    · simp at ho
      subst ho
      have hd1 := hall { on := 3, ground := Ground.data } (by simp) rfl
      have hd2 := hall { on := 5, ground := Ground.data } (by simp) rfl
      obtain ⟨rfl, hr, _⟩ := HJ.out.c3 hd1
      obtain ⟨rfl, _, _, cs, hrow, hcs, _⟩ := HJ.out.a5 hd2
      obtain ⟨A0, n0, c0, A1, n1, c1, rfl⟩ := hr.shape
      obtain ⟨e0, e1, e2, rfl⟩ := arr3 hcs
      have q0 := hrow.cell (j := 0) rfl
      have q1 := hrow.cell (j := 1) rfl
      have q2 := hrow.cell (j := 2) rfl
      have f0 := hrow.free 0
      have f1 := hrow.free 1
      have f2 := hrow.free 2
      have HROW := Lib.hid hrow
      clear hr hrow hcs
      refine wpOp_plain rfl rfl (fun K hK => ?_)
      go_simp
      exact hK _ _ ⟨by simp [hsz], _, _, _, _, _, _, _, _, _, _, _, _, _, _, rfl, HJ.out.store7 hsz hd1 hd2 ((((Wr.refl (fun i => i = p8) W).setR p8 _ _ (Or.inl rfl)).setR p8 _ _ (Or.inl rfl)).setR p8 _ _ (Or.inl rfl)) (((HROW.out.set 0 _).set 1 _).set 2 _)⟩
    · omega
  · rintro L act W hr ⟨hsz, y7, y8, y10, y11, y12, y13, lo1, hi1, lo2, hi2, p7, p8, P1, P2, rfl, hJ⟩
    have t0 := flag_of (j := 0) (by omega) hr rfl (fun e he => by simp at he)
    have t1 := flag_of (j := 1) (by omega) hr rfl (fun e he => by simp at he; rcases he with rfl <;> assumption)
    have t2 := flag_of (j := 2) (by omega) hr rfl (fun e he => by simp at he)
    have t3 := flag_of (j := 3) (by omega) hr rfl (fun e he => by simp at he; rcases he with rfl | rfl <;> assumption)
    have t4 := flag_of (j := 4) (by omega) hr rfl (fun e he => by simp at he)
    have t5 := flag_of (j := 5) (by omega) hr rfl (fun e he => by simp at he)
    have t6 := flag_of (j := 6) (by omega) hr rfl (fun e he => by simp at he; rcases he with rfl | rfl | rfl | rfl | rfl | rfl | rfl | rfl | rfl <;> assumption)
    have t7 := flag_of (j := 7) (by omega) hr rfl (fun e he => by simp at he; rcases he with rfl | rfl | rfl | rfl | rfl | rfl | rfl | rfl | rfl | rfl <;> assumption)
    obtain ⟨rfl, hp1, _, _, _⟩ := hJ.c1 t1
    obtain ⟨rfl, hp2, _, _, _⟩ := hJ.c3 t3
    obtain ⟨rfl, h7, _, cs7, hr7, _, hc7⟩ := hJ.a4 t4
    obtain ⟨rfl, h8, _, cs8, hr8, _, hc8⟩ := hJ.a5 t5
    obtain rfl := hc7 t6
    obtain rfl := hc8 t7
    have HP1 := Lib.hid hp1
    have HP2 := Lib.hid hp2
    have HR7 := Lib.hid hr7
    have HR8 := Lib.hid hr8
    have HBW := Lib.hid hJ.below
    obtain ⟨A0, n0, c0, A1, n1, c1, rfl⟩ := hp1.shape
    obtain ⟨A2, n2, c2, A3, n3, c3, rfl⟩ := hp2.shape
    obtain rfl := hJ.l0 t0
    obtain rfl := hJ.l2 t2
    have x0 := hr7.cell (j := 0) rfl
    have x1 := hr7.cell (j := 1) rfl
    have x2 := hr7.cell (j := 2) rfl
    clear hJ hp1 hp2 hr7 hr8 hc7 hc8 hr t0 t1 t2 t3 t4 t5 t6 t7
    go_wp2_with fail
    have y0 := HR8.out.cell (j := 0) rfl
    have y1 := HR8.out.cell (j := 1) rfl
    have y2 := HR8.out.cell (j := 2) rfl
    have HWP := Lib.hid (HP1.out.progV (HV.out.below (HBW.out.mono hB) (Nat.le_trans hB HBW.out.size)))
    have HXP := Lib.hid (HP2.out.progV (HU.out.below (HBW.out.mono hB) (Nat.le_trans hB HBW.out.size)))
    refine (progOf_any t _ _ _ (Nat.le_refl _) HWP.out).mono ?_
    rintro e W1 ⟨rfl, hb1⟩
    have HB1 := Lib.hid hb1
    clear hb1
    obtain ⟨q1, hq1⟩ : ∃ q, q = (withC 2 2 2 t).2 := ⟨_, rfl⟩
    rw [← hq1]
    have HQ1 := Lib.hid hq1
    clear hq1
    have z0 := cell_below y0 HB1.out (by assumption)
    have z1 := cell_below y1 HB1.out (by assumption)
    have z2 := cell_below y2 HB1.out (by assumption)
    clear x0 x1 x2 y0 y1 y2
    cases q1 with
    | false =>
      go_wp2_with fail
      refine HQ.out _ _ _ ?_
      refine bodyPost_ret (v := .bool true) (by simp [results, Try.results17, go_sem]) rfl ⟨rfl, HBW.out.trans (HB1.out.mono HBW.out.size)⟩
    | true =>
      go_wp2_with fail
      have HP3 := Lib.hid (HP1.out.wr (F := fun _ => False) (Wr.of_below HB1.out) (fun _ h => h.elim))
      have HP4 := Lib.hid (HP2.out.wr (F := fun _ => False) (Wr.of_below HB1.out) (fun _ h => h.elim))
      have HBX := Lib.hid (HBW.out.trans (HB1.out.mono HBW.out.size))
      have HXP1 := Lib.hid (HP4.out.progV (HU.out.below (HBX.out.mono hB) (Nat.le_trans hB HBX.out.size)))
      refine (progOf_any x _ _ _ (Nat.le_refl _) HXP1.out).mono ?_
      rintro e W2 ⟨rfl, hb2⟩
      rw [hwx HQ1.out.symm]
      have HB2 := Lib.hid hb2
      have w0 := cell_below (cell_below (HR7.out.cell (j := 0) rfl) HB1.out (by assumption)) HB2.out (Nat.lt_of_lt_of_le (by assumption) HB1.out.size)
      have w1 := cell_below (cell_below (HR7.out.cell (j := 1) rfl) HB1.out (by assumption)) HB2.out (Nat.lt_of_lt_of_le (by assumption) HB1.out.size)
      have w2 := cell_below (cell_below (HR7.out.cell (j := 2) rfl) HB1.out (by assumption)) HB2.out (Nat.lt_of_lt_of_le (by assumption) HB1.out.size)
      clear hb2 z0 z1 z2
      go_wp2_with fail
      have HBY := Lib.hid ((HBX.out.trans (HB2.out.mono HBX.out.size)).trans ((below1 W2 (Obj.cells #[Value.int IntKind.i64 n] 2)).mono (HBX.out.trans (HB2.out.mono HBX.out.size)).size))
      have HP5 := Lib.hid ((HP3.out.wr (F := fun _ => False) (Wr.of_below HB2.out) (fun _ h => h.elim)).wr (F := fun _ => False) (Wr.of_below (below1 W2 (Obj.cells #[Value.int IntKind.i64 n] 2))) (fun _ h => h.elim))
      have HP6 := Lib.hid ((HP4.out.wr (F := fun _ => False) (Wr.of_below HB2.out) (fun _ h => h.elim)).wr (F := fun _ => False) (Wr.of_below (below1 W2 (Obj.cells #[Value.int IntKind.i64 n] 2))) (fun _ h => h.elim))
      refine (run_at HP5.out (HV.out.below (HBY.out.mono hB) (Nat.le_trans hB HBY.out.size)) HQ1.out.symm hnn (by simp) (by simp [go_sem])).mono ?_
      rintro e W3 ⟨ov, rfl, hov, hb3⟩
      obtain ⟨OA, oc, rfl⟩ : ∃ A c, ov = .slice A (outOf n t).out.length c := (by obtain ⟨_, h | ⟨g, c, cur, h, _⟩⟩ := hov; exact ⟨none, 0, by rw [h.1, h.2]⟩; exact ⟨_, _, h⟩)
      have HB3 := Lib.hid hb3
      have HOV := Lib.hid hov
      clear hb3 hov
      go_wp2_with fail
      by_cases hk : (outOf n t).kind = 1
      · have hk2 : ((outOf n t).kind != 1) = false := by simpa using hk
        have hz1 := HB1.out.size
        have hz2 := HB2.out.size
        have hz3 := HB3.out.size
        have hz4 : W2.heap.size < W3.heap.size := by simp at hz3; omega
        have up : ∀ {j : Nat} {y : Value}, W.cell? ⟨p8, j, none⟩ = some y → W3.cell? ⟨p8, j, none⟩ = some y := fun h => cell_below (cell_below (cell_below (cell_below h HB1.out (by assumption)) HB2.out (by show p8 < _; omega)) (below1 _ _) (by show p8 < _; omega)) HB3.out (by show p8 < _; simp; omega)
        have k0 := up (HR8.out.cell (j := 0) rfl)
        have k1 := up (HR8.out.cell (j := 1) rfl)
        have k2 := up (HR8.out.cell (j := 2) rfl)
        clear up
        have kb : ∀ (W' : World) (b j : Nat) (y : Value), W3.cell? ⟨b, j, none⟩ = some y → Below (W3.heap.size + 1) (W3.alloc (Obj.cells #[Value.int IntKind.i64 (outOf n t).kind, Value.int IntKind.i64 (outOf n t).code, Value.slice OA (outOf n t).out.length oc, Value.int IntKind.i64 (outOf n t).steps, Value.int IntKind.i64 (outOf n t).deep] 58)) W' → b < W3.heap.size → W'.cell? ⟨b, j, none⟩ = some y := fun _ _ _ _ h hb hlt => cell_below (cell_below h (below1 _ _) hlt) hb (by omega)
        have h8 : p8 < W3.heap.size := by simp at hz3; omega
        obtain ⟨OT, hOT⟩ : ∃ o, o = outOf n t := ⟨_, rfl⟩
        have HK := Lib.hid (show OT.kind = 1 from hOT ▸ hk)
        rw [← hOT] at kb HOV ⊢
        have HOT := Lib.hid hOT
        have KB := Lib.hid kb
        clear hOT kb hk
        refine region_cl (by kernel_rfl) (LastCl OT (.slice A2 n2 c2, .slice A3 n3 c3, .int .i64 0) OA oc W3.heap.size n) (fun Y => ⟨#[Value.agg #[.int .i64 a, .int .i64 b, .slice A an ac], .agg #[.int .i64 a', .int .i64 b', .slice A' an' ac'], .int .i64 n, .pointer (some ⟨w.heap.size, 0, none⟩), .pointer (some ⟨w.heap.size + 1, 0, none⟩), undef, Y 11, .pointer (some ⟨p7, 0, none⟩), .pointer (some ⟨p8, 0, none⟩), .pointer (some ⟨W3.heap.size, 0, none⟩), .agg #[.int .i64 a, .int .i64 b, .slice A an ac], .agg #[.slice A0 n0 c0, .slice A1 n1 c1, .int .i64 0], .agg #[.int .i64 a', .int .i64 b', .slice A' an' ac'], .agg #[.slice A2 n2 c2, .slice A3 n3 c3, .int .i64 0], .agg #[.slice A0 n0 c0, .slice A1 n1 c1, .int .i64 0], .bool true, .bool false, .agg #[.slice A2 n2 c2, .slice A3 n3 c3, .int .i64 0], .bool true, .bool false, .agg #[.slice A0 n0 c0, .slice A1 n1 c1, .int .i64 0], .int .i64 n, .slice (some ⟨W2.heap.size, 0, none⟩) 1 1, .agg #[.int .i64 OT.kind, .int .i64 OT.code, .slice OA OT.out.length oc, .int .i64 OT.steps, .int .i64 OT.deep], Y 0, Y 1, Y 2, Y 3, Y 4, Y 5, Y 6, Y 7, Y 8, Y 9, Y 10], []⟩) (fun i => if i = 11 then .bool false else undef) rfl (by kernel_rfl) (fun _ _ _ _ => LastCl.mono) ?_ ?_
        · intro i o Y WW ho hb hall K hK
          have gk : W3.heap.size + 1 ≤ (W3.alloc (Obj.cells #[Value.int IntKind.i64 OT.kind, Value.int IntKind.i64 OT.code, Value.slice OA OT.out.length oc, Value.int IntKind.i64 OT.steps, Value.int IntKind.i64 OT.deep] 58)).heap.size := by simp
          have HB := Lib.hid (hb.mono gk)
          have hb0 := hb
          rcases i with _ | _ | _ | _ | _ | _ | _ | _ | _ | _ | _ | _ | i
          · simp at ho; subst ho
            clear hall
            refine wpOp_plain rfl rfl (fun K' hK' => ?_)
            go_simp
            exact hK' _ _ (hK _ _ (Below.refl _ _) rfl)
          · simp at ho; subst ho
            have d0 := hall { on := 0, ground := Ground.data } (by simp) rfl
            have e0 : Y 0 = .pointer (some ⟨W3.heap.size, 0, none⟩) := d0
            have q0 : WW.cell? ⟨W3.heap.size, 0, none⟩ = some (.int .i64 1) := cell_below (B := W3.heap.size + 1) (by simp [go_sem, HK.out]) HB.out (by omega)
            clear hall
            refine wpOp_plain rfl rfl (fun K' hK' => ?_)
            go_simp
            have hh := hK' _ _ (hK _ _ (Below.refl _ _) rfl)
            simpa [upd, e0] using hh
          · simp at ho; subst ho
            have d1 := hall { on := 1, ground := Ground.data } (by simp) rfl
            have e1 : Y 1 = .int .i64 1 := d1
            clear hall
            refine wpOp_plain rfl rfl (fun K' hK' => ?_)
            go_simp
            have hh := hK' _ _ (hK _ _ (Below.refl _ _) rfl)
            simpa [upd, e1] using hh
          · simp at ho; subst ho
            have d2 := hall { on := 2, ground := Ground.data } (by simp) rfl
            have e2 : Y 2 = .bool false := d2
            clear hall
            refine wpOp_plain rfl rfl (fun K' hK' => ?_)
            go_simp
            have hh := hK' _ _ (hK _ _ (Below.refl _ _) rfl)
            simpa [upd, e2] using hh
          · simp at ho; subst ho
            have d3 := hall { on := 3, ground := Ground.guard } (by simp) rfl
            clear hall
            have e3 : Y 3 = .bool false := d3
            refine wpOp_wanted rfl (by simp [Region.wanted, yielded, e3]) (fun K' hK' => ?_)
            have q0 : WW.cell? ⟨W3.heap.size, 0, none⟩ = some (.int .i64 OT.kind) := cell_below (B := W3.heap.size + 1) (by simp [go_sem]) HB.out (by omega)
            have q1 : WW.cell? ⟨W3.heap.size, 1, none⟩ = some (.int .i64 OT.code) := cell_below (B := W3.heap.size + 1) (by simp [go_sem]) HB.out (by omega)
            have q2 : WW.cell? ⟨W3.heap.size, 2, none⟩ = some (.slice OA OT.out.length oc) := cell_below (B := W3.heap.size + 1) (by simp [go_sem]) HB.out (by omega)
            have q3 : WW.cell? ⟨W3.heap.size, 3, none⟩ = some (.int .i64 OT.steps) := cell_below (B := W3.heap.size + 1) (by simp [go_sem]) HB.out (by omega)
            have q4 : WW.cell? ⟨W3.heap.size, 4, none⟩ = some (.int .i64 OT.deep) := cell_below (B := W3.heap.size + 1) (by simp [go_sem]) HB.out (by omega)
            go_simp
            have hh := hK' _ _ (hK _ _ (Below.refl _ _) rfl)
            simpa [upd, e3] using hh
          · simp at ho; subst ho
            have d3 := hall { on := 3, ground := Ground.guard } (by simp) rfl
            clear hall
            have e3 : Y 3 = .bool false := d3
            refine wpOp_wanted rfl (by simp [Region.wanted, yielded, e3]) (fun K' hK' => ?_)
            have q0 := KB.out WW _ _ _ k0 HB.out h8
            have q1 := KB.out WW _ _ _ k1 HB.out h8
            have q2 := KB.out WW _ _ _ k2 HB.out h8
            go_simp
            have hh := hK' _ _ (hK _ _ (Below.refl _ _) rfl)
            simpa [upd, e3] using hh
          · simp at ho; subst ho
            have d3 := hall { on := 3, ground := Ground.guard } (by simp) rfl
            clear hall
            have e3 : Y 3 = .bool false := d3
            refine wpOp_wanted rfl (by simp [Region.wanted, yielded, e3]) (fun K' hK' => ?_)
            go_simp
            have hh := hK' _ _ (hK _ _ (Below.refl _ _) rfl)
            simpa [upd, e3] using hh
          · simp at ho; subst ho
            have d6 := hall { on := 6, ground := Ground.data } (by simp) rfl
            have d3 := hall { on := 3, ground := Ground.guard } (by simp) rfl
            have e6 : Y 6 = .int .i64 n := d6
            clear hall
            have e3 : Y 3 = .bool false := d3
            refine wpOp_wanted rfl (by simp [Region.wanted, yielded, e3]) (fun K' hK' => ?_)
            go_simp
            have hh := hK' _ _ (hK _ _ (below1 WW (Obj.cells #[Value.int IntKind.i64 n] 2)) ⟨WW.heap.size, rfl, by simp, by simp [go_sem]⟩)
            simpa [upd, e3, e6] using hh
          · simp at ho; subst ho
            have d5 := hall { on := 5, ground := Ground.data } (by simp) rfl
            have d7 := hall { on := 7, ground := Ground.data } (by simp) rfl
            have d3 := hall { on := 3, ground := Ground.guard } (by simp) rfl
            have e5 : Y 5 = .agg #[.slice A2 n2 c2, .slice A3 n3 c3, .int .i64 0] := d5
            obtain ⟨g7, e7, hg7, hc7⟩ := d7
            clear hall
            have e3 : Y 3 = .bool false := d3
            refine wpOp_wanted rfl (by simp [Region.wanted, yielded, e3]) (fun K' hK' => ?_)
            go_simp
            have HZ := Lib.hid (HB3.out.trans ((below1 W3 (Obj.cells #[Value.int IntKind.i64 OT.kind, Value.int IntKind.i64 OT.code, Value.slice OA OT.out.length oc, Value.int IntKind.i64 OT.steps, Value.int IntKind.i64 OT.deep] 58)).mono HB3.out.size))
            have HZ2 := Lib.hid (HZ.out.trans (HB.out.mono (by simp at hz3 ⊢; omega)))
            have HBZ := Lib.hid (HBY.out.trans (HZ2.out.mono HBY.out.size))
            have HP7 := Lib.hid (HP6.out.wr (F := fun _ => False) (Wr.of_below HZ2.out) (fun _ h => h.elim))
            refine (run_at HP7.out (HU.out.below (HBZ.out.mono hB) (Nat.le_trans hB HBZ.out.size)) (hwx HQ1.out.symm) hnn hg7 hc7).mono ?_
            rintro e W5 ⟨ov5, rfl, hov5, hb5⟩
            have hxt := hout HQ1.out.symm (by rw [← HOT.out]; exact HK.out)
            rw [← HOT.out] at hxt
            rw [hxt] at hov5 ⊢
            obtain ⟨OA5, oc5, rfl⟩ : ∃ A c, ov5 = .slice A OT.out.length c := (by obtain ⟨_, h | ⟨g, c, cur, h, _⟩⟩ := hov5; exact ⟨none, 0, by rw [h.1, h.2]⟩; exact ⟨_, _, h⟩)
            clear hxt
            go_simp
            have hh := hK' _ _ (hK _ _ hb5 ⟨_, _, _, rfl, hov5⟩)
            simpa [upd, e3, e5, e7] using hh
          · simp at ho; subst ho
            have d4 := hall { on := 4, ground := Ground.data } (by simp) rfl
            have d8 := hall { on := 8, ground := Ground.data } (by simp) rfl
            have d3 := hall { on := 3, ground := Ground.guard } (by simp) rfl
            have e4 : Y 4 = .agg #[.int .i64 OT.kind, .int .i64 OT.code, .slice OA OT.out.length oc, .int .i64 OT.steps, .int .i64 OT.deep] := d4
            obtain ⟨A8, c8, B8, e8, ho8⟩ := d8
            clear hall
            have e3 : Y 3 = .bool false := d3
            refine wpOp_wanted rfl (by simp [Region.wanted, yielded, e3]) (fun K' hK' => ?_)
            go_simp
            have hs9 := ownsRow_wr (ownsRow_wr HOV.out (F := fun _ => False) (Wr.of_below (below1 W3 (Obj.cells #[Value.int IntKind.i64 OT.kind, Value.int IntKind.i64 OT.code, Value.slice OA OT.out.length oc, Value.int IntKind.i64 OT.steps, Value.int IntKind.i64 OT.deep] 58))) (fun _ _ h => h)) (F := fun _ => False) (Wr.of_below hb0) (fun _ _ h => h)
            refine (eqOut_same OT _ _ _ _ WW hs9 ho8).mono ?_
            rintro e W5 ⟨rfl, hb5⟩
            go_simp
            have hh := hK' _ _ (hK _ _ hb5 rfl)
            simpa [upd, e3, e4, e8] using hh
          · simp at ho; subst ho
            have d3 := hall { on := 3, ground := Ground.data } (by simp) rfl
            have d9 := hall { on := 9, ground := Ground.data } (by simp) rfl
            have e3 : Y 3 = .bool false := d3
            have e9 : Y 9 = .bool true := d9
            clear hall
            refine wpOp_plain rfl rfl (fun K' hK' => ?_)
            go_simp
            have hh := hK' _ _ (hK _ _ (Below.refl _ _) rfl)
            simpa [upd, e3, e9] using hh
          · simp at ho; subst ho
            have d10 := hall { on := 10, ground := Ground.data } (by simp) rfl
            have e10 : Y 10 = .bool true := d10
            clear hall
            refine wpOp_plain rfl rfl (fun K' hK' => ?_)
            go_simp
            have hh := hK' _ _ (hK _ _ (Below.refl _ _) rfl)
            simpa [upd, e10] using hh
          · simp at ho
        · intro Y WW hb hc
          have e11 : Y 11 = .bool true := hc 11 (by simp)
          have hbz := HBY.out.trans (HB3.out.mono HBY.out.size)
          have HZ := Lib.hid ((hbz.alloc hbz.size (Obj.cells #[Value.int IntKind.i64 OT.kind, Value.int IntKind.i64 OT.code, Value.slice OA OT.out.length oc, Value.int IntKind.i64 OT.steps, Value.int IntKind.i64 OT.deep] 58)).trans (hb.mono (by have := hbz.size; simp; omega)))
          clear hb hc hbz
          go_wp2_with fail
          refine HQ.out _ _ _ ?_
          refine bodyPost_ret (v := .bool true) (by simp [results, Try.results17, go_sem, e11]) rfl ⟨rfl, HZ.out⟩
      · have hk2 : ((outOf n t).kind != 1) = true := by simpa using hk
        go_region
        go_wp2_with fail
        refine HQ.out _ _ _ ?_
        refine bodyPost_ret (v := .bool true) (by simp [results, Try.results17, go_sem]) rfl ⟨rfl, ?_⟩
        have hbz := HBY.out.trans (HB3.out.mono HBY.out.size)
        exact (hbz.alloc hbz.size _).drew
end Go.Proofs.Ytjkgpolikpochaa
