/- virt: an instruction: a store. Conditions: as stated. -/
import Derived.Test.YtinmgbodgecoeaaQ08Zz
import Derived.Test.YtinmgbodgecoeaaQ06Zz
set_option linter.unusedVariables false
set_option linter.unusedSimpArgs false
namespace Go.Proofs.Ytinmgbodgecoeaa
open Go.RowKit

theorem afterF_store {R : CallR} {lo : List Nat} {s : St} {tp : List V} {ma md : Nat} {b n : Int} {l : List Int} : afterF R lo s tp (stepI ⟨9, (md : Int), (ma : Int), b, n, l⟩) = match binF twoR (memBase s.mem) 12 (tp.getD ma ⟨0, 0⟩) ⟨0, b⟩ with
    | none => (false, { s with kind := 3 }, tp)
    | some va => match storeF s.mem n va (tp.getD md ⟨0, 0⟩) with
      | some M => (true, { s with mem := M }, tp)
      | none => (false, { s with kind := 3 }, tp) := by
  rw [show stepI ⟨9, (md : Int), (ma : Int), b, n, l⟩ = ⟨2, -1, n, 0, [.node 12 0 [tmpT (ma : Int), conT b], tmpT (md : Int)]⟩ from rfl]
  unfold afterF
  simp only
  rw [← evalTs_base s.mem, evalTs, evalT_two (by decide) (evalT_tmp _ _ _ _) (evalT_con _ _ _ _), evalTs_one, evalT_tmp, Int.toNat_natCast, Int.toNat_natCast]
  cases binF twoR (memBase s.mem) 12 (tp.getD ma ⟨0, 0⟩) ⟨0, b⟩ with
  | none => rfl
  | some va =>
    show actF R s tp ⟨2, -1, n, 0, _⟩ [va, tp.getD md ⟨0, 0⟩] = _
    unfold actF
    simp only [List.getD_cons_zero, List.getD_cons_succ]
    rw [if_neg (show ¬ (2 : Int) = 1 by decide), if_pos trivial]
    cases storeF s.mem n va (tp.getD md ⟨0, 0⟩) <;> rfl

set_option maxRecDepth 100000 in
set_option maxHeartbeats 8000000 in
theorem vdoes_store (base cb hb rb fb tb mb : Nat) (own : Nat → Prop) (P : Value × Value × Value) (gv bv lv : Value) (fuel : Int) (s : St) (tp : List V) (lo : List Nat) (R : CallR) (ng : Nat) (b : Int) (ma md sz : Nat) (AV : Value) (l : List Int) (w : World)
    (h : HCs w base own cb hb fuel s) (hR : VRun w rb cb hb P gv bv ng) (hF : VFrame w fb tb tp lv lo mb) (hO : VOff base own rb fb tb lv gv) (hFr : FrOk (memBase s.mem) tp lo ng) (hma : ma < tp.length) (hmd : md < tp.length) (hsz : sz = 1 ∨ sz = 2 ∨ sz = 4 ∨ sz = 8) (hb64 : In64 b) :
    Calls Try.prog 33 #[.pointer (some ⟨rb, 0, none⟩), .pointer (some ⟨fb, 0, none⟩), .agg #[.int .i64 9, .int .i64 (md : Int), .int .i64 (ma : Int), .int .i64 b, .int .i64 (sz : Int), AV]] w fun e w' => VSays base cb hb fuel fb tb mb lv lo own (afterF R lo s tp (stepI ⟨9, (md : Int), (ma : Int), b, (sz : Int), l⟩)) w e w' := by
  rw [afterF_store]
  have hbk := h.blocks
  obtain ⟨hRR, hMO, hNM⟩ := vrunR_of h hR hF
  have HAD := Lib.hid (fun W (hW : Below w.heap.size w W) => vaddr_any 9 (md : Int) b (sz : Int) AV ma rb fb (memBase s.mem) tp lo ng W (vrunR_of (h.below hW) (hR.below hW) (hF.below hW)).1 hNM hFr hma hb64)
  have hvo : VOk (memBase s.mem).length (tp.getD ma ⟨0, 0⟩) := hFr.temps _ (by rw [List.getD_eq_getElem?_getD, List.getElem?_eq_getElem hma]; exact List.getElem_mem hma)
  have hvd : VOk (memBase s.mem).length (tp.getD md ⟨0, 0⟩) := hFr.temps _ (by rw [List.getD_eq_getElem?_getD, List.getElem?_eq_getElem hmd]; exact List.getElem_mem hmd)
  obtain ⟨ra, hra⟩ : ∃ ra : Option V, ra = binF twoR (memBase s.mem) 12 (tp.getD ma ⟨0, 0⟩) ⟨0, b⟩ := ⟨_, rfl⟩
  have hrok : ∀ v, ra = some v → VOk (memBase s.mem).length v := fun v hv => bin_ok hMO hvo (VOk.num (by have := hFr.globs; omega) hb64) (hra ▸ hv)
  rw [← hra] at HAD ⊢
  have HB1 := Lib.hid (below1 w (.cells #[.int .i64 9, .int .i64 (md : Int), .int .i64 (ma : Int), .int .i64 b, .int .i64 (sz : Int), AV] 68))
  have HX0 := Lib.hid (Row.new w #[.int .i64 9, .int .i64 (md : Int), .int .i64 (ma : Int), .int .i64 b, .int .i64 (sz : Int), AV] 68)
  have HH := Lib.hid h
  have HR := Lib.hid hR
  have HF := Lib.hid hF
  have HO := Lib.hid hO
  have HBK := Lib.hid hbk
  have HVD := Lib.hid hvd
  have HROK := Lib.hid hrok
  clear h hR hF hO hFr hbk hRR hMO hNM hvo hra hvd hrok
  cases ra with
  | none =>
    go_enter Try.func33, Try.ntmps33
    refine wp_letter (fun Q hQ => ?_)
    have HQ := Lib.hid hQ
    clear hQ
    go_wp2_with fail
    refine (HAD.out _ HB1.out).mono ?_
    rintro e w3 ⟨⟨y0, y1, rfl⟩, hb3⟩
    have HB3 := Lib.hid (HB1.out.trans (hb3.mono HB1.out.size))
    have hr3 := (HR.out.below HB3.out).row
    have k0 := hr3.cell (j := 0) rfl
    have hrb3 := hr3.lt
    have hrb4 : rb < w3.heap.size + 1 := by omega
    have HSK := Lib.hid (fun W (hW : Below w3.heap.size w3 W) => stuck_hc (w := W) ((HH.out.below HB3.out).below hW))
    clear hb3 hr3
    go_wp2_with fail
    refine still_tailq 17 (by kernel_rfl) (by kernel_rfl) ?_
    simp only [List.take_succ_cons, List.take_zero, List.drop_succ_cons, List.drop_zero]
    repeat (go_big_quiet_step (fail))
    refine wpQuiet_nil ?_
    go_wp2_with fail
    refine (HSK.out _ (below1 _ _).drew).mono ?_
    rintro e w4 ⟨rfl, hH4, hw4⟩
    have HH4 := Lib.hid hH4
    have HW4 := Lib.hid ((Wr.of_below (F := fun b => own b ∨ b = tb) (HB3.out.trans ((below1 w3 (.cells #[.int .i64 y0, .int .i64 y1] 60)).drew.mono HB3.out.size))).trans hw4 (fun i hi => Or.inl (Or.inl (hi ▸ HBK.out.1))))
    clear hH4 hw4
    go_wp2_with fail
    refine HQ.out _ _ _ ?_
    exact bodyPost_ret (v := .bool false) (by simp [results, Try.results33, go_sem]) rfl ⟨rfl, own, fun _ h => h, fun _ h => Or.inl h, HH4.out, fun h => (by cases h), HW4.out⟩
  | some va =>
    obtain ⟨vd, hvd⟩ : ∃ v, tp[md]? = some v := ⟨_, List.getElem?_eq_getElem hmd⟩
    have hgd : tp.getD md ⟨0, 0⟩ = vd := by rw [List.getD_eq_getElem?_getD, hvd]; rfl
    rw [hgd] at HVD ⊢
    obtain ⟨rs, hrs⟩ : ∃ rs, rs = storeF s.mem (sz : Int) va vd := ⟨_, rfl⟩
    have HST := Lib.hid (fun (W : World) (hW : Below w.heap.size w W) => store_hc (w := W) sz va vd (HH.out.below hW) (HROK.out va rfl) HVD.out hsz)
    rw [← hrs] at HST
    show Calls _ _ _ w fun e w' => VSays base cb hb fuel fb tb mb lv lo own (match storeF s.mem (sz : Int) va vd with | some M => (true, { s with mem := M }, tp) | none => (false, { s with kind := 3 }, tp)) w e w'
    rw [← hrs]
    clear hrs hgd HROK HVD
    cases rs with
    | some M =>
      go_enter Try.func33, Try.ntmps33
      refine wp_letter (fun Q hQ => ?_)
      have HQ := Lib.hid hQ
      clear hQ
      go_wp2_with fail
      refine (HAD.out _ HB1.out).mono ?_
      rintro e w3 ⟨he, hb3⟩
      simp only [AnsV, ansV] at he
      subst he
      have HB3 := Lib.hid (HB1.out.trans (hb3.mono HB1.out.size))
      have hr3 := (HR.out.below HB3.out).row
      have k0 := hr3.cell (j := 0) rfl
      have k4 := hr3.cell (j := 4) rfl
      have hrb3 := hr3.lt
      have hrb4 : rb < w3.heap.size + 1 := by omega
      have hx3 := HX0.out.below hb3 (by simp)
      have x1 := hx3.cell (j := 1) rfl
      have x4 := hx3.cell (j := 4) rfl
      have hxl := hx3.lt
      have hF3 := HF.out.below HB3.out
      have ft := hF3.row.cell (j := 0) rfl
      have hfb3 := hF3.row.lt
      have htb3 := hF3.lt.2
      obtain ⟨cs, htr, hvi⟩ := id hF3.temps
      obtain ⟨tv0, tv1⟩ := hvi.2 md vd hvd
      have t0 := htr.cell tv0
      have t1 := htr.cell tv1
      have hfb4 : fb < w3.heap.size + 1 := by omega
      have htb4 : tb < w3.heap.size + 1 := by omega
      have htne : ¬ tb = w3.heap.size := by omega
      have hxl4 : w.heap.size < w3.heap.size + 1 := by omega
      have hm0 : (0 : Int) ≤ (md : Int) := by omega
      have hm1 : (md : Int) < (tp.length : Int) := by omega
      have htpl : (tp.length : Int) ≤ 1000000 := by have := hF3.few; omega
      have HF3 := Lib.hid hF3
      have HSTW := Lib.hid (fun W (hW : Below w3.heap.size w3 W) => HST.out W (HB3.out.trans (hW.mono HB3.out.size)))
      clear hb3 hx3 hvi tv0 tv1 htr hF3 hr3 hvd
      go_wp2_with fail
      refine still_tailq 17 (by kernel_rfl) (by kernel_rfl) ?_
      simp only [List.take_succ_cons, List.take_zero, List.drop_succ_cons, List.drop_zero]
      repeat (go_big_quiet_step (fail))
      refine wpQuiet_nil ?_
      go_wp2_with fail
      refine (HSTW.out _ (below1 _ _).drew).mono ?_
      intro e w4 hS
      simp only [StoredAt] at hS
      obtain ⟨rfl, hH4, hw4⟩ := hS
      have HH4 := Lib.hid hH4
      have HB4 := Lib.hid (HB3.out.trans ((below1 w3 (.cells #[.int .i64 va.obj, .int .i64 va.n] 60)).drew.mono HB3.out.size))
      have HF4 := Lib.hid ((HF.out.below HB4.out).wr hw4 HO.out.ofb.1 HO.out.otb.1 (fun g hg => (HO.out.olv g hg).1))
      have HW4 := Lib.hid ((Wr.of_below (F := fun b => own b ∨ b = tb) HB4.out).trans hw4 (fun i hi => Or.inl (Or.inl hi)))
      clear hH4 hw4
      go_wp2_with fail
      refine HQ.out _ _ _ ?_
      exact bodyPost_ret (v := .bool true) (by simp [results, Try.results33, go_sem]) rfl ⟨rfl, own, fun _ h => h, fun _ h => Or.inl h, HH4.out, fun _ => HF4.out, HW4.out⟩
    | none =>
      go_enter Try.func33, Try.ntmps33
      refine wp_letter (fun Q hQ => ?_)
      have HQ := Lib.hid hQ
      clear hQ
      go_wp2_with fail
      refine (HAD.out _ HB1.out).mono ?_
      rintro e w3 ⟨he, hb3⟩
      simp only [AnsV, ansV] at he
      subst he
      have HB3 := Lib.hid (HB1.out.trans (hb3.mono HB1.out.size))
      have hr3 := (HR.out.below HB3.out).row
      have k0 := hr3.cell (j := 0) rfl
      have k4 := hr3.cell (j := 4) rfl
      have hrb3 := hr3.lt
      have hrb4 : rb < w3.heap.size + 1 := by omega
      have hx3 := HX0.out.below hb3 (by simp)
      have x1 := hx3.cell (j := 1) rfl
      have x4 := hx3.cell (j := 4) rfl
      have hxl := hx3.lt
      have hF3 := HF.out.below HB3.out
      have ft := hF3.row.cell (j := 0) rfl
      have hfb3 := hF3.row.lt
      have htb3 := hF3.lt.2
      obtain ⟨cs, htr, hvi⟩ := id hF3.temps
      obtain ⟨tv0, tv1⟩ := hvi.2 md vd hvd
      have t0 := htr.cell tv0
      have t1 := htr.cell tv1
      have hfb4 : fb < w3.heap.size + 1 := by omega
      have htb4 : tb < w3.heap.size + 1 := by omega
      have htne : ¬ tb = w3.heap.size := by omega
      have hxl4 : w.heap.size < w3.heap.size + 1 := by omega
      have hm0 : (0 : Int) ≤ (md : Int) := by omega
      have hm1 : (md : Int) < (tp.length : Int) := by omega
      have htpl : (tp.length : Int) ≤ 1000000 := by have := hF3.few; omega
      have HSTW := Lib.hid (fun W (hW : Below w3.heap.size w3 W) => HST.out W (HB3.out.trans (hW.mono HB3.out.size)))
      clear hb3 hx3 hvi tv0 tv1 htr hF3 hr3 hvd
      go_wp2_with fail
      refine still_tailq 17 (by kernel_rfl) (by kernel_rfl) ?_
      simp only [List.take_succ_cons, List.take_zero, List.drop_succ_cons, List.drop_zero]
      repeat (go_big_quiet_step (fail))
      refine wpQuiet_nil ?_
      go_wp2_with fail
      refine (HSTW.out _ (below1 _ _).drew).mono ?_
      intro e w4 hS
      simp only [StoredAt] at hS
      obtain ⟨rfl, hH4, hw4⟩ := hS
      have HB4 := Lib.hid (HB3.out.trans ((below1 w3 (.cells #[.int .i64 va.obj, .int .i64 va.n] 60)).drew.mono HB3.out.size))
      have hR4 := (HR.out.below HB4.out).wr hw4 HO.out.orb.1 (fun g hg => (HO.out.ogv g hg).1)
      have j0 := hR4.row.cell (j := 0) rfl
      have jl := hR4.row.lt
      have HH4 := Lib.hid hH4
      have HW4 := Lib.hid ((Wr.of_below (F := fun b => own b ∨ b = tb) HB4.out).trans hw4 (fun i hi => Or.inl (Or.inl hi)))
      clear hH4 hw4 hR4
      go_wp2_with fail
      refine (stuck_hc HH4.out).mono ?_
      rintro e w5 ⟨rfl, hH5, hw5⟩
      have HH5 := Lib.hid hH5
      have HW5 := Lib.hid (HW4.out.trans hw5 (fun i hi => Or.inl (Or.inl (hi ▸ HBK.out.1))))
      clear hH5 hw5
      go_wp2_with fail
      refine HQ.out _ _ _ ?_
      exact bodyPost_ret (v := .bool false) (by simp [results, Try.results33, go_sem]) rfl ⟨rfl, own, fun _ h => h, fun _ h => Or.inl h, HH5.out, fun h => (by cases h), HW5.out⟩
end Go.Proofs.Ytinmgbodgecoeaa
