/- virt: a function's labels are laid. Conditions: as stated. -/
import Derived.Test.YtlenilbkifofjaaDoorQ03Zz
import Derived.Deep.QuietTactic
import Derived.BigQuiet
set_option linter.unusedVariables false
set_option linter.unusedSimpArgs false
namespace Go.Proofs.YtlenilbkifofjaaDoor
open Go.RowKit Go.Maps

/-- What 'lay' answers. -/
def LaySays (ab : Nat) (l : List InsS) (zz0 zz1 zz2 zz3 zz4 zz5 zz6 : Value) (w : World) (e : Ending) (w' : World) : Prop :=
  e = .returned (.bool (layB [] l)) ∧ ∃ mb n, w.heap.size ≤ mb ∧ n ≤ l.length ∧ Row w' ab #[zz0, zz1, zz2, zz3, zz4, zz5, zz6, .map (some mb)] 75 ∧ Wr (fun k => k = ab) w w' ∧ mb < w'.heap.size ∧ (layB [] l = true → LabM w' mb n (labO l))
set_option maxRecDepth 100000 in
set_option maxHeartbeats 16000000 in
theorem vlay_any (base ab : Nat) (l : List InsS) (BA : Option Addr) (bcap : Nat) (zz0 zz1 zz2 zz4 zz5 zz6 zz7 : Value) (w : World) (hr : Row w ab #[zz0, zz1, zz2, .slice BA l.length bcap, zz4, zz5, zz6, zz7] 75) (hl : SliceAt w base 6 (InsE w base) l (.slice BA l.length bcap)) (hab : base ≤ ab) (hlen : l.length ≤ 8000) :
    Calls Tryd.prog 62 #[.pointer (some ⟨ab, 0, none⟩)] w fun e w' => LaySays ab l zz0 zz1 zz2 (.slice BA l.length bcap) zz4 zz5 zz6 w e w' := by
  have hrl := hr.lt
  have hbs : base ≤ w.heap.size := by omega
  have hmm := @run_makeMap Tryd.prog
  have hr2 := (hr.set 7 (.map (some w.heap.size))).alloc (.map #[] 0)
  have r3 := hr.cell (j := 3) rfl
  have r7 := hr.cell (j := 7) rfl
  have f7 := hr.free 7
  have s3 := hr2.cell (j := 3) rfl
  have HR2 := Lib.hid hr2
  have HW2 := Lib.hid ((Wr.cell1 w ab 7 (.map (some w.heap.size))).allocR (.map #[] 0))
  have HM2 := Lib.hid (by simpa using LabM.made (w.setCell ⟨ab, 7, none⟩ (.map (some w.heap.size))) : LabM ((w.setCell ⟨ab, 7, none⟩ (.map (some w.heap.size))).alloc (.map #[] 0)) w.heap.size 0 (fun _ => none))
  have HL := Lib.hid hl
  clear hr hr2 hl
  go_enter Tryd.func62, Tryd.ntmps62
  refine wp_letter (fun Q hQ => ?_)
  have HQ := Lib.hid hQ
  clear hQ
  go_wp2_with fail
  go_loopw [17] (fun i wr => ∃ k n, i = .int .i64 (k : Nat) ∧ k ≤ l.length ∧ n ≤ k ∧ layB (l.take k) (l.drop k) = layB [] l ∧ Row wr ab #[zz0, zz1, zz2, .slice BA l.length bcap, zz4, zz5, zz6, .map (some w.heap.size)] 75 ∧ LabM wr w.heap.size n (labO (l.take k)) ∧ Wr (fun k => k = ab) w wr) (fun i _ => l.length - (intOf i).toNat)
  case atStart => exact ⟨0, 0, rfl, Nat.zero_le _, Nat.le_refl _, rfl, HR2.out, HM2.out.congr (fun j => rfl), HW2.out⟩
  case round =>
    obtain ⟨k, n, rfl, hk, hn, hlay, hr, hm, hw⟩ := hrel
    have HR := Lib.hid hr
    have HM := Lib.hid hm
    have HW := Lib.hid hw
    have HLAY := Lib.hid hlay
    have hzw := hw.size
    by_cases hlt : k < l.length
    · have hbw : Below base w wr := hw.below hbs (fun k hk => by have e : k = ab := hk; omega)
      obtain ⟨bb, boff, x, rfl, hbb, hbk, b0, b1, b2, b3, b4, ⟨sv, b5, hst⟩, hx0, hx1, hx2, hx3, hx4⟩ := (HL.out.below hbw (Nat.le_refl _) (fun _ _ h => h.below hbw (Nat.le_refl _))).get hlt
      simp only [Nat.add_zero] at b0 b1 b2 b3 b4 b5
      obtain ⟨SA, scap, hsv⟩ : ∃ SA scap, sv = .slice SA x.arg.length scap := (by obtain ⟨A', c', h, _⟩ := hst; exact ⟨_, _, h⟩)
      subst hsv
      have HX := Lib.hid hx4
      have hkb : (k : Int) < (l.length : Int) := by omega
      have hbbl : bb < wr.heap.size := by omega
      have hdrop := drop_cons hbk
      have htake : l.take (k + 1) = l.take k ++ [x] := take_succ_of hbk
      have hlen1 : (l.take k).length = k := by rw [List.length_take]; omega
      have HDT := Lib.hid (And.intro hdrop (And.intro htake hlen1))
      have HXW := Lib.hid (Row.new wr #[.int .i64 x.op, .int .i64 x.dst, .int .i64 x.a, .int .i64 x.b, .int .i64 x.n, .slice SA x.arg.length scap] 38)
      have HRW := Lib.hid (hr.alloc (.cells #[.int .i64 x.op, .int .i64 x.dst, .int .i64 x.a, .int .i64 x.b, .int .i64 x.n, .slice SA x.arg.length scap] 38))
      have HMW := Lib.hid (hm.below (below1 wr (.cells #[.int .i64 x.op, .int .i64 x.dst, .int .i64 x.a, .int .i64 x.b, .int .i64 x.n, .slice SA x.arg.length scap] 38)))
      have HWW := Lib.hid (hw.allocR (.cells #[.int .i64 x.op, .int .i64 x.dst, .int .i64 x.a, .int .i64 x.b, .int .i64 x.n, .slice SA x.arg.length scap] 38))
      by_cases hop : x.op = 14
      · have HOP := Lib.hid hop
        have hcase : (labI (l.take k) x.n = true) ∨ (labI (l.take k) x.n = false ∧ decide (x.n < 0) = true) ∨ (labI (l.take k) x.n = false ∧ decide (x.n < 0) = false ∧ decide (8000 ≤ x.n) = true) ∨ (labI (l.take k) x.n = false ∧ decide (x.n < 0) = false ∧ decide (8000 ≤ x.n) = false) := by
          cases labI (l.take k) x.n <;> cases decide (x.n < 0) <;> cases decide (8000 ≤ x.n) <;> simp
        clear hr hm hw hlay hbk hst hdrop htake hlen1 hbw hx0 hx1 hx2 hx3 hx4
        rcases hcase with hv | ⟨hv, e0⟩ | ⟨hv, e0, e1⟩ | ⟨hv, e0, e1⟩
        · have HV := Lib.hid hv
          have HNO := Lib.hid (show layB [] l = false by rw [← HLAY.out, HDT.out.1, layB_no HOP.out (Or.inl HV.out)])
          clear hv
          go_wp2_with fail
          obtain ⟨w1, hw1⟩ : ∃ w1, w1 = wr.alloc (.cells #[.int .i64 x.op, .int .i64 x.dst, .int .i64 x.a, .int .i64 x.b, .int .i64 x.n, .slice SA x.arg.length scap] 38) := ⟨_, rfl⟩
          rw [← hw1] at HXW HRW HMW HWW
          rw [hop] at hw1
          rw [← hw1]
          clear hw1 hop
          have x4 := HXW.out.cell (j := 4) rfl
          have xl := HXW.out.lt
          have a7 := HRW.out.cell (j := 7) rfl
          have al := HRW.out.lt
          have hlk := (HMW.out.below (Below.refl _ _).drew).look2 HX.out
          rw [labO_some, HV.out] at hlk
          refine still_allq (by kernel_rfl) (by kernel_rfl) ?_
          repeat (go_big_quiet_step (fail))
          refine wpQuiet_nil ?_
          go_wp2_with fail
          refine HQ.out _ _ _ ?_
          refine bodyPost_ret (v := .bool false) (by simp [results, Tryd.results62, go_sem]) rfl ?_
          exact ⟨by rw [HNO.out], w.heap.size, n, Nat.le_refl _, by omega, HRW.out.drew, HWW.out.drewR, by have := HMW.out.lt; simpa using this, fun h => by rw [HNO.out] at h; cases h⟩
        · have HV := Lib.hid hv
          have HNO := Lib.hid (show layB [] l = false by rw [← HLAY.out, HDT.out.1, layB_no HOP.out (Or.inr (Or.inl (by simpa using e0)))])
          clear hv
          go_wp2_with fail
          obtain ⟨w1, hw1⟩ : ∃ w1, w1 = wr.alloc (.cells #[.int .i64 x.op, .int .i64 x.dst, .int .i64 x.a, .int .i64 x.b, .int .i64 x.n, .slice SA x.arg.length scap] 38) := ⟨_, rfl⟩
          rw [← hw1] at HXW HRW HMW HWW
          rw [hop] at hw1
          rw [← hw1]
          clear hw1 hop
          have x4 := HXW.out.cell (j := 4) rfl
          have xl := HXW.out.lt
          have a7 := HRW.out.cell (j := 7) rfl
          have al := HRW.out.lt
          have hlk := (HMW.out.below (Below.refl _ _).drew).look2 HX.out
          rw [labO_some, HV.out] at hlk
          refine still_allq (by kernel_rfl) (by kernel_rfl) ?_
          repeat (go_big_quiet_step (fail))
          refine wpQuiet_nil ?_
          go_wp2_with fail
          refine HQ.out _ _ _ ?_
          refine bodyPost_ret (v := .bool false) (by simp [results, Tryd.results62, go_sem]) rfl ?_
          exact ⟨by rw [HNO.out], w.heap.size, n, Nat.le_refl _, by omega, HRW.out.drew, HWW.out.drewR, by have := HMW.out.lt; simpa using this, fun h => by rw [HNO.out] at h; cases h⟩
        · have HV := Lib.hid hv
          have HNO := Lib.hid (show layB [] l = false by rw [← HLAY.out, HDT.out.1, layB_no HOP.out (Or.inr (Or.inr (by simpa using e1)))])
          clear hv
          go_wp2_with fail
          obtain ⟨w1, hw1⟩ : ∃ w1, w1 = wr.alloc (.cells #[.int .i64 x.op, .int .i64 x.dst, .int .i64 x.a, .int .i64 x.b, .int .i64 x.n, .slice SA x.arg.length scap] 38) := ⟨_, rfl⟩
          rw [← hw1] at HXW HRW HMW HWW
          rw [hop] at hw1
          rw [← hw1]
          clear hw1 hop
          have x4 := HXW.out.cell (j := 4) rfl
          have xl := HXW.out.lt
          have a7 := HRW.out.cell (j := 7) rfl
          have al := HRW.out.lt
          have hlk := (HMW.out.below (Below.refl _ _).drew).look2 HX.out
          rw [labO_some, HV.out] at hlk
          refine still_allq (by kernel_rfl) (by kernel_rfl) ?_
          repeat (go_big_quiet_step (fail))
          refine wpQuiet_nil ?_
          go_wp2_with fail
          refine HQ.out _ _ _ ?_
          refine bodyPost_ret (v := .bool false) (by simp [results, Tryd.results62, go_sem]) rfl ?_
          exact ⟨by rw [HNO.out], w.heap.size, n, Nat.le_refl _, by omega, HRW.out.drew, HWW.out.drewR, by have := HMW.out.lt; simpa using this, fun h => by rw [HNO.out] at h; cases h⟩
        · have HV := Lib.hid hv
          have HYES := Lib.hid (show layB (l.take k ++ [x]) (l.drop (k + 1)) = layB [] l by rw [← HLAY.out, HDT.out.1, layB_yes HOP.out HV.out (by simpa using e0) (by simpa using e1)])
          clear hv
          go_wp2_with fail
          obtain ⟨w1, hw1⟩ : ∃ w1, w1 = wr.alloc (.cells #[.int .i64 x.op, .int .i64 x.dst, .int .i64 x.a, .int .i64 x.b, .int .i64 x.n, .slice SA x.arg.length scap] 38) := ⟨_, rfl⟩
          rw [← hw1] at HXW HRW HMW HWW
          rw [hop] at hw1
          rw [← hw1]
          clear hw1 hop
          have x4 := HXW.out.cell (j := 4) rfl
          have xl := HXW.out.lt
          have a7 := HRW.out.cell (j := 7) rfl
          have al := HRW.out.lt
          have hlk := (HMW.out.below (Below.refl _ _).drew).look2 HX.out
          rw [labO_some, HV.out] at hlk
          refine still_allq (by kernel_rfl) (by kernel_rfl) ?_
          repeat (go_big_quiet_step (fail))
          refine wpQuiet_nil ?_
          go_wp2_with fail
          obtain ⟨D, hown, hD⟩ := HMW.out.below (Below.refl _ _).drew.drew
          have HXIN := Lib.hid HX.out
          refine still_tailq 7 (by kernel_rfl) (by kernel_rfl) ?_
          simp only [List.take_succ_cons, List.take_zero, List.drop_succ_cons, List.drop_zero]
          repeat (go_big_quiet_step (fail))
          refine wpQuiet_nil ?_
          go_wp2_with (first | (at_mapUpdate; refine wpList_mapUpdate_own _ rfl _ _ _ 73 rfl 2 3 lab_law Tryd.underlying73 _ w.heap.size n _ rfl hown (by unfold maxLen; omega) _ _ _ rfl rfl (lab_key HXIN.out) _ [] (plainElem_int Tryd.underlying3 (WalkArith.wf_i64 (by omega))) ?_) | go_in)
          intro w2 hown2 hg2
          have hD2 := labD_put (g := labO (l.take (k + 1))) hown.isMap hD k (by rw [HDT.out.2.1, labO_new HV.out HOP.out, HDT.out.2.2]) (fun j hj => by rw [HDT.out.2.1, labO_other (fun h => hj h.2.symm)])
          have hwg := Wr.grown (F := fun i => i = w.heap.size) hg2 (fun k hk => by cases hk; rfl)
          have HR9 := Lib.hid ((HRW.out.drew.drew).wr hwg (by omega))
          have HM9 := Lib.hid (⟨_, hown2, hD2⟩ : LabM w2 w.heap.size (n + 1) (labO (l.take (k + 1))))
          have HW9 := Lib.hid (HWW.out.drewR.drewR.trans hwg (fun i hi => Or.inr (by have : i = w.heap.size := hi; omega)))
          clear hown hD hown2 hg2 hD2 hwg
          go_wp2_with fail
          go_roundw
          case rel => exact ⟨k + 1, n + 1, by go_num, hlt, by omega, by rw [HDT.out.2.1]; exact HYES.out, HR9.out, HM9.out, HW9.out⟩
          case measure => simp [intOf]; omega
      · clear hr hm hw hlay hbk hst hdrop htake hlen1 hbw hx0 hx1 hx2 hx3 hx4
        go_wp2_with fail
        go_roundw
        case rel =>
          refine ⟨k + 1, n, by go_num, hlt, by omega, ?_, HRW.out, HMW.out.congr (fun j => ?_), HWW.out⟩
          · rw [HDT.out.2.1, ← layB_step hop, ← HDT.out.1]; exact HLAY.out
          · rw [HDT.out.2.1, labO_other (fun h => hop h.1)]
        case measure => simp [intOf]; omega
    · obtain rfl : k = l.length := by omega
      rw [List.take_length, List.drop_length] at hlay
      rw [List.take_length] at hm
      have HM' := Lib.hid hm
      have hyes : layB [] l = true := by rw [← hlay, layB]
      have HY := Lib.hid hyes
      clear hr hm hw hlay hyes
      go_wp2_with fail
      refine HQ.out _ _ _ ?_
      refine bodyPost_ret (v := .bool true) (by simp [results, Tryd.results62, go_sem]) rfl ?_
      exact ⟨by rw [HY.out], w.heap.size, n, Nat.le_refl _, hn, HR.out, HW.out, HM'.out.lt, fun _ => HM'.out⟩
end Go.Proofs.YtlenilbkifofjaaDoor
