/- The page's May of a function alone. Conditions: as stated. -/
import Derived.Test.YtlenilbkifofjaaDoorLvYZz
import Derived.Test.YtlenilbkifofjaaDoorQ04Zz
import Derived.Test.YtlenilbkifofjaaDoorVCopyEZz
set_option linter.unusedVariables false
set_option linter.unusedSimpArgs false
namespace Go.Proofs.YtlenilbkifofjaaDoor
open Go.RowKit

theorem CopiedCode.at {x : CodeS} {w w' : World} {e : Ending} (h : CopiedCode x w e w') : ∃ A2 c2 A3 c3, e = .returned (.agg #[.int .i64 x.params, .int .i64 x.regs, .slice A2 x.locs.length c2, .slice A3 x.ins.length c3]) ∧
    SliceAt w' w'.heap.size 3 (ObE w' w'.heap.size) x.locs (.slice A2 x.locs.length c2) ∧ SliceAt w' w'.heap.size 6 (InsE w' w'.heap.size) x.ins (.slice A3 x.ins.length c3) ∧ Below w.heap.size w w' := by
  obtain ⟨u0, u1, u2, u3, rfl, h1, h2⟩ := h
  have h1 := CodeE.mono _ _ _ _ _ _ _ (only_sub w' (From w.heap.size)) (Nat.le_refl _) (fun _ _ _ h => h) h1
  obtain ⟨A2, c2, A3, c3, e0, e1, e2, e3, r2, r3, _, _⟩ := h1.shape
  simp at e0 e1 e2 e3
  subst e0 e1 e2 e3
  exact ⟨A2, c2, A3, c3, rfl, r2, r3, h2⟩
/-- The table of arguments. -/
def ArgsAt (w : World) (ab : Nat) (A : List Int) : Prop := A.length = 8 ∧ ∃ cs, Row w ab cs 57 ∧ cs.size = 8 ∧ ∀ (j : Nat) (x : Int), A[j]? = some x → cs[j]? = some (Value.int .i64 x)
theorem ArgsAt.set {w : World} {ab : Nat} {A : List Int} (h : ArgsAt w ab A) {j : Nat} (hj : j < 8) (v : Int) : ArgsAt (w.setCell ⟨ab, j, none⟩ (.int .i64 v)) ab (A.set j v) := by
  obtain ⟨h0, cs, h1, h2, h3⟩ := h
  refine ⟨by rw [List.length_set]; exact h0, _, h1.set j _, by simp [h2], fun i x hi => ?_⟩
  by_cases hij : j = i
  · subst hij
    rw [List.getElem?_set_self (by omega)] at hi
    injection hi with hi
    rw [Array.getElem?_setIfInBounds_self_of_lt (by omega), hi]
  · rw [List.getElem?_set_ne hij] at hi
    rw [Array.getElem?_setIfInBounds_ne hij]
    exact h3 i x hi
theorem minus_next : ∀ k : Nat, k < 8 → (List.replicate k (-1 : Int) ++ List.replicate (8 - k) 0).set k (-1) = List.replicate (k + 1) (-1) ++ List.replicate (8 - (k + 1)) 0 := by decide
theorem callOk_no {x : InsS} (h : x.op ≠ 10) : callOk x = true := by unfold callOk; rw [decide_eq_false h]; rfl
theorem callOk_ten {x : InsS} (h : x.op = 10) : callOk x = (numB (min x.n 100) 7 && decide (x.arg.length ≤ 4)) := by unfold callOk numB; rw [decide_eq_true h]; rfl
set_option maxRecDepth 100000 in
set_option maxHeartbeats 16000000 in
theorem rmay16_any (c : CodeS) (LA : Option Addr) (lc : Nat) (BA : Option Addr) (bc B : Nat) (w : World) (hB : B ≤ w.heap.size) (hC : CodeE w B (fun j => [Value.int .i64 c.params, .int .i64 c.regs, .slice LA c.locs.length lc, .slice BA c.ins.length bc][j]?) c) (hsz : CodeF c) :
    Calls Tryd.prog 14 #[.agg #[.int .i64 c.params, .int .i64 c.regs, .slice LA c.locs.length lc, .slice BA c.ins.length bc]] w fun e w' => e = .returned (.bool (may16B c)) ∧ Below w.heap.size w w' := by
  have HB0 := Lib.hid (below1 w (.cells #[.int .i64 c.params, .int .i64 c.regs, .slice LA c.locs.length lc, .slice BA c.ins.length bc] 33))
  have HBX := Lib.hid (Row.new w #[.int .i64 c.params, .int .i64 c.regs, .slice LA c.locs.length lc, .slice BA c.ins.length bc] 33)
  have HCP := Lib.hid (fun W (hW : Below w.heap.size w W) => copyCode_any c B W _ (.int .i64 c.params) (.int .i64 c.regs) (.slice LA c.locs.length lc) (.slice BA c.ins.length bc) (by have := hW.size; omega) (hC.below (hW.mono hB) (Nat.le_refl _)) rfl rfl rfl rfl hsz)
  obtain ⟨_, _, _, ⟨v3, e3, hK⟩, _⟩ := hC
  simp at e3
  subst e3
  have HK := Lib.hid hK
  have hkl := hK.len.2
  clear hK hsz
  go_enter Tryd.func14, Tryd.ntmps14
  refine wp_letter (fun Q hQ => ?_)
  have HQ := Lib.hid hQ
  clear hQ
  go_wp2_with fail
  obtain ⟨w1, hw1⟩ : ∃ w1, w1 = w.alloc (.cells #[.int .i64 c.params, .int .i64 c.regs, .slice LA c.locs.length lc, .slice BA c.ins.length bc] 33) := ⟨_, rfl⟩
  rw [← hw1] at HB0 HBX
  rw [← hw1]
  clear hw1
  go_loopw [3] (fun i wr => ∃ k : Nat, i = .int .i64 (k : Nat) ∧ k ≤ c.ins.length ∧ (c.ins.take k).all callOk = true ∧ wr = w1) (fun i _ => c.ins.length - (intOf i).toNat)
  case atStart => exact ⟨0, rfl, Nat.zero_le _, rfl, rfl⟩
  case round =>
    obtain ⟨k, rfl, hk, hall, rfl⟩ := hrel
    have x3 := HBX.out.cell (j := 3) rfl
    have xl := HBX.out.lt
    have HALL := Lib.hid hall
    clear hall
    by_cases hlt : k < c.ins.length
    · obtain ⟨bb, boff, x, rfl, hbb, hbk, b0, b1, b2, b3, b4, ⟨sv, b5, hst⟩, hx0, hx1, hx2, hx3, hx4⟩ := SliceAt.get (HK.out.below (HB0.out.mono hB) (Nat.le_refl _) (fun _ _ h => h.below (HB0.out.mono hB) (Nat.le_refl _))) hlt
      simp only [Nat.add_zero] at b0 b1 b2 b3 b4 b5
      obtain ⟨SA, scap, hsv⟩ : ∃ SA scap, sv = .slice SA x.arg.length scap := (by obtain ⟨A', c', h, _⟩ := hst; exact ⟨_, _, h⟩)
      subst hsv
      have HBK := Lib.hid hbk
      have HT := Lib.hid (show (c.ins.take (k + 1)).all callOk = callOk x from by rw [take_succ_of hbk, List.all_append, HALL.out]; simp)
      have HBAD := Lib.hid (show callOk x = false → may16B c = false from fun h => by
        unfold may16B
        rw [if_neg]
        intro ha
        have := List.all_eq_true.1 ha x (List.mem_of_getElem? hbk)
        rw [h] at this
        cases this)
      have hkb : (k : Int) < (c.ins.length : Int) := by omega
      have hbbl : bb < wr.heap.size := by have := HB0.out.size; omega
      have hsl := (SliceAt.len hst).2
      clear hst hbk b1 b2 b3 hx0 hx1 hx2 hx3
      obtain ⟨op, dst, a, b, n, arg⟩ := x
      simp only at b0 b4 b5 HT HBAD hsl hx4
      by_cases h10 : op = 10
      · subst h10
        have HNU := Lib.hid (num_any (min n 100) 7)
        have HO := Lib.hid (callOk_ten (x := ⟨10, dst, a, b, n, arg⟩) rfl)
        simp only at HO
        cases hn : numB (min n 100) 7 with
        | false =>
          rw [hn] at HNU HO
          rw [Bool.false_and] at HO
          go_wp2_with fail
          refine (HNU.out _).mono ?_
          rintro e w' ⟨rfl, rfl⟩
          go_wp2_with fail
          refine HQ.out _ _ _ ?_
          exact bodyPost_ret (v := .bool false) (by simp [results, Tryd.results14, go_sem]) rfl ⟨by rw [HBAD.out HO.out], HB0.out⟩
        | true =>
          rw [hn] at HNU HO
          rw [Bool.true_and] at HO
          by_cases h4 : arg.length ≤ 4
          · have d4 : decide ((4 : Int) < (arg.length : Int)) = false := decide_eq_false (by omega)
            rw [decide_eq_true h4] at HO
            go_wp2_with fail
            refine (HNU.out _).mono ?_
            rintro e w' ⟨rfl, rfl⟩
            go_wp2_with fail
            go_roundw
            case rel => exact ⟨k + 1, by go_num, hlt, by rw [HT.out, HO.out], by first | rfl | trivial⟩
            case measure => simp [intOf]; omega
          · have d4 : decide ((4 : Int) < (arg.length : Int)) = true := decide_eq_true (by omega)
            rw [decide_eq_false h4] at HO
            go_wp2_with fail
            refine (HNU.out _).mono ?_
            rintro e w' ⟨rfl, rfl⟩
            go_wp2_with fail
            refine HQ.out _ _ _ ?_
            exact bodyPost_ret (v := .bool false) (by simp [results, Tryd.results14, go_sem]) rfl ⟨by rw [HBAD.out HO.out], HB0.out⟩
      · have d10 : (op == 10) = false := beq_eq_false_iff_ne.2 h10
        have HO := Lib.hid (callOk_no (x := ⟨op, dst, a, b, n, arg⟩) h10)
        clear h10
        go_wp2_with fail
        go_roundw
        case rel => exact ⟨k + 1, by go_num, hlt, by rw [HT.out, HO.out], by first | rfl | trivial⟩
        case measure => simp [intOf]; omega
    · obtain rfl : k = c.ins.length := by omega
      rw [List.take_length] at HALL
      have x0 := HBX.out.cell (j := 0) rfl
      have x1 := HBX.out.cell (j := 1) rfl
      have x2 := HBX.out.cell (j := 2) rfl
      go_wp2_with fail
      refine (HCP.out _ HB0.out).mono ?_
      intro e w2 h
      obtain ⟨A2, c2, A3, c3, rfl, hL2, hK2, hb2⟩ := h.at
      clear h
      have hr1 : Row ((w2.alloc (.cells #[.int .i64 c.params, .int .i64 c.regs, .slice A2 c.locs.length c2, .slice A3 c.ins.length c3] 33)).alloc (.cells #[.int .i64 0, .int .i64 0, .int .i64 0, .int .i64 0, .int .i64 0, .int .i64 0, .int .i64 0, .int .i64 0] 57)) w2.heap.size #[.int .i64 c.params, .int .i64 c.regs, .slice A2 c.locs.length c2, .slice A3 c.ins.length c3] 33 := (Row.new _ _ _).alloc _
      have hr2 : Row ((w2.alloc (.cells #[.int .i64 c.params, .int .i64 c.regs, .slice A2 c.locs.length c2, .slice A3 c.ins.length c3] 33)).alloc (.cells #[.int .i64 0, .int .i64 0, .int .i64 0, .int .i64 0, .int .i64 0, .int .i64 0, .int .i64 0, .int .i64 0] 57)) (w2.heap.size + 1) #[.int .i64 0, .int .i64 0, .int .i64 0, .int .i64 0, .int .i64 0, .int .i64 0, .int .i64 0, .int .i64 0] 57 := Row.new' _ _ (by simp)
      have hb3 : Below w2.heap.size w2 ((w2.alloc (.cells #[.int .i64 c.params, .int .i64 c.regs, .slice A2 c.locs.length c2, .slice A3 c.ins.length c3] 33)).alloc (.cells #[.int .i64 0, .int .i64 0, .int .i64 0, .int .i64 0, .int .i64 0, .int .i64 0, .int .i64 0, .int .i64 0] 57)) := below2 w2 _ _
      go_wp2_with fail
      obtain ⟨W0, hW0⟩ : ∃ W0, W0 = ((w2.alloc (.cells #[.int .i64 c.params, .int .i64 c.regs, .slice A2 c.locs.length c2, .slice A3 c.ins.length c3] 33)).alloc (.cells #[.int .i64 0, .int .i64 0, .int .i64 0, .int .i64 0, .int .i64 0, .int .i64 0, .int .i64 0, .int .i64 0] 57)) := ⟨_, rfl⟩
      rw [← hW0] at hr1 hr2 hb3
      rw [← hW0]
      have HDB := Lib.hid hr1
      have HB2 := Lib.hid (HB0.out.trans (hb2.mono HB0.out.size))
      have HB3 := Lib.hid hb3
      have HL2 := Lib.hid hL2
      have HK2 := Lib.hid hK2
      have HAR := Lib.hid (show ArgsAt W0 (w2.heap.size + 1) (List.replicate 0 (-1) ++ List.replicate (8 - 0) 0) from ⟨rfl, _, hr2, rfl, fun j x hj => by
        have hj8 := (List.getElem?_eq_some_iff.1 hj).1
        simp at hj8
        rw [show (List.replicate 0 (-1 : Int) ++ List.replicate (8 - 0) 0) = List.replicate 8 0 from rfl, List.getElem?_replicate, if_pos hj8] at hj
        injection hj with hj
        subst hj
        have : j = 0 ∨ j = 1 ∨ j = 2 ∨ j = 3 ∨ j = 4 ∨ j = 5 ∨ j = 6 ∨ j = 7 := by omega
        rcases this with rfl | rfl | rfl | rfl | rfl | rfl | rfl | rfl <;> rfl⟩)
      obtain ⟨ab, hab⟩ : ∃ ab, ab = w2.heap.size + 1 := ⟨_, rfl⟩
      rw [← hab] at HAR
      rw [← hab]
      have habl : w2.heap.size < ab := by omega
      have hckl : c.ins.length ≤ 9223372036854775807 := hkl
      clear hr1 hr2 hb3 hW0 hL2 hK2 hb2 hab x0 x1 x2 x3 xl hk hlt
      go_loopw [6] (fun i wr => ∃ k : Nat, i = .int .i64 (k : Nat) ∧ k ≤ 8 ∧ ArgsAt wr ab (List.replicate k (-1) ++ List.replicate (8 - k) 0) ∧ Wr (fun i => i = ab) W0 wr) (fun i _ => 8 - (intOf i).toNat)
      case atStart => exact ⟨0, rfl, by omega, HAR.out, Wr.refl _ _⟩
      case round =>
        obtain ⟨k, rfl, hk, har, hw⟩ := hrel
        by_cases hlt : k < 8
        · have hk0 : (0 : Int) ≤ (k : Int) := by omega
          have hk8 : (k : Int) < 8 := by omega
          have hd : decide ((k : Int) < 8) = true := decide_eq_true hk8
          obtain ⟨_, cs, hr, hcs, _⟩ := id har
          obtain ⟨v0, hv0⟩ : ∃ v0, cs[k]? = some v0 := ⟨_, Array.getElem?_eq_getElem (by omega)⟩
          have g0 := hr.cell hv0
          have g1 := hr.free k
          have gl := hr.lt
          have HA2 := Lib.hid (har.set hlt (-1))
          have HW2 := Lib.hid (hw.trans (Wr.cell1 wr ab k (.int .i64 (-1))) (fun _ h => Or.inl h))
          clear har hw hr hcs hv0
          go_wp2_with fail
          go_roundw
          case rel => exact ⟨k + 1, by go_num, hlt, by rw [← minus_next k hlt]; exact HA2.out, HW2.out⟩
          case measure => simp [intOf]; omega
        · obtain rfl : k = 8 := by omega
          have HA2 := Lib.hid (show ArgsAt wr ab (List.replicate 8 (-1)) from har)
          have HW2 := Lib.hid hw
          have hd : decide ((8 : Int) < 8) = false := rfl
          obtain ⟨w4, rfl⟩ : ∃ w4 : World, w4 = wr := ⟨_, rfl⟩
          clear har hw
          go_wp2_with fail
          go_loopw [7] (fun i wr => ∃ (k : Nat) (A : List Int), i = .int .i64 (k : Nat) ∧ k ≤ c.ins.length ∧ argsS A (c.ins.drop k) = argsS (List.replicate 8 (-1)) c.ins ∧ ArgsAt wr ab A ∧ (∀ x, x ∈ A → In64 x) ∧ Wr (fun i => i = ab) W0 wr) (fun i _ => c.ins.length - (intOf i).toNat)
          case atStart => exact ⟨0, _, rfl, Nat.zero_le _, rfl, HA2.out, fun x hx => by rw [List.eq_of_mem_replicate hx]; unfold In64; omega, HW2.out⟩
          case round =>
            obtain ⟨k, A, rfl, hk, has, har, hin, hw⟩ := hrel
            have HAS := Lib.hid has
            have HAA := Lib.hid har
            have HIN := Lib.hid hin
            have HWW := Lib.hid hw
            have hbw : Below w2.heap.size w2 wr := HB3.out.trans (hw.below HB3.out.size (fun i hi => by have : i = ab := hi; omega))
            have HBW := Lib.hid hbw
            obtain ⟨hA8, cs, hr, hcs, hcg⟩ := id har
            have hdr := HDB.out.wr hw (fun e => by have : w2.heap.size = ab := e; omega)
            have HDR := Lib.hid hdr
            have y3 := hdr.cell (j := 3) rfl
            have yl := hdr.lt
            by_cases hlt : k < c.ins.length
            · obtain ⟨bb, boff, x, rfl, hbb, hbk, b0, b1, b2, b3, b4, ⟨sv, b5, hst⟩, hx0, hx1, hx2, hx3, hx4⟩ := SliceAt.get (HK2.out.below hbw (Nat.le_refl _) (fun _ _ h => h.below hbw (Nat.le_refl _))) hlt
              simp only [Nat.add_zero] at b0 b1 b2 b3 b4 b5
              obtain ⟨SA, scap, hsv⟩ : ∃ SA scap, sv = .slice SA x.arg.length scap := (by obtain ⟨A', c', h, _⟩ := hst; exact ⟨_, _, h⟩)
              subst hsv
              have hkb : (k : Int) < (c.ins.length : Int) := by omega
              have hbbl : bb < wr.heap.size := by have := hbw.size; omega
              have hsl := (SliceAt.len hst).2
              have HDP := Lib.hid (drop_of hbk)
              have HOKX := Lib.hid (List.all_eq_true.1 HALL.out x (List.mem_of_getElem? hbk))
              clear hst hbk b1 b2 b3 hx0 hx1 hx2 hx3 hbw hw har hin has hdr
              obtain ⟨op, dst, a, b, n, arg⟩ := x
              simp only at b0 b4 b5 HDP HOKX hsl hx4
              by_cases h10 : op = 10
              · subst h10
                obtain ⟨⟨hn0, hn8⟩, h4⟩ := callOk_of HOKX.out rfl
                simp only at hn0 hn8 h4
                obtain ⟨m, rfl⟩ : ∃ m : Nat, n = (m : Int) := ⟨n.toNat, by omega⟩
                have hm8 : m < 8 := by omega
                obtain ⟨a0, ha0⟩ : ∃ a0, A[m]? = some a0 := ⟨_, List.getElem?_eq_getElem (by omega)⟩
                have g0 := hr.cell (hcg m a0 ha0)
                have g1 := hr.free m
                have gl := hr.lt
                have HAG := Lib.hid (show A.getD m 0 = a0 from by rw [List.getD_eq_getElem?_getD, ha0]; rfl)
                have HA5 := Lib.hid (HAA.out.set hm8 (arg.length : Int))
                have HW5 := Lib.hid (HWW.out.trans (Wr.cell1 wr ab m (.int .i64 (arg.length : Nat))) (fun _ h => Or.inl h))
                have HIN5 := Lib.hid (show ∀ x, x ∈ A.set m (arg.length : Int) → In64 x from fun x hx => by
                  rcases List.mem_or_eq_of_mem_set hx with h | rfl
                  · exact HIN.out x h
                  · unfold In64; omega)
                have HST := Lib.hid (show argsS A (⟨10, dst, a, b, (m : Int), arg⟩ :: c.ins.drop (k + 1)) = if 0 ≤ a0 ∧ a0 ≠ arg.length then (false, A) else argsS (A.set m arg.length) (c.ins.drop (k + 1)) from by
                  rw [argsS, if_pos rfl, Int.toNat_natCast, HAG.out])
                have HEQ := Lib.hid (HAS.out.symm.trans (by rw [HDP.out, HST.out]))
                clear hr hcs hcg ha0 hA8
                by_cases hneg : 0 ≤ a0
                · have d0 : decide (0 ≤ a0) = true := decide_eq_true hneg
                  by_cases hal : a0 = (arg.length : Int)
                  · have hne : (a0 != (arg.length : Int)) = false := by rw [hal]; simp
                    have HE2 := Lib.hid (show argsS (List.replicate 8 (-1)) c.ins = argsS (A.set m arg.length) (c.ins.drop (k + 1)) from by rw [HEQ.out, if_neg (fun h => h.2 hal)])
                    clear hal hneg
                    go_wp2_with fail
                    refine still_allq (by kernel_rfl) (by kernel_rfl) ?_
                    repeat (go_big_quiet_step (fail))
                    refine wpQuiet_nil ?_
                    go_wp2_with fail
                    go_roundw
                    case rel => exact ⟨k + 1, _, by go_num, hlt, HE2.out.symm, HA5.out, HIN5.out, HW5.out.drewR⟩
                    case measure => simp [intOf]; omega
                  · have hne : (a0 != (arg.length : Int)) = true := by simpa using hal
                    have HE2 := Lib.hid (show may16B c = false from by
                      have h : (argsS (List.replicate 8 (-1)) c.ins).1 = false := by rw [HEQ.out, if_pos ⟨hneg, hal⟩]
                      unfold may16B
                      rw [if_pos HALL.out, if_neg (by rw [h]; decide)])
                    clear hal hneg
                    go_wp2_with fail
                    refine still_allq (by kernel_rfl) (by kernel_rfl) ?_
                    repeat (go_big_quiet_step (fail))
                    refine wpQuiet_nil ?_
                    go_wp2_with fail
                    refine HQ.out _ _ _ ?_
                    exact bodyPost_ret (v := .bool false) (by simp [results, Tryd.results14, go_sem]) rfl ⟨by rw [HE2.out], HB2.out.trans ((HBW.out.trans (Below.refl _ _).drew).mono HB2.out.size)⟩
                · have d0 : decide (0 ≤ a0) = false := decide_eq_false hneg
                  have HE2 := Lib.hid (show argsS (List.replicate 8 (-1)) c.ins = argsS (A.set m arg.length) (c.ins.drop (k + 1)) from by rw [HEQ.out, if_neg (fun h => hneg h.1)])
                  clear hneg
                  go_wp2_with fail
                  refine still_allq (by kernel_rfl) (by kernel_rfl) ?_
                  repeat (go_big_quiet_step (fail))
                  refine wpQuiet_nil ?_
                  go_wp2_with fail
                  go_roundw
                  case rel => exact ⟨k + 1, _, by go_num, hlt, HE2.out.symm, HA5.out, HIN5.out, HW5.out.drewR⟩
                  case measure => simp [intOf]; omega
              · have d10 : (op != 10) = true := bne_iff_ne.2 h10
                have HE2 := Lib.hid (show argsS A (c.ins.drop k) = argsS A (c.ins.drop (k + 1)) from by rw [HDP.out, argsS, if_neg h10])
                clear h10 hr hcs hcg hA8
                go_wp2_with fail
                go_roundw
                case rel => exact ⟨k + 1, A, by go_num, hlt, by rw [← HE2.out]; exact HAS.out, HAA.out, HIN.out, HWW.out⟩
                case measure => simp [intOf]; omega
            · obtain rfl : k = c.ins.length := by omega
              rw [drop_nil_of (Nat.le_refl _), argsS] at has
              have HM := Lib.hid (show may16B c = codeR c 16 A from by unfold may16B; rw [if_pos HALL.out, ← has, if_pos rfl])
              have z0 := hdr.cell (j := 0) rfl
              have z1 := hdr.cell (j := 1) rfl
              have z2 := hdr.cell (j := 2) rfl
              have gl := hr.lt
              have HCD := Lib.hid (show ∀ W, Below wr.heap.size wr W → Calls Tryd.prog 28 #[.agg #[.int .i64 c.params, .int .i64 c.regs, .slice A2 c.locs.length c2, .slice A3 c.ins.length c3], .int .i64 16, .slice (some ⟨ab, 0, none⟩) 8 8] W (fun e w' => e = .returned (.bool (codeR c 16 A)) ∧ Below W.heap.size W w') from fun W hW => by
                have hb5 : Below w2.heap.size w2 W := HBW.out.trans (hW.mono HBW.out.size)
                have hp : LongsAt W W.heap.size A (.slice (some ⟨ab, 0, none⟩) A.length 8) := ⟨_, _, rfl, by rw [hA8]; omega, fun _ => ⟨ab, 0, rfl, by have := hW.size; omega, fun i x hi => ⟨by
                  show W.cell? ⟨ab, 0 + i * 1 + 0, none⟩ = _
                  rw [show 0 + i * 1 + 0 = i from by omega]
                  exact (hr.below hW hr.lt).cell (hcg i x hi), HIN.out x (List.mem_of_getElem? hi)⟩⟩⟩
                have := rcode_any c A2 c2 A3 c3 16 A (some ⟨ab, 0, none⟩) 8 W.heap.size W (Nat.le_refl _) (HL2.out.below hb5 hb5.size (fun _ _ h => h.below hb5 hb5.size)) (HK2.out.below hb5 hb5.size (fun _ _ h => h.below hb5 hb5.size)) hp
                rw [hA8] at this
                exact this)
              clear hr hcs hcg hA8 hbw hw har hin has hdr
              go_wp2_with fail
              refine region_grow (by kernel_rfl) (by kernel_rfl) (fun hG => ?_)
              repeat (go_big_quiet_step (first | (go_at_call 28; exact call_grow (HCD.out _ (grow_below (Below.refl _ _) (Nat.le_refl _) _)))))
              refine wpQuiet_nil ?_
              rintro ⟨W9, hb9⟩
              have HB9 := Lib.hid (HB2.out.trans ((HBW.out.trans (hb9.mono HBW.out.size)).mono HB2.out.size))
              dsimp only
              clear hb9
              go_wp2_with fail
              refine HQ.out _ _ _ ?_
              exact bodyPost_ret (v := .bool (codeR c 16 A)) (by simp [results, Tryd.results14, go_sem]) rfl ⟨by rw [HM.out], HB9.out⟩
end Go.Proofs.YtlenilbkifofjaaDoor
