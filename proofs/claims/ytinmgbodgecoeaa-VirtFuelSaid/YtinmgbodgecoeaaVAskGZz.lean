/- virt.May. Conditions: as stated. -/
import Derived.Test.YtinmgbodgecoeaaVAskFZz
import Derived.Laws.ByValue
set_option linter.unusedVariables false
set_option linter.unusedSimpArgs false
namespace Go.Proofs.Ytinmgbodgecoeaa
open Go.RowKit

theorem numberI_par {c : CodeS} {ng nf : Int} {par par' : Int → Int → Bool} {x : InsS} (h : x.op ≠ 10) : numberI c ng nf par x = numberI c ng nf par' x := by
  unfold numberI
  rw [if_neg h, if_neg h]
theorem number_ten {c : CodeS} {ng nf : Int} {par : Int → Int → Bool} {x : InsS} (h : x.op = 10) : numberI c ng nf par x = (callB c nf x && par x.n x.arg.length) := by
  obtain ⟨op, dst, a, b, n, arg⟩ := x
  simp only at h
  subst h
  simp [numberI, callB, Bool.and_assoc]
theorem insF_eq (q : Int → Int → Bool) (c : CodeS) (ng nf : Int) (x : InsS) : (insF (fun (_ : Unit) n k => (q n (k : Nat), ())) c ng nf () x).1 = insB c ng nf q x := by
  unfold insF
  by_cases h : x.op = 10
  · rw [insB_eq (par := yesPar), insB_eq (par := noPar), insB_eq (par := q), number_ten h, number_ten h, number_ten h]
    simp only [yesPar, noPar, h, true_and, Bool.and_true, Bool.and_false]
    split
    · rename_i h1
      simp only [Bool.and_eq_true] at h1
      obtain ⟨h2, h3, h4, h5, h6, h7, h8⟩ := h1
      simp only [h2, h3, h4, h5, h6, h7, h8, Bool.true_and]
    · rename_i h1
      symm
      cases hq : q x.n x.arg.length with
      | false => simp
      | true => simpa using h1
  · rw [if_neg (fun hh => h hh.1), insB_eq (par := noPar), insB_eq (par := q), numberI_par (par' := q) h]
theorem insF_unit (q : Int → Int → Bool) (c : CodeS) (ng nf : Int) : ∀ l : List InsS, (inssF (fun (_ : Unit) n k => (q n (k : Nat), ())) c ng nf () l).1 = l.all (insB c ng nf q)
  | [] => rfl
  | x :: l => by
    rw [inssF, List.all_cons, ← insF_eq q c ng nf x]
    by_cases h : (insF (fun (_ : Unit) n k => (q n (k : Nat), ())) c ng nf () x).1 = true
    · rw [if_pos h, h, Bool.true_and]
      exact insF_unit q c ng nf l
    · rw [if_neg h]
      simp at h
      rw [h]
      rfl
theorem codeF_eq (q : Int → Int → Bool) (c : CodeS) (ng nf : Int) : (codeF (fun (_ : Unit) n k => (q n (k : Nat), ())) c ng nf ()).1 = codeB c ng nf q := by
  unfold codeF codeB
  split
  · simp only [insF_unit]
  · rfl
theorem vparam_any (p : VirtS) (pb : Nat) (GA FA : Option Addr) (gc fc : Nat) (n : Int) (k : Nat) (B : Nat) (W : World) (hr : Row W pb #[.slice GA p.globs.length gc, .slice FA p.funcs.length fc, .int .i64 p.main] 35) (hf : SliceAt W B 4 (CodeE W B) p.funcs (.slice FA p.funcs.length fc)) (hB : B ≤ W.heap.size) (hn : 0 ≤ n ∧ n < (p.funcs.length : Nat)) :
    Calls Try.prog 19 #[.int .i64 n, .int .i64 k, .pointer (some ⟨pb, 0, .none⟩)] W fun e w' => e = .returned (.bool (parV p n (k : Nat))) ∧ W = w' := by
  obtain ⟨f, rfl⟩ := Int.eq_ofNat_of_zero_le hn.1
  have hfl : f < p.funcs.length := by omega
  obtain ⟨b, off, g, rfl, hb, hg, g0, _⟩ := hf.get hfl
  simp only [Nat.add_zero] at g0
  have r1 := hr.cell (j := 1) rfl
  have rl := hr.lt
  have hbl : b < W.heap.size := by omega
  have hfi : (f : Int) < (p.funcs.length : Int) := by omega
  have HE := Lib.hid (show parV p (f : Int) (k : Nat) = (g.params == (k : Int)) from by
    unfold parV
    rw [Int.toNat_natCast, List.getD_eq_getElem?_getD, hg, Option.getD_some]
    by_cases h : g.params = (k : Int) <;> simp [h])
  rw [HE.out]
  clear hf hr hg hn
  go_enter Try.func19, Try.ntmps19
  go_wp2_with fail
  go_ret
  exact ⟨rfl, rfl⟩

set_option maxRecDepth 100000 in
set_option maxHeartbeats 32000000 in
theorem vmay_any (p : VirtS) (P : Value × Value × Value) (B : Nat) (w : World) (hB : B ≤ w.heap.size) (hP : VirtAt w B P p) :
    Calls Try.prog 10 #[.agg #[P.1, P.2.1, P.2.2]] w fun e w' => e = .returned (.bool (vmayB p)) ∧ Below w.heap.size w w' := by
  obtain ⟨GA, gc, FA, fc, rfl⟩ := hP.shape
  have hmf : ∀ (fn : Fn) (first cap : Array Value) (w : World), (Instr.makeFunc fn first cap).run Try.prog w = .ok (.func fn first cap) w := fun _ _ _ _ => rfl
  have hfl := hP.2.1.len.2
  have hgl := hP.1.len.2
  have HO := Lib.hid (fun W (hb : Below w.heap.size w W) => gobjs_any p.globs GA p.globs.length gc 16 B W (by have := hb.size; omega) (hP.1.below (hb.mono hB) (Nat.le_refl _) (fun _ _ h => h.below (hb.mono hB) (Nat.le_refl _))))
  have HWI := Lib.hid (fun W => vwithin_any p.main (p.funcs.length : Int) W)
  have HPB := Lib.hid (Row.new w #[.slice GA p.globs.length gc, .slice FA p.funcs.length fc, .int .i64 p.main] 35)
  have HP := Lib.hid hP
  clear hP
  cases c1 : objsB p.globs 16 with
  | false =>
    rw [c1] at HO
    have HE := Lib.hid (show vmayB p = false from by unfold vmayB; rw [if_neg (fun h => absurd h.1 (by rw [c1]; decide))])
    clear c1
    go_enter Try.func10, Try.ntmps10
    refine wp_letter (fun Q hQ => ?_)
    have HQ := Lib.hid hQ
    clear hQ
    go_wp2_with fail
    refine (HO.out _ (below1 w _)).mono ?_
    rintro e w1 ⟨rfl, hb1⟩
    have HB1 := Lib.hid ((below1 w (.cells #[.slice GA p.globs.length gc, .slice FA p.funcs.length fc, .int .i64 p.main] 35)).trans (hb1.mono (below1 w (.cells #[.slice GA p.globs.length gc, .slice FA p.funcs.length fc, .int .i64 p.main] 35)).size))
    have hg1 := HPB.out.below hb1 HPB.out.lt
    have HG1 := Lib.hid hg1
    have g0 := hg1.cell (j := 0) rfl
    have g1 := hg1.cell (j := 1) rfl
    have g2 := hg1.cell (j := 2) rfl
    have gl := hg1.lt
    clear hb1 hg1
    go_wp2_with fail
    refine HQ.out _ _ _ ?_
    exact bodyPost_ret (v := .bool false) (by simp [results, Try.results10, go_sem]) rfl ⟨by rw [HE.out], HB1.out⟩
  | true =>
    rw [c1] at HO
    by_cases c2 : (p.funcs.length : Int) < 1
    · have d2 : decide ((p.funcs.length : Int) < 1) = true := by simpa using c2
      have HE := Lib.hid (show vmayB p = false from by unfold vmayB; rw [if_neg (fun h => absurd c2 h.2.1)])
      clear c1 c2
      go_enter Try.func10, Try.ntmps10
      refine wp_letter (fun Q hQ => ?_)
      have HQ := Lib.hid hQ
      clear hQ
      go_wp2_with fail
      refine (HO.out _ (below1 w _)).mono ?_
      rintro e w1 ⟨rfl, hb1⟩
      have HB1 := Lib.hid ((below1 w (.cells #[.slice GA p.globs.length gc, .slice FA p.funcs.length fc, .int .i64 p.main] 35)).trans (hb1.mono (below1 w (.cells #[.slice GA p.globs.length gc, .slice FA p.funcs.length fc, .int .i64 p.main] 35)).size))
      have hg1 := HPB.out.below hb1 HPB.out.lt
      have HG1 := Lib.hid hg1
      have g0 := hg1.cell (j := 0) rfl
      have g1 := hg1.cell (j := 1) rfl
      have g2 := hg1.cell (j := 2) rfl
      have gl := hg1.lt
      clear hb1 hg1
      go_wp2_with fail
      refine HQ.out _ _ _ ?_
      exact bodyPost_ret (v := .bool false) (by simp [results, Try.results10, go_sem]) rfl ⟨by rw [HE.out], HB1.out⟩
    · have d2 : decide ((p.funcs.length : Int) < 1) = false := by simpa using c2
      by_cases c3 : (p.funcs.length : Int) > 8
      · have d3 : decide (8 < (p.funcs.length : Int)) = true := by simpa using c3
        have HE := Lib.hid (show vmayB p = false from by unfold vmayB; rw [if_neg (fun h => absurd c3 h.2.2.1)])
        clear c1 c2 c3
        go_enter Try.func10, Try.ntmps10
        refine wp_letter (fun Q hQ => ?_)
        have HQ := Lib.hid hQ
        clear hQ
        go_wp2_with fail
        refine (HO.out _ (below1 w _)).mono ?_
        rintro e w1 ⟨rfl, hb1⟩
        have HB1 := Lib.hid ((below1 w (.cells #[.slice GA p.globs.length gc, .slice FA p.funcs.length fc, .int .i64 p.main] 35)).trans (hb1.mono (below1 w (.cells #[.slice GA p.globs.length gc, .slice FA p.funcs.length fc, .int .i64 p.main] 35)).size))
        have hg1 := HPB.out.below hb1 HPB.out.lt
        have HG1 := Lib.hid hg1
        have g0 := hg1.cell (j := 0) rfl
        have g1 := hg1.cell (j := 1) rfl
        have g2 := hg1.cell (j := 2) rfl
        have gl := hg1.lt
        clear hb1 hg1
        go_wp2_with fail
        refine HQ.out _ _ _ ?_
        exact bodyPost_ret (v := .bool false) (by simp [results, Try.results10, go_sem]) rfl ⟨by rw [HE.out], HB1.out⟩
      · have d3 : decide (8 < (p.funcs.length : Int)) = false := by simpa using c3
        by_cases c4 : 0 ≤ p.main ∧ p.main < (p.funcs.length : Int)
        · rw [decide_eq_true c4] at HWI
          obtain ⟨mf, hmf'⟩ := Int.eq_ofNat_of_zero_le c4.1
          have hmfl : mf < p.funcs.length := by omega
          have HMG := Lib.hid (List.getElem?_eq_getElem hmfl)
          have hgd : p.funcs.getD p.main.toNat noCode = p.funcs[mf] := by rw [hmf', Int.toNat_natCast, List.getD_eq_getElem?_getD, HMG.out]; rfl
          have hm0 : (0 : Int) ≤ (mf : Int) := by omega
          have hm1 : (mf : Int) < (p.funcs.length : Int) := by omega
          have hmay : vmayP p ↔ p.funcs[mf].params = 0 := by unfold vmayP; rw [hgd]; exact ⟨fun h => h.2.2.2.2, fun h => ⟨c1, c2, c3, c4, h⟩⟩
          have HMAY := Lib.hid hmay
          have HPV := Lib.hid (HP.out.2.1)
          have HMF := Lib.hid hmf'
          rw [hmf'] at HWI HPB ⊢
          clear hmay hgd hmf' c1 c2 c3 c4
          by_cases c5 : p.funcs[mf].params = 0
          · have d5 : (p.funcs[mf].params != 0) = false := by simpa using c5
            have HE := Lib.hid (show vmayB p = p.funcs.all (fun c => codeB c p.globs.length p.funcs.length (parV p)) from by unfold vmayB; rw [if_pos (HMAY.out.2 c5)])
            rw [HE.out]
            clear c5
            go_enter Try.func10, Try.ntmps10
            refine wp_letter (fun Q hQ => ?_)
            have HQ := Lib.hid hQ
            clear hQ
            go_wp2_with fail
            refine (HO.out _ (below1 w _)).mono ?_
            rintro e w1 ⟨rfl, hb1⟩
            have HB1 := Lib.hid ((below1 w (.cells #[.slice GA p.globs.length gc, .slice FA p.funcs.length fc, .int .i64 (mf : Nat)] 35)).trans (hb1.mono (below1 w (.cells #[.slice GA p.globs.length gc, .slice FA p.funcs.length fc, .int .i64 (mf : Nat)] 35)).size))
            have hg1 := HPB.out.below hb1 HPB.out.lt
            have HG1 := Lib.hid hg1
            have g0 := hg1.cell (j := 0) rfl
            have g1 := hg1.cell (j := 1) rfl
            have g2 := hg1.cell (j := 2) rfl
            have gl := hg1.lt
            clear hb1 hg1
            obtain ⟨gb, goff, g', hFA, hgb, hg', hGE⟩ := (HPV.out.below (HB1.out.mono hB) (Nat.le_refl _) (fun _ _ h => h.below (HB1.out.mono hB) (Nat.le_refl _))).get hmfl
            subst hFA
            have y0 := hGE.1
            rw [HMG.out] at hg'
            injection hg' with hg'
            subst hg'
            simp only [Nat.add_zero] at y0
            have hgbl : gb < w1.heap.size := by have := HB1.out.size; omega
            clear hGE
            go_wp2_with fail
            refine (HWI.out _).mono ?_
            rintro e w' ⟨rfl, rfl⟩
            go_wp2_with fail
            go_loopw [46] (fun i wr => ∃ k : Nat, i = .int .i64 (k : Nat) ∧ k ≤ p.funcs.length ∧ (p.funcs.drop k).all (fun c => codeB c p.globs.length p.funcs.length (parV p)) = p.funcs.all (fun c => codeB c p.globs.length p.funcs.length (parV p)) ∧ Below w.heap.size w wr ∧ Row wr w.heap.size #[.slice GA p.globs.length gc, .slice (some ⟨gb, goff, none⟩) p.funcs.length fc, .int .i64 (mf : Nat)] 35) (fun i _ => p.funcs.length - (intOf i).toNat)
            case atStart => exact ⟨0, rfl, Nat.zero_le _, rfl, HB1.out, HG1.out⟩
            case round =>
              obtain ⟨k, rfl, hk, hcs, hbw, hx⟩ := hrel
              have HCS := Lib.hid hcs
              have HBW := Lib.hid hbw
              have HXK := Lib.hid hx
              have p0 := hx.cell (j := 0) rfl
              have p1 := hx.cell (j := 1) rfl
              have p2 := hx.cell (j := 2) rfl
              have hxl := hx.lt
              have hzw := hbw.size
              clear hcs hx g0 g1 g2 gl y0
              by_cases hlt : k < p.funcs.length
              · obtain ⟨fb, foff, g, hFA, hfb, hfk, hGE⟩ := (HPV.out.below (hbw.mono hB) (Nat.le_refl _) (fun _ _ h => h.below (hbw.mono hB) (Nat.le_refl _))).get hlt
                injection hFA with hFA
                injection hFA with e1 e2
                subst e1 e2
                obtain ⟨z0, z1, ⟨lv, z2, hlv⟩, ⟨bv, z3, hbv⟩, _, _⟩ := hGE
                simp only [Nat.add_zero] at z0 z1 z2 z3
                obtain ⟨⟨LA, lc, hlv0, _⟩, ⟨BA, bc, hbv0, _⟩⟩ := And.intro hlv hbv
                subst hlv0 hbv0
                have hb2 := below2 wr (.cells #[.int .i64 g.params, .int .i64 g.regs, .slice LA g.locs.length lc, .slice BA g.ins.length bc] 55) (.cells #[.int .i64 g.params, .int .i64 g.regs, .slice LA g.locs.length lc, .slice BA g.ins.length bc, .int .i64 p.funcs.length, .int .i64 p.globs.length, (.func (.func 19) #[] #[.pointer (some ⟨w.heap.size, 0, .none⟩)]), .map none] 73)
                have hb9 := HBW.out.trans (hb2.mono hzw)
                have hz2 : ((wr.alloc (.cells #[.int .i64 g.params, .int .i64 g.regs, .slice LA g.locs.length lc, .slice BA g.ins.length bc] 55)).alloc (.cells #[.int .i64 g.params, .int .i64 g.regs, .slice LA g.locs.length lc, .slice BA g.ins.length bc, .int .i64 p.funcs.length, .int .i64 p.globs.length, (.func (.func 19) #[] #[.pointer (some ⟨w.heap.size, 0, .none⟩)]), .map none] 73)).heap.size = wr.heap.size + 2 := by simp
                have HFS := Lib.hid (vfn_any (fun _ W => Wr (fun k => k = wr.heap.size + 1) ((wr.alloc (.cells #[.int .i64 g.params, .int .i64 g.regs, .slice LA g.locs.length lc, .slice BA g.ins.length bc] 55)).alloc (.cells #[.int .i64 g.params, .int .i64 g.regs, .slice LA g.locs.length lc, .slice BA g.ins.length bc, .int .i64 p.funcs.length, .int .i64 p.globs.length, (.func (.func 19) #[] #[.pointer (some ⟨w.heap.size, 0, .none⟩)]), .map none] 73)) W) (fun _ n k => (parV p n (k : Nat), ())) (fun _ => False) () (wr.heap.size + 1) g LA lc BA bc p.funcs.length p.globs.length (.pointer (some ⟨w.heap.size, 0, .none⟩)) (.map none) B ((wr.alloc (.cells #[.int .i64 g.params, .int .i64 g.regs, .slice LA g.locs.length lc, .slice BA g.ins.length bc] 55)).alloc (.cells #[.int .i64 g.params, .int .i64 g.regs, .slice LA g.locs.length lc, .slice BA g.ins.length bc, .int .i64 p.funcs.length, .int .i64 p.globs.length, (.func (.func 19) #[] #[.pointer (some ⟨w.heap.size, 0, .none⟩)]), .map none] 73)) (Row.new' _ _ (by simp)) (by simp; omega) (by omega)
                  (hlv.below (hb2.mono (by omega)) (Nat.le_refl _) (fun _ _ h => h.below (hb2.mono (by omega)) (Nat.le_refl _))) (hbv.below (hb2.mono (by omega)) (Nat.le_refl _) (fun _ _ h => h.below (hb2.mono (by omega)) (Nat.le_refl _))) (fun k h => h.elim) (Wr.refl _ _) (fun _ _ _ h1 h2 => h1.trans h2 (fun _ h => Or.inl h))
                  (fun _ n k W hn hI _ => by
                    have hWb : Below B w W := (hb9.mono hB).trans (hI.below (by rw [hz2]; omega) (fun k hk => by have : k = wr.heap.size + 1 := hk; omega))
                    refine (vparam_any p w.heap.size GA (some ⟨gb, goff, none⟩) gc fc n k B W ?_ (HPV.out.below hWb (Nat.le_refl _) (fun _ _ h => h.below hWb (Nat.le_refl _))) (by have := hI.size; rw [hz2] at this; omega) hn).mono (fun e w' h => ⟨h.1, h.2 ▸ hI, h.2 ▸ Wr.refl _ _⟩)
                    rw [HMF.out]
                    exact ((HXK.out.alloc _).alloc _).wr hI (by omega)))
                rw [show FnSaysV (fun _ W => Wr (fun k => k = wr.heap.size + 1) ((wr.alloc (.cells #[.int .i64 g.params, .int .i64 g.regs, .slice LA g.locs.length lc, .slice BA g.ins.length bc] 55)).alloc (.cells #[.int .i64 g.params, .int .i64 g.regs, .slice LA g.locs.length lc, .slice BA g.ins.length bc, .int .i64 p.funcs.length, .int .i64 p.globs.length, (.func (.func 19) #[] #[.pointer (some ⟨w.heap.size, 0, .none⟩)]), .map none] 73)) W) (fun _ => False) (wr.heap.size + 1) (codeF (fun (_ : Unit) n k => (parV p n (k : Nat), ())) g p.globs.length p.funcs.length ()) = fun w0 e w' => e = .returned (.bool (codeB g p.globs.length p.funcs.length (parV p))) ∧ Wr (fun k => k = wr.heap.size + 1) ((wr.alloc (.cells #[.int .i64 g.params, .int .i64 g.regs, .slice LA g.locs.length lc, .slice BA g.ins.length bc] 55)).alloc (.cells #[.int .i64 g.params, .int .i64 g.regs, .slice LA g.locs.length lc, .slice BA g.ins.length bc, .int .i64 p.funcs.length, .int .i64 p.globs.length, (.func (.func 19) #[] #[.pointer (some ⟨w.heap.size, 0, .none⟩)]), .map none] 73)) w' ∧ Wr (fun k => k = wr.heap.size + 1 ∨ False) w0 w' from by funext w0 e w'; unfold FnSaysV; rw [codeF_eq]] at HFS
                have HD := Lib.hid (show (p.funcs.drop k).all (fun c => codeB c p.globs.length p.funcs.length (parV p)) = (codeB g p.globs.length p.funcs.length (parV p) && (p.funcs.drop (k + 1)).all (fun c => codeB c p.globs.length p.funcs.length (parV p))) from by rw [drop_of hfk]; rfl)
                have HB2 := Lib.hid hb2
                have hkl : (k : Int) < (p.funcs.length : Int) := by omega
                have hfbl : gb < wr.heap.size := by omega
                clear hlv hbv hbw hfk hb2 hb9 hz2
                cases hg1 : codeB g p.globs.length p.funcs.length (parV p) with
                | true =>
                  rw [hg1] at HFS HD
                  clear hg1
                  go_wp2_with fail
                  refine HFS.out.mono ?_
                  rintro e w9 ⟨rfl, hw9, _⟩
                  have HW9 := Lib.hid (HB2.out.trans (hw9.below (B := wr.heap.size) (by simp; omega) (fun k hk => by omega)))
                  clear hw9
                  go_wp2_with fail
                  go_roundw
                  case rel => exact ⟨k + 1, by go_num, by omega, by rw [← HCS.out, HD.out]; rfl, HBW.out.trans (HW9.out.mono hzw), HXK.out.below HW9.out HXK.out.lt⟩
                  case measure => simp [intOf]; omega
                | false =>
                  have H9 := Lib.hid (show p.funcs.all (fun c => codeB c p.globs.length p.funcs.length (parV p)) = false by rw [← HCS.out, HD.out, hg1]; rfl)
                  rw [hg1] at HFS
                  clear hg1
                  go_wp2_with fail
                  refine HFS.out.mono ?_
                  rintro e w9 ⟨rfl, hw9, _⟩
                  have HW9 := Lib.hid (HB2.out.trans (hw9.below (B := wr.heap.size) (by simp; omega) (fun k hk => by omega)))
                  clear hw9
                  go_wp2_with fail
                  refine HQ.out _ _ _ ?_
                  exact bodyPost_ret (v := .bool false) (by simp [results, Try.results10, go_sem]) rfl ⟨by rw [H9.out], HBW.out.trans (HW9.out.mono hzw)⟩
              · obtain rfl : k = p.funcs.length := by omega
                have H9 := Lib.hid (show p.funcs.all (fun c => codeB c p.globs.length p.funcs.length (parV p)) = true by rw [← HCS.out, drop_nil_of (Nat.le_refl _)]; rfl)
                go_wp2_with fail
                refine HQ.out _ _ _ ?_
                exact bodyPost_ret (v := .bool true) (by simp [results, Try.results10, go_sem]) rfl ⟨by rw [H9.out], HBW.out⟩
          · have d5 : (p.funcs[mf].params != 0) = true := by simpa using c5
            have HE := Lib.hid (show vmayB p = false from by unfold vmayB; rw [if_neg (fun h => c5 (HMAY.out.1 h))])
            clear c5
            go_enter Try.func10, Try.ntmps10
            refine wp_letter (fun Q hQ => ?_)
            have HQ := Lib.hid hQ
            clear hQ
            go_wp2_with fail
            refine (HO.out _ (below1 w _)).mono ?_
            rintro e w1 ⟨rfl, hb1⟩
            have HB1 := Lib.hid ((below1 w (.cells #[.slice GA p.globs.length gc, .slice FA p.funcs.length fc, .int .i64 (mf : Nat)] 35)).trans (hb1.mono (below1 w (.cells #[.slice GA p.globs.length gc, .slice FA p.funcs.length fc, .int .i64 (mf : Nat)] 35)).size))
            have hg1 := HPB.out.below hb1 HPB.out.lt
            have HG1 := Lib.hid hg1
            have g0 := hg1.cell (j := 0) rfl
            have g1 := hg1.cell (j := 1) rfl
            have g2 := hg1.cell (j := 2) rfl
            have gl := hg1.lt
            clear hb1 hg1
            obtain ⟨gb, goff, g', hFA, hgb, hg', hGE⟩ := (HPV.out.below (HB1.out.mono hB) (Nat.le_refl _) (fun _ _ h => h.below (HB1.out.mono hB) (Nat.le_refl _))).get hmfl
            subst hFA
            have y0 := hGE.1
            rw [HMG.out] at hg'
            injection hg' with hg'
            subst hg'
            simp only [Nat.add_zero] at y0
            have hgbl : gb < w1.heap.size := by have := HB1.out.size; omega
            clear hGE
            go_wp2_with fail
            refine (HWI.out _).mono ?_
            rintro e w' ⟨rfl, rfl⟩
            go_wp2_with fail
            refine HQ.out _ _ _ ?_
            exact bodyPost_ret (v := .bool false) (by simp [results, Try.results10, go_sem]) rfl ⟨by rw [HE.out], HB1.out⟩
        · rw [decide_eq_false c4] at HWI
          have HE := Lib.hid (show vmayB p = false from by unfold vmayB; rw [if_neg (fun h => absurd h.2.2.2.1 c4)])
          clear c1 c2 c3 c4
          go_enter Try.func10, Try.ntmps10
          refine wp_letter (fun Q hQ => ?_)
          have HQ := Lib.hid hQ
          clear hQ
          go_wp2_with fail
          refine (HO.out _ (below1 w _)).mono ?_
          rintro e w1 ⟨rfl, hb1⟩
          have HB1 := Lib.hid ((below1 w (.cells #[.slice GA p.globs.length gc, .slice FA p.funcs.length fc, .int .i64 p.main] 35)).trans (hb1.mono (below1 w (.cells #[.slice GA p.globs.length gc, .slice FA p.funcs.length fc, .int .i64 p.main] 35)).size))
          have hg1 := HPB.out.below hb1 HPB.out.lt
          have HG1 := Lib.hid hg1
          have g0 := hg1.cell (j := 0) rfl
          have g1 := hg1.cell (j := 1) rfl
          have g2 := hg1.cell (j := 2) rfl
          have gl := hg1.lt
          clear hb1 hg1
          go_wp2_with fail
          refine (HWI.out _).mono ?_
          rintro e w' ⟨rfl, rfl⟩
          go_wp2_with fail
          refine HQ.out _ _ _ ?_
          exact bodyPost_ret (v := .bool false) (by simp [results, Try.results10, go_sem]) rfl ⟨by rw [HE.out], HB1.out⟩
end Go.Proofs.Ytinmgbodgecoeaa
