/- virt: the regions of address and reckon that call. Conditions: as stated. -/
import Derived.Test.YtinmgbodgecoeaaQ07Zz
set_option linter.unusedVariables false
set_option linter.unusedSimpArgs false
namespace Go.Proofs.Ytinmgbodgecoeaa
open Go.RowKit

/-- The two numbers that a value, or none, is answered by. -/
def Fits (r : Option V) (y0 y1 : Int) : Prop := ∀ x, r = some x → y0 = x.obj ∧ y1 = x.n
theorem AnsV.fits {r : Option V} {e : Ending} (h : AnsV r e) : ∃ y0 y1, e = .returned (.tuple #[.agg #[.int .i64 y0, .int .i64 y1], .bool r.isSome]) ∧ Fits r y0 y1 := by
  cases r with
  | none =>
    obtain ⟨a, b, h⟩ := h
    exact ⟨a, b, h, fun x hx => by cases hx⟩
  | some v => exact ⟨_, _, h, fun x hx => by cases hx; exact ⟨rfl, rfl⟩⟩
theorem Fits.ans {r : Option V} {y0 y1 : Int} (h : Fits r y0 y1) : AnsV r (.returned (.tuple #[.agg #[.int .i64 y0, .int .i64 y1], .bool r.isSome])) := by
  cases r with
  | none => exact ⟨y0, y1, rfl⟩
  | some v =>
    obtain ⟨rfl, rfl⟩ := h v rfl
    rfl
theorem size2' {cs : Array Value} (h : cs.size = 2) : ∃ a b, cs = #[a, b] := by
  obtain ⟨l⟩ := cs
  match l, h with
  | [a, b], _ => exact ⟨a, b, rfl⟩
def vadL (rb fb ib pw hb tb tof tl tc ma : Nat) (opv dstv bv nv : Int) (AV : Value) (va : V) (r : Option V) : List (Value → Prop) := [fun v => v = .pointer (some ⟨rb, 0, none⟩),
  fun v => v = .pointer (some ⟨rb, 0, none⟩),
  fun v => v = .pointer (some ⟨rb, 4, none⟩),
  fun v => v = .pointer (some ⟨hb, 0, none⟩),
  fun v => v = .pointer (some ⟨fb, 0, none⟩),
  fun v => v = .pointer (some ⟨fb, 0, none⟩),
  fun v => v = .pointer (some ⟨fb, 0, none⟩),
  fun v => v = .slice (some ⟨tb, tof, none⟩) tl tc,
  fun v => v = .pointer (some ⟨ib, 2, none⟩),
  fun v => v = .int .i64 (ma : Nat),
  fun v => v = .pointer (some ⟨tb, tof + ma * 2, none⟩),
  fun v => v = .agg #[.int .i64 va.obj, .int .i64 va.n],
  fun v => v = .pointer (some ⟨ib, 3, none⟩),
  fun v => v = .int .i64 bv,
  fun v => v = .agg #[.int .i64 0, .int .i64 bv],
  fun v => ∃ y0 y1, v = .tuple #[.agg #[.int .i64 y0, .int .i64 y1], .bool r.isSome] ∧ Fits r y0 y1,
  fun v => ∃ y0 y1, v = .agg #[.int .i64 y0, .int .i64 y1] ∧ Fits r y0 y1,
  fun v => v = .bool r.isSome,
  fun _ => True,
  fun v => v = .bool r.isSome]
def vadC (rb fb ib pw hb tb tof tl tc ma : Nat) (opv dstv bv nv : Int) (AV : Value) (va : V) (r : Option V) (i : Nat) (v : Value) : Prop := ((vadL rb fb ib pw hb tb tof tl tc ma opv dstv bv nv AV va r).getD i (fun _ => True)) v
noncomputable def vadR : Code := (regsOf (Try.f37.body.getD .skip)).getD 1 .skip
set_option maxRecDepth 100000 in
set_option maxHeartbeats 8000000 in
theorem vad_region (rb fb ib pw hb tb tof tl tc ma : Nat) (opv dstv bv nv : Int) (AV : Value) (va : V) (r : Option V) (w : World)
    (hr4 : w.cell? ⟨rb, 4, none⟩ = some (.pointer (some ⟨hb, 0, none⟩))) (hlrb : rb < w.heap.size) (hnrb : rb ≠ pw) (hf0 : w.cell? ⟨fb, 0, none⟩ = some (.slice (some ⟨tb, tof, none⟩) tl tc)) (hlfb : fb < w.heap.size) (hnfb : fb ≠ pw)
    (hib : Row w ib #[.int .i64 opv, .int .i64 dstv, .int .i64 (ma : Nat), .int .i64 bv, .int .i64 nv, AV] 68) (hnib : ib ≠ pw) (hma : ma < tl) (hltb : tb < w.heap.size) (hntb : tb ≠ pw) (hta0 : w.cell? ⟨tb, tof + ma * 2, none⟩ = some (.int .i64 va.obj)) (hta1 : w.cell? ⟨tb, tof + ma * 2 + 1, none⟩ = some (.int .i64 va.n)) (hpw : Row w pw #[.int .i64 0, .int .i64 0] 60)
    (hcall : ∀ W, Wr (fun i => i = pw) w W → Calls Try.prog 48 #[.pointer (some ⟨hb, 0, none⟩), .int .i64 12, .agg #[.int .i64 va.obj, .int .i64 va.n], .agg #[.int .i64 0, .int .i64 bv]] W fun e w' => (∃ y0 y1, e = .returned (.tuple #[.agg #[.int .i64 y0, .int .i64 y1], .bool r.isSome]) ∧ Fits r y0 y1) ∧ Below W.heap.size W w')
    (c2 c3 c4 c7 c8 c9 c10 c11 c12 c13 c14 c15 c16 c17 c18 c19 c20 c21 c22 c23 c24 c25 : Value) (Q : Exit → Act → World → Prop)
    (hexit : ∀ (W : World) (y0 y1 : Int) (Y : Nat → Value), Wr (fun i => i = pw) w W → Row W pw #[.int .i64 y0, .int .i64 y1] 60 → Fits r y0 y1 → Q .normal ⟨List.toArray ((Value.pointer (some ⟨rb, 0, none⟩)) :: (Value.pointer (some ⟨fb, 0, none⟩)) :: c2 :: c3 :: c4 :: (Value.pointer (some ⟨ib, 0, none⟩)) :: (Value.pointer (some ⟨pw, 0, none⟩)) :: (Value.bool r.isSome) :: Y 0 :: Y 1 :: Y 2 :: Y 3 :: Y 4 :: Y 5 :: Y 6 :: Y 7 :: Y 8 :: Y 9 :: Y 10 :: Y 11 :: Y 12 :: Y 13 :: Y 14 :: Y 15 :: Y 16 :: Y 17 :: []), []⟩ W) :
    Code.wp Try.prog vadR Q ⟨List.toArray ((Value.pointer (some ⟨rb, 0, none⟩)) :: (Value.pointer (some ⟨fb, 0, none⟩)) :: c2 :: c3 :: c4 :: (Value.pointer (some ⟨ib, 0, none⟩)) :: (Value.pointer (some ⟨pw, 0, none⟩)) :: c7 :: c8 :: c9 :: c10 :: c11 :: c12 :: c13 :: c14 :: c15 :: c16 :: c17 :: c18 :: c19 :: c20 :: c21 :: c22 :: c23 :: c24 :: c25 :: []), []⟩ w := by
  have hma0 : (0 : Int) ≤ (ma : Int) := by omega
  have hma1 : (ma : Int) < (tl : Int) := by omega
  have HR4 := Lib.hid hr4
  have HLrb := Lib.hid hlrb
  have HNrb := Lib.hid hnrb
  have HF0 := Lib.hid hf0
  have HLfb := Lib.hid hlfb
  have HNfb := Lib.hid hnfb
  have HIB := Lib.hid hib
  have HNib := Lib.hid hnib
  have HLtb := Lib.hid hltb
  have HNtb := Lib.hid hntb
  have HTA0 := Lib.hid hta0
  have HTA1 := Lib.hid hta1
  have HPW := Lib.hid hpw
  have HCALL := Lib.hid hcall
  have HOLD := Lib.hid (show ∀ (W : World) (b j : Nat) (v : Value), w.cell? ⟨b, j, none⟩ = some v → Wr (fun i => i = pw) w W → b < w.heap.size → b ≠ pw → W.cell? ⟨b, j, none⟩ = some v from fun W b j v h hw hlt hne => (World.cell?_of_block (a := ⟨b, j, none⟩) (hw.block b hlt hne)).trans h)
  clear hr4 hlrb hnrb hf0 hlfb hnfb hib hnib hma hltb hntb hta0 hta1 hpw hcall
  have HEX := Lib.hid hexit
  clear hexit
  conv => arg 2; whnf
  refine region_put (by kernel_rfl) 18 16 pw 2 60 aggOf (fun _ => vadC rb fb ib pw hb tb tof tl tc ma opv dstv bv nv AV va r) (fun Y => ⟨List.toArray ((Value.pointer (some ⟨rb, 0, none⟩)) :: (Value.pointer (some ⟨fb, 0, none⟩)) :: c2 :: c3 :: c4 :: (Value.pointer (some ⟨ib, 0, none⟩)) :: (Value.pointer (some ⟨pw, 0, none⟩)) :: Y 19 :: Y 0 :: Y 1 :: Y 2 :: Y 3 :: Y 4 :: Y 5 :: Y 6 :: Y 7 :: Y 8 :: Y 9 :: Y 10 :: Y 11 :: Y 12 :: Y 13 :: Y 14 :: Y 15 :: Y 16 :: Y 17 :: []), []⟩) (fun i => if i = 0 then c8 else if i = 1 then c9 else if i = 2 then c10 else if i = 3 then c11 else if i = 4 then c12 else if i = 5 then c13 else if i = 6 then c14 else if i = 7 then c15 else if i = 8 then c16 else if i = 9 then c17 else if i = 10 then c18 else if i = 11 then c19 else if i = 12 then c20 else if i = 13 then c21 else if i = 14 then c22 else if i = 15 then c23 else if i = 16 then c24 else if i = 17 then c25 else if i = 19 then c7 else undef) rfl (by kernel_rfl) (by simp) (by decide) ⟨_, HPW.out, rfl⟩ ?_ (fun _ _ _ _ _ h => h) (fun _ _ _ _ _ h => h) ?_ ?_ ?_
  · intro o' ho
    simp at ho; subst ho
    exact ⟨{ on := 16, ground := Ground.data }, by simp, rfl, rfl⟩
  · intro i o' Y W h2 ho hb hall K hK
    have HW := Lib.hid hb
    clear hb
    rcases i with _ | _ | _ | _ | _ | _ | _ | _ | _ | _ | _ | _ | _ | _ | _ | _ | _ | _ | _ | _ | i
    · simp at ho; subst ho
      clear hall
      refine wpOp_plain rfl rfl (fun K' hK' => ?_)
      go_simp
      have hh := hK' _ _ (hK _ _ (Below.refl _ _) rfl)
      simpa [upd] using hh
    · simp at ho; subst ho
      have d0 : Y 0 = _ := hall { on := 0, ground := Ground.data } (by simp) rfl (by decide)
      clear hall
      refine wpOp_plain rfl rfl (fun K' hK' => ?_)
      go_simp
      have hh := hK' _ _ (hK _ _ (Below.refl _ _) rfl)
      simpa [upd, d0] using hh
    · simp at ho; subst ho
      have d1 : Y 1 = _ := hall { on := 1, ground := Ground.data } (by simp) rfl (by decide)
      clear hall
      refine wpOp_plain rfl rfl (fun K' hK' => ?_)
      go_simp
      have hh := hK' _ _ (hK _ _ (Below.refl _ _) rfl)
      simpa [upd, d1] using hh
    · simp at ho; subst ho
      have d2 : Y 2 = _ := hall { on := 2, ground := Ground.data } (by simp) rfl (by decide)
      have q0 := HOLD.out W _ _ _ HR4.out HW.out HLrb.out HNrb.out
      clear hall
      refine wpOp_plain rfl rfl (fun K' hK' => ?_)
      go_simp
      have hh := hK' _ _ (hK _ _ (Below.refl _ _) rfl)
      simpa [upd, d2] using hh
    · simp at ho; subst ho
      clear hall
      refine wpOp_plain rfl rfl (fun K' hK' => ?_)
      go_simp
      have hh := hK' _ _ (hK _ _ (Below.refl _ _) rfl)
      simpa [upd] using hh
    · simp at ho; subst ho
      have d4 : Y 4 = _ := hall { on := 4, ground := Ground.data } (by simp) rfl (by decide)
      clear hall
      refine wpOp_plain rfl rfl (fun K' hK' => ?_)
      go_simp
      have hh := hK' _ _ (hK _ _ (Below.refl _ _) rfl)
      simpa [upd, d4] using hh
    · simp at ho; subst ho
      have d5 : Y 5 = _ := hall { on := 5, ground := Ground.data } (by simp) rfl (by decide)
      clear hall
      refine wpOp_plain rfl rfl (fun K' hK' => ?_)
      go_simp
      have hh := hK' _ _ (hK _ _ (Below.refl _ _) rfl)
      simpa [upd, d5] using hh
    · simp at ho; subst ho
      have d6 : Y 6 = _ := hall { on := 6, ground := Ground.data } (by simp) rfl (by decide)
      have q0 := HOLD.out W _ _ _ HF0.out HW.out HLfb.out HNfb.out
      clear hall
      refine wpOp_plain rfl rfl (fun K' hK' => ?_)
      go_simp
      have hh := hK' _ _ (hK _ _ (Below.refl _ _) rfl)
      simpa [upd, d6] using hh
    · simp at ho; subst ho
      clear hall
      refine wpOp_plain rfl rfl (fun K' hK' => ?_)
      go_simp
      have hh := hK' _ _ (hK _ _ (Below.refl _ _) rfl)
      simpa [upd] using hh
    · simp at ho; subst ho
      have d8 : Y 8 = _ := hall { on := 8, ground := Ground.data } (by simp) rfl (by decide)
      have q0 := HOLD.out W _ _ _ (HIB.out.cell (j := 2) rfl) HW.out HIB.out.lt HNib.out
      clear hall
      refine wpOp_plain rfl rfl (fun K' hK' => ?_)
      go_simp
      have hh := hK' _ _ (hK _ _ (Below.refl _ _) rfl)
      simpa [upd, d8] using hh
    · simp at ho; subst ho
      have d7 : Y 7 = _ := hall { on := 7, ground := Ground.data } (by simp) rfl (by decide)
      have d9 : Y 9 = _ := hall { on := 9, ground := Ground.data } (by simp) rfl (by decide)
      clear hall
      refine wpOp_plain rfl rfl (fun K' hK' => ?_)
      go_simp
      have hh := hK' _ _ (hK _ _ (Below.refl _ _) rfl)
      simpa [upd, d7, d9] using hh
    · simp at ho; subst ho
      have d10 : Y 10 = _ := hall { on := 10, ground := Ground.data } (by simp) rfl (by decide)
      have q0 := HOLD.out W _ _ _ HTA0.out HW.out HLtb.out HNtb.out
      have q1 := HOLD.out W _ _ _ HTA1.out HW.out HLtb.out HNtb.out
      clear hall
      refine wpOp_plain rfl rfl (fun K' hK' => ?_)
      go_simp
      have hh := hK' _ _ (hK _ _ (Below.refl _ _) rfl)
      simpa [upd, d10] using hh
    · simp at ho; subst ho
      clear hall
      refine wpOp_plain rfl rfl (fun K' hK' => ?_)
      go_simp
      have hh := hK' _ _ (hK _ _ (Below.refl _ _) rfl)
      simpa [upd] using hh
    · simp at ho; subst ho
      have d12 : Y 12 = _ := hall { on := 12, ground := Ground.data } (by simp) rfl (by decide)
      have q0 := HOLD.out W _ _ _ (HIB.out.cell (j := 3) rfl) HW.out HIB.out.lt HNib.out
      clear hall
      refine wpOp_plain rfl rfl (fun K' hK' => ?_)
      go_simp
      have hh := hK' _ _ (hK _ _ (Below.refl _ _) rfl)
      simpa [upd, d12] using hh
    · simp at ho; subst ho
      have d13 : Y 13 = _ := hall { on := 13, ground := Ground.data } (by simp) rfl (by decide)
      clear hall
      refine wpOp_plain rfl rfl (fun K' hK' => ?_)
      go_simp
      have hh := hK' _ _ (hK _ _ (Below.refl _ _) rfl)
      simpa [upd, d13] using hh
    · simp at ho; subst ho
      have d3 : Y 3 = _ := hall { on := 3, ground := Ground.data } (by simp) rfl (by decide)
      have d11 : Y 11 = _ := hall { on := 11, ground := Ground.data } (by simp) rfl (by decide)
      have d14 : Y 14 = _ := hall { on := 14, ground := Ground.data } (by simp) rfl (by decide)
      clear hall
      refine wpOp_plain rfl rfl (fun K' hK' => ?_)
      go_simp
      refine (HCALL.out W HW.out).mono ?_
      rintro e W5 ⟨⟨y0, y1, rfl, hf⟩, hb5⟩
      go_simp
      have hh := hK' _ _ (hK (.tuple #[.agg #[.int .i64 y0, .int .i64 y1], .bool r.isSome]) W5 hb5 ⟨y0, y1, rfl, hf⟩)
      simpa [upd, d3, d11, d14] using hh
    · simp at ho; subst ho
      obtain ⟨y0, y1, dT, hf⟩ := hall { on := 15, ground := Ground.data } (by simp) rfl (by decide)
      clear hall
      refine wpOp_plain rfl rfl (fun K' hK' => ?_)
      go_simp
      have hh := hK' _ _ (hK (.agg #[.int .i64 y0, .int .i64 y1]) _ (Below.refl _ _) ⟨y0, y1, rfl, hf⟩)
      simpa [upd, dT] using hh
    · simp at ho; subst ho
      obtain ⟨y0, y1, dT, hf⟩ := hall { on := 15, ground := Ground.data } (by simp) rfl (by decide)
      clear hall
      refine wpOp_plain rfl rfl (fun K' hK' => ?_)
      go_simp
      have hh := hK' _ _ (hK (.bool r.isSome) _ (Below.refl _ _) rfl)
      simpa [upd, dT] using hh
    · exact absurd rfl h2
    · simp at ho; subst ho
      have d17 : Y 17 = _ := hall { on := 17, ground := Ground.data } (by simp) rfl (by decide)
      clear hall
      refine wpOp_plain rfl rfl (fun K' hK' => ?_)
      go_simp
      have hh := hK' _ _ (hK (.bool r.isSome) _ (Below.refl _ _) rfl)
      simpa [upd, d17] using hh
    · simp at ho
  · intro o' Y W cs ho hrow hcs hcl K hK
    simp at ho; subst ho
    obtain ⟨y0, y1, dA, _⟩ := hcl
    obtain ⟨e0, e1, rfl⟩ := size2' hcs
    have q0 := hrow.cell (j := 0) rfl
    have q1 := hrow.cell (j := 1) rfl
    have k0 := hrow.free 0
    have k1 := hrow.free 1
    have HROW := Lib.hid hrow
    clear hrow hcs
    refine wpOp_plain rfl rfl (fun K' hK' => ?_)
    go_simp
    have hh := hK' _ _ (hK _ undef ((((Wr.refl (fun i => i = pw) W).setR pw _ _ (Or.inl rfl)).setR pw _ _ (Or.inl rfl))) (by rw [dA]; exact ((HROW.out.set 0 _).set 1 _)) (by rw [dA]; rfl))
    simpa [upd, dA] using hh
  · intro Y W hw hrow hall
    obtain ⟨y0, y1, dA, hf⟩ := hall 16 (by simp) (by decide)
    have dF : Y 19 = _ := hall 19 (by simp) (by decide)
    rw [dA] at hrow
    show Q .normal ⟨List.toArray ((Value.pointer (some ⟨rb, 0, none⟩)) :: (Value.pointer (some ⟨fb, 0, none⟩)) :: c2 :: c3 :: c4 :: (Value.pointer (some ⟨ib, 0, none⟩)) :: (Value.pointer (some ⟨pw, 0, none⟩)) :: Y 19 :: Y 0 :: Y 1 :: Y 2 :: Y 3 :: Y 4 :: Y 5 :: Y 6 :: Y 7 :: Y 8 :: Y 9 :: Y 10 :: Y 11 :: Y 12 :: Y 13 :: Y 14 :: Y 15 :: Y 16 :: Y 17 :: []), []⟩ W
    rw [dF]
    exact HEX.out W y0 y1 Y hw hrow hf
def vr5L (mb rb fb ib pw hb tb tof tl tc ma : Nat) (opv dstv bv nv : Int) (AV : Value) (va vb : V) (r : Option V) : List (Value → Prop) := [fun v => v = .pointer (some ⟨rb, 0, none⟩),
  fun v => v = .pointer (some ⟨rb, 0, none⟩),
  fun v => v = .pointer (some ⟨rb, 4, none⟩),
  fun v => v = .pointer (some ⟨hb, 0, none⟩),
  fun v => v = .pointer (some ⟨ib, 4, none⟩),
  fun v => v = .int .i64 nv,
  fun v => v = .pointer (some ⟨fb, 0, none⟩),
  fun v => v = .pointer (some ⟨fb, 0, none⟩),
  fun v => v = .pointer (some ⟨fb, 0, none⟩),
  fun v => v = .slice (some ⟨tb, tof, none⟩) tl tc,
  fun v => v = .pointer (some ⟨ib, 2, none⟩),
  fun v => v = .int .i64 (ma : Nat),
  fun v => v = .pointer (some ⟨tb, tof + ma * 2, none⟩),
  fun v => v = .agg #[.int .i64 va.obj, .int .i64 va.n],
  fun v => v = .pointer (some ⟨fb, 0, none⟩),
  fun v => v = .pointer (some ⟨fb, 0, none⟩),
  fun v => v = .pointer (some ⟨fb, 0, none⟩),
  fun v => v = .slice (some ⟨tb, tof, none⟩) tl tc,
  fun v => v = .pointer (some ⟨ib, 3, none⟩),
  fun v => v = .int .i64 (mb : Nat),
  fun v => v = .pointer (some ⟨tb, tof + mb * 2, none⟩),
  fun v => v = .agg #[.int .i64 vb.obj, .int .i64 vb.n],
  fun v => ∃ y0 y1, v = .tuple #[.agg #[.int .i64 y0, .int .i64 y1], .bool r.isSome] ∧ Fits r y0 y1,
  fun v => ∃ y0 y1, v = .agg #[.int .i64 y0, .int .i64 y1] ∧ Fits r y0 y1,
  fun v => v = .bool r.isSome,
  fun _ => True,
  fun v => v = .bool r.isSome]
def vr5C (mb rb fb ib pw hb tb tof tl tc ma : Nat) (opv dstv bv nv : Int) (AV : Value) (va vb : V) (r : Option V) (i : Nat) (v : Value) : Prop := ((vr5L mb rb fb ib pw hb tb tof tl tc ma opv dstv bv nv AV va vb r).getD i (fun _ => True)) v
noncomputable def vr5R : Code := (regsOf (Try.f42.body.getD .skip)).getD 11 .skip
set_option maxRecDepth 100000 in
set_option maxHeartbeats 8000000 in
theorem vr5_region (mb rb fb ib pw hb tb tof tl tc ma : Nat) (opv dstv bv nv : Int) (AV : Value) (va vb : V) (r : Option V) (w : World)
    (hr4 : w.cell? ⟨rb, 4, none⟩ = some (.pointer (some ⟨hb, 0, none⟩))) (hlrb : rb < w.heap.size) (hnrb : rb ≠ pw) (hf0 : w.cell? ⟨fb, 0, none⟩ = some (.slice (some ⟨tb, tof, none⟩) tl tc)) (hlfb : fb < w.heap.size) (hnfb : fb ≠ pw)
    (hib : Row w ib #[.int .i64 opv, .int .i64 dstv, .int .i64 (ma : Nat), .int .i64 (mb : Nat), .int .i64 nv, AV] 68) (hnib : ib ≠ pw) (hma : ma < tl) (hltb : tb < w.heap.size) (hntb : tb ≠ pw) (hta0 : w.cell? ⟨tb, tof + ma * 2, none⟩ = some (.int .i64 va.obj)) (hta1 : w.cell? ⟨tb, tof + ma * 2 + 1, none⟩ = some (.int .i64 va.n)) (hpw : Row w pw #[.int .i64 0, .int .i64 0] 60) (hmb : mb < tl) (htb0 : w.cell? ⟨tb, tof + mb * 2, none⟩ = some (.int .i64 vb.obj)) (htb1 : w.cell? ⟨tb, tof + mb * 2 + 1, none⟩ = some (.int .i64 vb.n))
    (hcall : ∀ W, Wr (fun i => i = pw) w W → Calls Try.prog 48 #[.pointer (some ⟨hb, 0, none⟩), .int .i64 nv, .agg #[.int .i64 va.obj, .int .i64 va.n], .agg #[.int .i64 vb.obj, .int .i64 vb.n]] W fun e w' => (∃ y0 y1, e = .returned (.tuple #[.agg #[.int .i64 y0, .int .i64 y1], .bool r.isSome]) ∧ Fits r y0 y1) ∧ Below W.heap.size W w')
    (c2 c3 c4 c7 c8 c9 c10 c11 c12 c13 c14 c15 c16 c17 c18 c19 c20 c21 c22 c23 c24 c25 c26 c27 c28 c29 c30 c31 c32 c33 c34 c35 c36 c37 c38 c39 c40 c41 c42 c43 c44 c45 c46 c47 c48 c49 c50 c51 c52 c53 c54 c55 c56 c57 c58 c59 c60 c61 c62 c63 c64 c65 c66 c67 c68 c69 c70 c71 c72 c73 c74 c75 c76 c77 c78 c79 c80 c81 c82 c83 c84 c85 c86 c87 c88 c89 c90 c91 c92 c93 c94 c95 c96 c97 c98 c99 c100 c101 c102 c103 c104 c105 c106 c107 c108 c109 c110 c111 c112 c113 c114 c115 c116 c117 c118 c119 c120 c121 c122 c123 c124 c125 c126 c127 c128 c129 c130 c131 c132 c133 c134 c135 c136 : Value) (Q : Exit → Act → World → Prop)
    (hexit : ∀ (W : World) (y0 y1 : Int) (Y : Nat → Value), Wr (fun i => i = pw) w W → Row W pw #[.int .i64 y0, .int .i64 y1] 60 → Fits r y0 y1 → Q .normal ⟨List.toArray ((Value.pointer (some ⟨rb, 0, none⟩)) :: (Value.pointer (some ⟨fb, 0, none⟩)) :: c2 :: c3 :: c4 :: (Value.pointer (some ⟨ib, 0, none⟩)) :: (Value.pointer (some ⟨pw, 0, none⟩)) :: (Value.bool r.isSome) :: c8 :: c9 :: c10 :: c11 :: c12 :: c13 :: c14 :: c15 :: c16 :: c17 :: c18 :: c19 :: c20 :: c21 :: c22 :: c23 :: c24 :: c25 :: c26 :: c27 :: c28 :: c29 :: c30 :: c31 :: c32 :: c33 :: c34 :: c35 :: c36 :: c37 :: c38 :: c39 :: c40 :: c41 :: c42 :: c43 :: c44 :: c45 :: c46 :: c47 :: c48 :: Y 0 :: Y 1 :: Y 2 :: Y 3 :: Y 4 :: Y 5 :: Y 6 :: Y 7 :: Y 8 :: Y 9 :: Y 10 :: Y 11 :: Y 12 :: Y 13 :: Y 14 :: Y 15 :: Y 16 :: Y 17 :: Y 18 :: Y 19 :: Y 20 :: Y 21 :: Y 22 :: Y 23 :: Y 24 :: c74 :: c75 :: c76 :: c77 :: c78 :: c79 :: c80 :: c81 :: c82 :: c83 :: c84 :: c85 :: c86 :: c87 :: c88 :: c89 :: c90 :: c91 :: c92 :: c93 :: c94 :: c95 :: c96 :: c97 :: c98 :: c99 :: c100 :: c101 :: c102 :: c103 :: c104 :: c105 :: c106 :: c107 :: c108 :: c109 :: c110 :: c111 :: c112 :: c113 :: c114 :: c115 :: c116 :: c117 :: c118 :: c119 :: c120 :: c121 :: c122 :: c123 :: c124 :: c125 :: c126 :: c127 :: c128 :: c129 :: c130 :: c131 :: c132 :: c133 :: c134 :: c135 :: c136 :: []), []⟩ W) :
    Code.wp Try.prog vr5R Q ⟨List.toArray ((Value.pointer (some ⟨rb, 0, none⟩)) :: (Value.pointer (some ⟨fb, 0, none⟩)) :: c2 :: c3 :: c4 :: (Value.pointer (some ⟨ib, 0, none⟩)) :: (Value.pointer (some ⟨pw, 0, none⟩)) :: c7 :: c8 :: c9 :: c10 :: c11 :: c12 :: c13 :: c14 :: c15 :: c16 :: c17 :: c18 :: c19 :: c20 :: c21 :: c22 :: c23 :: c24 :: c25 :: c26 :: c27 :: c28 :: c29 :: c30 :: c31 :: c32 :: c33 :: c34 :: c35 :: c36 :: c37 :: c38 :: c39 :: c40 :: c41 :: c42 :: c43 :: c44 :: c45 :: c46 :: c47 :: c48 :: c49 :: c50 :: c51 :: c52 :: c53 :: c54 :: c55 :: c56 :: c57 :: c58 :: c59 :: c60 :: c61 :: c62 :: c63 :: c64 :: c65 :: c66 :: c67 :: c68 :: c69 :: c70 :: c71 :: c72 :: c73 :: c74 :: c75 :: c76 :: c77 :: c78 :: c79 :: c80 :: c81 :: c82 :: c83 :: c84 :: c85 :: c86 :: c87 :: c88 :: c89 :: c90 :: c91 :: c92 :: c93 :: c94 :: c95 :: c96 :: c97 :: c98 :: c99 :: c100 :: c101 :: c102 :: c103 :: c104 :: c105 :: c106 :: c107 :: c108 :: c109 :: c110 :: c111 :: c112 :: c113 :: c114 :: c115 :: c116 :: c117 :: c118 :: c119 :: c120 :: c121 :: c122 :: c123 :: c124 :: c125 :: c126 :: c127 :: c128 :: c129 :: c130 :: c131 :: c132 :: c133 :: c134 :: c135 :: c136 :: []), []⟩ w := by
  have hma0 : (0 : Int) ≤ (ma : Int) := by omega
  have hma1 : (ma : Int) < (tl : Int) := by omega
  have HR4 := Lib.hid hr4
  have HLrb := Lib.hid hlrb
  have HNrb := Lib.hid hnrb
  have HF0 := Lib.hid hf0
  have HLfb := Lib.hid hlfb
  have HNfb := Lib.hid hnfb
  have HIB := Lib.hid hib
  have HNib := Lib.hid hnib
  have HLtb := Lib.hid hltb
  have HNtb := Lib.hid hntb
  have HTA0 := Lib.hid hta0
  have HTA1 := Lib.hid hta1
  have HPW := Lib.hid hpw
  have HCALL := Lib.hid hcall
  have HOLD := Lib.hid (show ∀ (W : World) (b j : Nat) (v : Value), w.cell? ⟨b, j, none⟩ = some v → Wr (fun i => i = pw) w W → b < w.heap.size → b ≠ pw → W.cell? ⟨b, j, none⟩ = some v from fun W b j v h hw hlt hne => (World.cell?_of_block (a := ⟨b, j, none⟩) (hw.block b hlt hne)).trans h)
  clear hr4 hlrb hnrb hf0 hlfb hnfb hib hnib hma hltb hntb hta0 hta1 hpw hcall
  have hmb0 : (0 : Int) ≤ (mb : Int) := by omega
  have hmb1 : (mb : Int) < (tl : Int) := by omega
  have HTB0 := Lib.hid htb0
  have HTB1 := Lib.hid htb1
  clear hmb htb0 htb1
  have HEX := Lib.hid hexit
  clear hexit
  conv => arg 2; whnf
  refine region_put (by kernel_rfl) 25 23 pw 2 60 aggOf (fun _ => vr5C mb rb fb ib pw hb tb tof tl tc ma opv dstv bv nv AV va vb r) (fun Y => ⟨List.toArray ((Value.pointer (some ⟨rb, 0, none⟩)) :: (Value.pointer (some ⟨fb, 0, none⟩)) :: c2 :: c3 :: c4 :: (Value.pointer (some ⟨ib, 0, none⟩)) :: (Value.pointer (some ⟨pw, 0, none⟩)) :: Y 26 :: c8 :: c9 :: c10 :: c11 :: c12 :: c13 :: c14 :: c15 :: c16 :: c17 :: c18 :: c19 :: c20 :: c21 :: c22 :: c23 :: c24 :: c25 :: c26 :: c27 :: c28 :: c29 :: c30 :: c31 :: c32 :: c33 :: c34 :: c35 :: c36 :: c37 :: c38 :: c39 :: c40 :: c41 :: c42 :: c43 :: c44 :: c45 :: c46 :: c47 :: c48 :: Y 0 :: Y 1 :: Y 2 :: Y 3 :: Y 4 :: Y 5 :: Y 6 :: Y 7 :: Y 8 :: Y 9 :: Y 10 :: Y 11 :: Y 12 :: Y 13 :: Y 14 :: Y 15 :: Y 16 :: Y 17 :: Y 18 :: Y 19 :: Y 20 :: Y 21 :: Y 22 :: Y 23 :: Y 24 :: c74 :: c75 :: c76 :: c77 :: c78 :: c79 :: c80 :: c81 :: c82 :: c83 :: c84 :: c85 :: c86 :: c87 :: c88 :: c89 :: c90 :: c91 :: c92 :: c93 :: c94 :: c95 :: c96 :: c97 :: c98 :: c99 :: c100 :: c101 :: c102 :: c103 :: c104 :: c105 :: c106 :: c107 :: c108 :: c109 :: c110 :: c111 :: c112 :: c113 :: c114 :: c115 :: c116 :: c117 :: c118 :: c119 :: c120 :: c121 :: c122 :: c123 :: c124 :: c125 :: c126 :: c127 :: c128 :: c129 :: c130 :: c131 :: c132 :: c133 :: c134 :: c135 :: c136 :: []), []⟩) (fun i => if i = 0 then c49 else if i = 1 then c50 else if i = 2 then c51 else if i = 3 then c52 else if i = 4 then c53 else if i = 5 then c54 else if i = 6 then c55 else if i = 7 then c56 else if i = 8 then c57 else if i = 9 then c58 else if i = 10 then c59 else if i = 11 then c60 else if i = 12 then c61 else if i = 13 then c62 else if i = 14 then c63 else if i = 15 then c64 else if i = 16 then c65 else if i = 17 then c66 else if i = 18 then c67 else if i = 19 then c68 else if i = 20 then c69 else if i = 21 then c70 else if i = 22 then c71 else if i = 23 then c72 else if i = 24 then c73 else if i = 26 then c7 else undef) rfl (by kernel_rfl) (by simp) (by decide) ⟨_, HPW.out, rfl⟩ ?_ (fun _ _ _ _ _ h => h) (fun _ _ _ _ _ h => h) ?_ ?_ ?_
  · intro o' ho
    simp at ho; subst ho
    exact ⟨{ on := 23, ground := Ground.data }, by simp, rfl, rfl⟩
  · intro i o' Y W h2 ho hb hall K hK
    have HW := Lib.hid hb
    clear hb
    rcases i with _ | _ | _ | _ | _ | _ | _ | _ | _ | _ | _ | _ | _ | _ | _ | _ | _ | _ | _ | _ | _ | _ | _ | _ | _ | _ | _ | i
    · simp at ho; subst ho
      clear hall
      refine wpOp_plain rfl rfl (fun K' hK' => ?_)
      go_simp
      have hh := hK' _ _ (hK _ _ (Below.refl _ _) rfl)
      simpa [upd] using hh
    · simp at ho; subst ho
      have d0 : Y 0 = _ := hall { on := 0, ground := Ground.data } (by simp) rfl (by decide)
      clear hall
      refine wpOp_plain rfl rfl (fun K' hK' => ?_)
      go_simp
      have hh := hK' _ _ (hK _ _ (Below.refl _ _) rfl)
      simpa [upd, d0] using hh
    · simp at ho; subst ho
      have d1 : Y 1 = _ := hall { on := 1, ground := Ground.data } (by simp) rfl (by decide)
      clear hall
      refine wpOp_plain rfl rfl (fun K' hK' => ?_)
      go_simp
      have hh := hK' _ _ (hK _ _ (Below.refl _ _) rfl)
      simpa [upd, d1] using hh
    · simp at ho; subst ho
      have d2 : Y 2 = _ := hall { on := 2, ground := Ground.data } (by simp) rfl (by decide)
      have q0 := HOLD.out W _ _ _ HR4.out HW.out HLrb.out HNrb.out
      clear hall
      refine wpOp_plain rfl rfl (fun K' hK' => ?_)
      go_simp
      have hh := hK' _ _ (hK _ _ (Below.refl _ _) rfl)
      simpa [upd, d2] using hh
    · simp at ho; subst ho
      clear hall
      refine wpOp_plain rfl rfl (fun K' hK' => ?_)
      go_simp
      have hh := hK' _ _ (hK _ _ (Below.refl _ _) rfl)
      simpa [upd] using hh
    · simp at ho; subst ho
      have d4 : Y 4 = _ := hall { on := 4, ground := Ground.data } (by simp) rfl (by decide)
      have q0 := HOLD.out W _ _ _ (HIB.out.cell (j := 4) rfl) HW.out HIB.out.lt HNib.out
      clear hall
      refine wpOp_plain rfl rfl (fun K' hK' => ?_)
      go_simp
      have hh := hK' _ _ (hK _ _ (Below.refl _ _) rfl)
      simpa [upd, d4] using hh
    · simp at ho; subst ho
      clear hall
      refine wpOp_plain rfl rfl (fun K' hK' => ?_)
      go_simp
      have hh := hK' _ _ (hK _ _ (Below.refl _ _) rfl)
      simpa [upd] using hh
    · simp at ho; subst ho
      have d6 : Y 6 = _ := hall { on := 6, ground := Ground.data } (by simp) rfl (by decide)
      clear hall
      refine wpOp_plain rfl rfl (fun K' hK' => ?_)
      go_simp
      have hh := hK' _ _ (hK _ _ (Below.refl _ _) rfl)
      simpa [upd, d6] using hh
    · simp at ho; subst ho
      have d7 : Y 7 = _ := hall { on := 7, ground := Ground.data } (by simp) rfl (by decide)
      clear hall
      refine wpOp_plain rfl rfl (fun K' hK' => ?_)
      go_simp
      have hh := hK' _ _ (hK _ _ (Below.refl _ _) rfl)
      simpa [upd, d7] using hh
    · simp at ho; subst ho
      have d8 : Y 8 = _ := hall { on := 8, ground := Ground.data } (by simp) rfl (by decide)
      have q0 := HOLD.out W _ _ _ HF0.out HW.out HLfb.out HNfb.out
      clear hall
      refine wpOp_plain rfl rfl (fun K' hK' => ?_)
      go_simp
      have hh := hK' _ _ (hK _ _ (Below.refl _ _) rfl)
      simpa [upd, d8] using hh
    · simp at ho; subst ho
      clear hall
      refine wpOp_plain rfl rfl (fun K' hK' => ?_)
      go_simp
      have hh := hK' _ _ (hK _ _ (Below.refl _ _) rfl)
      simpa [upd] using hh
    · simp at ho; subst ho
      have d10 : Y 10 = _ := hall { on := 10, ground := Ground.data } (by simp) rfl (by decide)
      have q0 := HOLD.out W _ _ _ (HIB.out.cell (j := 2) rfl) HW.out HIB.out.lt HNib.out
      clear hall
      refine wpOp_plain rfl rfl (fun K' hK' => ?_)
      go_simp
      have hh := hK' _ _ (hK _ _ (Below.refl _ _) rfl)
      simpa [upd, d10] using hh
    · simp at ho; subst ho
      have d9 : Y 9 = _ := hall { on := 9, ground := Ground.data } (by simp) rfl (by decide)
      have d11 : Y 11 = _ := hall { on := 11, ground := Ground.data } (by simp) rfl (by decide)
      clear hall
      refine wpOp_plain rfl rfl (fun K' hK' => ?_)
      go_simp
      have hh := hK' _ _ (hK _ _ (Below.refl _ _) rfl)
      simpa [upd, d9, d11] using hh
    · simp at ho; subst ho
      have d12 : Y 12 = _ := hall { on := 12, ground := Ground.data } (by simp) rfl (by decide)
      have q0 := HOLD.out W _ _ _ HTA0.out HW.out HLtb.out HNtb.out
      have q1 := HOLD.out W _ _ _ HTA1.out HW.out HLtb.out HNtb.out
      clear hall
      refine wpOp_plain rfl rfl (fun K' hK' => ?_)
      go_simp
      have hh := hK' _ _ (hK _ _ (Below.refl _ _) rfl)
      simpa [upd, d12] using hh
    · simp at ho; subst ho
      clear hall
      refine wpOp_plain rfl rfl (fun K' hK' => ?_)
      go_simp
      have hh := hK' _ _ (hK _ _ (Below.refl _ _) rfl)
      simpa [upd] using hh
    · simp at ho; subst ho
      have d14 : Y 14 = _ := hall { on := 14, ground := Ground.data } (by simp) rfl (by decide)
      clear hall
      refine wpOp_plain rfl rfl (fun K' hK' => ?_)
      go_simp
      have hh := hK' _ _ (hK _ _ (Below.refl _ _) rfl)
      simpa [upd, d14] using hh
    · simp at ho; subst ho
      have d15 : Y 15 = _ := hall { on := 15, ground := Ground.data } (by simp) rfl (by decide)
      clear hall
      refine wpOp_plain rfl rfl (fun K' hK' => ?_)
      go_simp
      have hh := hK' _ _ (hK _ _ (Below.refl _ _) rfl)
      simpa [upd, d15] using hh
    · simp at ho; subst ho
      have d16 : Y 16 = _ := hall { on := 16, ground := Ground.data } (by simp) rfl (by decide)
      have q0 := HOLD.out W _ _ _ HF0.out HW.out HLfb.out HNfb.out
      clear hall
      refine wpOp_plain rfl rfl (fun K' hK' => ?_)
      go_simp
      have hh := hK' _ _ (hK _ _ (Below.refl _ _) rfl)
      simpa [upd, d16] using hh
    · simp at ho; subst ho
      clear hall
      refine wpOp_plain rfl rfl (fun K' hK' => ?_)
      go_simp
      have hh := hK' _ _ (hK _ _ (Below.refl _ _) rfl)
      simpa [upd] using hh
    · simp at ho; subst ho
      have d18 : Y 18 = _ := hall { on := 18, ground := Ground.data } (by simp) rfl (by decide)
      have q0 := HOLD.out W _ _ _ (HIB.out.cell (j := 3) rfl) HW.out HIB.out.lt HNib.out
      clear hall
      refine wpOp_plain rfl rfl (fun K' hK' => ?_)
      go_simp
      have hh := hK' _ _ (hK _ _ (Below.refl _ _) rfl)
      simpa [upd, d18] using hh
    · simp at ho; subst ho
      have d17 : Y 17 = _ := hall { on := 17, ground := Ground.data } (by simp) rfl (by decide)
      have d19 : Y 19 = _ := hall { on := 19, ground := Ground.data } (by simp) rfl (by decide)
      clear hall
      refine wpOp_plain rfl rfl (fun K' hK' => ?_)
      go_simp
      have hh := hK' _ _ (hK _ _ (Below.refl _ _) rfl)
      simpa [upd, d17, d19] using hh
    · simp at ho; subst ho
      have d20 : Y 20 = _ := hall { on := 20, ground := Ground.data } (by simp) rfl (by decide)
      have q0 := HOLD.out W _ _ _ HTB0.out HW.out HLtb.out HNtb.out
      have q1 := HOLD.out W _ _ _ HTB1.out HW.out HLtb.out HNtb.out
      clear hall
      refine wpOp_plain rfl rfl (fun K' hK' => ?_)
      go_simp
      have hh := hK' _ _ (hK _ _ (Below.refl _ _) rfl)
      simpa [upd, d20] using hh
    · simp at ho; subst ho
      have d3 : Y 3 = _ := hall { on := 3, ground := Ground.data } (by simp) rfl (by decide)
      have d5 : Y 5 = _ := hall { on := 5, ground := Ground.data } (by simp) rfl (by decide)
      have d13 : Y 13 = _ := hall { on := 13, ground := Ground.data } (by simp) rfl (by decide)
      have d21 : Y 21 = _ := hall { on := 21, ground := Ground.data } (by simp) rfl (by decide)
      clear hall
      refine wpOp_plain rfl rfl (fun K' hK' => ?_)
      go_simp
      refine (HCALL.out W HW.out).mono ?_
      rintro e W5 ⟨⟨y0, y1, rfl, hf⟩, hb5⟩
      go_simp
      have hh := hK' _ _ (hK (.tuple #[.agg #[.int .i64 y0, .int .i64 y1], .bool r.isSome]) W5 hb5 ⟨y0, y1, rfl, hf⟩)
      simpa [upd, d3, d5, d13, d21] using hh
    · simp at ho; subst ho
      obtain ⟨y0, y1, dT, hf⟩ := hall { on := 22, ground := Ground.data } (by simp) rfl (by decide)
      clear hall
      refine wpOp_plain rfl rfl (fun K' hK' => ?_)
      go_simp
      have hh := hK' _ _ (hK (.agg #[.int .i64 y0, .int .i64 y1]) _ (Below.refl _ _) ⟨y0, y1, rfl, hf⟩)
      simpa [upd, dT] using hh
    · simp at ho; subst ho
      obtain ⟨y0, y1, dT, hf⟩ := hall { on := 22, ground := Ground.data } (by simp) rfl (by decide)
      clear hall
      refine wpOp_plain rfl rfl (fun K' hK' => ?_)
      go_simp
      have hh := hK' _ _ (hK (.bool r.isSome) _ (Below.refl _ _) rfl)
      simpa [upd, dT] using hh
    · exact absurd rfl h2
    · simp at ho; subst ho
      have d24 : Y 24 = _ := hall { on := 24, ground := Ground.data } (by simp) rfl (by decide)
      clear hall
      refine wpOp_plain rfl rfl (fun K' hK' => ?_)
      go_simp
      have hh := hK' _ _ (hK (.bool r.isSome) _ (Below.refl _ _) rfl)
      simpa [upd, d24] using hh
    · simp at ho
  · intro o' Y W cs ho hrow hcs hcl K hK
    simp at ho; subst ho
    obtain ⟨y0, y1, dA, _⟩ := hcl
    obtain ⟨e0, e1, rfl⟩ := size2' hcs
    have q0 := hrow.cell (j := 0) rfl
    have q1 := hrow.cell (j := 1) rfl
    have k0 := hrow.free 0
    have k1 := hrow.free 1
    have HROW := Lib.hid hrow
    clear hrow hcs
    refine wpOp_plain rfl rfl (fun K' hK' => ?_)
    go_simp
    have hh := hK' _ _ (hK _ undef ((((Wr.refl (fun i => i = pw) W).setR pw _ _ (Or.inl rfl)).setR pw _ _ (Or.inl rfl))) (by rw [dA]; exact ((HROW.out.set 0 _).set 1 _)) (by rw [dA]; rfl))
    simpa [upd, dA] using hh
  · intro Y W hw hrow hall
    obtain ⟨y0, y1, dA, hf⟩ := hall 23 (by simp) (by decide)
    have dF : Y 26 = _ := hall 26 (by simp) (by decide)
    rw [dA] at hrow
    show Q .normal ⟨List.toArray ((Value.pointer (some ⟨rb, 0, none⟩)) :: (Value.pointer (some ⟨fb, 0, none⟩)) :: c2 :: c3 :: c4 :: (Value.pointer (some ⟨ib, 0, none⟩)) :: (Value.pointer (some ⟨pw, 0, none⟩)) :: Y 26 :: c8 :: c9 :: c10 :: c11 :: c12 :: c13 :: c14 :: c15 :: c16 :: c17 :: c18 :: c19 :: c20 :: c21 :: c22 :: c23 :: c24 :: c25 :: c26 :: c27 :: c28 :: c29 :: c30 :: c31 :: c32 :: c33 :: c34 :: c35 :: c36 :: c37 :: c38 :: c39 :: c40 :: c41 :: c42 :: c43 :: c44 :: c45 :: c46 :: c47 :: c48 :: Y 0 :: Y 1 :: Y 2 :: Y 3 :: Y 4 :: Y 5 :: Y 6 :: Y 7 :: Y 8 :: Y 9 :: Y 10 :: Y 11 :: Y 12 :: Y 13 :: Y 14 :: Y 15 :: Y 16 :: Y 17 :: Y 18 :: Y 19 :: Y 20 :: Y 21 :: Y 22 :: Y 23 :: Y 24 :: c74 :: c75 :: c76 :: c77 :: c78 :: c79 :: c80 :: c81 :: c82 :: c83 :: c84 :: c85 :: c86 :: c87 :: c88 :: c89 :: c90 :: c91 :: c92 :: c93 :: c94 :: c95 :: c96 :: c97 :: c98 :: c99 :: c100 :: c101 :: c102 :: c103 :: c104 :: c105 :: c106 :: c107 :: c108 :: c109 :: c110 :: c111 :: c112 :: c113 :: c114 :: c115 :: c116 :: c117 :: c118 :: c119 :: c120 :: c121 :: c122 :: c123 :: c124 :: c125 :: c126 :: c127 :: c128 :: c129 :: c130 :: c131 :: c132 :: c133 :: c134 :: c135 :: c136 :: []), []⟩ W
    rw [dF]
    exact HEX.out W y0 y1 Y hw hrow hf
def vr6L (ab aof an ac rb fb ib pw hb tb tof tl tc ma : Nat) (opv dstv bv nv : Int) (xv : Int) (va : V) (r : Option V) : List (Value → Prop) := [fun v => v = .pointer (some ⟨rb, 0, none⟩),
  fun v => v = .pointer (some ⟨rb, 0, none⟩),
  fun v => v = .pointer (some ⟨rb, 4, none⟩),
  fun v => v = .pointer (some ⟨hb, 0, none⟩),
  fun v => v = .pointer (some ⟨ib, 4, none⟩),
  fun v => v = .int .i64 nv,
  fun v => v = .pointer (some ⟨fb, 0, none⟩),
  fun v => v = .pointer (some ⟨fb, 0, none⟩),
  fun v => v = .pointer (some ⟨fb, 0, none⟩),
  fun v => v = .slice (some ⟨tb, tof, none⟩) tl tc,
  fun v => v = .pointer (some ⟨ib, 2, none⟩),
  fun v => v = .int .i64 (ma : Nat),
  fun v => v = .pointer (some ⟨tb, tof + ma * 2, none⟩),
  fun v => v = .agg #[.int .i64 va.obj, .int .i64 va.n],
  fun v => v = .pointer (some ⟨ib, 5, none⟩),
  fun v => v = .slice (some ⟨ab, aof, none⟩) an ac,
  fun v => v = .pointer (some ⟨ab, aof, none⟩),
  fun v => v = .int .i64 xv,
  fun v => v = .agg #[.int .i64 0, .int .i64 xv],
  fun v => ∃ y0 y1, v = .tuple #[.agg #[.int .i64 y0, .int .i64 y1], .bool r.isSome] ∧ Fits r y0 y1,
  fun v => ∃ y0 y1, v = .agg #[.int .i64 y0, .int .i64 y1] ∧ Fits r y0 y1,
  fun v => v = .bool r.isSome,
  fun _ => True,
  fun v => v = .bool r.isSome]
def vr6C (ab aof an ac rb fb ib pw hb tb tof tl tc ma : Nat) (opv dstv bv nv : Int) (xv : Int) (va : V) (r : Option V) (i : Nat) (v : Value) : Prop := ((vr6L ab aof an ac rb fb ib pw hb tb tof tl tc ma opv dstv bv nv xv va r).getD i (fun _ => True)) v
noncomputable def vr6R : Code := (regsOf (Try.f42.body.getD .skip)).getD 13 .skip
set_option maxRecDepth 100000 in
set_option maxHeartbeats 8000000 in
theorem vr6_region (ab aof an ac rb fb ib pw hb tb tof tl tc ma : Nat) (opv dstv bv nv : Int) (xv : Int) (va : V) (r : Option V) (w : World)
    (hr4 : w.cell? ⟨rb, 4, none⟩ = some (.pointer (some ⟨hb, 0, none⟩))) (hlrb : rb < w.heap.size) (hnrb : rb ≠ pw) (hf0 : w.cell? ⟨fb, 0, none⟩ = some (.slice (some ⟨tb, tof, none⟩) tl tc)) (hlfb : fb < w.heap.size) (hnfb : fb ≠ pw)
    (hib : Row w ib #[.int .i64 opv, .int .i64 dstv, .int .i64 (ma : Nat), .int .i64 bv, .int .i64 nv, .slice (some ⟨ab, aof, none⟩) an ac] 68) (hnib : ib ≠ pw) (hma : ma < tl) (hltb : tb < w.heap.size) (hntb : tb ≠ pw) (hta0 : w.cell? ⟨tb, tof + ma * 2, none⟩ = some (.int .i64 va.obj)) (hta1 : w.cell? ⟨tb, tof + ma * 2 + 1, none⟩ = some (.int .i64 va.n)) (hpw : Row w pw #[.int .i64 0, .int .i64 0] 60) (han : 0 < an) (hlab : ab < w.heap.size) (hnab : ab ≠ pw) (hab0 : w.cell? ⟨ab, aof, none⟩ = some (.int .i64 xv))
    (hcall : ∀ W, Wr (fun i => i = pw) w W → Calls Try.prog 48 #[.pointer (some ⟨hb, 0, none⟩), .int .i64 nv, .agg #[.int .i64 va.obj, .int .i64 va.n], .agg #[.int .i64 0, .int .i64 xv]] W fun e w' => (∃ y0 y1, e = .returned (.tuple #[.agg #[.int .i64 y0, .int .i64 y1], .bool r.isSome]) ∧ Fits r y0 y1) ∧ Below W.heap.size W w')
    (c2 c3 c4 c7 c8 c9 c10 c11 c12 c13 c14 c15 c16 c17 c18 c19 c20 c21 c22 c23 c24 c25 c26 c27 c28 c29 c30 c31 c32 c33 c34 c35 c36 c37 c38 c39 c40 c41 c42 c43 c44 c45 c46 c47 c48 c49 c50 c51 c52 c53 c54 c55 c56 c57 c58 c59 c60 c61 c62 c63 c64 c65 c66 c67 c68 c69 c70 c71 c72 c73 c74 c75 c76 c77 c78 c79 c80 c81 c82 c83 c84 c85 c86 c87 c88 c89 c90 c91 c92 c93 c94 c95 c96 c97 c98 c99 c100 c101 c102 c103 c104 c105 c106 c107 c108 c109 c110 c111 c112 c113 c114 c115 c116 c117 c118 c119 c120 c121 c122 c123 c124 c125 c126 c127 c128 c129 c130 c131 c132 c133 c134 c135 c136 : Value) (Q : Exit → Act → World → Prop)
    (hexit : ∀ (W : World) (y0 y1 : Int) (Y : Nat → Value), Wr (fun i => i = pw) w W → Row W pw #[.int .i64 y0, .int .i64 y1] 60 → Fits r y0 y1 → Q .normal ⟨List.toArray ((Value.pointer (some ⟨rb, 0, none⟩)) :: (Value.pointer (some ⟨fb, 0, none⟩)) :: c2 :: c3 :: c4 :: (Value.pointer (some ⟨ib, 0, none⟩)) :: (Value.pointer (some ⟨pw, 0, none⟩)) :: (Value.bool r.isSome) :: c8 :: c9 :: c10 :: c11 :: c12 :: c13 :: c14 :: c15 :: c16 :: c17 :: c18 :: c19 :: c20 :: c21 :: c22 :: c23 :: c24 :: c25 :: c26 :: c27 :: c28 :: c29 :: c30 :: c31 :: c32 :: c33 :: c34 :: c35 :: c36 :: c37 :: c38 :: c39 :: c40 :: c41 :: c42 :: c43 :: c44 :: c45 :: c46 :: c47 :: c48 :: c49 :: c50 :: c51 :: c52 :: c53 :: c54 :: c55 :: c56 :: c57 :: c58 :: c59 :: c60 :: c61 :: c62 :: c63 :: c64 :: c65 :: c66 :: c67 :: c68 :: c69 :: c70 :: c71 :: c72 :: c73 :: c74 :: c75 :: Y 0 :: Y 1 :: Y 2 :: Y 3 :: Y 4 :: Y 5 :: Y 6 :: Y 7 :: Y 8 :: Y 9 :: Y 10 :: Y 11 :: Y 12 :: Y 13 :: Y 14 :: Y 15 :: Y 16 :: Y 17 :: Y 18 :: Y 19 :: Y 20 :: Y 21 :: c98 :: c99 :: c100 :: c101 :: c102 :: c103 :: c104 :: c105 :: c106 :: c107 :: c108 :: c109 :: c110 :: c111 :: c112 :: c113 :: c114 :: c115 :: c116 :: c117 :: c118 :: c119 :: c120 :: c121 :: c122 :: c123 :: c124 :: c125 :: c126 :: c127 :: c128 :: c129 :: c130 :: c131 :: c132 :: c133 :: c134 :: c135 :: c136 :: []), []⟩ W) :
    Code.wp Try.prog vr6R Q ⟨List.toArray ((Value.pointer (some ⟨rb, 0, none⟩)) :: (Value.pointer (some ⟨fb, 0, none⟩)) :: c2 :: c3 :: c4 :: (Value.pointer (some ⟨ib, 0, none⟩)) :: (Value.pointer (some ⟨pw, 0, none⟩)) :: c7 :: c8 :: c9 :: c10 :: c11 :: c12 :: c13 :: c14 :: c15 :: c16 :: c17 :: c18 :: c19 :: c20 :: c21 :: c22 :: c23 :: c24 :: c25 :: c26 :: c27 :: c28 :: c29 :: c30 :: c31 :: c32 :: c33 :: c34 :: c35 :: c36 :: c37 :: c38 :: c39 :: c40 :: c41 :: c42 :: c43 :: c44 :: c45 :: c46 :: c47 :: c48 :: c49 :: c50 :: c51 :: c52 :: c53 :: c54 :: c55 :: c56 :: c57 :: c58 :: c59 :: c60 :: c61 :: c62 :: c63 :: c64 :: c65 :: c66 :: c67 :: c68 :: c69 :: c70 :: c71 :: c72 :: c73 :: c74 :: c75 :: c76 :: c77 :: c78 :: c79 :: c80 :: c81 :: c82 :: c83 :: c84 :: c85 :: c86 :: c87 :: c88 :: c89 :: c90 :: c91 :: c92 :: c93 :: c94 :: c95 :: c96 :: c97 :: c98 :: c99 :: c100 :: c101 :: c102 :: c103 :: c104 :: c105 :: c106 :: c107 :: c108 :: c109 :: c110 :: c111 :: c112 :: c113 :: c114 :: c115 :: c116 :: c117 :: c118 :: c119 :: c120 :: c121 :: c122 :: c123 :: c124 :: c125 :: c126 :: c127 :: c128 :: c129 :: c130 :: c131 :: c132 :: c133 :: c134 :: c135 :: c136 :: []), []⟩ w := by
  have hma0 : (0 : Int) ≤ (ma : Int) := by omega
  have hma1 : (ma : Int) < (tl : Int) := by omega
  have HR4 := Lib.hid hr4
  have HLrb := Lib.hid hlrb
  have HNrb := Lib.hid hnrb
  have HF0 := Lib.hid hf0
  have HLfb := Lib.hid hlfb
  have HNfb := Lib.hid hnfb
  have HIB := Lib.hid hib
  have HNib := Lib.hid hnib
  have HLtb := Lib.hid hltb
  have HNtb := Lib.hid hntb
  have HTA0 := Lib.hid hta0
  have HTA1 := Lib.hid hta1
  have HPW := Lib.hid hpw
  have HCALL := Lib.hid hcall
  have HOLD := Lib.hid (show ∀ (W : World) (b j : Nat) (v : Value), w.cell? ⟨b, j, none⟩ = some v → Wr (fun i => i = pw) w W → b < w.heap.size → b ≠ pw → W.cell? ⟨b, j, none⟩ = some v from fun W b j v h hw hlt hne => (World.cell?_of_block (a := ⟨b, j, none⟩) (hw.block b hlt hne)).trans h)
  clear hr4 hlrb hnrb hf0 hlfb hnfb hib hnib hma hltb hntb hta0 hta1 hpw hcall
  have han1 : (0 : Int) < (an : Int) := by omega
  have HLab := Lib.hid hlab
  have HNab := Lib.hid hnab
  have HAB0 := Lib.hid hab0
  clear hlab hnab hab0
  have HEX := Lib.hid hexit
  clear hexit
  conv => arg 2; whnf
  refine region_put (by kernel_rfl) 22 20 pw 2 60 aggOf (fun _ => vr6C ab aof an ac rb fb ib pw hb tb tof tl tc ma opv dstv bv nv xv va r) (fun Y => ⟨List.toArray ((Value.pointer (some ⟨rb, 0, none⟩)) :: (Value.pointer (some ⟨fb, 0, none⟩)) :: c2 :: c3 :: c4 :: (Value.pointer (some ⟨ib, 0, none⟩)) :: (Value.pointer (some ⟨pw, 0, none⟩)) :: Y 23 :: c8 :: c9 :: c10 :: c11 :: c12 :: c13 :: c14 :: c15 :: c16 :: c17 :: c18 :: c19 :: c20 :: c21 :: c22 :: c23 :: c24 :: c25 :: c26 :: c27 :: c28 :: c29 :: c30 :: c31 :: c32 :: c33 :: c34 :: c35 :: c36 :: c37 :: c38 :: c39 :: c40 :: c41 :: c42 :: c43 :: c44 :: c45 :: c46 :: c47 :: c48 :: c49 :: c50 :: c51 :: c52 :: c53 :: c54 :: c55 :: c56 :: c57 :: c58 :: c59 :: c60 :: c61 :: c62 :: c63 :: c64 :: c65 :: c66 :: c67 :: c68 :: c69 :: c70 :: c71 :: c72 :: c73 :: c74 :: c75 :: Y 0 :: Y 1 :: Y 2 :: Y 3 :: Y 4 :: Y 5 :: Y 6 :: Y 7 :: Y 8 :: Y 9 :: Y 10 :: Y 11 :: Y 12 :: Y 13 :: Y 14 :: Y 15 :: Y 16 :: Y 17 :: Y 18 :: Y 19 :: Y 20 :: Y 21 :: c98 :: c99 :: c100 :: c101 :: c102 :: c103 :: c104 :: c105 :: c106 :: c107 :: c108 :: c109 :: c110 :: c111 :: c112 :: c113 :: c114 :: c115 :: c116 :: c117 :: c118 :: c119 :: c120 :: c121 :: c122 :: c123 :: c124 :: c125 :: c126 :: c127 :: c128 :: c129 :: c130 :: c131 :: c132 :: c133 :: c134 :: c135 :: c136 :: []), []⟩) (fun i => if i = 0 then c76 else if i = 1 then c77 else if i = 2 then c78 else if i = 3 then c79 else if i = 4 then c80 else if i = 5 then c81 else if i = 6 then c82 else if i = 7 then c83 else if i = 8 then c84 else if i = 9 then c85 else if i = 10 then c86 else if i = 11 then c87 else if i = 12 then c88 else if i = 13 then c89 else if i = 14 then c90 else if i = 15 then c91 else if i = 16 then c92 else if i = 17 then c93 else if i = 18 then c94 else if i = 19 then c95 else if i = 20 then c96 else if i = 21 then c97 else if i = 23 then c7 else undef) rfl (by kernel_rfl) (by simp) (by decide) ⟨_, HPW.out, rfl⟩ ?_ (fun _ _ _ _ _ h => h) (fun _ _ _ _ _ h => h) ?_ ?_ ?_
  · intro o' ho
    simp at ho; subst ho
    exact ⟨{ on := 20, ground := Ground.data }, by simp, rfl, rfl⟩
  · intro i o' Y W h2 ho hb hall K hK
    have HW := Lib.hid hb
    clear hb
    rcases i with _ | _ | _ | _ | _ | _ | _ | _ | _ | _ | _ | _ | _ | _ | _ | _ | _ | _ | _ | _ | _ | _ | _ | _ | i
    · simp at ho; subst ho
      clear hall
      refine wpOp_plain rfl rfl (fun K' hK' => ?_)
      go_simp
      have hh := hK' _ _ (hK _ _ (Below.refl _ _) rfl)
      simpa [upd] using hh
    · simp at ho; subst ho
      have d0 : Y 0 = _ := hall { on := 0, ground := Ground.data } (by simp) rfl (by decide)
      clear hall
      refine wpOp_plain rfl rfl (fun K' hK' => ?_)
      go_simp
      have hh := hK' _ _ (hK _ _ (Below.refl _ _) rfl)
      simpa [upd, d0] using hh
    · simp at ho; subst ho
      have d1 : Y 1 = _ := hall { on := 1, ground := Ground.data } (by simp) rfl (by decide)
      clear hall
      refine wpOp_plain rfl rfl (fun K' hK' => ?_)
      go_simp
      have hh := hK' _ _ (hK _ _ (Below.refl _ _) rfl)
      simpa [upd, d1] using hh
    · simp at ho; subst ho
      have d2 : Y 2 = _ := hall { on := 2, ground := Ground.data } (by simp) rfl (by decide)
      have q0 := HOLD.out W _ _ _ HR4.out HW.out HLrb.out HNrb.out
      clear hall
      refine wpOp_plain rfl rfl (fun K' hK' => ?_)
      go_simp
      have hh := hK' _ _ (hK _ _ (Below.refl _ _) rfl)
      simpa [upd, d2] using hh
    · simp at ho; subst ho
      clear hall
      refine wpOp_plain rfl rfl (fun K' hK' => ?_)
      go_simp
      have hh := hK' _ _ (hK _ _ (Below.refl _ _) rfl)
      simpa [upd] using hh
    · simp at ho; subst ho
      have d4 : Y 4 = _ := hall { on := 4, ground := Ground.data } (by simp) rfl (by decide)
      have q0 := HOLD.out W _ _ _ (HIB.out.cell (j := 4) rfl) HW.out HIB.out.lt HNib.out
      clear hall
      refine wpOp_plain rfl rfl (fun K' hK' => ?_)
      go_simp
      have hh := hK' _ _ (hK _ _ (Below.refl _ _) rfl)
      simpa [upd, d4] using hh
    · simp at ho; subst ho
      clear hall
      refine wpOp_plain rfl rfl (fun K' hK' => ?_)
      go_simp
      have hh := hK' _ _ (hK _ _ (Below.refl _ _) rfl)
      simpa [upd] using hh
    · simp at ho; subst ho
      have d6 : Y 6 = _ := hall { on := 6, ground := Ground.data } (by simp) rfl (by decide)
      clear hall
      refine wpOp_plain rfl rfl (fun K' hK' => ?_)
      go_simp
      have hh := hK' _ _ (hK _ _ (Below.refl _ _) rfl)
      simpa [upd, d6] using hh
    · simp at ho; subst ho
      have d7 : Y 7 = _ := hall { on := 7, ground := Ground.data } (by simp) rfl (by decide)
      clear hall
      refine wpOp_plain rfl rfl (fun K' hK' => ?_)
      go_simp
      have hh := hK' _ _ (hK _ _ (Below.refl _ _) rfl)
      simpa [upd, d7] using hh
    · simp at ho; subst ho
      have d8 : Y 8 = _ := hall { on := 8, ground := Ground.data } (by simp) rfl (by decide)
      have q0 := HOLD.out W _ _ _ HF0.out HW.out HLfb.out HNfb.out
      clear hall
      refine wpOp_plain rfl rfl (fun K' hK' => ?_)
      go_simp
      have hh := hK' _ _ (hK _ _ (Below.refl _ _) rfl)
      simpa [upd, d8] using hh
    · simp at ho; subst ho
      clear hall
      refine wpOp_plain rfl rfl (fun K' hK' => ?_)
      go_simp
      have hh := hK' _ _ (hK _ _ (Below.refl _ _) rfl)
      simpa [upd] using hh
    · simp at ho; subst ho
      have d10 : Y 10 = _ := hall { on := 10, ground := Ground.data } (by simp) rfl (by decide)
      have q0 := HOLD.out W _ _ _ (HIB.out.cell (j := 2) rfl) HW.out HIB.out.lt HNib.out
      clear hall
      refine wpOp_plain rfl rfl (fun K' hK' => ?_)
      go_simp
      have hh := hK' _ _ (hK _ _ (Below.refl _ _) rfl)
      simpa [upd, d10] using hh
    · simp at ho; subst ho
      have d9 : Y 9 = _ := hall { on := 9, ground := Ground.data } (by simp) rfl (by decide)
      have d11 : Y 11 = _ := hall { on := 11, ground := Ground.data } (by simp) rfl (by decide)
      clear hall
      refine wpOp_plain rfl rfl (fun K' hK' => ?_)
      go_simp
      have hh := hK' _ _ (hK _ _ (Below.refl _ _) rfl)
      simpa [upd, d9, d11] using hh
    · simp at ho; subst ho
      have d12 : Y 12 = _ := hall { on := 12, ground := Ground.data } (by simp) rfl (by decide)
      have q0 := HOLD.out W _ _ _ HTA0.out HW.out HLtb.out HNtb.out
      have q1 := HOLD.out W _ _ _ HTA1.out HW.out HLtb.out HNtb.out
      clear hall
      refine wpOp_plain rfl rfl (fun K' hK' => ?_)
      go_simp
      have hh := hK' _ _ (hK _ _ (Below.refl _ _) rfl)
      simpa [upd, d12] using hh
    · simp at ho; subst ho
      clear hall
      refine wpOp_plain rfl rfl (fun K' hK' => ?_)
      go_simp
      have hh := hK' _ _ (hK _ _ (Below.refl _ _) rfl)
      simpa [upd] using hh
    · simp at ho; subst ho
      have d14 : Y 14 = _ := hall { on := 14, ground := Ground.data } (by simp) rfl (by decide)
      have q0 := HOLD.out W _ _ _ (HIB.out.cell (j := 5) rfl) HW.out HIB.out.lt HNib.out
      clear hall
      refine wpOp_plain rfl rfl (fun K' hK' => ?_)
      go_simp
      have hh := hK' _ _ (hK _ _ (Below.refl _ _) rfl)
      simpa [upd, d14] using hh
    · simp at ho; subst ho
      have d15 : Y 15 = _ := hall { on := 15, ground := Ground.data } (by simp) rfl (by decide)
      clear hall
      refine wpOp_plain rfl rfl (fun K' hK' => ?_)
      go_simp
      have hh := hK' _ _ (hK _ _ (Below.refl _ _) rfl)
      simpa [upd, d15] using hh
    · simp at ho; subst ho
      have d16 : Y 16 = _ := hall { on := 16, ground := Ground.data } (by simp) rfl (by decide)
      have q0 := HOLD.out W _ _ _ HAB0.out HW.out HLab.out HNab.out
      clear hall
      refine wpOp_plain rfl rfl (fun K' hK' => ?_)
      go_simp
      have hh := hK' _ _ (hK _ _ (Below.refl _ _) rfl)
      simpa [upd, d16] using hh
    · simp at ho; subst ho
      have d17 : Y 17 = _ := hall { on := 17, ground := Ground.data } (by simp) rfl (by decide)
      clear hall
      refine wpOp_plain rfl rfl (fun K' hK' => ?_)
      go_simp
      have hh := hK' _ _ (hK _ _ (Below.refl _ _) rfl)
      simpa [upd, d17] using hh
    · simp at ho; subst ho
      have d3 : Y 3 = _ := hall { on := 3, ground := Ground.data } (by simp) rfl (by decide)
      have d5 : Y 5 = _ := hall { on := 5, ground := Ground.data } (by simp) rfl (by decide)
      have d13 : Y 13 = _ := hall { on := 13, ground := Ground.data } (by simp) rfl (by decide)
      have d18 : Y 18 = _ := hall { on := 18, ground := Ground.data } (by simp) rfl (by decide)
      clear hall
      refine wpOp_plain rfl rfl (fun K' hK' => ?_)
      go_simp
      refine (HCALL.out W HW.out).mono ?_
      rintro e W5 ⟨⟨y0, y1, rfl, hf⟩, hb5⟩
      go_simp
      have hh := hK' _ _ (hK (.tuple #[.agg #[.int .i64 y0, .int .i64 y1], .bool r.isSome]) W5 hb5 ⟨y0, y1, rfl, hf⟩)
      simpa [upd, d3, d5, d13, d18] using hh
    · simp at ho; subst ho
      obtain ⟨y0, y1, dT, hf⟩ := hall { on := 19, ground := Ground.data } (by simp) rfl (by decide)
      clear hall
      refine wpOp_plain rfl rfl (fun K' hK' => ?_)
      go_simp
      have hh := hK' _ _ (hK (.agg #[.int .i64 y0, .int .i64 y1]) _ (Below.refl _ _) ⟨y0, y1, rfl, hf⟩)
      simpa [upd, dT] using hh
    · simp at ho; subst ho
      obtain ⟨y0, y1, dT, hf⟩ := hall { on := 19, ground := Ground.data } (by simp) rfl (by decide)
      clear hall
      refine wpOp_plain rfl rfl (fun K' hK' => ?_)
      go_simp
      have hh := hK' _ _ (hK (.bool r.isSome) _ (Below.refl _ _) rfl)
      simpa [upd, dT] using hh
    · exact absurd rfl h2
    · simp at ho; subst ho
      have d21 : Y 21 = _ := hall { on := 21, ground := Ground.data } (by simp) rfl (by decide)
      clear hall
      refine wpOp_plain rfl rfl (fun K' hK' => ?_)
      go_simp
      have hh := hK' _ _ (hK (.bool r.isSome) _ (Below.refl _ _) rfl)
      simpa [upd, d21] using hh
    · simp at ho
  · intro o' Y W cs ho hrow hcs hcl K hK
    simp at ho; subst ho
    obtain ⟨y0, y1, dA, _⟩ := hcl
    obtain ⟨e0, e1, rfl⟩ := size2' hcs
    have q0 := hrow.cell (j := 0) rfl
    have q1 := hrow.cell (j := 1) rfl
    have k0 := hrow.free 0
    have k1 := hrow.free 1
    have HROW := Lib.hid hrow
    clear hrow hcs
    refine wpOp_plain rfl rfl (fun K' hK' => ?_)
    go_simp
    have hh := hK' _ _ (hK _ undef ((((Wr.refl (fun i => i = pw) W).setR pw _ _ (Or.inl rfl)).setR pw _ _ (Or.inl rfl))) (by rw [dA]; exact ((HROW.out.set 0 _).set 1 _)) (by rw [dA]; rfl))
    simpa [upd, dA] using hh
  · intro Y W hw hrow hall
    obtain ⟨y0, y1, dA, hf⟩ := hall 20 (by simp) (by decide)
    have dF : Y 23 = _ := hall 23 (by simp) (by decide)
    rw [dA] at hrow
    show Q .normal ⟨List.toArray ((Value.pointer (some ⟨rb, 0, none⟩)) :: (Value.pointer (some ⟨fb, 0, none⟩)) :: c2 :: c3 :: c4 :: (Value.pointer (some ⟨ib, 0, none⟩)) :: (Value.pointer (some ⟨pw, 0, none⟩)) :: Y 23 :: c8 :: c9 :: c10 :: c11 :: c12 :: c13 :: c14 :: c15 :: c16 :: c17 :: c18 :: c19 :: c20 :: c21 :: c22 :: c23 :: c24 :: c25 :: c26 :: c27 :: c28 :: c29 :: c30 :: c31 :: c32 :: c33 :: c34 :: c35 :: c36 :: c37 :: c38 :: c39 :: c40 :: c41 :: c42 :: c43 :: c44 :: c45 :: c46 :: c47 :: c48 :: c49 :: c50 :: c51 :: c52 :: c53 :: c54 :: c55 :: c56 :: c57 :: c58 :: c59 :: c60 :: c61 :: c62 :: c63 :: c64 :: c65 :: c66 :: c67 :: c68 :: c69 :: c70 :: c71 :: c72 :: c73 :: c74 :: c75 :: Y 0 :: Y 1 :: Y 2 :: Y 3 :: Y 4 :: Y 5 :: Y 6 :: Y 7 :: Y 8 :: Y 9 :: Y 10 :: Y 11 :: Y 12 :: Y 13 :: Y 14 :: Y 15 :: Y 16 :: Y 17 :: Y 18 :: Y 19 :: Y 20 :: Y 21 :: c98 :: c99 :: c100 :: c101 :: c102 :: c103 :: c104 :: c105 :: c106 :: c107 :: c108 :: c109 :: c110 :: c111 :: c112 :: c113 :: c114 :: c115 :: c116 :: c117 :: c118 :: c119 :: c120 :: c121 :: c122 :: c123 :: c124 :: c125 :: c126 :: c127 :: c128 :: c129 :: c130 :: c131 :: c132 :: c133 :: c134 :: c135 :: c136 :: []), []⟩ W
    rw [dF]
    exact HEX.out W y0 y1 Y hw hrow hf
def vr7L (rb fb ib pw hb tb tof tl tc ma : Nat) (opv dstv bv nv : Int) (AV : Value) (va : V) (r : Option V) : List (Value → Prop) := [fun v => v = .pointer (some ⟨rb, 0, none⟩),
  fun v => v = .pointer (some ⟨rb, 0, none⟩),
  fun v => v = .pointer (some ⟨rb, 4, none⟩),
  fun v => v = .pointer (some ⟨hb, 0, none⟩),
  fun v => v = .pointer (some ⟨ib, 4, none⟩),
  fun v => v = .int .i64 nv,
  fun v => v = .pointer (some ⟨fb, 0, none⟩),
  fun v => v = .pointer (some ⟨fb, 0, none⟩),
  fun v => v = .pointer (some ⟨fb, 0, none⟩),
  fun v => v = .slice (some ⟨tb, tof, none⟩) tl tc,
  fun v => v = .pointer (some ⟨ib, 2, none⟩),
  fun v => v = .int .i64 (ma : Nat),
  fun v => v = .pointer (some ⟨tb, tof + ma * 2, none⟩),
  fun v => v = .agg #[.int .i64 va.obj, .int .i64 va.n],
  fun v => ∃ y0 y1, v = .tuple #[.agg #[.int .i64 y0, .int .i64 y1], .bool r.isSome] ∧ Fits r y0 y1,
  fun v => ∃ y0 y1, v = .agg #[.int .i64 y0, .int .i64 y1] ∧ Fits r y0 y1,
  fun v => v = .bool r.isSome,
  fun _ => True,
  fun v => v = .bool r.isSome]
def vr7C (rb fb ib pw hb tb tof tl tc ma : Nat) (opv dstv bv nv : Int) (AV : Value) (va : V) (r : Option V) (i : Nat) (v : Value) : Prop := ((vr7L rb fb ib pw hb tb tof tl tc ma opv dstv bv nv AV va r).getD i (fun _ => True)) v
noncomputable def vr7R : Code := (regsOf (Try.f42.body.getD .skip)).getD 15 .skip
set_option maxRecDepth 100000 in
set_option maxHeartbeats 8000000 in
theorem vr7_region (rb fb ib pw hb tb tof tl tc ma : Nat) (opv dstv bv nv : Int) (AV : Value) (va : V) (r : Option V) (w : World)
    (hr4 : w.cell? ⟨rb, 4, none⟩ = some (.pointer (some ⟨hb, 0, none⟩))) (hlrb : rb < w.heap.size) (hnrb : rb ≠ pw) (hf0 : w.cell? ⟨fb, 0, none⟩ = some (.slice (some ⟨tb, tof, none⟩) tl tc)) (hlfb : fb < w.heap.size) (hnfb : fb ≠ pw)
    (hib : Row w ib #[.int .i64 opv, .int .i64 dstv, .int .i64 (ma : Nat), .int .i64 bv, .int .i64 nv, AV] 68) (hnib : ib ≠ pw) (hma : ma < tl) (hltb : tb < w.heap.size) (hntb : tb ≠ pw) (hta0 : w.cell? ⟨tb, tof + ma * 2, none⟩ = some (.int .i64 va.obj)) (hta1 : w.cell? ⟨tb, tof + ma * 2 + 1, none⟩ = some (.int .i64 va.n)) (hpw : Row w pw #[.int .i64 0, .int .i64 0] 60)
    (hcall : ∀ W, Wr (fun i => i = pw) w W → Calls Try.prog 50 #[.pointer (some ⟨hb, 0, none⟩), .int .i64 nv, .agg #[.int .i64 va.obj, .int .i64 va.n]] W fun e w' => (∃ y0 y1, e = .returned (.tuple #[.agg #[.int .i64 y0, .int .i64 y1], .bool r.isSome]) ∧ Fits r y0 y1) ∧ Below W.heap.size W w')
    (c2 c3 c4 c7 c8 c9 c10 c11 c12 c13 c14 c15 c16 c17 c18 c19 c20 c21 c22 c23 c24 c25 c26 c27 c28 c29 c30 c31 c32 c33 c34 c35 c36 c37 c38 c39 c40 c41 c42 c43 c44 c45 c46 c47 c48 c49 c50 c51 c52 c53 c54 c55 c56 c57 c58 c59 c60 c61 c62 c63 c64 c65 c66 c67 c68 c69 c70 c71 c72 c73 c74 c75 c76 c77 c78 c79 c80 c81 c82 c83 c84 c85 c86 c87 c88 c89 c90 c91 c92 c93 c94 c95 c96 c97 c98 c99 c100 c101 c102 c103 c104 c105 c106 c107 c108 c109 c110 c111 c112 c113 c114 c115 c116 c117 c118 c119 c120 c121 c122 c123 c124 c125 c126 c127 c128 c129 c130 c131 c132 c133 c134 c135 c136 : Value) (Q : Exit → Act → World → Prop)
    (hexit : ∀ (W : World) (y0 y1 : Int) (Y : Nat → Value), Wr (fun i => i = pw) w W → Row W pw #[.int .i64 y0, .int .i64 y1] 60 → Fits r y0 y1 → Q .normal ⟨List.toArray ((Value.pointer (some ⟨rb, 0, none⟩)) :: (Value.pointer (some ⟨fb, 0, none⟩)) :: c2 :: c3 :: c4 :: (Value.pointer (some ⟨ib, 0, none⟩)) :: (Value.pointer (some ⟨pw, 0, none⟩)) :: (Value.bool r.isSome) :: c8 :: c9 :: c10 :: c11 :: c12 :: c13 :: c14 :: c15 :: c16 :: c17 :: c18 :: c19 :: c20 :: c21 :: c22 :: c23 :: c24 :: c25 :: c26 :: c27 :: c28 :: c29 :: c30 :: c31 :: c32 :: c33 :: c34 :: c35 :: c36 :: c37 :: c38 :: c39 :: c40 :: c41 :: c42 :: c43 :: c44 :: c45 :: c46 :: c47 :: c48 :: c49 :: c50 :: c51 :: c52 :: c53 :: c54 :: c55 :: c56 :: c57 :: c58 :: c59 :: c60 :: c61 :: c62 :: c63 :: c64 :: c65 :: c66 :: c67 :: c68 :: c69 :: c70 :: c71 :: c72 :: c73 :: c74 :: c75 :: c76 :: c77 :: c78 :: c79 :: c80 :: c81 :: c82 :: c83 :: c84 :: c85 :: c86 :: c87 :: c88 :: c89 :: c90 :: c91 :: c92 :: c93 :: c94 :: c95 :: c96 :: c97 :: c98 :: c99 :: Y 0 :: Y 1 :: Y 2 :: Y 3 :: Y 4 :: Y 5 :: Y 6 :: Y 7 :: Y 8 :: Y 9 :: Y 10 :: Y 11 :: Y 12 :: Y 13 :: Y 14 :: Y 15 :: Y 16 :: c117 :: c118 :: c119 :: c120 :: c121 :: c122 :: c123 :: c124 :: c125 :: c126 :: c127 :: c128 :: c129 :: c130 :: c131 :: c132 :: c133 :: c134 :: c135 :: c136 :: []), []⟩ W) :
    Code.wp Try.prog vr7R Q ⟨List.toArray ((Value.pointer (some ⟨rb, 0, none⟩)) :: (Value.pointer (some ⟨fb, 0, none⟩)) :: c2 :: c3 :: c4 :: (Value.pointer (some ⟨ib, 0, none⟩)) :: (Value.pointer (some ⟨pw, 0, none⟩)) :: c7 :: c8 :: c9 :: c10 :: c11 :: c12 :: c13 :: c14 :: c15 :: c16 :: c17 :: c18 :: c19 :: c20 :: c21 :: c22 :: c23 :: c24 :: c25 :: c26 :: c27 :: c28 :: c29 :: c30 :: c31 :: c32 :: c33 :: c34 :: c35 :: c36 :: c37 :: c38 :: c39 :: c40 :: c41 :: c42 :: c43 :: c44 :: c45 :: c46 :: c47 :: c48 :: c49 :: c50 :: c51 :: c52 :: c53 :: c54 :: c55 :: c56 :: c57 :: c58 :: c59 :: c60 :: c61 :: c62 :: c63 :: c64 :: c65 :: c66 :: c67 :: c68 :: c69 :: c70 :: c71 :: c72 :: c73 :: c74 :: c75 :: c76 :: c77 :: c78 :: c79 :: c80 :: c81 :: c82 :: c83 :: c84 :: c85 :: c86 :: c87 :: c88 :: c89 :: c90 :: c91 :: c92 :: c93 :: c94 :: c95 :: c96 :: c97 :: c98 :: c99 :: c100 :: c101 :: c102 :: c103 :: c104 :: c105 :: c106 :: c107 :: c108 :: c109 :: c110 :: c111 :: c112 :: c113 :: c114 :: c115 :: c116 :: c117 :: c118 :: c119 :: c120 :: c121 :: c122 :: c123 :: c124 :: c125 :: c126 :: c127 :: c128 :: c129 :: c130 :: c131 :: c132 :: c133 :: c134 :: c135 :: c136 :: []), []⟩ w := by
  have hma0 : (0 : Int) ≤ (ma : Int) := by omega
  have hma1 : (ma : Int) < (tl : Int) := by omega
  have HR4 := Lib.hid hr4
  have HLrb := Lib.hid hlrb
  have HNrb := Lib.hid hnrb
  have HF0 := Lib.hid hf0
  have HLfb := Lib.hid hlfb
  have HNfb := Lib.hid hnfb
  have HIB := Lib.hid hib
  have HNib := Lib.hid hnib
  have HLtb := Lib.hid hltb
  have HNtb := Lib.hid hntb
  have HTA0 := Lib.hid hta0
  have HTA1 := Lib.hid hta1
  have HPW := Lib.hid hpw
  have HCALL := Lib.hid hcall
  have HOLD := Lib.hid (show ∀ (W : World) (b j : Nat) (v : Value), w.cell? ⟨b, j, none⟩ = some v → Wr (fun i => i = pw) w W → b < w.heap.size → b ≠ pw → W.cell? ⟨b, j, none⟩ = some v from fun W b j v h hw hlt hne => (World.cell?_of_block (a := ⟨b, j, none⟩) (hw.block b hlt hne)).trans h)
  clear hr4 hlrb hnrb hf0 hlfb hnfb hib hnib hma hltb hntb hta0 hta1 hpw hcall
  have HEX := Lib.hid hexit
  clear hexit
  conv => arg 2; whnf
  refine region_put (by kernel_rfl) 17 15 pw 2 60 aggOf (fun _ => vr7C rb fb ib pw hb tb tof tl tc ma opv dstv bv nv AV va r) (fun Y => ⟨List.toArray ((Value.pointer (some ⟨rb, 0, none⟩)) :: (Value.pointer (some ⟨fb, 0, none⟩)) :: c2 :: c3 :: c4 :: (Value.pointer (some ⟨ib, 0, none⟩)) :: (Value.pointer (some ⟨pw, 0, none⟩)) :: Y 18 :: c8 :: c9 :: c10 :: c11 :: c12 :: c13 :: c14 :: c15 :: c16 :: c17 :: c18 :: c19 :: c20 :: c21 :: c22 :: c23 :: c24 :: c25 :: c26 :: c27 :: c28 :: c29 :: c30 :: c31 :: c32 :: c33 :: c34 :: c35 :: c36 :: c37 :: c38 :: c39 :: c40 :: c41 :: c42 :: c43 :: c44 :: c45 :: c46 :: c47 :: c48 :: c49 :: c50 :: c51 :: c52 :: c53 :: c54 :: c55 :: c56 :: c57 :: c58 :: c59 :: c60 :: c61 :: c62 :: c63 :: c64 :: c65 :: c66 :: c67 :: c68 :: c69 :: c70 :: c71 :: c72 :: c73 :: c74 :: c75 :: c76 :: c77 :: c78 :: c79 :: c80 :: c81 :: c82 :: c83 :: c84 :: c85 :: c86 :: c87 :: c88 :: c89 :: c90 :: c91 :: c92 :: c93 :: c94 :: c95 :: c96 :: c97 :: c98 :: c99 :: Y 0 :: Y 1 :: Y 2 :: Y 3 :: Y 4 :: Y 5 :: Y 6 :: Y 7 :: Y 8 :: Y 9 :: Y 10 :: Y 11 :: Y 12 :: Y 13 :: Y 14 :: Y 15 :: Y 16 :: c117 :: c118 :: c119 :: c120 :: c121 :: c122 :: c123 :: c124 :: c125 :: c126 :: c127 :: c128 :: c129 :: c130 :: c131 :: c132 :: c133 :: c134 :: c135 :: c136 :: []), []⟩) (fun i => if i = 0 then c100 else if i = 1 then c101 else if i = 2 then c102 else if i = 3 then c103 else if i = 4 then c104 else if i = 5 then c105 else if i = 6 then c106 else if i = 7 then c107 else if i = 8 then c108 else if i = 9 then c109 else if i = 10 then c110 else if i = 11 then c111 else if i = 12 then c112 else if i = 13 then c113 else if i = 14 then c114 else if i = 15 then c115 else if i = 16 then c116 else if i = 18 then c7 else undef) rfl (by kernel_rfl) (by simp) (by decide) ⟨_, HPW.out, rfl⟩ ?_ (fun _ _ _ _ _ h => h) (fun _ _ _ _ _ h => h) ?_ ?_ ?_
  · intro o' ho
    simp at ho; subst ho
    exact ⟨{ on := 15, ground := Ground.data }, by simp, rfl, rfl⟩
  · intro i o' Y W h2 ho hb hall K hK
    have HW := Lib.hid hb
    clear hb
    rcases i with _ | _ | _ | _ | _ | _ | _ | _ | _ | _ | _ | _ | _ | _ | _ | _ | _ | _ | _ | i
    · simp at ho; subst ho
      clear hall
      refine wpOp_plain rfl rfl (fun K' hK' => ?_)
      go_simp
      have hh := hK' _ _ (hK _ _ (Below.refl _ _) rfl)
      simpa [upd] using hh
    · simp at ho; subst ho
      have d0 : Y 0 = _ := hall { on := 0, ground := Ground.data } (by simp) rfl (by decide)
      clear hall
      refine wpOp_plain rfl rfl (fun K' hK' => ?_)
      go_simp
      have hh := hK' _ _ (hK _ _ (Below.refl _ _) rfl)
      simpa [upd, d0] using hh
    · simp at ho; subst ho
      have d1 : Y 1 = _ := hall { on := 1, ground := Ground.data } (by simp) rfl (by decide)
      clear hall
      refine wpOp_plain rfl rfl (fun K' hK' => ?_)
      go_simp
      have hh := hK' _ _ (hK _ _ (Below.refl _ _) rfl)
      simpa [upd, d1] using hh
    · simp at ho; subst ho
      have d2 : Y 2 = _ := hall { on := 2, ground := Ground.data } (by simp) rfl (by decide)
      have q0 := HOLD.out W _ _ _ HR4.out HW.out HLrb.out HNrb.out
      clear hall
      refine wpOp_plain rfl rfl (fun K' hK' => ?_)
      go_simp
      have hh := hK' _ _ (hK _ _ (Below.refl _ _) rfl)
      simpa [upd, d2] using hh
    · simp at ho; subst ho
      clear hall
      refine wpOp_plain rfl rfl (fun K' hK' => ?_)
      go_simp
      have hh := hK' _ _ (hK _ _ (Below.refl _ _) rfl)
      simpa [upd] using hh
    · simp at ho; subst ho
      have d4 : Y 4 = _ := hall { on := 4, ground := Ground.data } (by simp) rfl (by decide)
      have q0 := HOLD.out W _ _ _ (HIB.out.cell (j := 4) rfl) HW.out HIB.out.lt HNib.out
      clear hall
      refine wpOp_plain rfl rfl (fun K' hK' => ?_)
      go_simp
      have hh := hK' _ _ (hK _ _ (Below.refl _ _) rfl)
      simpa [upd, d4] using hh
    · simp at ho; subst ho
      clear hall
      refine wpOp_plain rfl rfl (fun K' hK' => ?_)
      go_simp
      have hh := hK' _ _ (hK _ _ (Below.refl _ _) rfl)
      simpa [upd] using hh
    · simp at ho; subst ho
      have d6 : Y 6 = _ := hall { on := 6, ground := Ground.data } (by simp) rfl (by decide)
      clear hall
      refine wpOp_plain rfl rfl (fun K' hK' => ?_)
      go_simp
      have hh := hK' _ _ (hK _ _ (Below.refl _ _) rfl)
      simpa [upd, d6] using hh
    · simp at ho; subst ho
      have d7 : Y 7 = _ := hall { on := 7, ground := Ground.data } (by simp) rfl (by decide)
      clear hall
      refine wpOp_plain rfl rfl (fun K' hK' => ?_)
      go_simp
      have hh := hK' _ _ (hK _ _ (Below.refl _ _) rfl)
      simpa [upd, d7] using hh
    · simp at ho; subst ho
      have d8 : Y 8 = _ := hall { on := 8, ground := Ground.data } (by simp) rfl (by decide)
      have q0 := HOLD.out W _ _ _ HF0.out HW.out HLfb.out HNfb.out
      clear hall
      refine wpOp_plain rfl rfl (fun K' hK' => ?_)
      go_simp
      have hh := hK' _ _ (hK _ _ (Below.refl _ _) rfl)
      simpa [upd, d8] using hh
    · simp at ho; subst ho
      clear hall
      refine wpOp_plain rfl rfl (fun K' hK' => ?_)
      go_simp
      have hh := hK' _ _ (hK _ _ (Below.refl _ _) rfl)
      simpa [upd] using hh
    · simp at ho; subst ho
      have d10 : Y 10 = _ := hall { on := 10, ground := Ground.data } (by simp) rfl (by decide)
      have q0 := HOLD.out W _ _ _ (HIB.out.cell (j := 2) rfl) HW.out HIB.out.lt HNib.out
      clear hall
      refine wpOp_plain rfl rfl (fun K' hK' => ?_)
      go_simp
      have hh := hK' _ _ (hK _ _ (Below.refl _ _) rfl)
      simpa [upd, d10] using hh
    · simp at ho; subst ho
      have d9 : Y 9 = _ := hall { on := 9, ground := Ground.data } (by simp) rfl (by decide)
      have d11 : Y 11 = _ := hall { on := 11, ground := Ground.data } (by simp) rfl (by decide)
      clear hall
      refine wpOp_plain rfl rfl (fun K' hK' => ?_)
      go_simp
      have hh := hK' _ _ (hK _ _ (Below.refl _ _) rfl)
      simpa [upd, d9, d11] using hh
    · simp at ho; subst ho
      have d12 : Y 12 = _ := hall { on := 12, ground := Ground.data } (by simp) rfl (by decide)
      have q0 := HOLD.out W _ _ _ HTA0.out HW.out HLtb.out HNtb.out
      have q1 := HOLD.out W _ _ _ HTA1.out HW.out HLtb.out HNtb.out
      clear hall
      refine wpOp_plain rfl rfl (fun K' hK' => ?_)
      go_simp
      have hh := hK' _ _ (hK _ _ (Below.refl _ _) rfl)
      simpa [upd, d12] using hh
    · simp at ho; subst ho
      have d3 : Y 3 = _ := hall { on := 3, ground := Ground.data } (by simp) rfl (by decide)
      have d5 : Y 5 = _ := hall { on := 5, ground := Ground.data } (by simp) rfl (by decide)
      have d13 : Y 13 = _ := hall { on := 13, ground := Ground.data } (by simp) rfl (by decide)
      clear hall
      refine wpOp_plain rfl rfl (fun K' hK' => ?_)
      go_simp
      refine (HCALL.out W HW.out).mono ?_
      rintro e W5 ⟨⟨y0, y1, rfl, hf⟩, hb5⟩
      go_simp
      have hh := hK' _ _ (hK (.tuple #[.agg #[.int .i64 y0, .int .i64 y1], .bool r.isSome]) W5 hb5 ⟨y0, y1, rfl, hf⟩)
      simpa [upd, d3, d5, d13] using hh
    · simp at ho; subst ho
      obtain ⟨y0, y1, dT, hf⟩ := hall { on := 14, ground := Ground.data } (by simp) rfl (by decide)
      clear hall
      refine wpOp_plain rfl rfl (fun K' hK' => ?_)
      go_simp
      have hh := hK' _ _ (hK (.agg #[.int .i64 y0, .int .i64 y1]) _ (Below.refl _ _) ⟨y0, y1, rfl, hf⟩)
      simpa [upd, dT] using hh
    · simp at ho; subst ho
      obtain ⟨y0, y1, dT, hf⟩ := hall { on := 14, ground := Ground.data } (by simp) rfl (by decide)
      clear hall
      refine wpOp_plain rfl rfl (fun K' hK' => ?_)
      go_simp
      have hh := hK' _ _ (hK (.bool r.isSome) _ (Below.refl _ _) rfl)
      simpa [upd, dT] using hh
    · exact absurd rfl h2
    · simp at ho; subst ho
      have d16 : Y 16 = _ := hall { on := 16, ground := Ground.data } (by simp) rfl (by decide)
      clear hall
      refine wpOp_plain rfl rfl (fun K' hK' => ?_)
      go_simp
      have hh := hK' _ _ (hK (.bool r.isSome) _ (Below.refl _ _) rfl)
      simpa [upd, d16] using hh
    · simp at ho
  · intro o' Y W cs ho hrow hcs hcl K hK
    simp at ho; subst ho
    obtain ⟨y0, y1, dA, _⟩ := hcl
    obtain ⟨e0, e1, rfl⟩ := size2' hcs
    have q0 := hrow.cell (j := 0) rfl
    have q1 := hrow.cell (j := 1) rfl
    have k0 := hrow.free 0
    have k1 := hrow.free 1
    have HROW := Lib.hid hrow
    clear hrow hcs
    refine wpOp_plain rfl rfl (fun K' hK' => ?_)
    go_simp
    have hh := hK' _ _ (hK _ undef ((((Wr.refl (fun i => i = pw) W).setR pw _ _ (Or.inl rfl)).setR pw _ _ (Or.inl rfl))) (by rw [dA]; exact ((HROW.out.set 0 _).set 1 _)) (by rw [dA]; rfl))
    simpa [upd, dA] using hh
  · intro Y W hw hrow hall
    obtain ⟨y0, y1, dA, hf⟩ := hall 15 (by simp) (by decide)
    have dF : Y 18 = _ := hall 18 (by simp) (by decide)
    rw [dA] at hrow
    show Q .normal ⟨List.toArray ((Value.pointer (some ⟨rb, 0, none⟩)) :: (Value.pointer (some ⟨fb, 0, none⟩)) :: c2 :: c3 :: c4 :: (Value.pointer (some ⟨ib, 0, none⟩)) :: (Value.pointer (some ⟨pw, 0, none⟩)) :: Y 18 :: c8 :: c9 :: c10 :: c11 :: c12 :: c13 :: c14 :: c15 :: c16 :: c17 :: c18 :: c19 :: c20 :: c21 :: c22 :: c23 :: c24 :: c25 :: c26 :: c27 :: c28 :: c29 :: c30 :: c31 :: c32 :: c33 :: c34 :: c35 :: c36 :: c37 :: c38 :: c39 :: c40 :: c41 :: c42 :: c43 :: c44 :: c45 :: c46 :: c47 :: c48 :: c49 :: c50 :: c51 :: c52 :: c53 :: c54 :: c55 :: c56 :: c57 :: c58 :: c59 :: c60 :: c61 :: c62 :: c63 :: c64 :: c65 :: c66 :: c67 :: c68 :: c69 :: c70 :: c71 :: c72 :: c73 :: c74 :: c75 :: c76 :: c77 :: c78 :: c79 :: c80 :: c81 :: c82 :: c83 :: c84 :: c85 :: c86 :: c87 :: c88 :: c89 :: c90 :: c91 :: c92 :: c93 :: c94 :: c95 :: c96 :: c97 :: c98 :: c99 :: Y 0 :: Y 1 :: Y 2 :: Y 3 :: Y 4 :: Y 5 :: Y 6 :: Y 7 :: Y 8 :: Y 9 :: Y 10 :: Y 11 :: Y 12 :: Y 13 :: Y 14 :: Y 15 :: Y 16 :: c117 :: c118 :: c119 :: c120 :: c121 :: c122 :: c123 :: c124 :: c125 :: c126 :: c127 :: c128 :: c129 :: c130 :: c131 :: c132 :: c133 :: c134 :: c135 :: c136 :: []), []⟩ W
    rw [dF]
    exact HEX.out W y0 y1 Y hw hrow hf
def vr8L (vb rb fb ib pw hb tb tof tl tc ma : Nat) (opv dstv bv nv : Int) (AV : Value) (va wv : V) (r : Option V) : List (Value → Prop) := [fun v => v = .pointer (some ⟨rb, 0, none⟩),
  fun v => v = .pointer (some ⟨rb, 0, none⟩),
  fun v => v = .pointer (some ⟨rb, 4, none⟩),
  fun v => v = .pointer (some ⟨hb, 0, none⟩),
  fun v => v = .pointer (some ⟨ib, 4, none⟩),
  fun v => v = .int .i64 nv,
  fun v => v = .agg #[.int .i64 wv.obj, .int .i64 wv.n],
  fun v => ∃ y0 y1, v = .tuple #[.agg #[.int .i64 y0, .int .i64 y1], .bool r.isSome] ∧ Fits r y0 y1,
  fun v => ∃ y0 y1, v = .agg #[.int .i64 y0, .int .i64 y1] ∧ Fits r y0 y1,
  fun v => v = .bool r.isSome,
  fun _ => True,
  fun v => v = .bool r.isSome]
def vr8C (vb rb fb ib pw hb tb tof tl tc ma : Nat) (opv dstv bv nv : Int) (AV : Value) (va wv : V) (r : Option V) (i : Nat) (v : Value) : Prop := ((vr8L vb rb fb ib pw hb tb tof tl tc ma opv dstv bv nv AV va wv r).getD i (fun _ => True)) v
noncomputable def vr8R : Code := (regsOf (Try.f42.body.getD .skip)).getD 19 .skip
set_option maxRecDepth 100000 in
set_option maxHeartbeats 8000000 in
theorem vr8_region (vb rb fb ib pw hb tb tof tl tc ma : Nat) (opv dstv bv nv : Int) (AV : Value) (va wv : V) (r : Option V) (w : World)
    (hr4 : w.cell? ⟨rb, 4, none⟩ = some (.pointer (some ⟨hb, 0, none⟩))) (hlrb : rb < w.heap.size) (hnrb : rb ≠ pw) (hf0 : w.cell? ⟨fb, 0, none⟩ = some (.slice (some ⟨tb, tof, none⟩) tl tc)) (hlfb : fb < w.heap.size) (hnfb : fb ≠ pw)
    (hib : Row w ib #[.int .i64 opv, .int .i64 dstv, .int .i64 (ma : Nat), .int .i64 bv, .int .i64 nv, AV] 68) (hnib : ib ≠ pw) (hma : ma < tl) (hltb : tb < w.heap.size) (hntb : tb ≠ pw) (hta0 : w.cell? ⟨tb, tof + ma * 2, none⟩ = some (.int .i64 va.obj)) (hta1 : w.cell? ⟨tb, tof + ma * 2 + 1, none⟩ = some (.int .i64 va.n)) (hpw : Row w pw #[.int .i64 0, .int .i64 0] 60) (hvb : Row w vb #[.int .i64 wv.obj, .int .i64 wv.n] 60) (hnvb : vb ≠ pw)
    (hcall : ∀ W, Wr (fun i => i = pw) w W → Calls Try.prog 51 #[.pointer (some ⟨hb, 0, none⟩), .int .i64 nv, .agg #[.int .i64 wv.obj, .int .i64 wv.n]] W fun e w' => (∃ y0 y1, e = .returned (.tuple #[.agg #[.int .i64 y0, .int .i64 y1], .bool r.isSome]) ∧ Fits r y0 y1) ∧ Below W.heap.size W w')
    (c2 c3 c4 c7 c9 c10 c11 c12 c13 c14 c15 c16 c17 c18 c19 c20 c21 c22 c23 c24 c25 c26 c27 c28 c29 c30 c31 c32 c33 c34 c35 c36 c37 c38 c39 c40 c41 c42 c43 c44 c45 c46 c47 c48 c49 c50 c51 c52 c53 c54 c55 c56 c57 c58 c59 c60 c61 c62 c63 c64 c65 c66 c67 c68 c69 c70 c71 c72 c73 c74 c75 c76 c77 c78 c79 c80 c81 c82 c83 c84 c85 c86 c87 c88 c89 c90 c91 c92 c93 c94 c95 c96 c97 c98 c99 c100 c101 c102 c103 c104 c105 c106 c107 c108 c109 c110 c111 c112 c113 c114 c115 c116 c117 c118 c119 c120 c121 c122 c123 c124 c125 c126 c127 c128 c129 c130 c131 c132 c133 c134 c135 c136 : Value) (Q : Exit → Act → World → Prop)
    (hexit : ∀ (W : World) (y0 y1 : Int) (Y : Nat → Value), Wr (fun i => i = pw) w W → Row W pw #[.int .i64 y0, .int .i64 y1] 60 → Fits r y0 y1 → Q .normal ⟨List.toArray ((Value.pointer (some ⟨rb, 0, none⟩)) :: (Value.pointer (some ⟨fb, 0, none⟩)) :: c2 :: c3 :: c4 :: (Value.pointer (some ⟨ib, 0, none⟩)) :: (Value.pointer (some ⟨pw, 0, none⟩)) :: (Value.bool r.isSome) :: (Value.pointer (some ⟨vb, 0, none⟩)) :: c9 :: c10 :: c11 :: c12 :: c13 :: c14 :: c15 :: c16 :: c17 :: c18 :: c19 :: c20 :: c21 :: c22 :: c23 :: c24 :: c25 :: c26 :: c27 :: c28 :: c29 :: c30 :: c31 :: c32 :: c33 :: c34 :: c35 :: c36 :: c37 :: c38 :: c39 :: c40 :: c41 :: c42 :: c43 :: c44 :: c45 :: c46 :: c47 :: c48 :: c49 :: c50 :: c51 :: c52 :: c53 :: c54 :: c55 :: c56 :: c57 :: c58 :: c59 :: c60 :: c61 :: c62 :: c63 :: c64 :: c65 :: c66 :: c67 :: c68 :: c69 :: c70 :: c71 :: c72 :: c73 :: c74 :: c75 :: c76 :: c77 :: c78 :: c79 :: c80 :: c81 :: c82 :: c83 :: c84 :: c85 :: c86 :: c87 :: c88 :: c89 :: c90 :: c91 :: c92 :: c93 :: c94 :: c95 :: c96 :: c97 :: c98 :: c99 :: c100 :: c101 :: c102 :: c103 :: c104 :: c105 :: c106 :: c107 :: c108 :: c109 :: c110 :: c111 :: c112 :: c113 :: c114 :: c115 :: c116 :: c117 :: c118 :: c119 :: c120 :: c121 :: c122 :: c123 :: c124 :: c125 :: c126 :: Y 0 :: Y 1 :: Y 2 :: Y 3 :: Y 4 :: Y 5 :: Y 6 :: Y 7 :: Y 8 :: Y 9 :: []), []⟩ W) :
    Code.wp Try.prog vr8R Q ⟨List.toArray ((Value.pointer (some ⟨rb, 0, none⟩)) :: (Value.pointer (some ⟨fb, 0, none⟩)) :: c2 :: c3 :: c4 :: (Value.pointer (some ⟨ib, 0, none⟩)) :: (Value.pointer (some ⟨pw, 0, none⟩)) :: c7 :: (Value.pointer (some ⟨vb, 0, none⟩)) :: c9 :: c10 :: c11 :: c12 :: c13 :: c14 :: c15 :: c16 :: c17 :: c18 :: c19 :: c20 :: c21 :: c22 :: c23 :: c24 :: c25 :: c26 :: c27 :: c28 :: c29 :: c30 :: c31 :: c32 :: c33 :: c34 :: c35 :: c36 :: c37 :: c38 :: c39 :: c40 :: c41 :: c42 :: c43 :: c44 :: c45 :: c46 :: c47 :: c48 :: c49 :: c50 :: c51 :: c52 :: c53 :: c54 :: c55 :: c56 :: c57 :: c58 :: c59 :: c60 :: c61 :: c62 :: c63 :: c64 :: c65 :: c66 :: c67 :: c68 :: c69 :: c70 :: c71 :: c72 :: c73 :: c74 :: c75 :: c76 :: c77 :: c78 :: c79 :: c80 :: c81 :: c82 :: c83 :: c84 :: c85 :: c86 :: c87 :: c88 :: c89 :: c90 :: c91 :: c92 :: c93 :: c94 :: c95 :: c96 :: c97 :: c98 :: c99 :: c100 :: c101 :: c102 :: c103 :: c104 :: c105 :: c106 :: c107 :: c108 :: c109 :: c110 :: c111 :: c112 :: c113 :: c114 :: c115 :: c116 :: c117 :: c118 :: c119 :: c120 :: c121 :: c122 :: c123 :: c124 :: c125 :: c126 :: c127 :: c128 :: c129 :: c130 :: c131 :: c132 :: c133 :: c134 :: c135 :: c136 :: []), []⟩ w := by
  have hma0 : (0 : Int) ≤ (ma : Int) := by omega
  have hma1 : (ma : Int) < (tl : Int) := by omega
  have HR4 := Lib.hid hr4
  have HLrb := Lib.hid hlrb
  have HNrb := Lib.hid hnrb
  have HF0 := Lib.hid hf0
  have HLfb := Lib.hid hlfb
  have HNfb := Lib.hid hnfb
  have HIB := Lib.hid hib
  have HNib := Lib.hid hnib
  have HLtb := Lib.hid hltb
  have HNtb := Lib.hid hntb
  have HTA0 := Lib.hid hta0
  have HTA1 := Lib.hid hta1
  have HPW := Lib.hid hpw
  have HCALL := Lib.hid hcall
  have HOLD := Lib.hid (show ∀ (W : World) (b j : Nat) (v : Value), w.cell? ⟨b, j, none⟩ = some v → Wr (fun i => i = pw) w W → b < w.heap.size → b ≠ pw → W.cell? ⟨b, j, none⟩ = some v from fun W b j v h hw hlt hne => (World.cell?_of_block (a := ⟨b, j, none⟩) (hw.block b hlt hne)).trans h)
  clear hr4 hlrb hnrb hf0 hlfb hnfb hib hnib hma hltb hntb hta0 hta1 hpw hcall
  have HVB := Lib.hid hvb
  have HNvb := Lib.hid hnvb
  clear hvb hnvb
  have HEX := Lib.hid hexit
  clear hexit
  conv => arg 2; whnf
  refine region_put (by kernel_rfl) 10 8 pw 2 60 aggOf (fun _ => vr8C vb rb fb ib pw hb tb tof tl tc ma opv dstv bv nv AV va wv r) (fun Y => ⟨List.toArray ((Value.pointer (some ⟨rb, 0, none⟩)) :: (Value.pointer (some ⟨fb, 0, none⟩)) :: c2 :: c3 :: c4 :: (Value.pointer (some ⟨ib, 0, none⟩)) :: (Value.pointer (some ⟨pw, 0, none⟩)) :: Y 11 :: (Value.pointer (some ⟨vb, 0, none⟩)) :: c9 :: c10 :: c11 :: c12 :: c13 :: c14 :: c15 :: c16 :: c17 :: c18 :: c19 :: c20 :: c21 :: c22 :: c23 :: c24 :: c25 :: c26 :: c27 :: c28 :: c29 :: c30 :: c31 :: c32 :: c33 :: c34 :: c35 :: c36 :: c37 :: c38 :: c39 :: c40 :: c41 :: c42 :: c43 :: c44 :: c45 :: c46 :: c47 :: c48 :: c49 :: c50 :: c51 :: c52 :: c53 :: c54 :: c55 :: c56 :: c57 :: c58 :: c59 :: c60 :: c61 :: c62 :: c63 :: c64 :: c65 :: c66 :: c67 :: c68 :: c69 :: c70 :: c71 :: c72 :: c73 :: c74 :: c75 :: c76 :: c77 :: c78 :: c79 :: c80 :: c81 :: c82 :: c83 :: c84 :: c85 :: c86 :: c87 :: c88 :: c89 :: c90 :: c91 :: c92 :: c93 :: c94 :: c95 :: c96 :: c97 :: c98 :: c99 :: c100 :: c101 :: c102 :: c103 :: c104 :: c105 :: c106 :: c107 :: c108 :: c109 :: c110 :: c111 :: c112 :: c113 :: c114 :: c115 :: c116 :: c117 :: c118 :: c119 :: c120 :: c121 :: c122 :: c123 :: c124 :: c125 :: c126 :: Y 0 :: Y 1 :: Y 2 :: Y 3 :: Y 4 :: Y 5 :: Y 6 :: Y 7 :: Y 8 :: Y 9 :: []), []⟩) (fun i => if i = 0 then c127 else if i = 1 then c128 else if i = 2 then c129 else if i = 3 then c130 else if i = 4 then c131 else if i = 5 then c132 else if i = 6 then c133 else if i = 7 then c134 else if i = 8 then c135 else if i = 9 then c136 else if i = 11 then c7 else undef) rfl (by kernel_rfl) (by simp) (by decide) ⟨_, HPW.out, rfl⟩ ?_ (fun _ _ _ _ _ h => h) (fun _ _ _ _ _ h => h) ?_ ?_ ?_
  · intro o' ho
    simp at ho; subst ho
    exact ⟨{ on := 8, ground := Ground.data }, by simp, rfl, rfl⟩
  · intro i o' Y W h2 ho hb hall K hK
    have HW := Lib.hid hb
    clear hb
    rcases i with _ | _ | _ | _ | _ | _ | _ | _ | _ | _ | _ | _ | i
    · simp at ho; subst ho
      clear hall
      refine wpOp_plain rfl rfl (fun K' hK' => ?_)
      go_simp
      have hh := hK' _ _ (hK _ _ (Below.refl _ _) rfl)
      simpa [upd] using hh
    · simp at ho; subst ho
      have d0 : Y 0 = _ := hall { on := 0, ground := Ground.data } (by simp) rfl (by decide)
      clear hall
      refine wpOp_plain rfl rfl (fun K' hK' => ?_)
      go_simp
      have hh := hK' _ _ (hK _ _ (Below.refl _ _) rfl)
      simpa [upd, d0] using hh
    · simp at ho; subst ho
      have d1 : Y 1 = _ := hall { on := 1, ground := Ground.data } (by simp) rfl (by decide)
      clear hall
      refine wpOp_plain rfl rfl (fun K' hK' => ?_)
      go_simp
      have hh := hK' _ _ (hK _ _ (Below.refl _ _) rfl)
      simpa [upd, d1] using hh
    · simp at ho; subst ho
      have d2 : Y 2 = _ := hall { on := 2, ground := Ground.data } (by simp) rfl (by decide)
      have q0 := HOLD.out W _ _ _ HR4.out HW.out HLrb.out HNrb.out
      clear hall
      refine wpOp_plain rfl rfl (fun K' hK' => ?_)
      go_simp
      have hh := hK' _ _ (hK _ _ (Below.refl _ _) rfl)
      simpa [upd, d2] using hh
    · simp at ho; subst ho
      clear hall
      refine wpOp_plain rfl rfl (fun K' hK' => ?_)
      go_simp
      have hh := hK' _ _ (hK _ _ (Below.refl _ _) rfl)
      simpa [upd] using hh
    · simp at ho; subst ho
      have d4 : Y 4 = _ := hall { on := 4, ground := Ground.data } (by simp) rfl (by decide)
      have q0 := HOLD.out W _ _ _ (HIB.out.cell (j := 4) rfl) HW.out HIB.out.lt HNib.out
      clear hall
      refine wpOp_plain rfl rfl (fun K' hK' => ?_)
      go_simp
      have hh := hK' _ _ (hK _ _ (Below.refl _ _) rfl)
      simpa [upd, d4] using hh
    · simp at ho; subst ho
      have q0 := HOLD.out W _ _ _ (HVB.out.cell (j := 0) rfl) HW.out HVB.out.lt HNvb.out
      have q1 := HOLD.out W _ _ _ (HVB.out.cell (j := 1) rfl) HW.out HVB.out.lt HNvb.out
      clear hall
      refine wpOp_plain rfl rfl (fun K' hK' => ?_)
      go_simp
      have hh := hK' _ _ (hK _ _ (Below.refl _ _) rfl)
      simpa [upd] using hh
    · simp at ho; subst ho
      have d3 : Y 3 = _ := hall { on := 3, ground := Ground.data } (by simp) rfl (by decide)
      have d5 : Y 5 = _ := hall { on := 5, ground := Ground.data } (by simp) rfl (by decide)
      have d6 : Y 6 = _ := hall { on := 6, ground := Ground.data } (by simp) rfl (by decide)
      clear hall
      refine wpOp_plain rfl rfl (fun K' hK' => ?_)
      go_simp
      refine (HCALL.out W HW.out).mono ?_
      rintro e W5 ⟨⟨y0, y1, rfl, hf⟩, hb5⟩
      go_simp
      have hh := hK' _ _ (hK (.tuple #[.agg #[.int .i64 y0, .int .i64 y1], .bool r.isSome]) W5 hb5 ⟨y0, y1, rfl, hf⟩)
      simpa [upd, d3, d5, d6] using hh
    · simp at ho; subst ho
      obtain ⟨y0, y1, dT, hf⟩ := hall { on := 7, ground := Ground.data } (by simp) rfl (by decide)
      clear hall
      refine wpOp_plain rfl rfl (fun K' hK' => ?_)
      go_simp
      have hh := hK' _ _ (hK (.agg #[.int .i64 y0, .int .i64 y1]) _ (Below.refl _ _) ⟨y0, y1, rfl, hf⟩)
      simpa [upd, dT] using hh
    · simp at ho; subst ho
      obtain ⟨y0, y1, dT, hf⟩ := hall { on := 7, ground := Ground.data } (by simp) rfl (by decide)
      clear hall
      refine wpOp_plain rfl rfl (fun K' hK' => ?_)
      go_simp
      have hh := hK' _ _ (hK (.bool r.isSome) _ (Below.refl _ _) rfl)
      simpa [upd, dT] using hh
    · exact absurd rfl h2
    · simp at ho; subst ho
      have d9 : Y 9 = _ := hall { on := 9, ground := Ground.data } (by simp) rfl (by decide)
      clear hall
      refine wpOp_plain rfl rfl (fun K' hK' => ?_)
      go_simp
      have hh := hK' _ _ (hK (.bool r.isSome) _ (Below.refl _ _) rfl)
      simpa [upd, d9] using hh
    · simp at ho
  · intro o' Y W cs ho hrow hcs hcl K hK
    simp at ho; subst ho
    obtain ⟨y0, y1, dA, _⟩ := hcl
    obtain ⟨e0, e1, rfl⟩ := size2' hcs
    have q0 := hrow.cell (j := 0) rfl
    have q1 := hrow.cell (j := 1) rfl
    have k0 := hrow.free 0
    have k1 := hrow.free 1
    have HROW := Lib.hid hrow
    clear hrow hcs
    refine wpOp_plain rfl rfl (fun K' hK' => ?_)
    go_simp
    have hh := hK' _ _ (hK _ undef ((((Wr.refl (fun i => i = pw) W).setR pw _ _ (Or.inl rfl)).setR pw _ _ (Or.inl rfl))) (by rw [dA]; exact ((HROW.out.set 0 _).set 1 _)) (by rw [dA]; rfl))
    simpa [upd, dA] using hh
  · intro Y W hw hrow hall
    obtain ⟨y0, y1, dA, hf⟩ := hall 8 (by simp) (by decide)
    have dF : Y 11 = _ := hall 11 (by simp) (by decide)
    rw [dA] at hrow
    show Q .normal ⟨List.toArray ((Value.pointer (some ⟨rb, 0, none⟩)) :: (Value.pointer (some ⟨fb, 0, none⟩)) :: c2 :: c3 :: c4 :: (Value.pointer (some ⟨ib, 0, none⟩)) :: (Value.pointer (some ⟨pw, 0, none⟩)) :: Y 11 :: (Value.pointer (some ⟨vb, 0, none⟩)) :: c9 :: c10 :: c11 :: c12 :: c13 :: c14 :: c15 :: c16 :: c17 :: c18 :: c19 :: c20 :: c21 :: c22 :: c23 :: c24 :: c25 :: c26 :: c27 :: c28 :: c29 :: c30 :: c31 :: c32 :: c33 :: c34 :: c35 :: c36 :: c37 :: c38 :: c39 :: c40 :: c41 :: c42 :: c43 :: c44 :: c45 :: c46 :: c47 :: c48 :: c49 :: c50 :: c51 :: c52 :: c53 :: c54 :: c55 :: c56 :: c57 :: c58 :: c59 :: c60 :: c61 :: c62 :: c63 :: c64 :: c65 :: c66 :: c67 :: c68 :: c69 :: c70 :: c71 :: c72 :: c73 :: c74 :: c75 :: c76 :: c77 :: c78 :: c79 :: c80 :: c81 :: c82 :: c83 :: c84 :: c85 :: c86 :: c87 :: c88 :: c89 :: c90 :: c91 :: c92 :: c93 :: c94 :: c95 :: c96 :: c97 :: c98 :: c99 :: c100 :: c101 :: c102 :: c103 :: c104 :: c105 :: c106 :: c107 :: c108 :: c109 :: c110 :: c111 :: c112 :: c113 :: c114 :: c115 :: c116 :: c117 :: c118 :: c119 :: c120 :: c121 :: c122 :: c123 :: c124 :: c125 :: c126 :: Y 0 :: Y 1 :: Y 2 :: Y 3 :: Y 4 :: Y 5 :: Y 6 :: Y 7 :: Y 8 :: Y 9 :: []), []⟩ W
    rw [dF]
    exact HEX.out W y0 y1 Y hw hrow hf
end Go.Proofs.Ytinmgbodgecoeaa
