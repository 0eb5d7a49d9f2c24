/- The page's Uses: its regions of two puts. Conditions: as stated. -/
import Derived.Test.YtlenilbkifofjaaDoorLvGZz
import Derived.Test.YtlenilbkifofjaaDoorQ03Zz
set_option linter.unusedVariables false
set_option linter.unusedSimpArgs false
namespace Go.Proofs.YtlenilbkifofjaaDoor
open Go.RowKit

/-- A list of numbers that nothing writes. -/
def IntsV (W : World) (l : List Int) (v : Value) : Prop := ∃ A c, v = .slice A l.length c ∧ LongsAt W W.heap.size l v ∧ (l = [] → A = none ∧ c = 0) ∧ l.length ≤ c
theorem IntsV.below {W W' : World} {l : List Int} {v : Value} (h : IntsV W l v) (hb : Below W.heap.size W W') : IntsV W' l v := by
  obtain ⟨A, c, h1, h2, h3⟩ := h
  exact ⟨A, c, h1, h2.below hb hb.size, h3⟩
theorem NewInts.v {l : List Int} {w w' : World} {e : Ending} (h : NewInts l w e w') : ∃ v, e = .returned v ∧ IntsV w' l v ∧ Below w.heap.size w w' := by
  obtain ⟨A, c, h1, h2, h3, h4, h5⟩ := h
  exact ⟨_, h1, ⟨A, c, rfl, h2, h3, h4⟩, h5⟩
def luCl (xb f2 : Nat) (r1 r2 : Int) (W : World) : Nat → Value → Prop
  | 0, v => v = .slice none 0 0
  | 1, v => v = .pointer (some ⟨xb, 2, none⟩)
  | 2, v => v = .int .i64 r1
  | 3, v => IntsV W (putL [] r1) v
  | 4, v => v = .pointer (some ⟨xb, f2, none⟩)
  | 5, v => v = .int .i64 r2
  | 6, v | 7, v => IntsV W (putL (putL [] r1) r2) v
  | _, _ => True
noncomputable def luAR : Code := (regsOf (Tryd.f8.body.getD .skip)).getD 13 .skip
set_option maxRecDepth 100000 in
set_option maxHeartbeats 8000000 in
theorem luA_region (xb : Nat) (cells : Array Value) (r1 r2 : Int) (w : World) (hbox : Row w xb cells 38) (h1 : cells[2]? = some (.int .i64 r1)) (h2 : cells[3]? = some (.int .i64 r2)) (hr1 : In64 r1) (hr2 : In64 r2)
    (c0 c2 c4 c5 c6 c7 c8 c9 c10 c11 c12 c13 c14 c15 c16 c17 c18 c19 c20 c21 c22 c23 c24 c25 c26 c27 c28 c29 c30 c31 c32 c33 c34 c35 c36 c37 c38 c39 c40 c41 c42 c43 c44 c45 c46 c47 c48 c49 c50 c51 c52 c53 c54 : Value) (Q : Exit → Act → World → Prop)
    (hexit : ∀ (W : World) (Y : Nat → Value), Below w.heap.size w W → IntsV W (putL (putL [] r1) r2) (Y 6) → Q .normal ⟨List.toArray (c0 :: (Value.pointer (some ⟨xb, 0, none⟩)) :: c2 :: Y 6 :: c4 :: c5 :: c6 :: c7 :: c8 :: c9 :: c10 :: c11 :: c12 :: c13 :: c14 :: c15 :: c16 :: c17 :: c18 :: c19 :: c20 :: c21 :: Y 0 :: Y 1 :: Y 2 :: Y 3 :: Y 4 :: Y 5 :: Y 6 :: c29 :: c30 :: c31 :: c32 :: c33 :: c34 :: c35 :: c36 :: c37 :: c38 :: c39 :: c40 :: c41 :: c42 :: c43 :: c44 :: c45 :: c46 :: c47 :: c48 :: c49 :: c50 :: c51 :: c52 :: c53 :: c54 :: []), []⟩ W) :
    Code.wp Tryd.prog luAR Q ⟨List.toArray (c0 :: (Value.pointer (some ⟨xb, 0, none⟩)) :: c2 :: (Value.slice none 0 0) :: c4 :: c5 :: c6 :: c7 :: c8 :: c9 :: c10 :: c11 :: c12 :: c13 :: c14 :: c15 :: c16 :: c17 :: c18 :: c19 :: c20 :: c21 :: c22 :: c23 :: c24 :: c25 :: c26 :: c27 :: c28 :: c29 :: c30 :: c31 :: c32 :: c33 :: c34 :: c35 :: c36 :: c37 :: c38 :: c39 :: c40 :: c41 :: c42 :: c43 :: c44 :: c45 :: c46 :: c47 :: c48 :: c49 :: c50 :: c51 :: c52 :: c53 :: c54 :: []), []⟩ w := by
  have HBOX := Lib.hid hbox
  have H1 := Lib.hid h1
  have H2 := Lib.hid h2
  have HR1 := Lib.hid hr1
  have HR2 := Lib.hid hr2
  have HEX := Lib.hid hexit
  clear hbox h1 h2 hr1 hr2 hexit
  conv => arg 2; whnf
  refine region_cl_tail 7 (by kernel_rfl) (by kernel_rfl) (luCl xb 3 r1 r2) (fun Y => ⟨List.toArray (c0 :: (Value.pointer (some ⟨xb, 0, none⟩)) :: c2 :: (Value.slice none 0 0) :: c4 :: c5 :: c6 :: c7 :: c8 :: c9 :: c10 :: c11 :: c12 :: c13 :: c14 :: c15 :: c16 :: c17 :: c18 :: c19 :: c20 :: c21 :: Y 0 :: Y 1 :: Y 2 :: Y 3 :: Y 4 :: Y 5 :: Y 6 :: c29 :: c30 :: c31 :: c32 :: c33 :: c34 :: c35 :: c36 :: c37 :: c38 :: c39 :: c40 :: c41 :: c42 :: c43 :: c44 :: c45 :: c46 :: c47 :: c48 :: c49 :: c50 :: c51 :: c52 :: c53 :: c54 :: []), []⟩) (fun i => #[c22, c23, c24, c25, c26, c27, c28].getD i undef) rfl ?_ ?_ ?_
  · intro W W' i v hb h
    rcases i with _ | _ | _ | _ | _ | _ | _ | _ | i
    · exact h
    · exact h
    · exact h
    · exact IntsV.below h hb
    · exact h
    · exact h
    · exact IntsV.below h hb
    · exact IntsV.below h hb
    · trivial
  · intro i o' Y W hin ho hb hall K hK
    have HW := Lib.hid hb
    clear hb
    rcases i with _ | _ | _ | _ | _ | _ | _ | _ | i
    · simp at ho; subst ho
      clear hall
      refine wpOp_plain rfl rfl (fun K' hK' => ?_)
      go_simp
      have hh := hK' _ _ (hK _ _ (Below.refl _ _) rfl)
      simpa [upd] using hh
    · simp at ho; subst ho
      clear hall
      refine wpOp_plain rfl rfl (fun K' hK' => ?_)
      go_simp
      have hh := hK' _ _ (hK _ _ (Below.refl _ _) rfl)
      simpa [upd] using hh
    · simp at ho; subst ho
      have d1 := hall { on := 1, ground := Ground.data } (by simp) rfl
      have q0 := cell_below (HBOX.out.cell H1.out) HW.out HBOX.out.lt
      have e1 : Y 1 = .pointer (some ⟨xb, 2, none⟩) := d1
      clear hall
      refine wpOp_plain rfl rfl (fun K' hK' => ?_)
      go_simp
      have hh := hK' _ _ (hK _ _ (Below.refl _ _) rfl)
      simpa [upd, e1] using hh
    · simp at ho; subst ho
      have d0 := hall { on := 0, ground := Ground.data } (by simp) rfl
      have d2 := hall { on := 2, ground := Ground.data } (by simp) rfl
      have e0 : Y 0 = .slice none 0 0 := d0
      have e2 : Y 2 = .int .i64 r1 := d2
      have HC := Lib.hid (rput_any [] r1 none 0 0 W (Nat.zero_le _) ⟨none, 0, rfl, by simp, fun h => by simp at h⟩ (fun _ => ⟨rfl, rfl⟩) (Nat.le_refl _) (by simp) HR1.out)
      clear hall d0 d2
      refine wpOp_plain rfl rfl (fun K' hK' => ?_)
      go_simp
      try simp only [e0, e2]
      refine HC.out.mono ?_
      intro e W5 h
      obtain ⟨v, rfl, hv, hb5⟩ := h.v
      go_simp
      have hh := hK' _ _ (hK v W5 hb5 hv)
      simpa [upd, e0, e2] using hh
    · simp at ho; subst ho
      clear hall
      refine wpOp_plain rfl rfl (fun K' hK' => ?_)
      go_simp
      have hh := hK' _ _ (hK _ _ (Below.refl _ _) rfl)
      simpa [upd] using hh
    · simp at ho; subst ho
      have d4 := hall { on := 4, ground := Ground.data } (by simp) rfl
      have q0 := cell_below (HBOX.out.cell H2.out) HW.out HBOX.out.lt
      have e4 : Y 4 = .pointer (some ⟨xb, 3, none⟩) := d4
      clear hall
      refine wpOp_plain rfl rfl (fun K' hK' => ?_)
      go_simp
      have hh := hK' _ _ (hK _ _ (Below.refl _ _) rfl)
      simpa [upd, e4] using hh
    · simp at ho; subst ho
      have d3 := hall { on := 3, ground := Ground.data } (by simp) rfl
      have d5 := hall { on := 5, ground := Ground.data } (by simp) rfl
      have e5 : Y 5 = .int .i64 r2 := d5
      obtain ⟨A, c, e3, hl, hn, hc⟩ := (show IntsV W (putL [] r1) (Y 3) from d3)
      have HC := Lib.hid (rput_any (putL [] r1) r2 A c W.heap.size W (Nat.le_refl _) (by rw [← e3]; exact hl) hn hc (by simp [putL]) HR2.out)
      clear hall d3 d5 hl hn hc
      refine wpOp_plain rfl rfl (fun K' hK' => ?_)
      go_simp
      try simp only [e3, e5]
      refine HC.out.mono ?_
      intro e W5 h
      obtain ⟨v, rfl, hv, hb5⟩ := h.v
      go_simp
      have hh := hK' _ _ (hK v W5 hb5 hv)
      simpa [upd, e3, e5] using hh
    · omega
    · omega
  · intro Y W hb hc
    have h6 := hc 6 (by decide)
    clear hc
    refine wpList_plain rfl (fun K hK => ?_)
    go_simp
    exact hK _ _ (HEX.out W Y hb h6)
noncomputable def luBR : Code := (regsOf (Tryd.f8.body.getD .skip)).getD 15 .skip
set_option maxRecDepth 100000 in
set_option maxHeartbeats 8000000 in
theorem luB_region (xb : Nat) (cells : Array Value) (r1 r2 : Int) (w : World) (hbox : Row w xb cells 38) (h1 : cells[2]? = some (.int .i64 r1)) (h2 : cells[1]? = some (.int .i64 r2)) (hr1 : In64 r1) (hr2 : In64 r2)
    (c0 c2 c4 c5 c6 c7 c8 c9 c10 c11 c12 c13 c14 c15 c16 c17 c18 c19 c20 c21 c22 c23 c24 c25 c26 c27 c28 c29 c30 c31 c32 c33 c34 c35 c36 c37 c38 c39 c40 c41 c42 c43 c44 c45 c46 c47 c48 c49 c50 c51 c52 c53 c54 : Value) (Q : Exit → Act → World → Prop)
    (hexit : ∀ (W : World) (Y : Nat → Value), Below w.heap.size w W → IntsV W (putL (putL [] r1) r2) (Y 6) → Q .normal ⟨List.toArray (c0 :: (Value.pointer (some ⟨xb, 0, none⟩)) :: c2 :: Y 6 :: c4 :: c5 :: c6 :: c7 :: c8 :: c9 :: c10 :: c11 :: c12 :: c13 :: c14 :: c15 :: c16 :: c17 :: c18 :: c19 :: c20 :: c21 :: c22 :: c23 :: c24 :: c25 :: c26 :: c27 :: c28 :: c29 :: c30 :: Y 0 :: Y 1 :: Y 2 :: Y 3 :: Y 4 :: Y 5 :: Y 6 :: c38 :: c39 :: c40 :: c41 :: c42 :: c43 :: c44 :: c45 :: c46 :: c47 :: c48 :: c49 :: c50 :: c51 :: c52 :: c53 :: c54 :: []), []⟩ W) :
    Code.wp Tryd.prog luBR Q ⟨List.toArray (c0 :: (Value.pointer (some ⟨xb, 0, none⟩)) :: c2 :: (Value.slice none 0 0) :: c4 :: c5 :: c6 :: c7 :: c8 :: c9 :: c10 :: c11 :: c12 :: c13 :: c14 :: c15 :: c16 :: c17 :: c18 :: c19 :: c20 :: c21 :: c22 :: c23 :: c24 :: c25 :: c26 :: c27 :: c28 :: c29 :: c30 :: c31 :: c32 :: c33 :: c34 :: c35 :: c36 :: c37 :: c38 :: c39 :: c40 :: c41 :: c42 :: c43 :: c44 :: c45 :: c46 :: c47 :: c48 :: c49 :: c50 :: c51 :: c52 :: c53 :: c54 :: []), []⟩ w := by
  have HBOX := Lib.hid hbox
  have H1 := Lib.hid h1
  have H2 := Lib.hid h2
  have HR1 := Lib.hid hr1
  have HR2 := Lib.hid hr2
  have HEX := Lib.hid hexit
  clear hbox h1 h2 hr1 hr2 hexit
  conv => arg 2; whnf
  refine region_cl_tail 7 (by kernel_rfl) (by kernel_rfl) (luCl xb 1 r1 r2) (fun Y => ⟨List.toArray (c0 :: (Value.pointer (some ⟨xb, 0, none⟩)) :: c2 :: (Value.slice none 0 0) :: c4 :: c5 :: c6 :: c7 :: c8 :: c9 :: c10 :: c11 :: c12 :: c13 :: c14 :: c15 :: c16 :: c17 :: c18 :: c19 :: c20 :: c21 :: c22 :: c23 :: c24 :: c25 :: c26 :: c27 :: c28 :: c29 :: c30 :: Y 0 :: Y 1 :: Y 2 :: Y 3 :: Y 4 :: Y 5 :: Y 6 :: c38 :: c39 :: c40 :: c41 :: c42 :: c43 :: c44 :: c45 :: c46 :: c47 :: c48 :: c49 :: c50 :: c51 :: c52 :: c53 :: c54 :: []), []⟩) (fun i => #[c31, c32, c33, c34, c35, c36, c37].getD i undef) rfl ?_ ?_ ?_
  · intro W W' i v hb h
    rcases i with _ | _ | _ | _ | _ | _ | _ | _ | i
    · exact h
    · exact h
    · exact h
    · exact IntsV.below h hb
    · exact h
    · exact h
    · exact IntsV.below h hb
    · exact IntsV.below h hb
    · trivial
  · intro i o' Y W hin ho hb hall K hK
    have HW := Lib.hid hb
    clear hb
    rcases i with _ | _ | _ | _ | _ | _ | _ | _ | i
    · simp at ho; subst ho
      clear hall
      refine wpOp_plain rfl rfl (fun K' hK' => ?_)
      go_simp
      have hh := hK' _ _ (hK _ _ (Below.refl _ _) rfl)
      simpa [upd] using hh
    · simp at ho; subst ho
      clear hall
      refine wpOp_plain rfl rfl (fun K' hK' => ?_)
      go_simp
      have hh := hK' _ _ (hK _ _ (Below.refl _ _) rfl)
      simpa [upd] using hh
    · simp at ho; subst ho
      have d1 := hall { on := 1, ground := Ground.data } (by simp) rfl
      have q0 := cell_below (HBOX.out.cell H1.out) HW.out HBOX.out.lt
      have e1 : Y 1 = .pointer (some ⟨xb, 2, none⟩) := d1
      clear hall
      refine wpOp_plain rfl rfl (fun K' hK' => ?_)
      go_simp
      have hh := hK' _ _ (hK _ _ (Below.refl _ _) rfl)
      simpa [upd, e1] using hh
    · simp at ho; subst ho
      have d0 := hall { on := 0, ground := Ground.data } (by simp) rfl
      have d2 := hall { on := 2, ground := Ground.data } (by simp) rfl
      have e0 : Y 0 = .slice none 0 0 := d0
      have e2 : Y 2 = .int .i64 r1 := d2
      have HC := Lib.hid (rput_any [] r1 none 0 0 W (Nat.zero_le _) ⟨none, 0, rfl, by simp, fun h => by simp at h⟩ (fun _ => ⟨rfl, rfl⟩) (Nat.le_refl _) (by simp) HR1.out)
      clear hall d0 d2
      refine wpOp_plain rfl rfl (fun K' hK' => ?_)
      go_simp
      try simp only [e0, e2]
      refine HC.out.mono ?_
      intro e W5 h
      obtain ⟨v, rfl, hv, hb5⟩ := h.v
      go_simp
      have hh := hK' _ _ (hK v W5 hb5 hv)
      simpa [upd, e0, e2] using hh
    · simp at ho; subst ho
      clear hall
      refine wpOp_plain rfl rfl (fun K' hK' => ?_)
      go_simp
      have hh := hK' _ _ (hK _ _ (Below.refl _ _) rfl)
      simpa [upd] using hh
    · simp at ho; subst ho
      have d4 := hall { on := 4, ground := Ground.data } (by simp) rfl
      have q0 := cell_below (HBOX.out.cell H2.out) HW.out HBOX.out.lt
      have e4 : Y 4 = .pointer (some ⟨xb, 1, none⟩) := d4
      clear hall
      refine wpOp_plain rfl rfl (fun K' hK' => ?_)
      go_simp
      have hh := hK' _ _ (hK _ _ (Below.refl _ _) rfl)
      simpa [upd, e4] using hh
    · simp at ho; subst ho
      have d3 := hall { on := 3, ground := Ground.data } (by simp) rfl
      have d5 := hall { on := 5, ground := Ground.data } (by simp) rfl
      have e5 : Y 5 = .int .i64 r2 := d5
      obtain ⟨A, c, e3, hl, hn, hc⟩ := (show IntsV W (putL [] r1) (Y 3) from d3)
      have HC := Lib.hid (rput_any (putL [] r1) r2 A c W.heap.size W (Nat.le_refl _) (by rw [← e3]; exact hl) hn hc (by simp [putL]) HR2.out)
      clear hall d3 d5 hl hn hc
      refine wpOp_plain rfl rfl (fun K' hK' => ?_)
      go_simp
      try simp only [e3, e5]
      refine HC.out.mono ?_
      intro e W5 h
      obtain ⟨v, rfl, hv, hb5⟩ := h.v
      go_simp
      have hh := hK' _ _ (hK v W5 hb5 hv)
      simpa [upd, e3, e5] using hh
    · omega
    · omega
  · intro Y W hb hc
    have h6 := hc 6 (by decide)
    clear hc
    refine wpList_plain rfl (fun K hK => ?_)
    go_simp
    exact hK _ _ (HEX.out W Y hb h6)
end Go.Proofs.YtlenilbkifofjaaDoor
