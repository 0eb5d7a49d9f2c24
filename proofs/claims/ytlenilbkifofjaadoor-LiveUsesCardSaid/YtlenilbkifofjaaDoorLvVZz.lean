/- LiveUses: its drawn region, its walk. Conditions: as stated. -/
import Derived.Test.YtlenilbkifofjaaDoorLvUZz
import Derived.Test.YtlenilbkifofjaaDoorVHvZz
import Derived.Test.YtlenilbkifofjaaDoorQ03Zz
set_option linter.unusedVariables false
set_option linter.unusedSimpArgs false
namespace Go.Proofs.YtlenilbkifofjaaDoor
open Go.RowKit

def luvCl (c : CodeS) (x : InsS) (SA : Option Addr) (scap cb bb boff bc j : Nat) (W : World) : Nat → Value → Prop
  | 0, v => v = .pointer (some ⟨cb, 3, none⟩)
  | 1, v => v = .slice (some ⟨bb, boff, none⟩) c.ins.length bc
  | 2, v => v = .int .i64 (j : Nat)
  | 3, v => v = .pointer (some ⟨bb, boff + j * 6, none⟩)
  | 4, v => v = .agg #[.int .i64 x.op, .int .i64 x.dst, .int .i64 x.a, .int .i64 x.b, .int .i64 x.n, .slice SA x.arg.length scap]
  | 5, v => LongsV W (usesL x) v
  | 6, v => v = .pointer (some ⟨cb, 3, none⟩)
  | 7, v => v = .slice (some ⟨bb, boff, none⟩) c.ins.length bc
  | 8, v => v = .int .i64 (j : Nat)
  | 9, v => v = .pointer (some ⟨bb, boff + j * 6, none⟩)
  | 10, v => v = .agg #[.int .i64 x.op, .int .i64 x.dst, .int .i64 x.a, .int .i64 x.b, .int .i64 x.n, .slice SA x.arg.length scap]
  | 11, v => LongsV W (usesL x) v
  | 12, v => v = .bool true
  | 13, v => v = .bool false
  | 14, v => v = .bool false
  | 15, v => v = .pointer (some ⟨cb, 3, none⟩)
  | 16, v => v = .slice (some ⟨bb, boff, none⟩) c.ins.length bc
  | 17, v => v = .int .i64 (j : Nat)
  | 18, v => v = .pointer (some ⟨bb, boff + j * 6, none⟩)
  | 19, v => v = .agg #[.int .i64 x.op, .int .i64 x.dst, .int .i64 x.a, .int .i64 x.b, .int .i64 x.n, .slice SA x.arg.length scap]
  | 20, v => v = .int .i64 (defL x)
  | 21, v => v = .pointer (some ⟨cb, 3, none⟩)
  | 22, v => v = .slice (some ⟨bb, boff, none⟩) c.ins.length bc
  | 23, v => v = .int .i64 (j : Nat)
  | 24, v => v = .pointer (some ⟨bb, boff + j * 6, none⟩)
  | 25, v => v = .agg #[.int .i64 x.op, .int .i64 x.dst, .int .i64 x.a, .int .i64 x.b, .int .i64 x.n, .slice SA x.arg.length scap]
  | 26, v => v = .int .i64 (defL x)
  | 27, v => v = .bool false
  | 28, v => v = .bool false
  | _, _ => True
noncomputable def luvR : Code := (regsOf (Tryd.f3.body.getD .skip)).getD 10 .skip
set_option maxRecDepth 100000 in
set_option maxHeartbeats 8000000 in
theorem luv_region (c : CodeS) (x : InsS) (SA LA : Option Addr) (scap cb bb boff bc lc j : Nat) (w : World) (hrow : Row w cb #[.int .i64 c.params, .int .i64 c.regs, .slice LA c.locs.length lc, .slice (some ⟨bb, boff, none⟩) c.ins.length bc] 33) (hins : ∀ W, Below w.heap.size w W → W.cell? ⟨bb, boff + j * 6, none⟩ = some (.int .i64 x.op) ∧ W.cell? ⟨bb, boff + j * 6 + 1, none⟩ = some (.int .i64 x.dst) ∧ W.cell? ⟨bb, boff + j * 6 + 2, none⟩ = some (.int .i64 x.a) ∧ W.cell? ⟨bb, boff + j * 6 + 3, none⟩ = some (.int .i64 x.b) ∧ W.cell? ⟨bb, boff + j * 6 + 4, none⟩ = some (.int .i64 x.n) ∧ W.cell? ⟨bb, boff + j * 6 + 5, none⟩ = some (.slice SA x.arg.length scap) ∧ bb < W.heap.size) (hj : j < c.ins.length) (hu : ∀ W, Below w.heap.size w W → Calls Tryd.prog 7 #[.agg #[.int .i64 x.op, .int .i64 x.dst, .int .i64 x.a, .int .i64 x.b, .int .i64 x.n, .slice SA x.arg.length scap]] W fun e w' => LongsNew (usesL x) W e w') (hv : ∀ W, Below w.heap.size w W → Calls Tryd.prog 8 #[.agg #[.int .i64 x.op, .int .i64 x.dst, .int .i64 x.a, .int .i64 x.b, .int .i64 x.n, .slice SA x.arg.length scap]] W fun e w' => LongsNew (usesL x) W e w') (hd : ∀ W, Calls Tryd.prog 9 #[.agg #[.int .i64 x.op, .int .i64 x.dst, .int .i64 x.a, .int .i64 x.b, .int .i64 x.n, .slice SA x.arg.length scap]] W fun e w' => DefsSays x W e w') (he : ∀ W, Calls Tryd.prog 10 #[.agg #[.int .i64 x.op, .int .i64 x.dst, .int .i64 x.a, .int .i64 x.b, .int .i64 x.n, .slice SA x.arg.length scap]] W fun e w' => DefsSays x W e w')
    (c0 c1 c2 c3 c4 c7 c8 c9 c10 c11 c12 c13 c14 c15 c16 c17 c18 c19 c20 c21 c22 c23 c24 c25 c26 c27 c28 c29 c30 c31 c32 c33 c34 c35 c36 c37 c38 c39 c40 c41 c42 c43 c44 c45 c46 c47 c48 c49 c50 c51 c52 c53 c54 c55 c56 c57 c58 c59 c60 c61 c62 c63 c64 c65 c66 c67 c68 c69 c70 c71 c72 c73 c74 c75 c76 : Value) (Q : Exit → Act → World → Prop)
    (hexit : ∀ (W : World) (Y : Nat → Value), Below w.heap.size w W → Q .normal ⟨List.toArray (c0 :: c1 :: c2 :: c3 :: c4 :: (Value.pointer (some ⟨cb, 0, none⟩)) :: (Value.int .i64 (j : Nat)) :: c7 :: c8 :: c9 :: c10 :: c11 :: c12 :: c13 :: c14 :: c15 :: c16 :: c17 :: c18 :: c19 :: c20 :: c21 :: c22 :: c23 :: c24 :: c25 :: c26 :: c27 :: c28 :: c29 :: c30 :: c31 :: c32 :: c33 :: c34 :: c35 :: c36 :: c37 :: c38 :: c39 :: c40 :: c41 :: c42 :: c43 :: c44 :: c45 :: c46 :: Y 0 :: Y 1 :: Y 2 :: Y 3 :: Y 4 :: Y 5 :: Y 6 :: Y 7 :: Y 8 :: Y 9 :: Y 10 :: Y 11 :: Y 12 :: Y 13 :: Y 14 :: Y 15 :: Y 16 :: Y 17 :: Y 18 :: Y 19 :: Y 20 :: Y 21 :: Y 22 :: Y 23 :: Y 24 :: Y 25 :: Y 26 :: Y 27 :: (Value.bool false) :: c76 :: []), []⟩ W) :
    Code.wp Tryd.prog luvR Q ⟨List.toArray (c0 :: c1 :: c2 :: c3 :: c4 :: (Value.pointer (some ⟨cb, 0, none⟩)) :: (Value.int .i64 (j : Nat)) :: c7 :: c8 :: c9 :: c10 :: c11 :: c12 :: c13 :: c14 :: c15 :: c16 :: c17 :: c18 :: c19 :: c20 :: c21 :: c22 :: c23 :: c24 :: c25 :: c26 :: c27 :: c28 :: c29 :: c30 :: c31 :: c32 :: c33 :: c34 :: c35 :: c36 :: c37 :: c38 :: c39 :: c40 :: c41 :: c42 :: c43 :: c44 :: c45 :: c46 :: c47 :: c48 :: c49 :: c50 :: c51 :: c52 :: c53 :: c54 :: c55 :: c56 :: c57 :: c58 :: c59 :: c60 :: c61 :: c62 :: c63 :: c64 :: c65 :: c66 :: c67 :: c68 :: c69 :: c70 :: c71 :: c72 :: c73 :: c74 :: c75 :: c76 :: []), []⟩ w := by
  have HROW := Lib.hid hrow
  have HINS := Lib.hid hins
  have HJ := Lib.hid hj
  have HU := Lib.hid hu
  have HV := Lib.hid hv
  have HD := Lib.hid hd
  have HE := Lib.hid he
  have HEX := Lib.hid hexit
  clear hrow hins hj hu hv hd he hexit
  conv => arg 2; whnf
  refine region_cl (by kernel_rfl) (luvCl c x SA scap cb bb boff bc j) (fun Y => ⟨List.toArray (c0 :: c1 :: c2 :: c3 :: c4 :: (Value.pointer (some ⟨cb, 0, none⟩)) :: (Value.int .i64 (j : Nat)) :: c7 :: c8 :: c9 :: c10 :: c11 :: c12 :: c13 :: c14 :: c15 :: c16 :: c17 :: c18 :: c19 :: c20 :: c21 :: c22 :: c23 :: c24 :: c25 :: c26 :: c27 :: c28 :: c29 :: c30 :: c31 :: c32 :: c33 :: c34 :: c35 :: c36 :: c37 :: c38 :: c39 :: c40 :: c41 :: c42 :: c43 :: c44 :: c45 :: c46 :: Y 0 :: Y 1 :: Y 2 :: Y 3 :: Y 4 :: Y 5 :: Y 6 :: Y 7 :: Y 8 :: Y 9 :: Y 10 :: Y 11 :: Y 12 :: Y 13 :: Y 14 :: Y 15 :: Y 16 :: Y 17 :: Y 18 :: Y 19 :: Y 20 :: Y 21 :: Y 22 :: Y 23 :: Y 24 :: Y 25 :: Y 26 :: Y 27 :: Y 28 :: c76 :: []), []⟩) (fun i => #[c47, c48, c49, c50, c51, c52, c53, c54, c55, c56, c57, c58, c59, c60, c61, c62, c63, c64, c65, c66, c67, c68, c69, c70, c71, c72, c73, c74, c75].getD i undef) rfl (by kernel_rfl) ?_ ?_ ?_
  · intro W W' i v hb h
    rcases i with _ | _ | _ | _ | _ | _ | _ | _ | _ | _ | _ | _ | _ | _ | _ | _ | _ | _ | _ | _ | _ | _ | _ | _ | _ | _ | _ | _ | _ | i
    · exact h
    · exact h
    · exact h
    · exact h
    · exact h
    · exact LongsV.below h hb
    · exact h
    · exact h
    · exact h
    · exact h
    · exact h
    · exact LongsV.below h hb
    · exact h
    · exact h
    · exact h
    · exact h
    · exact h
    · exact h
    · exact h
    · exact h
    · exact h
    · exact h
    · exact h
    · exact h
    · exact h
    · exact h
    · exact h
    · exact h
    · exact h
    · trivial
  · intro i o' Y W ho hb hall K hK
    have HW := Lib.hid hb
    clear hb
    rcases i with _ | _ | _ | _ | _ | _ | _ | _ | _ | _ | _ | _ | _ | _ | _ | _ | _ | _ | _ | _ | _ | _ | _ | _ | _ | _ | _ | _ | _ | i
    · simp at ho; subst ho
      clear hall
      refine wpOp_plain rfl rfl (fun K' hK' => ?_)
      go_simp
      have hh := hK' _ _ (hK _ _ (Below.refl _ _) rfl)
      simpa [upd] using hh
    · simp at ho; subst ho
      have d0 := hall { on := 0, ground := Ground.data } (by simp) rfl
      have e0 : Y 0 = .pointer (some ⟨cb, 3, none⟩) := d0
      have q3 := cell_below (HROW.out.cell (j := 3) rfl) HW.out HROW.out.lt
      have ql := Nat.lt_of_lt_of_le HROW.out.lt HW.out.size
      clear hall
      refine wpOp_plain rfl rfl (fun K' hK' => ?_)
      go_simp
      have hh := hK' _ _ (hK _ _ (Below.refl _ _) rfl)
      simpa [upd, e0] using hh
    · simp at ho; subst ho
      clear hall
      refine wpOp_plain rfl rfl (fun K' hK' => ?_)
      go_simp
      have hh := hK' _ _ (hK _ _ (Below.refl _ _) rfl)
      simpa [upd] using hh
    · simp at ho; subst ho
      have d1 := hall { on := 1, ground := Ground.data } (by simp) rfl
      have d2 := hall { on := 2, ground := Ground.data } (by simp) rfl
      have e1 : Y 1 = .slice (some ⟨bb, boff, none⟩) c.ins.length bc := d1
      have e2 : Y 2 = .int .i64 (j : Nat) := d2
      have hj0 : (0 : Int) ≤ (j : Int) := by omega
      have hj1 : (j : Int) < (c.ins.length : Int) := by have := HJ.out; omega
      clear hall
      refine wpOp_plain rfl rfl (fun K' hK' => ?_)
      go_simp
      have hh := hK' _ _ (hK _ _ (Below.refl _ _) rfl)
      simpa [upd, e1, e2] using hh
    · simp at ho; subst ho
      have d3 := hall { on := 3, ground := Ground.data } (by simp) rfl
      have e3 : Y 3 = .pointer (some ⟨bb, boff + j * 6, none⟩) := d3
      obtain ⟨i0, i1, i2, i3, i4, i5, il⟩ := HINS.out W HW.out
      clear hall
      refine wpOp_plain rfl rfl (fun K' hK' => ?_)
      go_simp
      have hh := hK' _ _ (hK _ _ (Below.refl _ _) rfl)
      simpa [upd, e3] using hh
    · simp at ho; subst ho
      have d4 := hall { on := 4, ground := Ground.data } (by simp) rfl
      have e4 : Y 4 = .agg #[.int .i64 x.op, .int .i64 x.dst, .int .i64 x.a, .int .i64 x.b, .int .i64 x.n, .slice SA x.arg.length scap] := d4
      have HC := Lib.hid (HU.out W HW.out)
      clear hall
      refine wpOp_plain rfl rfl (fun K' hK' => ?_)
      go_simp
      try simp only [e4]
      refine HC.out.mono ?_
      rintro e W5 ⟨A, c', rfl, h1, h2⟩
      clear HC
      go_simp
      have hh := hK' _ _ (hK (.slice A (usesL x).length c') _ h2 ⟨A, c', rfl, h1⟩)
      simpa [upd, e4] using hh
    · simp at ho; subst ho
      clear hall
      refine wpOp_plain rfl rfl (fun K' hK' => ?_)
      go_simp
      have hh := hK' _ _ (hK _ _ (Below.refl _ _) rfl)
      simpa [upd] using hh
    · simp at ho; subst ho
      have d6 := hall { on := 6, ground := Ground.data } (by simp) rfl
      have e6 : Y 6 = .pointer (some ⟨cb, 3, none⟩) := d6
      have q3 := cell_below (HROW.out.cell (j := 3) rfl) HW.out HROW.out.lt
      have ql := Nat.lt_of_lt_of_le HROW.out.lt HW.out.size
      clear hall
      refine wpOp_plain rfl rfl (fun K' hK' => ?_)
      go_simp
      have hh := hK' _ _ (hK _ _ (Below.refl _ _) rfl)
      simpa [upd, e6] using hh
    · simp at ho; subst ho
      clear hall
      refine wpOp_plain rfl rfl (fun K' hK' => ?_)
      go_simp
      have hh := hK' _ _ (hK _ _ (Below.refl _ _) rfl)
      simpa [upd] using hh
    · simp at ho; subst ho
      have d7 := hall { on := 7, ground := Ground.data } (by simp) rfl
      have d8 := hall { on := 8, ground := Ground.data } (by simp) rfl
      have e7 : Y 7 = .slice (some ⟨bb, boff, none⟩) c.ins.length bc := d7
      have e8 : Y 8 = .int .i64 (j : Nat) := d8
      have hj0 : (0 : Int) ≤ (j : Int) := by omega
      have hj1 : (j : Int) < (c.ins.length : Int) := by have := HJ.out; omega
      clear hall
      refine wpOp_plain rfl rfl (fun K' hK' => ?_)
      go_simp
      have hh := hK' _ _ (hK _ _ (Below.refl _ _) rfl)
      simpa [upd, e7, e8] using hh
    · simp at ho; subst ho
      have d9 := hall { on := 9, ground := Ground.data } (by simp) rfl
      have e9 : Y 9 = .pointer (some ⟨bb, boff + j * 6, none⟩) := d9
      obtain ⟨i0, i1, i2, i3, i4, i5, il⟩ := HINS.out W HW.out
      clear hall
      refine wpOp_plain rfl rfl (fun K' hK' => ?_)
      go_simp
      have hh := hK' _ _ (hK _ _ (Below.refl _ _) rfl)
      simpa [upd, e9] using hh
    · simp at ho; subst ho
      have d10 := hall { on := 10, ground := Ground.data } (by simp) rfl
      have e10 : Y 10 = .agg #[.int .i64 x.op, .int .i64 x.dst, .int .i64 x.a, .int .i64 x.b, .int .i64 x.n, .slice SA x.arg.length scap] := d10
      have HC := Lib.hid (HV.out W HW.out)
      clear hall
      refine wpOp_plain rfl rfl (fun K' hK' => ?_)
      go_simp
      try simp only [e10]
      refine HC.out.mono ?_
      rintro e W5 ⟨A, c', rfl, h1, h2⟩
      clear HC
      go_simp
      have hh := hK' _ _ (hK (.slice A (usesL x).length c') _ h2 ⟨A, c', rfl, h1⟩)
      simpa [upd, e10] using hh
    · simp at ho; subst ho
      have d5 := hall { on := 5, ground := Ground.data } (by simp) rfl
      have d11 := hall { on := 11, ground := Ground.data } (by simp) rfl
      obtain ⟨A5, c5, e5, h5⟩ := (show LongsV W (usesL x) (Y 5) from d5)
      obtain ⟨A11, c11, e11, h11⟩ := (show LongsV W (usesL x) (Y 11) from d11)
      rw [e5] at h5
      rw [e11] at h11
      have HC := Lib.hid (eqNumbers_at (usesL x) A5 A11 c5 c11 W.heap.size W (Nat.le_refl _) h5 h11)
      clear hall d5 d11 h5 h11
      refine wpOp_plain rfl rfl (fun K' hK' => ?_)
      go_simp
      try simp only [e5, e11]
      refine HC.out.mono ?_
      rintro e W5 ⟨rfl, h2⟩
      go_simp
      have hh := hK' _ _ (hK (.bool true) _ h2 rfl)
      simpa [upd, e5, e11] using hh
    · simp at ho; subst ho
      have d12 := hall { on := 12, ground := Ground.data } (by simp) rfl
      have e12 : Y 12 = .bool true := d12
      clear hall
      refine wpOp_plain rfl rfl (fun K' hK' => ?_)
      go_simp
      have hh := hK' _ _ (hK _ _ (Below.refl _ _) rfl)
      simpa [upd, e12] using hh
    · simp at ho; subst ho
      have d13 := hall { on := 13, ground := Ground.data } (by simp) rfl
      have e13 : Y 13 = .bool false := d13
      clear hall
      refine wpOp_plain rfl rfl (fun K' hK' => ?_)
      go_simp
      have hh := hK' _ _ (hK _ _ (Below.refl _ _) rfl)
      simpa [upd, e13] using hh
    · simp at ho; subst ho
      have dg := hall { on := 14, ground := Ground.guard } (by simp) rfl
      have eg : Y 14 = .bool false := dg
      clear hall
      refine wpOp_want rfl (by simp [Region.wanted, yielded, eg]) (fun K' hK' => ?_)
      go_simp
      have hh := hK' _ _ (hK _ _ (Below.refl _ _) rfl)
      simpa [upd, eg] using hh
    · simp at ho; subst ho
      have d15 := hall { on := 15, ground := Ground.data } (by simp) rfl
      have e15 : Y 15 = .pointer (some ⟨cb, 3, none⟩) := d15
      have q3 := cell_below (HROW.out.cell (j := 3) rfl) HW.out HROW.out.lt
      have ql := Nat.lt_of_lt_of_le HROW.out.lt HW.out.size
      have dg := hall { on := 14, ground := Ground.guard } (by simp) rfl
      have eg : Y 14 = .bool false := dg
      clear hall
      refine wpOp_want rfl (by simp [Region.wanted, yielded, eg]) (fun K' hK' => ?_)
      go_simp
      have hh := hK' _ _ (hK _ _ (Below.refl _ _) rfl)
      simpa [upd, e15, eg] using hh
    · simp at ho; subst ho
      have dg := hall { on := 14, ground := Ground.guard } (by simp) rfl
      have eg : Y 14 = .bool false := dg
      clear hall
      refine wpOp_want rfl (by simp [Region.wanted, yielded, eg]) (fun K' hK' => ?_)
      go_simp
      have hh := hK' _ _ (hK _ _ (Below.refl _ _) rfl)
      simpa [upd, eg] using hh
    · simp at ho; subst ho
      have d16 := hall { on := 16, ground := Ground.data } (by simp) rfl
      have d17 := hall { on := 17, ground := Ground.data } (by simp) rfl
      have e16 : Y 16 = .slice (some ⟨bb, boff, none⟩) c.ins.length bc := d16
      have e17 : Y 17 = .int .i64 (j : Nat) := d17
      have hj0 : (0 : Int) ≤ (j : Int) := by omega
      have hj1 : (j : Int) < (c.ins.length : Int) := by have := HJ.out; omega
      have dg := hall { on := 14, ground := Ground.guard } (by simp) rfl
      have eg : Y 14 = .bool false := dg
      clear hall
      refine wpOp_want rfl (by simp [Region.wanted, yielded, eg]) (fun K' hK' => ?_)
      go_simp
      have hh := hK' _ _ (hK _ _ (Below.refl _ _) rfl)
      simpa [upd, e16, e17, eg] using hh
    · simp at ho; subst ho
      have d18 := hall { on := 18, ground := Ground.data } (by simp) rfl
      have e18 : Y 18 = .pointer (some ⟨bb, boff + j * 6, none⟩) := d18
      obtain ⟨i0, i1, i2, i3, i4, i5, il⟩ := HINS.out W HW.out
      have dg := hall { on := 14, ground := Ground.guard } (by simp) rfl
      have eg : Y 14 = .bool false := dg
      clear hall
      refine wpOp_want rfl (by simp [Region.wanted, yielded, eg]) (fun K' hK' => ?_)
      go_simp
      have hh := hK' _ _ (hK _ _ (Below.refl _ _) rfl)
      simpa [upd, e18, eg] using hh
    · simp at ho; subst ho
      have d19 := hall { on := 19, ground := Ground.data } (by simp) rfl
      have e19 : Y 19 = .agg #[.int .i64 x.op, .int .i64 x.dst, .int .i64 x.a, .int .i64 x.b, .int .i64 x.n, .slice SA x.arg.length scap] := d19
      have dg := hall { on := 14, ground := Ground.guard } (by simp) rfl
      have eg : Y 14 = .bool false := dg
      have HC := Lib.hid (HD.out W)
      clear hall
      refine wpOp_want rfl (by simp [Region.wanted, yielded, eg]) (fun K' hK' => ?_)
      go_simp
      try simp only [e19, eg]
      refine HC.out.mono ?_
      rintro e W5 ⟨rfl, h2⟩
      go_simp
      have hh := hK' _ _ (hK (.int .i64 (defL x)) _ h2 rfl)
      simpa [upd, e19, eg] using hh
    · simp at ho; subst ho
      have dg := hall { on := 14, ground := Ground.guard } (by simp) rfl
      have eg : Y 14 = .bool false := dg
      clear hall
      refine wpOp_want rfl (by simp [Region.wanted, yielded, eg]) (fun K' hK' => ?_)
      go_simp
      have hh := hK' _ _ (hK _ _ (Below.refl _ _) rfl)
      simpa [upd, eg] using hh
    · simp at ho; subst ho
      have d21 := hall { on := 21, ground := Ground.data } (by simp) rfl
      have e21 : Y 21 = .pointer (some ⟨cb, 3, none⟩) := d21
      have q3 := cell_below (HROW.out.cell (j := 3) rfl) HW.out HROW.out.lt
      have ql := Nat.lt_of_lt_of_le HROW.out.lt HW.out.size
      have dg := hall { on := 14, ground := Ground.guard } (by simp) rfl
      have eg : Y 14 = .bool false := dg
      clear hall
      refine wpOp_want rfl (by simp [Region.wanted, yielded, eg]) (fun K' hK' => ?_)
      go_simp
      have hh := hK' _ _ (hK _ _ (Below.refl _ _) rfl)
      simpa [upd, e21, eg] using hh
    · simp at ho; subst ho
      have dg := hall { on := 14, ground := Ground.guard } (by simp) rfl
      have eg : Y 14 = .bool false := dg
      clear hall
      refine wpOp_want rfl (by simp [Region.wanted, yielded, eg]) (fun K' hK' => ?_)
      go_simp
      have hh := hK' _ _ (hK _ _ (Below.refl _ _) rfl)
      simpa [upd, eg] using hh
    · simp at ho; subst ho
      have d22 := hall { on := 22, ground := Ground.data } (by simp) rfl
      have d23 := hall { on := 23, ground := Ground.data } (by simp) rfl
      have e22 : Y 22 = .slice (some ⟨bb, boff, none⟩) c.ins.length bc := d22
      have e23 : Y 23 = .int .i64 (j : Nat) := d23
      have hj0 : (0 : Int) ≤ (j : Int) := by omega
      have hj1 : (j : Int) < (c.ins.length : Int) := by have := HJ.out; omega
      have dg := hall { on := 14, ground := Ground.guard } (by simp) rfl
      have eg : Y 14 = .bool false := dg
      clear hall
      refine wpOp_want rfl (by simp [Region.wanted, yielded, eg]) (fun K' hK' => ?_)
      go_simp
      have hh := hK' _ _ (hK _ _ (Below.refl _ _) rfl)
      simpa [upd, e22, e23, eg] using hh
    · simp at ho; subst ho
      have d24 := hall { on := 24, ground := Ground.data } (by simp) rfl
      have e24 : Y 24 = .pointer (some ⟨bb, boff + j * 6, none⟩) := d24
      obtain ⟨i0, i1, i2, i3, i4, i5, il⟩ := HINS.out W HW.out
      have dg := hall { on := 14, ground := Ground.guard } (by simp) rfl
      have eg : Y 14 = .bool false := dg
      clear hall
      refine wpOp_want rfl (by simp [Region.wanted, yielded, eg]) (fun K' hK' => ?_)
      go_simp
      have hh := hK' _ _ (hK _ _ (Below.refl _ _) rfl)
      simpa [upd, e24, eg] using hh
    · simp at ho; subst ho
      have d25 := hall { on := 25, ground := Ground.data } (by simp) rfl
      have e25 : Y 25 = .agg #[.int .i64 x.op, .int .i64 x.dst, .int .i64 x.a, .int .i64 x.b, .int .i64 x.n, .slice SA x.arg.length scap] := d25
      have dg := hall { on := 14, ground := Ground.guard } (by simp) rfl
      have eg : Y 14 = .bool false := dg
      have HC := Lib.hid (HE.out W)
      clear hall
      refine wpOp_want rfl (by simp [Region.wanted, yielded, eg]) (fun K' hK' => ?_)
      go_simp
      try simp only [e25, eg]
      refine HC.out.mono ?_
      rintro e W5 ⟨rfl, h2⟩
      go_simp
      have hh := hK' _ _ (hK (.int .i64 (defL x)) _ h2 rfl)
      simpa [upd, e25, eg] using hh
    · simp at ho; subst ho
      have d20 := hall { on := 20, ground := Ground.data } (by simp) rfl
      have d26 := hall { on := 26, ground := Ground.data } (by simp) rfl
      have e20 : Y 20 = .int .i64 (defL x) := d20
      have e26 : Y 26 = .int .i64 (defL x) := d26
      have hdd : (defL x != defL x) = false := by simp
      have dg := hall { on := 14, ground := Ground.guard } (by simp) rfl
      have eg : Y 14 = .bool false := dg
      clear hall
      refine wpOp_want rfl (by simp [Region.wanted, yielded, eg]) (fun K' hK' => ?_)
      go_simp
      have hh := hK' _ _ (hK _ _ (Below.refl _ _) rfl)
      simpa [upd, e20, e26, eg] using hh
    · simp at ho; subst ho
      have d14 := hall { on := 14, ground := Ground.data } (by simp) rfl
      have d27 := hall { on := 27, ground := Ground.data } (by simp) rfl
      have e14 : Y 14 = .bool false := d14
      have e27 : Y 27 = .bool false := d27
      clear hall
      refine wpOp_plain rfl rfl (fun K' hK' => ?_)
      go_simp
      have hh := hK' _ _ (hK _ _ (Below.refl _ _) rfl)
      simpa [upd, e14, e27] using hh
    · simp at ho
  · intro Y W hb hc
    have e28 : Y 28 = .bool false := hc 28 (by decide)
    rw [e28]
    exact HEX.out W Y hb

set_option maxRecDepth 100000 in
set_option maxHeartbeats 32000000 in
theorem luses_law (ps : List VirtS) (inp : List Int) (PA IA : Option Addr) (pc ic : Nat) (af : Int) (B : Nat) (w : World) (hB : B ≤ w.heap.size) (hps : SliceAt w B 3 (VirtE w B) ps (.slice PA ps.length pc)) (hpn : ps.length * 56 ≤ 140737488351232) (hil : inp.length * 8 ≤ 140737488351232)
    (hsz : ∀ p, p ∈ ps → VirtF p) (hT : TabAt 0 Lib.deBruijn64tab w) (hg : 0 < w.heap.size) :
    Calls Tryd.prog 3 #[.agg #[.slice PA ps.length pc, .slice IA inp.length ic, .int .i64 af]] w fun e w' => e = .returned (.bool true) ∧ Below w.heap.size w w' := by
  have HHV := Lib.hid (heavy14_any ps PA IA ps.length pc inp.length ic af B (w.alloc (.cells #[.slice PA ps.length pc, .slice IA inp.length ic, .int .i64 af] 25)) (by simp; omega) (hps.below ((below1 w _).mono hB) (Nat.le_refl _) (fun _ _ h => h.below ((below1 w _).mono hB) (Nat.le_refl _))) (by omega) (by omega) (fun p hp => by
    obtain ⟨h1, _, h2, h3⟩ := hsz p hp
    exact ⟨by omega, fun g hg => by
      obtain ⟨h4, _, h5, h6⟩ := h3 g hg
      exact ⟨by omega, by omega, fun x hx => by have h7 := h6 x hx; unfold InsF at h7; omega⟩⟩))
  have HPS := Lib.hid hps
  have HSZ := Lib.hid hsz
  have HTW := Lib.hid (fun W (hW : Below w.heap.size w W) => wakes16_any W (tab_below hT hW hg) (by have := hW.size; omega))
  have hpm : ps.length ≤ 200000000000000 := by omega
  clear hps hsz hT hpn hil
  go_enter Tryd.func3, Tryd.ntmps3
  refine wp_letter (fun Q hQ => ?_)
  have HQ := Lib.hid hQ
  clear hQ
  go_wp2_with fail
  refine HHV.out.mono ?_
  rintro e w1 ⟨hv, rfl, hb1⟩
  have HB1 := Lib.hid ((below1 w (.cells #[.slice PA ps.length pc, .slice IA inp.length ic, .int .i64 af] 25)).trans (hb1.mono (below1 w _).size))
  have HR1 := Lib.hid ((Row.new w #[.slice PA ps.length pc, .slice IA inp.length ic, .int .i64 af] 25).below hb1 (by simp))
  clear hb1
  cases hv with
  | true =>
    go_wp2_with fail
    refine HQ.out _ _ _ ?_
    exact bodyPost_ret (v := .bool true) (by simp [results, Tryd.results3, go_sem]) rfl ⟨rfl, HB1.out⟩
  | false =>
    go_wp2_with fail
    go_loopw [3] (fun i wr => ∃ k : Nat, i = .int .i64 k ∧ k ≤ ps.length ∧ Below w.heap.size w wr ∧ Row wr w.heap.size #[.slice PA ps.length pc, .slice IA inp.length ic, .int .i64 af] 25) (fun i _ => ps.length - (intOf i).toNat)
    case atStart => exact ⟨0, rfl, by omega, HB1.out, HR1.out⟩
    case round =>
      obtain ⟨k, rfl, hk, hbw, hbx⟩ := hrel
      have HBW := Lib.hid hbw
      have HBX := Lib.hid hbx
      have r0 := hbx.cell (j := 0) rfl
      have rl := hbx.lt
      have hkcase : (k < ps.length ∧ k < 3) ∨ k = ps.length ∨ (k < ps.length ∧ ¬ k < 3) := by omega
      rcases hkcase with ⟨hlt, hlt3⟩ | hke | ⟨hlt, hlt3⟩
      · obtain ⟨qb, qoff, p, hpa, hqb, hk1, hE⟩ := (HPS.out.below (hbw.mono hB) (Nat.le_refl _) (fun _ _ h => h.below (hbw.mono hB) (Nat.le_refl _))).get hlt
        have HPF := Lib.hid (HSZ.out p (List.mem_of_getElem? hk1))
        obtain ⟨P, c0, c1, c2, hpt⟩ := hE.at
        simp only [Nat.add_zero] at c0 c1 c2
        subst hpa
        obtain ⟨GA, gc, FA, fc, hPe⟩ := hpt.shape
        subst hPe
        simp only at c0 c1 c2
        have hqbl : qb < wr.heap.size := by have := hbw.size; omega
        have HFS := Lib.hid hpt.2.1
        have C1 := Lib.hid c1
        have hfl := hpt.2.1.len.2
        have hkl : (k : Int) < (ps.length : Int) := by omega
        have hkl3 : (k : Int) < 3 := by omega
        have hd3 : decide ((k : Int) < (ps.length : Int)) = true := by simpa using hkl
        have hd4 : decide ((k : Int) < 3) = true := by simpa using hkl3
        clear hk1 hE hpt c0 c2 c1 hbw hbx
        go_wp2_with fail
        obtain ⟨wo, rfl⟩ : ∃ wo : World, wo = wr := ⟨_, rfl⟩
        go_loopw [4] (fun i wr => ∃ f : Nat, i = .int .i64 f ∧ f ≤ p.funcs.length ∧ Below wo.heap.size wo wr) (fun i _ => p.funcs.length - (intOf i).toNat)
        case atStart => exact ⟨0, rfl, Nat.zero_le _, Below.refl _ _⟩
        case round =>
          obtain ⟨f, rfl, hf, hbf⟩ := hrel
          have HBF := Lib.hid hbf
          have r0 := (HBX.out.below hbf HBX.out.lt).cell (j := 0) rfl
          have rl := (HBX.out.below hbf HBX.out.lt).lt
          have c1 := cell_below C1.out hbf hqbl
          have ql := Nat.lt_of_lt_of_le hqbl hbf.size
          have hBf : Below B wo wr := hbf.mono (by have := HBW.out.size; omega)
          by_cases hflt : f < p.funcs.length
          · obtain ⟨fb, foff, c, rfl, hfb, hfk, d0, d1, ⟨lv, d2, hlv⟩, ⟨iv, d3, hiv⟩, hi0, hi1⟩ := (HFS.out.below hBf (Nat.le_refl _) (fun _ _ h => h.below hBf (Nat.le_refl _))).get hflt
            simp only [Nat.add_zero] at d0 d1 d2 d3
            obtain ⟨LA, lc, rfl, _⟩ := id hlv
            obtain ⟨BA, bc, rfl, _⟩ := id hiv
            have HCF := Lib.hid (HPF.out.2.2.2 c (List.mem_of_getElem? hfk))
            have HIV := Lib.hid hiv
            have fbl : fb < wr.heap.size := by have := hbf.size; have := HBW.out.size; omega
            have hfi : (f : Int) < (p.funcs.length : Int) := by omega
            have hcl := hiv.len.2
            have HB2 := Lib.hid (below1 wr (.cells #[.int .i64 c.params, .int .i64 c.regs, .slice LA c.locs.length lc, .slice BA c.ins.length bc] 33))
            have HCB := Lib.hid (Row.new wr #[.int .i64 c.params, .int .i64 c.regs, .slice LA c.locs.length lc, .slice BA c.ins.length bc] 33)
            obtain ⟨cb, hcb⟩ : ∃ cb, cb = wr.heap.size := ⟨_, rfl⟩
            obtain ⟨w6, rfl⟩ : ∃ w6 : World, w6 = wr := ⟨_, rfl⟩
            clear hbf hfk hlv hiv hi0 hi1 hBf
            go_wp2_with fail
            obtain ⟨w5, hw5⟩ : ∃ w5 : World, w5 = w6.alloc (.cells #[.int .i64 c.params, .int .i64 c.regs, .slice LA c.locs.length lc, .slice BA c.ins.length bc] 33) := ⟨_, rfl⟩
            rw [← hw5] at HB2 HCB
            rw [← hcb] at HCB
            rw [← hw5, ← hcb]
            have HBF5 := Lib.hid (HBF.out.trans (HB2.out.mono HBF.out.size))
            clear hw5 hcb r0 rl c1 ql d0 d1 d2 d3 fbl
            go_loopw [6] (fun i wr => ∃ j : Nat, i = .int .i64 j ∧ j ≤ c.ins.length ∧ Below w5.heap.size w5 wr) (fun i _ => c.ins.length - (intOf i).toNat)
            case atStart => exact ⟨0, rfl, Nat.zero_le _, Below.refl _ _⟩
            case round =>
              obtain ⟨j, rfl, hj, hbj⟩ := hrel
              have HBJ := Lib.hid hbj
              have HB7 := Lib.hid (HBF5.out.trans (hbj.mono HBF5.out.size))
              have hrc := HCB.out.below hbj HCB.out.lt
              have x3 := hrc.cell (j := 3) rfl
              have xl := hrc.lt
              by_cases hjlt : j < c.ins.length
              · have HK := Lib.hid (fun W (hW : Below wr.heap.size wr W) => (show Below wo.heap.size wo W from HB7.out.trans (hW.mono HB7.out.size)))
                obtain ⟨bb, boff, x, rfl, hbb, hjk, b0, b1, b2, b3, b4, ⟨sv, b5, hst⟩, hx0, hx1, hx2, hx3, hx4⟩ := SliceAt.get HIV.out hjlt
                simp only [Nat.add_zero] at b0 b1 b2 b3 b4 b5
                obtain ⟨SA, scap, hsv⟩ : ∃ SA scap, sv = .slice SA x.arg.length scap := (by obtain ⟨A', c', h, _⟩ := hst; exact ⟨_, _, h⟩)
                subst hsv
                have W6 := Lib.hid (show ∀ W, Below wr.heap.size wr W → Below B w6 W from fun W hW => ((HB2.out.trans (HBJ.out.mono HB2.out.size)).trans (hW.mono (by have := HB2.out.size; have := HBJ.out.size; omega))).mono (by have := HBF.out.size; have := HBW.out.size; omega))
                have HRC := Lib.hid hrc
                have HAL : x.arg.length * 8 ≤ 140737488351232 := HCF.out.2.2.2 x (List.mem_of_getElem? hjk)
                have hw6 : bb < B := hbb
                have HINS := Lib.hid (show ∀ W, Below wr.heap.size wr W → W.cell? ⟨bb, boff + j * 6, none⟩ = some (.int .i64 x.op) ∧ W.cell? ⟨bb, boff + j * 6 + 1, none⟩ = some (.int .i64 x.dst) ∧ W.cell? ⟨bb, boff + j * 6 + 2, none⟩ = some (.int .i64 x.a) ∧ W.cell? ⟨bb, boff + j * 6 + 3, none⟩ = some (.int .i64 x.b) ∧ W.cell? ⟨bb, boff + j * 6 + 4, none⟩ = some (.int .i64 x.n) ∧ W.cell? ⟨bb, boff + j * 6 + 5, none⟩ = some (.slice SA x.arg.length scap) ∧ bb < W.heap.size from fun W hW => ⟨(W6.out W hW).cell (p := ⟨bb, _, none⟩) hw6 |>.trans b0, (W6.out W hW).cell (p := ⟨bb, _, none⟩) hw6 |>.trans b1, (W6.out W hW).cell (p := ⟨bb, _, none⟩) hw6 |>.trans b2, (W6.out W hW).cell (p := ⟨bb, _, none⟩) hw6 |>.trans b3, (W6.out W hW).cell (p := ⟨bb, _, none⟩) hw6 |>.trans b4, (W6.out W hW).cell (p := ⟨bb, _, none⟩) hw6 |>.trans b5, by have := hW.size; have := HBJ.out.size; have := HB2.out.size; have := HBF.out.size; have := HBW.out.size; omega⟩)
                have HUS := Lib.hid (fun W (hW : Below wr.heap.size wr W) => luses_any x SA scap B W (by have := hW.size; have := HB7.out.size; have := HBW.out.size; omega) (LongsAt.below hst (W6.out W hW) (Nat.le_refl _)) hx2 hx3 hx1 HAL)
                have HRS := Lib.hid (fun W (hW : Below wr.heap.size wr W) => (ruses_any x SA scap B W (by have := hW.size; have := HB7.out.size; have := HBW.out.size; omega) (LongsAt.below hst (W6.out W hW) (Nat.le_refl _)) hx2 hx3 hx1 HAL).mono (fun _ _ h => h.longs))
                have hj0 : (j : Int) < (c.ins.length : Int) := by omega
                clear hst hjk b0 b1 b2 b3 b4 b5 hx0 hx1 hx2 hx3 hx4 hbj
                go_wp2_with fail
                refine luv_region c x SA LA scap cb bb boff bc lc j _ HRC.out HINS.out hjlt HUS.out HRS.out (fun W => ldefs_any x SA scap W) (fun W => rdefs_any x SA scap W) _ _ _ _ _ _ _ _ _ _ _ _ _ _ _ _ _ _ _ _ _ _ _ _ _ _ _ _ _ _ _ _ _ _ _ _ _ _ _ _ _ _ _ _ _ _ _ _ _ _ _ _ _ _ _ _ _ _ _ _ _ _ _ _ _ _ _ _ _ _ _ _ _ _ _ _ ?_
                intro W8 Y hb8
                have HB8 := Lib.hid (HBJ.out.trans (hb8.mono HBJ.out.size))
                clear hb8
                go_wp2_with fail
                go_roundw
                case rel => exact ⟨j + 1, by go_num, hjlt, HB8.out⟩
                case measure => simp [intOf]; omega
              · obtain rfl : j = c.ins.length := by omega
                have HB9 := Lib.hid (HBF5.out.trans (hbj.mono HBF5.out.size))
                clear hbj hrc
                go_wp2_with fail
                go_roundw
                case rel => exact ⟨f + 1, by go_num, hflt, HB9.out⟩
                case measure => simp [intOf]; omega
          · obtain rfl : f = p.funcs.length := by omega
            clear hbf hBf
            go_wp2_with fail
            go_roundw
            case rel => exact ⟨k + 1, by go_num, by omega, HBW.out.trans (HBF.out.mono HBW.out.size), HBX.out.below HBF.out HBX.out.lt⟩
            case measure => simp [intOf]; omega
      · subst hke
        have hd3 : decide ((ps.length : Int) < (ps.length : Int)) = false := by simp
        clear hbw hbx
        go_wp2_with fail
        refine (HTW.out _ HBW.out).mono ?_
        rintro e w2 ⟨rfl, hb2⟩
        have HB2 := Lib.hid (HBW.out.trans (hb2.mono HBW.out.size))
        clear hb2
        go_wp2_with fail
        refine HQ.out _ _ _ ?_
        exact bodyPost_ret (v := .bool true) (by simp [results, Tryd.results3, go_sem]) rfl ⟨rfl, HB2.out⟩
      · have hd3 : decide ((k : Int) < (ps.length : Int)) = true := by simpa using hlt
        have hd4 : decide ((k : Int) < 3) = false := by simp; omega
        have hkl : (k : Int) < (ps.length : Int) := by omega
        clear hbw hbx
        go_wp2_with fail
        refine (HTW.out _ HBW.out).mono ?_
        rintro e w2 ⟨rfl, hb2⟩
        have HB2 := Lib.hid (HBW.out.trans (hb2.mono HBW.out.size))
        clear hb2
        go_wp2_with fail
        refine HQ.out _ _ _ ?_
        exact bodyPost_ret (v := .bool true) (by simp [results, Tryd.results3, go_sem]) rfl ⟨rfl, HB2.out⟩
end Go.Proofs.YtlenilbkifofjaaDoor
