/- live.Sets: its labels, its drawn regions. Conditions: as stated. -/
import Derived.Test.YtlenilbkifofjaaDoorLvMZz
set_option linter.unusedVariables false
set_option linter.unusedSimpArgs false
namespace Go.Proofs.YtlenilbkifofjaaDoor
open Go.RowKit

set_option maxRecDepth 100000 in
set_option maxHeartbeats 4000000 in
theorem vlabels_any (c : CodeS) (LA : Option Addr) (lc : Nat) (BA : Option Addr) (bc : Nat) (B : Nat) (w : World) (hB : B ≤ w.heap.size) (hl : SliceAt w B 6 (InsE w B) c.ins (.slice BA c.ins.length bc)) (hlen : c.ins.length ≤ 8000) (hlay : layB [] c.ins = true) :
    Calls Tryd.prog 40 #[.agg #[.int .i64 c.params, .int .i64 c.regs, .slice LA c.locs.length lc, .slice BA c.ins.length bc]] w fun e w' => ∃ mb mn, e = .returned (.map (some mb)) ∧ LabM w' mb mn (labO c.ins) ∧ Below w.heap.size w w' := by
  have HL := Lib.hid (fun (fv : Value) => vlay_any B (w.heap.size + 1) c.ins BA bc (.int .i64 c.params) (.int .i64 c.regs) (.slice LA c.locs.length lc) (.int .i64 0) (.int .i64 0) fv (.map none) ((w.alloc (.cells #[.int .i64 c.params, .int .i64 c.regs, .slice LA c.locs.length lc, .slice BA c.ins.length bc] 33)).alloc (.cells #[.int .i64 c.params, .int .i64 c.regs, .slice LA c.locs.length lc, .slice BA c.ins.length bc, .int .i64 0, .int .i64 0, fv, .map none] 75)) (Row.new' _ _ (by simp)) (hl.below ((below2 w _ _).mono hB) (Nat.le_refl _) (fun _ _ h => h.below ((below2 w _ _).mono hB) (Nat.le_refl _))) (by omega) hlen)
  have HLAY := Lib.hid hlay
  clear hl hlay
  go_enter Tryd.func40, Tryd.ntmps40
  refine wp_letter (fun Q hQ => ?_)
  have HQ := Lib.hid hQ
  clear hQ
  go_wp2_with fail
  refine (HL.out _).mono ?_
  rintro e w2 ⟨rfl, mb, n, h1, h2, h3, h4, h5, h6⟩
  have hmb := h1
  simp only [World.size_alloc] at hmb
  have HM := Lib.hid (h6 HLAY.out)
  have k7 := h3.cell (j := 7) rfl
  have kl := h3.lt
  have HW := Lib.hid h4
  clear h3 h4 h6
  go_wp2_with fail
  refine HQ.out _ _ _ ?_
  refine bodyPost_ret (v := .map (some mb)) (by simp [results, Tryd.results40, go_sem]) rfl ⟨mb, n, rfl, HM.out, ?_⟩
  exact ((Wr.of_below (F := fun _ => False) (below2 w _ _)).trans HW.out (fun i hi => Or.inr (by omega))).below (Nat.le_refl _) (fun _ h => h.elim)
theorem wrap_nat {n : Nat} (h : n ≤ 9223372036854775807) : IntKind.i64.wrap (n : Int) = (n : Int) := by rw [IntKind.wrap_i64]; omega
theorem rows_info : (Tryd.prog.info? 82).map (fun i => (i.zero, i.size, i.bytes)) = some (some (.slice none 0 0), 1, 24) := by kernel_rfl
theorem make_rows (n : Nat) (h : n ≤ 8001) : ∃ Z : Array Value, Z.size = n ∧ ∀ W : World, (Instr.makeSlice 78 (.int .i64 (n : Nat)) (.int .i64 (n : Nat))).run Tryd.prog W = .ok (.slice (some ⟨W.heap.size, 0, none⟩) n n) (W.alloc (.cells Z 82)) := by
  obtain ⟨i0, hi, hz0, hz1, hz2⟩ := info_parts rows_info
  refine ⟨madeCells (Value.slice none 0 0).cells n, by rw [size_madeCells], fun W => ?_⟩
  have := run_make (P := Tryd.prog) W 78 82 i0 _ Tryd.underlying78 hi hz0 .i64 .i64 n n (by omega) (by omega) (by rw [hz2]; omega) (by omega)
  rw [hz1] at this
  simpa using this
def lsACl (c : CodeS) (LA BA : Option Addr) (lc bc n m : Nat) (Z : Array Value) (N : Nat) (W : World) : Nat → Value → Prop
  | 0, v | 1, v => v = .agg #[.int .i64 c.params, .int .i64 c.regs, .slice LA c.locs.length lc, .slice BA c.ins.length bc]
  | 2, v => ∃ mb mn, v = .map (some mb) ∧ LabM W mb mn (labO c.ins)
  | 3, v => v = .int .i64 (n : Nat)
  | 4, v => v = .int .i64 (m : Nat)
  | 5, v => ∃ rb, v = .slice (some ⟨rb, 0, none⟩) m m ∧ N ≤ rb ∧ Row W rb Z 82
  | _, _ => True
noncomputable def lsAR : Code := (regsOf (Tryd.f26.body.getD .skip)).getD 2 .skip
set_option maxRecDepth 100000 in
set_option maxHeartbeats 8000000 in
theorem lsA_region (c : CodeS) (LA BA : Option Addr) (lc bc cb n m : Nat) (Z : Array Value) (w : World) (hrow : Row w cb #[.int .i64 c.params, .int .i64 c.regs, .slice LA c.locs.length lc, .slice BA c.ins.length bc] 33) (hlab : ∀ W, Below w.heap.size w W → Calls Tryd.prog 40 #[.agg #[.int .i64 c.params, .int .i64 c.regs, .slice LA c.locs.length lc, .slice BA c.ins.length bc]] W fun e w' => ∃ mb mn, e = .returned (.map (some mb)) ∧ LabM w' mb mn (labO c.ins) ∧ Below W.heap.size W w') (hmk : ∀ W : World, (Instr.makeSlice 78 (.int .i64 (m : Nat)) (.int .i64 (m : Nat))).run Tryd.prog W = .ok (.slice (some ⟨W.heap.size, 0, none⟩) m m) (W.alloc (.cells Z 82))) (hn : n ≤ 8000 ∧ (n : Int) + 1 = (m : Int))
    (c0 c2 c4 c5 c6 c7 c8 c9 c10 c11 c12 c13 c14 c15 c16 c17 c18 c19 c20 c21 c22 c23 c24 c25 c26 c27 c28 c29 c30 c31 c32 c33 c34 c35 c36 c37 c38 c39 c40 c41 c42 c43 c44 c45 c46 c47 c48 c49 c50 c51 c52 c53 c54 c55 c56 c57 c58 c59 c60 c61 c62 c63 c64 c65 c66 c67 c68 c69 c70 c71 c72 c73 c74 c75 c76 c77 c78 c79 c80 c81 c82 c83 c84 c85 : Value) (Q : Exit → Act → World → Prop)
    (hexit : ∀ (W : World) (mb mn rb : Nat) (y15 y16 y17 y18 y19 y20 : Value), Below w.heap.size w W → LabM W mb mn (labO c.ins) → w.heap.size ≤ rb → Row W rb Z 82 → Q .normal ⟨List.toArray (c0 :: (Value.pointer (some ⟨cb, 0, none⟩)) :: c2 :: (Value.int .i64 (n : Nat)) :: (Value.pointer (some ⟨W.heap.size, 0, none⟩)) :: c5 :: c6 :: c7 :: c8 :: c9 :: c10 :: c11 :: c12 :: c13 :: c14 :: y15 :: y16 :: y17 :: y18 :: y19 :: y20 :: (Value.agg #[.int .i64 c.params, .int .i64 c.regs, .slice LA c.locs.length lc, .slice BA c.ins.length bc, .map (some mb), .slice (some ⟨rb, 0, none⟩) m m]) :: (Value.pointer (some ⟨W.heap.size, 0, none⟩)) :: c23 :: c24 :: c25 :: c26 :: c27 :: c28 :: c29 :: c30 :: c31 :: c32 :: c33 :: c34 :: c35 :: c36 :: c37 :: c38 :: c39 :: c40 :: c41 :: c42 :: c43 :: c44 :: c45 :: c46 :: c47 :: c48 :: c49 :: c50 :: c51 :: c52 :: c53 :: c54 :: c55 :: c56 :: c57 :: c58 :: c59 :: c60 :: c61 :: c62 :: c63 :: c64 :: c65 :: c66 :: c67 :: c68 :: c69 :: c70 :: c71 :: c72 :: c73 :: c74 :: c75 :: c76 :: c77 :: c78 :: c79 :: c80 :: c81 :: c82 :: c83 :: c84 :: c85 :: []), []⟩ (W.alloc (.cells #[.int .i64 c.params, .int .i64 c.regs, .slice LA c.locs.length lc, .slice BA c.ins.length bc, .map (some mb), .slice (some ⟨rb, 0, none⟩) m m] 80))) :
    Code.wp Tryd.prog lsAR Q ⟨List.toArray (c0 :: (Value.pointer (some ⟨cb, 0, none⟩)) :: c2 :: (Value.int .i64 (n : Nat)) :: c4 :: c5 :: c6 :: c7 :: c8 :: c9 :: c10 :: c11 :: c12 :: c13 :: c14 :: c15 :: c16 :: c17 :: c18 :: c19 :: c20 :: c21 :: c22 :: c23 :: c24 :: c25 :: c26 :: c27 :: c28 :: c29 :: c30 :: c31 :: c32 :: c33 :: c34 :: c35 :: c36 :: c37 :: c38 :: c39 :: c40 :: c41 :: c42 :: c43 :: c44 :: c45 :: c46 :: c47 :: c48 :: c49 :: c50 :: c51 :: c52 :: c53 :: c54 :: c55 :: c56 :: c57 :: c58 :: c59 :: c60 :: c61 :: c62 :: c63 :: c64 :: c65 :: c66 :: c67 :: c68 :: c69 :: c70 :: c71 :: c72 :: c73 :: c74 :: c75 :: c76 :: c77 :: c78 :: c79 :: c80 :: c81 :: c82 :: c83 :: c84 :: c85 :: []), []⟩ w := by
  have HROW := Lib.hid hrow
  have HLAB := Lib.hid hlab
  have HMK := Lib.hid hmk
  have HN := Lib.hid hn
  have HEX := Lib.hid hexit
  clear hrow hlab hmk hn hexit
  conv => arg 2; whnf
  refine region_cl_tail 6 (by kernel_rfl) (by kernel_rfl) (lsACl c LA BA lc bc n m Z w.heap.size) (fun Y => ⟨List.toArray (c0 :: (Value.pointer (some ⟨cb, 0, none⟩)) :: c2 :: (Value.int .i64 (n : Nat)) :: c4 :: c5 :: c6 :: c7 :: c8 :: c9 :: c10 :: c11 :: c12 :: c13 :: c14 :: Y 0 :: Y 1 :: Y 2 :: Y 3 :: Y 4 :: Y 5 :: c21 :: c22 :: c23 :: c24 :: c25 :: c26 :: c27 :: c28 :: c29 :: c30 :: c31 :: c32 :: c33 :: c34 :: c35 :: c36 :: c37 :: c38 :: c39 :: c40 :: c41 :: c42 :: c43 :: c44 :: c45 :: c46 :: c47 :: c48 :: c49 :: c50 :: c51 :: c52 :: c53 :: c54 :: c55 :: c56 :: c57 :: c58 :: c59 :: c60 :: c61 :: c62 :: c63 :: c64 :: c65 :: c66 :: c67 :: c68 :: c69 :: c70 :: c71 :: c72 :: c73 :: c74 :: c75 :: c76 :: c77 :: c78 :: c79 :: c80 :: c81 :: c82 :: c83 :: c84 :: c85 :: []), []⟩) (fun i => #[c15, c16, c17, c18, c19, c20].getD i undef) rfl ?_ ?_ ?_
  · intro W W' i v hb h
    rcases i with _ | _ | _ | _ | _ | _ | i
    · exact h
    · exact h
    · obtain ⟨mb, mn, h1, h2⟩ := h
      exact ⟨mb, mn, h1, h2.below hb⟩
    · exact h
    · exact h
    · obtain ⟨rb, h1, h2, h3⟩ := h
      exact ⟨rb, h1, h2, h3.below hb h3.lt⟩
    · trivial
  · intro i o' Y W hin ho hb hall K hK
    have HW := Lib.hid hb
    clear hb
    rcases i with _ | _ | _ | _ | _ | _ | i
    · simp at ho; subst ho
      have q0 := cell_below (HROW.out.cell (j := 0) rfl) HW.out HROW.out.lt
      have q1 := cell_below (HROW.out.cell (j := 1) rfl) HW.out HROW.out.lt
      have q2 := cell_below (HROW.out.cell (j := 2) rfl) HW.out HROW.out.lt
      have q3 := cell_below (HROW.out.cell (j := 3) rfl) HW.out HROW.out.lt
      have ql := Nat.lt_of_lt_of_le HROW.out.lt HW.out.size
      clear hall
      refine wpOp_plain rfl rfl (fun K' hK' => ?_)
      go_simp
      have hh := hK' _ _ (hK _ _ (Below.refl _ _) rfl)
      simpa [upd] using hh
    · simp at ho; subst ho
      have q0 := cell_below (HROW.out.cell (j := 0) rfl) HW.out HROW.out.lt
      have q1 := cell_below (HROW.out.cell (j := 1) rfl) HW.out HROW.out.lt
      have q2 := cell_below (HROW.out.cell (j := 2) rfl) HW.out HROW.out.lt
      have q3 := cell_below (HROW.out.cell (j := 3) rfl) HW.out HROW.out.lt
      have ql := Nat.lt_of_lt_of_le HROW.out.lt HW.out.size
      clear hall
      refine wpOp_plain rfl rfl (fun K' hK' => ?_)
      go_simp
      have hh := hK' _ _ (hK _ _ (Below.refl _ _) rfl)
      simpa [upd] using hh
    · simp at ho; subst ho
      have d1 := hall { on := 1, ground := Ground.data } (by simp) rfl
      have e1 : Y 1 = .agg #[.int .i64 c.params, .int .i64 c.regs, .slice LA c.locs.length lc, .slice BA c.ins.length bc] := d1
      have HC := Lib.hid (HLAB.out W HW.out)
      clear hall
      refine wpOp_plain rfl rfl (fun K' hK' => ?_)
      go_simp
      try simp only [e1]
      refine HC.out.mono ?_
      rintro e W5 ⟨mb, mn, rfl, h1, h2⟩
      clear HC
      go_simp
      have hh := hK' _ _ (hK (.map (some mb)) _ h2 ⟨mb, mn, rfl, h1⟩)
      simpa [upd, e1] using hh
    · simp at ho; subst ho
      clear hall
      refine wpOp_plain rfl rfl (fun K' hK' => ?_)
      go_simp
      have hh := hK' _ _ (hK _ _ (Below.refl _ _) rfl)
      simpa [upd] using hh
    · simp at ho; subst ho
      have d3 := hall { on := 3, ground := Ground.data } (by simp) rfl
      have e3 : Y 3 = .int .i64 (n : Nat) := d3
      have hnn := HN.out.1
      have hadd := HN.out.2
      have hwm : IntKind.i64.wrap (m : Int) = (m : Int) := wrap_nat (by omega)
      clear hall
      refine wpOp_plain rfl rfl (fun K' hK' => ?_)
      go_simp
      have hh := hK' _ _ (hK _ _ (Below.refl _ _) rfl)
      simpa [upd, e3, hadd, hwm] using hh
    · simp at ho; subst ho
      have d4 := hall { on := 4, ground := Ground.data } (by simp) rfl
      have e4 : Y 4 = .int .i64 (m : Nat) := d4
      have hmk := HMK.out W
      clear hall
      refine wpOp_plain rfl rfl (fun K' hK' => ?_)
      go_simp
      have hh := hK' _ _ (hK (.slice (some ⟨W.heap.size, 0, none⟩) m m) _ (below1 W _) ⟨_, rfl, HW.out.size, Row.new _ _ _⟩)
      simpa [upd, e4, hmk] using hh
    · omega
  · intro Y W hb hc
    have e0 : Y 0 = .agg #[.int .i64 c.params, .int .i64 c.regs, .slice LA c.locs.length lc, .slice BA c.ins.length bc] := hc 0 (by decide)
    obtain ⟨mb, mn, e2, hl⟩ := hc 2 (by decide)
    obtain ⟨rb, e5, hrn, hr⟩ := hc 5 (by decide)
    clear hc
    refine wpList_plain rfl (fun K hK => ?_)
    go_simp
    try simp only [e0, e2, e5]
    refine hK _ _ ?_
    refine wpList_plain rfl (fun K hK => ?_)
    go_simp
    refine hK _ _ ?_
    refine wpList_plain rfl (fun K hK => ?_)
    go_simp
    have hh := HEX.out W mb mn rb (Y 0) (Y 1) (Y 2) (Y 3) (Y 4) (Y 5) hb hl hrn hr
    try simp only [e0, e2, e5] at hh
    exact hK _ _ hh

def lsBCl (c : CodeS) (cb fb rb n i0 q q1 N : Nat) (W : World) : Nat → Value → Prop
  | 0, v | 1, v => v = .pointer (some ⟨fb, 0, none⟩)
  | 2, v => v = .pointer (some ⟨fb, 5, none⟩)
  | 3, v => v = .slice (some ⟨rb, 0, none⟩) n n
  | 4, v => v = .int .i64 (i0 : Nat)
  | 5, v => v = .pointer (some ⟨cb, 1, none⟩)
  | 6, v => v = .int .i64 c.regs
  | 7, v => v = .int .i64 (q : Nat)
  | 8, v => v = .int .i64 (q1 : Nat)
  | 9, v => ∃ b, v = .slice (some ⟨b, 0, none⟩) q1 q1 ∧ N ≤ b ∧ WordsAt W b (List.replicate q1 0)
  | _, _ => True
noncomputable def lsBR : Code := (regsOf (Tryd.f26.body.getD .skip)).getD 6 .skip
set_option maxRecDepth 100000 in
set_option maxHeartbeats 8000000 in
theorem lsB_region (c : CodeS) (LA BA : Option Addr) (lc bc cb fb rb mb n i0 q q1 : Nat) (Z : Array Value) (w : World) (hcb : Row w cb #[.int .i64 c.params, .int .i64 c.regs, .slice LA c.locs.length lc, .slice BA c.ins.length bc] 33) (hrow : Row w fb #[.int .i64 c.params, .int .i64 c.regs, .slice LA c.locs.length lc, .slice BA c.ins.length bc, .map (some mb), .slice (some ⟨rb, 0, none⟩) n n] 80) (hmk : ∀ W : World, (Instr.makeSlice 82 (.int .i64 (q1 : Nat)) (.int .i64 (q1 : Nat))).run Tryd.prog W = .ok (.slice (some ⟨W.heap.size, 0, none⟩) q1 q1) (W.alloc (.cells Z 85))) (hwa : ∀ W : World, WordsAt (W.alloc (.cells Z 85)) W.heap.size (List.replicate q1 0)) (hr : (0 ≤ c.regs ∧ c.regs ≤ 8000) ∧ c.regs.tdiv 64 = (q : Int) ∧ q ≤ 8000 ∧ (q : Int) + 1 = (q1 : Int)) (hi : i0 < n) (hrb : rb < w.heap.size ∧ w.frozen? ⟨rb, i0, none⟩ = false ∧ ∃ v0, w.cell? ⟨rb, i0, none⟩ = some v0)
    (c0 c2 c3 c6 c7 c8 c9 c10 c11 c12 c13 c14 c15 c16 c17 c18 c19 c20 c21 c22 c23 c24 c25 c26 c27 c28 c29 c30 c31 c32 c33 c34 c35 c36 c37 c38 c39 c40 c41 c42 c43 c44 c45 c46 c47 c48 c49 c50 c51 c52 c53 c54 c55 c56 c57 c58 c59 c60 c61 c62 c63 c64 c65 c66 c67 c68 c69 c70 c71 c72 c73 c74 c75 c76 c77 c78 c79 c80 c81 c82 c83 c84 c85 : Value) (Q : Exit → Act → World → Prop)
    (hexit : ∀ (W : World) (b : Nat) (y31 y32 y33 y34 y35 y36 y37 y38 y39 y40 y41 : Value), Below w.heap.size w W → w.heap.size ≤ b → WordsAt W b (List.replicate q1 0) → Q .normal ⟨List.toArray (c0 :: (Value.pointer (some ⟨cb, 0, none⟩)) :: c2 :: c3 :: (Value.pointer (some ⟨fb, 0, none⟩)) :: (Value.int .i64 (i0 : Nat)) :: c6 :: c7 :: c8 :: c9 :: c10 :: c11 :: c12 :: c13 :: c14 :: c15 :: c16 :: c17 :: c18 :: c19 :: c20 :: c21 :: c22 :: c23 :: c24 :: c25 :: c26 :: c27 :: c28 :: c29 :: c30 :: y31 :: y32 :: y33 :: y34 :: y35 :: y36 :: y37 :: y38 :: y39 :: y40 :: y41 :: c42 :: c43 :: c44 :: c45 :: c46 :: c47 :: c48 :: c49 :: c50 :: c51 :: c52 :: c53 :: c54 :: c55 :: c56 :: c57 :: c58 :: c59 :: c60 :: c61 :: c62 :: c63 :: c64 :: c65 :: c66 :: c67 :: c68 :: c69 :: c70 :: c71 :: c72 :: c73 :: c74 :: c75 :: c76 :: c77 :: c78 :: c79 :: c80 :: c81 :: c82 :: c83 :: c84 :: c85 :: []), []⟩ (W.setCell ⟨rb, i0, none⟩ (.slice (some ⟨b, 0, none⟩) q1 q1))) :
    Code.wp Tryd.prog lsBR Q ⟨List.toArray (c0 :: (Value.pointer (some ⟨cb, 0, none⟩)) :: c2 :: c3 :: (Value.pointer (some ⟨fb, 0, none⟩)) :: (Value.int .i64 (i0 : Nat)) :: c6 :: c7 :: c8 :: c9 :: c10 :: c11 :: c12 :: c13 :: c14 :: c15 :: c16 :: c17 :: c18 :: c19 :: c20 :: c21 :: c22 :: c23 :: c24 :: c25 :: c26 :: c27 :: c28 :: c29 :: c30 :: c31 :: c32 :: c33 :: c34 :: c35 :: c36 :: c37 :: c38 :: c39 :: c40 :: c41 :: c42 :: c43 :: c44 :: c45 :: c46 :: c47 :: c48 :: c49 :: c50 :: c51 :: c52 :: c53 :: c54 :: c55 :: c56 :: c57 :: c58 :: c59 :: c60 :: c61 :: c62 :: c63 :: c64 :: c65 :: c66 :: c67 :: c68 :: c69 :: c70 :: c71 :: c72 :: c73 :: c74 :: c75 :: c76 :: c77 :: c78 :: c79 :: c80 :: c81 :: c82 :: c83 :: c84 :: c85 :: []), []⟩ w := by
  have HCB := Lib.hid hcb
  have HROW := Lib.hid hrow
  have HMK := Lib.hid hmk
  have HWA := Lib.hid hwa
  have HR := Lib.hid hr
  have HI := Lib.hid hi
  have HRB := Lib.hid hrb
  have HEX := Lib.hid hexit
  clear hcb hrow hmk hwa hr hi hrb hexit
  conv => arg 2; whnf
  refine region_cl_tail 10 (by kernel_rfl) (by kernel_rfl) (lsBCl c cb fb rb n i0 q q1 w.heap.size) (fun Y => ⟨List.toArray (c0 :: (Value.pointer (some ⟨cb, 0, none⟩)) :: c2 :: c3 :: (Value.pointer (some ⟨fb, 0, none⟩)) :: (Value.int .i64 (i0 : Nat)) :: c6 :: c7 :: c8 :: c9 :: c10 :: c11 :: c12 :: c13 :: c14 :: c15 :: c16 :: c17 :: c18 :: c19 :: c20 :: c21 :: c22 :: c23 :: c24 :: c25 :: c26 :: c27 :: c28 :: c29 :: c30 :: Y 0 :: Y 1 :: Y 2 :: Y 3 :: Y 4 :: Y 5 :: Y 6 :: Y 7 :: Y 8 :: Y 9 :: c41 :: c42 :: c43 :: c44 :: c45 :: c46 :: c47 :: c48 :: c49 :: c50 :: c51 :: c52 :: c53 :: c54 :: c55 :: c56 :: c57 :: c58 :: c59 :: c60 :: c61 :: c62 :: c63 :: c64 :: c65 :: c66 :: c67 :: c68 :: c69 :: c70 :: c71 :: c72 :: c73 :: c74 :: c75 :: c76 :: c77 :: c78 :: c79 :: c80 :: c81 :: c82 :: c83 :: c84 :: c85 :: []), []⟩) (fun i => #[c31, c32, c33, c34, c35, c36, c37, c38, c39, c40].getD i undef) rfl ?_ ?_ ?_
  · intro W W' i v hb h
    rcases i with _ | _ | _ | _ | _ | _ | _ | _ | _ | _ | i
    · exact h
    · exact h
    · exact h
    · exact h
    · exact h
    · exact h
    · exact h
    · exact h
    · exact h
    · obtain ⟨b, h1, h2, h3⟩ := h
      exact ⟨b, h1, h2, h3.below hb h3.lt⟩
    · trivial
  · intro i o' Y W hin ho hb hall K hK
    have HW := Lib.hid hb
    clear hb
    rcases i with _ | _ | _ | _ | _ | _ | _ | _ | _ | _ | i
    · simp at ho; subst ho
      clear hall
      refine wpOp_plain rfl rfl (fun K' hK' => ?_)
      go_simp
      have hh := hK' _ _ (hK _ _ (Below.refl _ _) rfl)
      simpa [upd] using hh
    · simp at ho; subst ho
      have d0 := hall { on := 0, ground := Ground.data } (by simp) rfl
      have e0 : Y 0 = .pointer (some ⟨fb, 0, none⟩) := d0
      clear hall
      refine wpOp_plain rfl rfl (fun K' hK' => ?_)
      go_simp
      have hh := hK' _ _ (hK _ _ (Below.refl _ _) rfl)
      simpa [upd, e0] using hh
    · simp at ho; subst ho
      have d1 := hall { on := 1, ground := Ground.data } (by simp) rfl
      have e1 : Y 1 = .pointer (some ⟨fb, 0, none⟩) := d1
      clear hall
      refine wpOp_plain rfl rfl (fun K' hK' => ?_)
      go_simp
      have hh := hK' _ _ (hK _ _ (Below.refl _ _) rfl)
      simpa [upd, e1] using hh
    · simp at ho; subst ho
      have d2 := hall { on := 2, ground := Ground.data } (by simp) rfl
      have e2 : Y 2 = .pointer (some ⟨fb, 5, none⟩) := d2
      have q0 := cell_below (HROW.out.cell (j := 5) rfl) HW.out HROW.out.lt
      have ql0 := Nat.lt_of_lt_of_le HROW.out.lt HW.out.size
      clear hall
      refine wpOp_plain rfl rfl (fun K' hK' => ?_)
      go_simp
      have hh := hK' _ _ (hK _ _ (Below.refl _ _) rfl)
      simpa [upd, e2] using hh
    · simp at ho; subst ho
      clear hall
      refine wpOp_plain rfl rfl (fun K' hK' => ?_)
      go_simp
      have hh := hK' _ _ (hK _ _ (Below.refl _ _) rfl)
      simpa [upd] using hh
    · simp at ho; subst ho
      clear hall
      refine wpOp_plain rfl rfl (fun K' hK' => ?_)
      go_simp
      have hh := hK' _ _ (hK _ _ (Below.refl _ _) rfl)
      simpa [upd] using hh
    · simp at ho; subst ho
      have d5 := hall { on := 5, ground := Ground.data } (by simp) rfl
      have e5 : Y 5 = .pointer (some ⟨cb, 1, none⟩) := d5
      have q0 := cell_below (HCB.out.cell (j := 1) rfl) HW.out HCB.out.lt
      have ql0 := Nat.lt_of_lt_of_le HCB.out.lt HW.out.size
      clear hall
      refine wpOp_plain rfl rfl (fun K' hK' => ?_)
      go_simp
      have hh := hK' _ _ (hK _ _ (Below.refl _ _) rfl)
      simpa [upd, e5] using hh
    · simp at ho; subst ho
      have d6 := hall { on := 6, ground := Ground.data } (by simp) rfl
      have e6 : Y 6 = .int .i64 c.regs := d6
      have hR0 := HR.out.1.1
      have hR := HR.out.1.2
      have hq := HR.out.2.1
      have hqq := HR.out.2.2.1
      have hwq : IntKind.i64.wrap (q : Int) = (q : Int) := wrap_nat (by omega)
      clear hall
      refine wpOp_plain rfl rfl (fun K' hK' => ?_)
      go_simp
      have hh := hK' _ _ (hK _ _ (Below.refl _ _) rfl)
      simpa [upd, e6, hq, hwq] using hh
    · simp at ho; subst ho
      have d7 := hall { on := 7, ground := Ground.data } (by simp) rfl
      have e7 : Y 7 = .int .i64 (q : Nat) := d7
      have hqq := HR.out.2.2.1
      have hadd := HR.out.2.2.2
      have hwq : IntKind.i64.wrap (q1 : Int) = (q1 : Int) := wrap_nat (by omega)
      clear hall
      refine wpOp_plain rfl rfl (fun K' hK' => ?_)
      go_simp
      have hh := hK' _ _ (hK _ _ (Below.refl _ _) rfl)
      simpa [upd, e7, hadd, hwq] using hh
    · simp at ho; subst ho
      have d8 := hall { on := 8, ground := Ground.data } (by simp) rfl
      have e8 : Y 8 = .int .i64 (q1 : Nat) := d8
      have hmk := HMK.out W
      clear hall
      refine wpOp_plain rfl rfl (fun K' hK' => ?_)
      go_simp
      have hh := hK' _ _ (hK (.slice (some ⟨W.heap.size, 0, none⟩) q1 q1) _ (below1 W _) ⟨_, rfl, HW.out.size, HWA.out W⟩)
      simpa [upd, e8, hmk] using hh
    · omega
  · intro Y W hb hc
    have e3 : Y 3 = .slice (some ⟨rb, 0, none⟩) n n := hc 3 (by decide)
    have e4 : Y 4 = .int .i64 (i0 : Nat) := hc 4 (by decide)
    obtain ⟨b, e9, hb9, hw9⟩ := hc 9 (by decide)
    clear hc
    have hz := hb.size
    have ql : rb < W.heap.size := by have := HRB.out.1; omega
    have qf : W.frozen? ⟨rb, i0, none⟩ = false := by
      rw [frozen_of_heap (a := ⟨rb, i0, none⟩) (hb.block rb HRB.out.1)]
      exact HRB.out.2.1
    obtain ⟨v0, hv0⟩ := HRB.out.2.2
    have qv := cell_below hv0 hb HRB.out.1
    clear hv0
    have hi0 : (0 : Int) ≤ (i0 : Int) := by omega
    have hi1 : (i0 : Int) < (n : Int) := by have := HI.out; omega
    refine wpList_plain rfl (fun K hK => ?_)
    go_simp
    try simp only [e3, e4]
    refine hK _ _ ?_
    refine wpList_plain rfl (fun K hK => ?_)
    go_simp
    try simp only [e9]
    have hh := HEX.out W b (Y 0) (Y 1) (Y 2) (Y 3) (Y 4) (Y 5) (Y 6) (Y 7) (Y 8) (Y 9) (.pointer (some ⟨rb, i0, none⟩)) hb hb9 hw9
    try simp only [e3, e4, e9] at hh
    exact hK _ _ hh
end Go.Proofs.YtlenilbkifofjaaDoor
