/- virt: an instruction: a number comes in; every instruction but a call. Conditions: as stated. virt: an instruction: every one but a call. Conditions: as stated. virt: a call's contract; a call's arguments. Conditions: as stated. -/
import Derived.Test.YtinmgbodgecoeaaVDoesCZz
import Derived.Test.YtinmgbodgecoeaaQ08Zz
set_option linter.unusedVariables false
set_option linter.unusedSimpArgs false
namespace Go.Proofs.Ytinmgbodgecoeaa
open Go.RowKit

theorem any_ex {es : Array Edge} {j : Nat} (h : es.any (fun e => decide (e.on = j) && Region.binds .any e) = true) : ∃ e ∈ es, e.on = j ∧ Region.binds .any e = true := by
  obtain ⟨i, hi, h⟩ := Array.any_eq_true.1 h
  simp only [Bool.and_eq_true, decide_eq_true_eq] at h
  exact ⟨es[i], Array.getElem_mem hi, h.1, h.2⟩
def vgtL (rb fb ib cb tb tl m : Nat) (x : Int) : List (Value → Prop) := [fun v => v = .pointer (some ⟨fb, 0, none⟩),
  fun v => v = .pointer (some ⟨fb, 0, none⟩),
  fun v => v = .pointer (some ⟨fb, 0, none⟩),
  fun v => v = .slice (some ⟨tb, 0, none⟩) tl tl,
  fun v => v = .pointer (some ⟨ib, 1, none⟩),
  fun v => v = .int .i64 (m : Nat),
  fun v => v = .pointer (some ⟨rb, 0, none⟩),
  fun v => v = .pointer (some ⟨rb, 0, none⟩),
  fun v => v = .pointer (some ⟨rb, 0, none⟩),
  fun v => v = .pointer (some ⟨cb, 0, none⟩),
  fun _ => True,
  fun v => v = .pointer (some ⟨tb, m * 2, none⟩),
  fun _ => True]
def vgtC (rb fb ib cb tb tl m : Nat) (x : Int) (i : Nat) (v : Value) : Prop := ((vgtL rb fb ib cb tb tl m x).getD i (fun _ => True)) v
noncomputable def vgtR : Code := (regsOf (Try.f33.body.getD .skip)).getD 12 .skip
set_option maxRecDepth 100000 in
set_option maxHeartbeats 8000000 in
theorem vgt_region (rb fb ib cb tb tl m : Nat) (x : Int) (PW : World → Prop) (w : World)
    (hold : ∀ W, (W = w.drew ∨ PW W) → W.cell? ⟨fb, 0, none⟩ = some (.slice (some ⟨tb, 0, none⟩) tl tl) ∧ W.cell? ⟨ib, 1, none⟩ = some (.int .i64 (m : Nat)) ∧ W.cell? ⟨rb, 0, none⟩ = some (.pointer (some ⟨cb, 0, none⟩)))
    (hst : ∀ W, PW W → (∃ v0 v1, W.cell? ⟨tb, m * 2, none⟩ = some v0 ∧ W.cell? ⟨tb, m * 2 + 1, none⟩ = some v1) ∧ W.frozen? ⟨tb, m * 2, none⟩ = false ∧ W.frozen? ⟨tb, m * 2 + 1, none⟩ = false ∧ tb < W.heap.size)
    (hm : m < tl) (hget : Calls Try.prog 41 #[.pointer (some ⟨cb, 0, none⟩)] w.drew fun e w' => e = .returned (.agg #[.int .i64 0, .int .i64 x]) ∧ PW w')
    (c2 c3 c4 c6 c7 c8 c9 c10 c11 c12 c13 c14 c15 c16 c17 c18 c19 c20 c21 c22 c23 c24 c25 c26 c27 c28 c29 c30 c31 c32 c33 c34 c35 c36 c37 c38 c39 c40 c41 c42 c43 c44 c45 c46 c47 c48 c49 c50 c51 c52 c53 c54 c55 c56 c57 c58 c59 c60 c61 c62 c63 c64 c65 c66 c67 c68 c69 c70 c71 c72 c73 c74 c75 c76 c77 c78 c79 c80 c81 c82 c83 c84 c85 c86 c87 c88 c89 c90 c91 c92 c93 c94 c95 c96 c97 c98 c99 c100 c101 c102 c103 c104 c105 c106 c107 c108 c109 c110 c111 c112 c113 c114 c115 c116 c117 c118 c119 c120 c121 : Value) (Q : Exit → Act → World → Prop)
    (hexit : ∀ (W1 W : World) (Y : Nat → Value), PW W1 → W = (W1.setCell ⟨tb, m * 2, none⟩ (.int .i64 0)).setCell ⟨tb, m * 2 + 1, none⟩ (.int .i64 x) → Q .normal ⟨List.toArray ((Value.pointer (some ⟨rb, 0, none⟩)) :: (Value.pointer (some ⟨fb, 0, none⟩)) :: c2 :: c3 :: c4 :: (Value.pointer (some ⟨ib, 0, none⟩)) :: c6 :: c7 :: c8 :: c9 :: c10 :: c11 :: c12 :: c13 :: c14 :: c15 :: c16 :: c17 :: c18 :: c19 :: c20 :: c21 :: c22 :: c23 :: c24 :: c25 :: c26 :: c27 :: c28 :: c29 :: c30 :: c31 :: c32 :: c33 :: c34 :: c35 :: c36 :: c37 :: c38 :: c39 :: c40 :: c41 :: c42 :: c43 :: c44 :: c45 :: c46 :: c47 :: c48 :: c49 :: c50 :: c51 :: c52 :: c53 :: c54 :: c55 :: c56 :: c57 :: c58 :: c59 :: c60 :: c61 :: c62 :: c63 :: c64 :: c65 :: c66 :: c67 :: c68 :: c69 :: c70 :: c71 :: c72 :: Y 0 :: Y 1 :: Y 2 :: Y 3 :: Y 4 :: Y 5 :: Y 6 :: Y 7 :: Y 8 :: Y 9 :: Y 10 :: Y 11 :: c85 :: c86 :: c87 :: c88 :: c89 :: c90 :: c91 :: c92 :: c93 :: c94 :: c95 :: c96 :: c97 :: c98 :: c99 :: c100 :: c101 :: c102 :: c103 :: c104 :: c105 :: c106 :: c107 :: c108 :: c109 :: c110 :: c111 :: c112 :: c113 :: c114 :: c115 :: c116 :: c117 :: c118 :: c119 :: c120 :: c121 :: []), []⟩ W) :
    Code.wp Try.prog vgtR Q ⟨List.toArray ((Value.pointer (some ⟨rb, 0, none⟩)) :: (Value.pointer (some ⟨fb, 0, none⟩)) :: c2 :: c3 :: c4 :: (Value.pointer (some ⟨ib, 0, none⟩)) :: c6 :: c7 :: c8 :: c9 :: c10 :: c11 :: c12 :: c13 :: c14 :: c15 :: c16 :: c17 :: c18 :: c19 :: c20 :: c21 :: c22 :: c23 :: c24 :: c25 :: c26 :: c27 :: c28 :: c29 :: c30 :: c31 :: c32 :: c33 :: c34 :: c35 :: c36 :: c37 :: c38 :: c39 :: c40 :: c41 :: c42 :: c43 :: c44 :: c45 :: c46 :: c47 :: c48 :: c49 :: c50 :: c51 :: c52 :: c53 :: c54 :: c55 :: c56 :: c57 :: c58 :: c59 :: c60 :: c61 :: c62 :: c63 :: c64 :: c65 :: c66 :: c67 :: c68 :: c69 :: c70 :: c71 :: c72 :: c73 :: c74 :: c75 :: c76 :: c77 :: c78 :: c79 :: c80 :: c81 :: c82 :: c83 :: c84 :: c85 :: c86 :: c87 :: c88 :: c89 :: c90 :: c91 :: c92 :: c93 :: c94 :: c95 :: c96 :: c97 :: c98 :: c99 :: c100 :: c101 :: c102 :: c103 :: c104 :: c105 :: c106 :: c107 :: c108 :: c109 :: c110 :: c111 :: c112 :: c113 :: c114 :: c115 :: c116 :: c117 :: c118 :: c119 :: c120 :: c121 :: []), []⟩ w := by
  have hm0 : (0 : Int) ≤ (m : Int) := by omega
  have hm1 : (m : Int) < (tl : Int) := by omega
  have HOLD := Lib.hid hold
  have HST := Lib.hid hst
  have HGET := Lib.hid hget
  clear hold hst hget hm
  have HEX := Lib.hid hexit
  clear hexit
  conv => arg 2; whnf
  refine region_get (by kernel_rfl) 10 12 (vgtC rb fb ib cb tb tl m x) (fun W v => v = .agg #[.int .i64 0, .int .i64 x] ∧ PW W) (fun W => ∃ W1, PW W1 ∧ W = (W1.setCell ⟨tb, m * 2, none⟩ (.int .i64 0)).setCell ⟨tb, m * 2 + 1, none⟩ (.int .i64 x)) (fun Y => ⟨List.toArray ((Value.pointer (some ⟨rb, 0, none⟩)) :: (Value.pointer (some ⟨fb, 0, none⟩)) :: c2 :: c3 :: c4 :: (Value.pointer (some ⟨ib, 0, none⟩)) :: c6 :: c7 :: c8 :: c9 :: c10 :: c11 :: c12 :: c13 :: c14 :: c15 :: c16 :: c17 :: c18 :: c19 :: c20 :: c21 :: c22 :: c23 :: c24 :: c25 :: c26 :: c27 :: c28 :: c29 :: c30 :: c31 :: c32 :: c33 :: c34 :: c35 :: c36 :: c37 :: c38 :: c39 :: c40 :: c41 :: c42 :: c43 :: c44 :: c45 :: c46 :: c47 :: c48 :: c49 :: c50 :: c51 :: c52 :: c53 :: c54 :: c55 :: c56 :: c57 :: c58 :: c59 :: c60 :: c61 :: c62 :: c63 :: c64 :: c65 :: c66 :: c67 :: c68 :: c69 :: c70 :: c71 :: c72 :: Y 0 :: Y 1 :: Y 2 :: Y 3 :: Y 4 :: Y 5 :: Y 6 :: Y 7 :: Y 8 :: Y 9 :: Y 10 :: Y 11 :: c85 :: c86 :: c87 :: c88 :: c89 :: c90 :: c91 :: c92 :: c93 :: c94 :: c95 :: c96 :: c97 :: c98 :: c99 :: c100 :: c101 :: c102 :: c103 :: c104 :: c105 :: c106 :: c107 :: c108 :: c109 :: c110 :: c111 :: c112 :: c113 :: c114 :: c115 :: c116 :: c117 :: c118 :: c119 :: c120 :: c121 :: []), []⟩) (fun i => if i = 0 then c73 else if i = 1 then c74 else if i = 2 then c75 else if i = 3 then c76 else if i = 4 then c77 else if i = 5 then c78 else if i = 6 then c79 else if i = 7 then c80 else if i = 8 then c81 else if i = 9 then c82 else if i = 10 then c83 else if i = 11 then c84 else undef) rfl (by kernel_rfl) (by simp) (by decide) (by decide) ?_ ?_ ?_ ?_ ?_
  · intro o' ho j hj hne
    simp at ho; subst ho
    rcases j with _ | _ | _ | _ | _ | _ | _ | _ | _ | _ | _ | _ | _ | j
    all_goals first | exact absurd rfl hne | (exfalso; simp at hj; omega) | exact any_ex (by kernel_rfl)
  · intro i o' Y W n1 n2 ho hW hall K hK
    obtain ⟨q0, q1, q2⟩ := HOLD.out W (hW.imp id (fun ⟨_, h⟩ => h.2))
    clear hW
    rcases i with _ | _ | _ | _ | _ | _ | _ | _ | _ | _ | _ | _ | _ | i
    · simp at ho; subst ho
      clear hall
      refine wpOp_plain rfl rfl (fun K' hK' => ?_)
      go_simp
      have hh := hK' _ _ (hK _ rfl)
      simpa [upd] using hh
    · simp at ho; subst ho
      have d0 : Y 0 = _ := hall { on := 0, ground := Ground.data } (by simp) rfl (by decide) (by decide)
      clear hall
      refine wpOp_plain rfl rfl (fun K' hK' => ?_)
      go_simp
      have hh := hK' _ _ (hK _ rfl)
      simpa [upd, d0] using hh
    · simp at ho; subst ho
      have d1 : Y 1 = _ := hall { on := 1, ground := Ground.data } (by simp) rfl (by decide) (by decide)
      clear hall
      refine wpOp_plain rfl rfl (fun K' hK' => ?_)
      go_simp
      have hh := hK' _ _ (hK _ rfl)
      simpa [upd, d1] using hh
    · simp at ho; subst ho
      have d2 : Y 2 = _ := hall { on := 2, ground := Ground.data } (by simp) rfl (by decide) (by decide)
      clear hall
      refine wpOp_plain rfl rfl (fun K' hK' => ?_)
      go_simp
      have hh := hK' _ _ (hK _ rfl)
      simpa [upd, d2] using hh
    · simp at ho; subst ho
      clear hall
      refine wpOp_plain rfl rfl (fun K' hK' => ?_)
      go_simp
      have hh := hK' _ _ (hK _ rfl)
      simpa [upd] using hh
    · simp at ho; subst ho
      have d4 : Y 4 = _ := hall { on := 4, ground := Ground.data } (by simp) rfl (by decide) (by decide)
      clear hall
      refine wpOp_plain rfl rfl (fun K' hK' => ?_)
      go_simp
      have hh := hK' _ _ (hK _ rfl)
      simpa [upd, d4] using hh
    · simp at ho; subst ho
      clear hall
      refine wpOp_plain rfl rfl (fun K' hK' => ?_)
      go_simp
      have hh := hK' _ _ (hK _ rfl)
      simpa [upd] using hh
    · simp at ho; subst ho
      have d6 : Y 6 = _ := hall { on := 6, ground := Ground.data } (by simp) rfl (by decide) (by decide)
      clear hall
      refine wpOp_plain rfl rfl (fun K' hK' => ?_)
      go_simp
      have hh := hK' _ _ (hK _ rfl)
      simpa [upd, d6] using hh
    · simp at ho; subst ho
      have d7 : Y 7 = _ := hall { on := 7, ground := Ground.data } (by simp) rfl (by decide) (by decide)
      clear hall
      refine wpOp_plain rfl rfl (fun K' hK' => ?_)
      go_simp
      have hh := hK' _ _ (hK _ rfl)
      simpa [upd, d7] using hh
    · simp at ho; subst ho
      have d8 : Y 8 = _ := hall { on := 8, ground := Ground.data } (by simp) rfl (by decide) (by decide)
      clear hall
      refine wpOp_plain rfl rfl (fun K' hK' => ?_)
      go_simp
      have hh := hK' _ _ (hK _ rfl)
      simpa [upd, d8] using hh
    · exact absurd rfl n1
    · simp at ho; subst ho
      have d3 : Y 3 = _ := hall { on := 3, ground := Ground.data } (by simp) rfl (by decide) (by decide)
      have d5 : Y 5 = _ := hall { on := 5, ground := Ground.data } (by simp) rfl (by decide) (by decide)
      clear hall
      refine wpOp_plain rfl rfl (fun K' hK' => ?_)
      go_simp
      have hh := hK' _ _ (hK _ rfl)
      simpa [upd, d3, d5] using hh
    · exact absurd rfl n2
    · simp at ho
  · intro o' Y ho hall K hK
    simp at ho; subst ho
    have d9 : Y 9 = _ := hall { on := 9, ground := Ground.data } (by simp) rfl (by decide) (by decide)
    clear hall
    refine wpOp_plain rfl rfl (fun K' hK' => ?_)
    go_simp
    refine HGET.out.mono ?_
    rintro e W5 ⟨rfl, hp⟩
    go_simp
    have hh := hK' _ _ (hK _ W5 ⟨rfl, hp⟩)
    simpa [upd, d9] using hh
  · intro o' Y W ho hp hall K hK
    simp at ho; subst ho
    obtain ⟨d10, hpw⟩ := hp
    have d11 : Y 11 = _ := hall 11 (by simp) (by decide) (by decide)
    clear hall
    obtain ⟨⟨v0, v1, c0, c1⟩, f0, f1, hl⟩ := HST.out W hpw
    refine wpOp_plain rfl rfl (fun K' hK' => ?_)
    go_simp
    have hh := hK' _ _ (hK undef _ ⟨W, hpw, rfl⟩)
    simpa [upd, d10, d11] using hh
  · intro Y W hfin hall
    obtain ⟨W1, hp, hW⟩ := hfin
    show Q .normal ⟨List.toArray ((Value.pointer (some ⟨rb, 0, none⟩)) :: (Value.pointer (some ⟨fb, 0, none⟩)) :: c2 :: c3 :: c4 :: (Value.pointer (some ⟨ib, 0, none⟩)) :: c6 :: c7 :: c8 :: c9 :: c10 :: c11 :: c12 :: c13 :: c14 :: c15 :: c16 :: c17 :: c18 :: c19 :: c20 :: c21 :: c22 :: c23 :: c24 :: c25 :: c26 :: c27 :: c28 :: c29 :: c30 :: c31 :: c32 :: c33 :: c34 :: c35 :: c36 :: c37 :: c38 :: c39 :: c40 :: c41 :: c42 :: c43 :: c44 :: c45 :: c46 :: c47 :: c48 :: c49 :: c50 :: c51 :: c52 :: c53 :: c54 :: c55 :: c56 :: c57 :: c58 :: c59 :: c60 :: c61 :: c62 :: c63 :: c64 :: c65 :: c66 :: c67 :: c68 :: c69 :: c70 :: c71 :: c72 :: Y 0 :: Y 1 :: Y 2 :: Y 3 :: Y 4 :: Y 5 :: Y 6 :: Y 7 :: Y 8 :: Y 9 :: Y 10 :: Y 11 :: c85 :: c86 :: c87 :: c88 :: c89 :: c90 :: c91 :: c92 :: c93 :: c94 :: c95 :: c96 :: c97 :: c98 :: c99 :: c100 :: c101 :: c102 :: c103 :: c104 :: c105 :: c106 :: c107 :: c108 :: c109 :: c110 :: c111 :: c112 :: c113 :: c114 :: c115 :: c116 :: c117 :: c118 :: c119 :: c120 :: c121 :: []), []⟩ W
    exact HEX.out W1 W Y hp hW
theorem afterF_get {R : CallR} {lo : List Nat} {s : St} {tp : List V} {m : Nat} {a b n : Int} {l : List Int} : afterF R lo s tp (stepI ⟨12, (m : Int), a, b, n, l⟩) = (true, (getF s).2, tp.set m ⟨0, (getF s).1⟩) := by
  rw [show stepI ⟨12, (m : Int), a, b, n, l⟩ = ⟨5, (m : Int), 0, 0, []⟩ from rfl]
  unfold afterF
  simp only
  rw [evalTs]
  show actF R s tp ⟨5, (m : Int), 0, 0, []⟩ [] = _
  unfold actF getF
  simp only
  rw [if_neg (show ¬ (5 : Int) = 1 by decide), if_neg (show ¬ (5 : Int) = 2 by decide), if_neg (show ¬ (5 : Int) = 3 by decide), if_pos trivial]
  cases s.inp with
  | nil => simp only [setT_natV]
  | cons q r => simp only [setT_natV]
set_option maxRecDepth 100000 in
set_option maxHeartbeats 8000000 in
theorem vdoes_get (base cb hb rb fb tb mb : Nat) (own : Nat → Prop) (P : Value × Value × Value) (gv bv lv : Value) (fuel : Int) (s : St) (tp : List V) (lo : List Nat) (R : CallR) (ng : Nat) (a b n : Int) (m : Nat) (AV : Value) (l : List Int) (w : World)
    (h : HCs w base own cb hb fuel s) (hR : VRun w rb cb hb P gv bv ng) (hF : VFrame w fb tb tp lv lo mb) (hO : VOff base own rb fb tb lv gv) (hmt : m < tp.length) :
    Calls Try.prog 33 #[.pointer (some ⟨rb, 0, none⟩), .pointer (some ⟨fb, 0, none⟩), .agg #[.int .i64 12, .int .i64 (m : Int), .int .i64 a, .int .i64 b, .int .i64 n, AV]] w fun e w' => VSays base cb hb fuel fb tb mb lv lo own (afterF R lo s tp (stepI ⟨12, (m : Int), a, b, n, l⟩)) w e w' := by
  rw [afterF_get]
  have hbk := h.blocks
  have hcb := hbk.2.2 cb hbk.1
  have HB1 := Lib.hid (below1 w (.cells #[.int .i64 12, .int .i64 (m : Int), .int .i64 a, .int .i64 b, .int .i64 n, AV] 68))
  have HX1 := Lib.hid (Row.new w #[.int .i64 12, .int .i64 (m : Int), .int .i64 a, .int .i64 b, .int .i64 n, AV] 68)
  have hne : ¬ w.heap.size = cb := by omega
  obtain ⟨x, hx⟩ : ∃ x, x = (getF s).1 := ⟨_, rfl⟩
  obtain ⟨s2, hs2⟩ : ∃ s2, s2 = (getF s).2 := ⟨_, rfl⟩
  have HGT := Lib.hid (get_hc (w := (w.alloc (.cells #[.int .i64 12, .int .i64 (m : Int), .int .i64 a, .int .i64 b, .int .i64 n, AV] 68)).drew) (h.below HB1.out.drew))
  rw [← hx, ← hs2] at HGT ⊢
  have HH := Lib.hid h
  have HR := Lib.hid hR
  have HF := Lib.hid hF
  have HO := Lib.hid hO
  have HBK := Lib.hid hbk
  obtain ⟨PW, hPW⟩ : ∃ PW : World → Prop, PW = fun W => HCs W base own cb hb fuel s2 ∧ Wr (fun b => b = cb) (w.alloc (.cells #[.int .i64 12, .int .i64 (m : Int), .int .i64 a, .int .i64 b, .int .i64 n, AV] 68)).drew W := ⟨_, rfl⟩
  have HOLD := Lib.hid (show ∀ W, (W = (w.alloc (.cells #[.int .i64 12, .int .i64 (m : Int), .int .i64 a, .int .i64 b, .int .i64 n, AV] 68)).drew ∨ PW W) → VFrame W fb tb tp lv lo mb ∧ VRun W rb cb hb P gv bv ng ∧ Row W w.heap.size #[.int .i64 12, .int .i64 (m : Int), .int .i64 a, .int .i64 b, .int .i64 n, AV] 68 from by
    intro W hW
    rcases hW with rfl | hW
    · exact ⟨hF.below HB1.out.drew, hR.below HB1.out.drew, HX1.out.drew⟩
    · rw [hPW] at hW
      exact ⟨(hF.below HB1.out.drew).wr hW.2 (fun e => hO.ofb.1 (e ▸ hbk.1)) (fun e => hO.otb.1 (e ▸ hbk.1)) (fun g hg e => (hO.olv g hg).1 (e ▸ hbk.1)), (hR.below HB1.out.drew).wr hW.2 (fun e => hO.orb.1 (e ▸ hbk.1)) (fun g hg e => (hO.ogv g hg).1 (e ▸ hbk.1)), HX1.out.drew.wr hW.2 hne⟩)
  clear h hR hF hO hbk hx hs2
  go_enter Try.func33, Try.ntmps33
  refine wp_letter (fun Q hQ => ?_)
  have HQ := Lib.hid hQ
  clear hQ
  go_wp2_with fail
  refine vgt_region rb fb w.heap.size cb tb tp.length m x PW (w.alloc (.cells #[.int .i64 12, .int .i64 (m : Int), .int .i64 a, .int .i64 b, .int .i64 n, AV] 68)) (fun W hW => ⟨(HOLD.out W hW).1.row.cell (j := 0) rfl, (HOLD.out W hW).2.2.cell (j := 1) rfl, (HOLD.out W hW).2.1.row.cell (j := 0) rfl⟩)
    (fun W hW => by
      obtain ⟨cs, htr, hvi⟩ := (HOLD.out W (Or.inr hW)).1.temps
      obtain ⟨tv0, tv1⟩ := hvi.2 m _ (List.getElem?_eq_getElem hmt)
      exact ⟨⟨_, _, htr.cell tv0, htr.cell tv1⟩, htr.free _, htr.free _, htr.lt⟩)
    hmt (HGT.out.mono (fun e w' h => ⟨h.1, by rw [hPW]; exact h.2⟩)) _ _ _ _ _ _ _ _ _ _ _ _ _ _ _ _ _ _ _ _ _ _ _ _ _ _ _ _ _ _ _ _ _ _ _ _ _ _ _ _ _ _ _ _ _ _ _ _ _ _ _ _ _ _ _ _ _ _ _ _ _ _ _ _ _ _ _ _ _ _ _ _ _ _ _ _ _ _ _ _ _ _ _ _ _ _ _ _ _ _ _ _ _ _ _ _ _ _ _ _ _ _ _ _ _ _ _ _ _ _ _ _ _ _ _ _ _ _ _ _ (fun W1 W Y hp hW => ?_)
  have hF1 := (HOLD.out W1 (Or.inr hp)).1
  rw [hPW] at hp
  subst hW
  have HP := Lib.hid hp
  have HF1 := Lib.hid hF1
  clear hp hF1
  go_wp2_with fail
  refine HQ.out _ _ _ ?_
  have hwp := wr_pair W1 tb (m * 2) (m * 2 + 1) (.int .i64 ((⟨0, x⟩ : V).obj : Int)) (.int .i64 x)
  exact bodyPost_ret (v := .bool true) (by simp [results, Try.results33, go_sem]) rfl ⟨rfl, own, fun _ h => h, fun _ h => Or.inl h, HP.out.1.wr hwp (fun k hk => (by subst hk; exact ⟨HO.out.otb.2, HO.out.otb.1⟩)), fun _ => HF1.out.set m ⟨0, x⟩, ((Wr.of_below (F := fun b => own b ∨ b = tb) HB1.out.drew).trans HP.out.2 (fun i hi => Or.inl (Or.inl (hi ▸ HBK.out.1)))).trans hwp (fun i hi => Or.inl (Or.inr hi))⟩
end Go.Proofs.Ytinmgbodgecoeaa
namespace Go.Proofs.Ytinmgbodgecoeaa
open Go.RowKit

theorem vdoes_any {c : CodeS} {ng nf : Nat} {par : Int → Int → Bool} (base cb hb rb fb tb mb : Nat) (own : Nat → Prop) (P : Value × Value × Value) (gv bv lv : Value) (fuel : Int) (s : St) (tp : List V) (lo : List Nat) (R : CallR) (x : InsS) (A : Option Addr) (cap : Nat) (w : World)
    (hi : InsOk c ng nf par x) (hst : Straight x) (h10 : x.op ≠ 10) (hregs : c.regs = (tp.length : Int)) (hlo : c.locs.length = lo.length) (hb64 : In64 x.b) (harg : LongsAt w base x.arg (.slice A x.arg.length cap)) (hout : s.out.length ≤ 1000000000)
    (h : HCs w base own cb hb fuel s) (hR : VRun w rb cb hb P gv bv ng) (hF : VFrame w fb tb tp lv lo mb) (hO : VOff base own rb fb tb lv gv) (hFr : FrOk (memBase s.mem) tp lo ng) :
    Calls Try.prog 33 #[.pointer (some ⟨rb, 0, none⟩), .pointer (some ⟨fb, 0, none⟩), .agg #[.int .i64 x.op, .int .i64 x.dst, .int .i64 x.a, .int .i64 x.b, .int .i64 x.n, .slice A x.arg.length cap]] w fun e w' => VSays base cb hb fuel fb tb mb lv lo own (afterF R lo s tp (stepI x)) w e w' := by
  obtain ⟨op, dst, a, b, n, arg⟩ := x
  have hi' := hi
  obtain ⟨hop, hd, ha, _, hn⟩ := hi
  obtain ⟨s1, s2, s3⟩ := hst
  simp only at *
  by_cases h8 : op ≤ 8
  · have hdd := hd.1 (by omega)
    obtain ⟨m, rfl⟩ := Int.eq_ofNat_of_zero_le hdd.1
    exact vdoes_reck base cb hb rb fb tb mb own P gv bv lv fuel s tp lo R op m a b n arg A cap w hi' h8 hregs hlo hb64 harg (by omega) h hR hF hO hFr
  · have hs : op = 9 ∨ op = 11 ∨ op = 12 ∨ op = 13 ∨ op = 14 := by omega
    rcases hs with rfl | rfl | rfl | rfl | rfl
    · have hdd := hd.1 (by simp)
      have haa := ha (by simp)
      simp [numberI, sizeB] at hn
      obtain ⟨m, rfl⟩ := Int.eq_ofNat_of_zero_le hdd.1
      obtain ⟨ma, rfl⟩ := Int.eq_ofNat_of_zero_le haa.1
      obtain ⟨sz, rfl⟩ := Int.eq_ofNat_of_zero_le (show 0 ≤ n by omega)
      exact vdoes_store base cb hb rb fb tb mb own P gv bv lv fuel s tp lo R ng b ma m sz _ _ w h hR hF hO hFr (by omega) (by omega) (by omega) hb64
    · have haa := ha (by simp)
      obtain ⟨ma, rfl⟩ := Int.eq_ofNat_of_zero_le haa.1
      by_cases hz : (tp.getD ma ⟨0, 0⟩).obj = 0
      · exact vdoes_put base cb hb rb fb tb mb own P gv bv lv fuel s tp lo R ng dst b n ma _ _ w h hR hF hO (by omega) hz hout
      · exact vdoes_put_stuck base cb hb rb fb tb mb own P gv bv lv fuel s tp lo R ng dst b n ma _ _ w h hR hF hO (by omega) hz
    · have hdd := hd.1 (by simp)
      obtain ⟨m, rfl⟩ := Int.eq_ofNat_of_zero_le hdd.1
      exact vdoes_get base cb hb rb fb tb mb own P gv bv lv fuel s tp lo R ng a b n m _ _ w h hR hF hO (by omega)
    · have haa := ha (by simp)
      obtain ⟨ma, rfl⟩ := Int.eq_ofNat_of_zero_le haa.1
      exact vdoes_exit base cb hb rb fb tb mb own P gv bv lv fuel s tp lo R ng dst b n ma _ _ w h hR hF hO (by omega)
    · exact vdoes_label base cb hb rb fb tb mb own P gv bv lv fuel s tp lo R ng dst a b n _ _ w h hR hF hO
end Go.Proofs.Ytinmgbodgecoeaa
namespace Go.Proofs.Ytinmgbodgecoeaa
open Go.RowKit

/-- The labels of every function, as the run keeps them. -/
structure VLabs (w : World) (base : Nat) (own : Nat → Prop) (B : Nat) (bv : Value) (v : VirtS) : Prop where
  lie : ∃ lb loff lcap, bv = .slice (some ⟨lb, loff, none⟩) v.funcs.length lcap ∧ ¬ own lb ∧ base ≤ lb ∧ lb < B ∧ ∀ f c, v.funcs[f]? = some c → ∃ mb n, w.cell? ⟨lb, loff + f, none⟩ = some (.map (some mb)) ∧ LabM w mb n (labO c.ins) ∧ ¬ own mb ∧ base ≤ mb ∧ mb < B
theorem VLabs.wr {F : Nat → Prop} {w w' : World} {base B : Nat} {own : Nat → Prop} {bv : Value} {v : VirtS} (h : VLabs w base own B bv v) (hw : Wr F w w') (hF : ∀ k, F k → own k ∨ B ≤ k) (hB : B ≤ w.heap.size) : VLabs w' base own B bv v := by
  obtain ⟨lb, loff, lcap, h1, h2, h3, h4, h5⟩ := h.lie
  have hn : ∀ k, ¬ own k → k < B → ¬ F k := fun k h1 h2 h3 => (hF k h3).elim h1 (fun h => by omega)
  refine ⟨lb, loff, lcap, h1, h2, h3, h4, fun f c hf => ?_⟩
  obtain ⟨mb, n, g1, g2, g3, g4, g5⟩ := h5 f c hf
  exact ⟨mb, n, (World.cell?_of_block (a := ⟨lb, loff + f, none⟩) (hw.block lb (by omega) (hn lb h2 h4))).trans g1, g2.wr hw (hn mb g3 g5), g3, g4, g5⟩
theorem VLabs.up {w : World} {base B : Nat} {own own' : Nat → Prop} {bv : Value} {v : VirtS} (h : VLabs w base own B bv v) (hu : ∀ k, own' k → own k ∨ B ≤ k) : VLabs w base own' B bv v := by
  obtain ⟨lb, loff, lcap, h1, h2, h3, h4, h5⟩ := h.lie
  have hn : ∀ k, ¬ own k → k < B → ¬ own' k := fun k h1 h2 h3 => (hu k h3).elim h1 (fun h => by omega)
  refine ⟨lb, loff, lcap, h1, hn lb h2 h4, h3, h4, fun f c hf => ?_⟩
  obtain ⟨mb, n, g1, g2, g3, g4, g5⟩ := h5 f c hf
  exact ⟨mb, n, g1, g2, hn mb g3 g5, g4, g5⟩
theorem VLabs.mono {w : World} {base B B' : Nat} {own : Nat → Prop} {bv : Value} {v : VirtS} (h : VLabs w base own B bv v) (hB : B ≤ B') : VLabs w base own B' bv v := by
  obtain ⟨lb, loff, lcap, h1, h2, h3, h4, h5⟩ := h.lie
  refine ⟨lb, loff, lcap, h1, h2, h3, by omega, fun f c hf => ?_⟩
  obtain ⟨mb, n, g1, g2, g3, g4, g5⟩ := h5 f c hf
  exact ⟨mb, n, g1, g2, g3, g4, by omega⟩
/-- What a call answers. -/
def VCallSays (base cb hb : Nat) (fuel : Int) (own : Nat → Prop) (r : Option V × St) (w : World) (e : Ending) (w' : World) : Prop :=
  AnsV r.1 e ∧ ∃ own' : Nat → Prop, (∀ k, own k → own' k) ∧ (∀ k, own' k → own k ∨ w.heap.size ≤ k) ∧ HCs w' base own' cb hb fuel r.2 ∧ Wr own w w'
/-- Calls at so many calls are walked right. -/
def VCallOk (p : VirtS) (fuel c : Int) (R : CallR) : Prop :=
  ∀ (f : Nat) (g : CodeS) (args : List V) (s : St) (base cb hb rb : Nat) (own : Nat → Prop) (P : Value × Value × Value) (gv bv : Value) (AA : Option Addr) (an acap : Nat) (w : World),
    p.funcs[f]? = some g → (args.length : Int) = g.params → HCs w base own cb hb fuel s → VRun w rb cb hb P gv bv p.globs.length → VirtAt w base P p → VLabs w base own w.heap.size bv p → (¬ own rb ∧ base ≤ rb) → (∀ k, gv.ownBlock = some k → ¬ own k ∧ base ≤ k) → GInv fuel s → s.calls = c → p.globs.length < (memBase s.mem).length → (∀ v, v ∈ args → VOk (memBase s.mem).length v) → args.length = an →
    (∀ j v, args[j]? = some v → ∃ b off, AA = some ⟨b, off, none⟩ ∧ b < w.heap.size ∧ ¬ own b ∧ ValCells w b (off + j * 2) v) →
    Calls Try.prog 13 #[.pointer (some ⟨rb, 0, none⟩), .int .i64 f, .slice AA an acap] w fun e w' => VCallSays base cb hb fuel own (R f args s) w e w'
/-- The values of these registers. -/
def argV (tp : List V) (l : List Int) : List V := l.map fun r => tp.getD r.toNat ⟨0, 0⟩
theorem argV_next {tp : List V} {l : List Int} {k : Nat} {r : Int} {v : V} (h : l[k]? = some r) (hv : tp.getD r.toNat ⟨0, 0⟩ = v) : argV tp (l.take (k + 1)) = argV tp (l.take k) ++ [v] := by
  unfold argV
  rw [take_succ_of h, List.map_append, ← hv]
  rfl
theorem evalTs_tmps {M : List MO} {tp : List V} {lo : List Nat} : ∀ l : List Int, evalTs M tp lo (l.map tmpT) = some (argV tp l)
  | [] => by rw [List.map_nil, evalTs]; rfl
  | r :: l => by
    rw [List.map_cons, evalTs, evalT_tmp, evalTs_tmps l]
    rfl

/-- What stands behind a call. -/
def callR (r : Option V × St) (tp : List V) (dst : Int) : Bool × St × List V := match r with | (some v, s') => (true, s', setT tp dst v) | (none, s') => (false, s', tp)
set_option maxRecDepth 100000 in
set_option maxHeartbeats 8000000 in
theorem vcalled_any (base cb hb rb fb tb mb : Nat) (own : Nat → Prop) (P : Value × Value × Value) (gv bv lv : Value) (fuel : Int) (s : St) (tp : List V) (lo : List Nat) (R : CallR) (p : VirtS) (f : Nat) (g : CodeS) (op dst a b : Int) (arg : List Int) (A : Option Addr) (cap : Nat) (w : World)
    (h : HCs w base own cb hb fuel s) (hR : VRun w rb cb hb P gv bv p.globs.length) (hF : VFrame w fb tb tp lv lo mb) (hO : VOff base own rb fb tb lv gv) (hFr : FrOk (memBase s.mem) tp lo p.globs.length) (hI : GInv fuel s)
    (hreg : ∀ r, r ∈ arg → 0 ≤ r ∧ r < tp.length) (hal : arg.length ≤ 1000) (harg : LongsAt w base arg (.slice A arg.length cap)) (hfn : p.funcs[f]? = some g) (hpar : (arg.length : Int) = g.params) (hP : VirtAt w base P p) (hL : VLabs w base own w.heap.size bv p) (hC : VCallOk p fuel s.calls R) (hd : dst = -1 ∨ 0 ≤ dst ∧ dst < (tp.length : Int)) :
    Calls Try.prog 39 #[.pointer (some ⟨rb, 0, none⟩), .pointer (some ⟨fb, 0, none⟩), .agg #[.int .i64 op, .int .i64 dst, .int .i64 a, .int .i64 b, .int .i64 (f : Int), .slice A arg.length cap]] w fun e w' => VSays base cb hb fuel fb tb mb lv lo own (callR (R f (argV tp arg) s) tp dst) w e w' := by
  have hbk := h.blocks
  have hbs : base ≤ w.heap.size := by have := hbk.2.2 cb hbk.1; omega
  obtain ⟨i0, hi, hz0, hz1, hz2⟩ := info_parts val_info
  have HH := Lib.hid h
  have HR := Lib.hid hR
  have HF := Lib.hid hF
  have HO := Lib.hid hO
  have HFR := Lib.hid hFr
  have HI := Lib.hid hI
  have HREG := Lib.hid hreg
  have HARG := Lib.hid harg
  have HFN := Lib.hid (And.intro hfn hpar)
  have HP := Lib.hid hP
  have HL := Lib.hid hL
  have HC := Lib.hid hC
  have HD := Lib.hid hd
  have HBK := Lib.hid hbk
  obtain ⟨n, hn⟩ : ∃ n, n = arg.length := ⟨_, rfl⟩
  have HN := Lib.hid hn
  rw [← hn] at hal ⊢
  have HX0 := Lib.hid (Row.new w #[.int .i64 op, .int .i64 dst, .int .i64 a, .int .i64 b, .int .i64 (f : Int), .slice A n cap] 68)
  have HB1 := Lib.hid (below1 w (.cells #[.int .i64 op, .int .i64 dst, .int .i64 a, .int .i64 b, .int .i64 (f : Int), .slice A n cap] 68))
  have hrb := hR.row.lt
  have hfb := hF.row.lt
  clear h hR hF hO hFr hI hreg harg hfn hpar hP hL hC hd hbk hn
  go_enter Try.func39, Try.ntmps39
  refine wp_letter (fun Q hQ => ?_)
  have HQ := Lib.hid hQ
  clear hQ
  go_wp2_with fail
  go_loopw [7, 15] (fun pv0 i wr => ∃ (k : Nat) (pv : Value), pv = pv0 ∧ k ≤ n ∧ i = .int .i64 k ∧ wr.ownsRow (w.heap.size + 1) 60 2 pv k (flatV (argV tp (arg.take k))) ∧ Below (w.heap.size + 1) (w.alloc (.cells #[.int .i64 op, .int .i64 dst, .int .i64 a, .int .i64 b, .int .i64 (f : Int), .slice A n cap] 68)) wr) (fun _ i _ => n - (intOf i).toNat)
  case atStart => exact ⟨0, _, rfl, by omega, rfl, World.ownsRow_nil _ _ _ _, Below.refl _ _⟩
  case round =>
    obtain ⟨k, pv, rfl, hk, rfl, hown, hbw⟩ := hrel
    have hzw := hbw.size
    simp only [World.size_alloc] at hzw
    by_cases hlt : k < n
    · obtain ⟨ab, aof, r, rfl, hab, hr, hc0, _⟩ := SliceAt.get HARG.out (k := k) (by rw [← HN.out]; exact hlt)
      simp only [Nat.mul_one, Nat.add_zero] at hc0
      obtain ⟨hr0, hr1⟩ := HREG.out r (List.mem_of_getElem? hr)
      obtain ⟨rm, rfl⟩ := Int.eq_ofNat_of_zero_le hr0
      have hbw0 := HB1.out.trans (hbw.mono (show w.heap.size ≤ w.heap.size + 1 by omega))
      have HBW := Lib.hid hbw0
      have HOWN := Lib.hid hown
      have HR1 := Lib.hid hr
      have hF1 := HF.out.below hbw0
      have ft := hF1.row.cell (j := 0) rfl
      have hfb1 := hF1.row.lt
      have htb1 := hF1.lt.2
      obtain ⟨v, hv⟩ : ∃ v, tp[rm]? = some v := ⟨_, List.getElem?_eq_getElem (by omega)⟩
      obtain ⟨cs, htr, hvi⟩ := id hF1.temps
      obtain ⟨tv0, tv1⟩ := hvi.2 rm v hv
      have t0 := htr.cell tv0
      have t1 := htr.cell tv1
      have hgd : tp.getD (rm : Int).toNat ⟨0, 0⟩ = v := by rw [Int.toNat_natCast, List.getD_eq_getElem?_getD, hv]; rfl
      have HGD := Lib.hid hgd
      have c0 := cell_below hc0 (hbw0.mono (show base ≤ w.heap.size from hbs)) hab
      have habl : ab < wr.heap.size := by omega
      have hklt : (k : Int) < (n : Int) := by omega
      have hk0 : (0 : Int) ≤ (k : Int) := by omega
      have htpl : (tp.length : Int) ≤ 1000000 := by have := hF1.few; omega
      have hlen := HOWN.out.1
      clear hown hbw0 hF1 hvi tv0 tv1 htr hv hgd hr hc0 hlen
      go_wp2_with (at_builtin; refine wpList_append_lies _ rfl (.tmp 19) (.tmp 27) 49 rfl (w.heap.size + 1) 60 i0 (.agg #[.int .i64 0, .int .i64 0]) 2 16 Try.underlying49 hi hz0 hz1 hz2 rfl (by decide) _ _ _ rfl (ownsRow_wr HOWN.out (Wr.of_below (F := fun _ => False) (below1 wr _)) (fun _ _ h => h)) ⟨wr.heap.size, 0, none⟩ 1 1 [.int .i64 v.obj, .int .i64 v.n] rfl rfl ?c1 ?c2 ?c3 ?c4 ?c5 ?c6 (wr.heap.size + 1) (by simp) ?_)
      case c1 => exact pair_cells _ _ _ _ _ rfl
      case c2 => exact pair_one _ _
      case c3 => omega
      case c4 => unfold maxLen; omega
      case c5 => omega
      case c6 => simp; omega
      · intro gg cap3 w2 hown2 hgrow hat hlt2
        have HB2 := Lib.hid ((hbw.trans ((below1 wr (.cells #[.int .i64 v.obj, .int .i64 v.n] 60)).mono (by omega))).grown hgrow (by simp; omega) (fun g hg => (HOWN.out.lt g hg).1))
        have HO2 := Lib.hid hown2
        clear hown2 hgrow hat
        go_wp2_with fail
        go_roundw
        case rel => exact ⟨k + 1, _, rfl, by omega, by go_num, by rw [argV_next HR1.out HGD.out, flatV_append]; exact HO2.out, HB2.out⟩
        case measure => simp [intOf]; omega
    · obtain rfl : k = n := by omega
      have hlen : (argV tp arg).length = k := by unfold argV; rw [List.length_map]; exact HN.out.symm
      rw [show arg.take k = arg from by rw [HN.out, List.take_length]] at hown
      have hbw0 := HB1.out.trans (hbw.mono (show w.heap.size ≤ w.heap.size + 1 by omega))
      have HBW := Lib.hid hbw0
      obtain ⟨PA, pcap, hpv, hpr, hpp⟩ := rowV_own hown hlen
      subst hpv
      have hargs : ∀ W, Below wr.heap.size wr W → ∀ j v, (argV tp arg)[j]? = some v → ∃ b off, PA = some ⟨b, off, none⟩ ∧ b < W.heap.size ∧ ¬ own b ∧ ValCells W b (off + j * 2) v := by
        intro W hW j v hj
        obtain ⟨b, off, h1, h2, h3, h4⟩ := hpp j v hj
        have hbn := (hown.lt b h3).1
        exact ⟨b, off, h1, by have := hW.size; omega, fun ho => by have := (HBK.out.2.2 b ho).2; omega, h4.below hW h2⟩
      have hvok : ∀ v, v ∈ argV tp arg → VOk (memBase s.mem).length v := by
        intro v hv
        unfold argV at hv
        obtain ⟨r, hr, rfl⟩ := List.mem_map.1 hv
        obtain ⟨h0, h1⟩ := HREG.out r hr
        have hlt : r.toNat < tp.length := by omega
        exact HFR.out.temps _ (by rw [List.getD_eq_getElem?_getD, List.getElem?_eq_getElem hlt]; exact List.getElem_mem hlt)
      have HCL := Lib.hid (fun W (hW : Below wr.heap.size wr W) => HC.out f g (argV tp arg) s base cb hb rb own P gv bv PA k pcap W HFN.out.1 (by rw [hlen, HN.out]; exact HFN.out.2) (HH.out.below (hbw0.trans (hW.mono hbw0.size))) (HR.out.below (hbw0.trans (hW.mono hbw0.size))) (HP.out.below ((hbw0.trans (hW.mono hbw0.size)).mono hbs))
        ((HL.out.wr (Wr.of_below (F := fun _ => False) (hbw0.trans (hW.mono hbw0.size))) (fun _ h => h.elim) (Nat.le_refl _)).mono (hbw0.trans (hW.mono hbw0.size)).size) HO.out.orb (fun q hq => ⟨(HO.out.ogv q hq).1, (HO.out.ogv q hq).2.1⟩) HI.out rfl HFR.out.globs hvok hlen (hargs W hW))
      have hx1 := HX0.out.below hbw (by simp)
      have x4 := hx1.cell (j := 4) rfl
      have x1 := hx1.cell (j := 1) rfl
      have hxl := hx1.lt
      clear hown hpr hpp hargs hvok hlen hbw0 hx1
      obtain ⟨rr, hrr⟩ : ∃ rr, rr = R f (argV tp arg) s := ⟨_, rfl⟩
      rw [← hrr] at HCL HQ
      clear hrr
      obtain ⟨ro, s2⟩ := rr
      cases ro with
      | none =>
        simp only [callR] at HQ
        go_wp2_with fail
        refine (HCL.out _ (Below.refl _ _)).mono ?_
        intro e w3 hS
        obtain ⟨⟨y0, y1, rfl⟩, own', h1, h2, h3, h4⟩ := hS
        have HH3 := Lib.hid (And.intro h1 (And.intro h2 h3))
        have HW3 := Lib.hid h4
        have hbx := (below1 w3 (.cells #[.int .i64 y0, .int .i64 y1] 60))
        have HBX := Lib.hid hbx
        clear h1 h2 h3 h4 hbx
        go_wp2_with fail
        refine HQ.out _ _ _ ?_
        exact bodyPost_ret (v := .bool false) (by simp [results, Try.results39, go_sem]) rfl ⟨rfl, own', HH3.out.1, fun q hq => (HH3.out.2.1 q hq).imp id (fun h => Nat.le_trans HBW.out.size h), HH3.out.2.2.below HBX.out, fun h => (by cases h), ((Wr.of_below (F := fun b => own b ∨ b = tb) HBW.out).trans HW3.out (fun i hi => Or.inl (Or.inl hi))).trans (Wr.of_below (F := fun _ => False) HBX.out) (fun _ h => h.elim)⟩
      | some v =>
        simp only [callR] at HQ
        rcases HD.out with rfl | ⟨hd0, hd1⟩
        · go_wp2_with fail
          refine (HCL.out _ (Below.refl _ _)).mono ?_
          intro e w3 hS
          obtain ⟨he, own', h1, h2, h3, h4⟩ := hS
          simp only [AnsV, ansV] at he
          subst he
          have hX3 := (HX0.out.below hbw (by simp)).wr h4 (fun ho => by have := (HBK.out.2.2 _ ho).2; omega)
          have z1 := hX3.cell (j := 1) rfl
          have zl := hX3.lt
          have HF3 := Lib.hid ((HF.out.below HBW.out).wr h4 HO.out.ofb.1 HO.out.otb.1 (fun q hq => (HO.out.olv q hq).1))
          have HH3 := Lib.hid (And.intro h1 (And.intro h2 h3))
          have HW3 := Lib.hid h4
          have HBX := Lib.hid (below1 w3 (.cells #[.int .i64 v.obj, .int .i64 v.n] 60))
          clear h1 h2 h3 h4 hX3
          go_wp2_with fail
          refine HQ.out _ _ _ ?_
          exact bodyPost_ret (v := .bool true) (by simp [results, Try.results39, go_sem]) rfl ⟨rfl, own', HH3.out.1, fun q hq => (HH3.out.2.1 q hq).imp id (fun h => Nat.le_trans HBW.out.size h), HH3.out.2.2.below HBX.out, fun _ => HF3.out.below HBX.out, ((Wr.of_below (F := fun b => own b ∨ b = tb) HBW.out).trans HW3.out (fun i hi => Or.inl (Or.inl hi))).trans (Wr.of_below (F := fun _ => False) HBX.out) (fun _ h => h.elim)⟩
        · obtain ⟨m, rfl⟩ := Int.eq_ofNat_of_zero_le hd0
          have hmt : m < tp.length := by omega
          go_wp2_with fail
          refine (HCL.out _ (Below.refl _ _)).mono ?_
          intro e w3 hS
          obtain ⟨he, own', h1, h2, h3, h4⟩ := hS
          simp only [AnsV, ansV] at he
          subst he
          have hX3 := (HX0.out.below hbw (by simp)).wr h4 (fun ho => by have := (HBK.out.2.2 _ ho).2; omega)
          have z1 := hX3.cell (j := 1) rfl
          have zl := hX3.lt
          have hF3 := (HF.out.below HBW.out).wr h4 HO.out.ofb.1 HO.out.otb.1 (fun q hq => (HO.out.olv q hq).1)
          have ft := hF3.row.cell (j := 0) rfl
          have hfb3 := hF3.row.lt
          have htb3 := hF3.lt.2
          obtain ⟨cs, htr, hvi⟩ := id hF3.temps
          obtain ⟨tv0, tv1⟩ := hvi.2 m _ (List.getElem?_eq_getElem hmt)
          have t0 := htr.cell tv0
          have t1 := htr.cell tv1
          have t2 := htr.free (m * 2)
          have t3 := htr.free (m * 2 + 1)
          have hfb4 : fb < w3.heap.size + 1 := by omega
          have htb4 : tb < w3.heap.size + 1 := by omega
          have htne : ¬ tb = w3.heap.size := by omega
          have hxl4 : w.heap.size < w3.heap.size + 1 := by omega
          have hm0 : (0 : Int) ≤ (m : Int) := by omega
          have hm1 : (m : Int) < (tp.length : Int) := by omega
          have htpl : (tp.length : Int) ≤ 1000000 := by have := hF3.few; omega
          have HF3 := Lib.hid hF3
          have HH3 := Lib.hid (And.intro h1 (And.intro h2 h3))
          have HW3 := Lib.hid h4
          have HTB := Lib.hid (show ¬ own' tb from fun ho => (h2 tb ho).elim HO.out.otb.1 (fun h => by have := HBW.out.size; have := HF.out.lt.2; omega))
          clear h1 h2 h3 h4 hX3 hvi tv0 tv1 htr hF3
          go_wp2_with fail
          refine still_tailq 8 (by kernel_rfl) (by kernel_rfl) ?_
          simp only [List.take_succ_cons, List.take_zero, List.drop_succ_cons, List.drop_zero]
          repeat (go_big_quiet_step (fail))
          refine wpQuiet_nil ?_
          go_wp2_with fail
          refine HQ.out _ _ _ ?_
          have hwp := wr_pair w3 tb (m * 2) (m * 2 + 1) (.int .i64 v.obj) (.int .i64 v.n)
          have hbz := (below1 ((w3.setCell ⟨tb, m * 2, none⟩ (.int .i64 v.obj)).setCell ⟨tb, m * 2 + 1, none⟩ (.int .i64 v.n)) (.cells #[.int .i64 v.obj, .int .i64 v.n] 60)).drew
          exact bodyPost_ret (v := .bool true) (by simp [results, Try.results39, go_sem]) rfl ⟨rfl, own', HH3.out.1, fun q hq => (HH3.out.2.1 q hq).imp id (fun h => Nat.le_trans HBW.out.size h), (HH3.out.2.2.wr hwp (fun q hq => (by subst hq; exact ⟨HO.out.otb.2, HTB.out⟩))).below hbz, fun _ => by rw [setT_natV]; exact (HF3.out.set m v).below hbz,
            (((Wr.of_below (F := fun b => own b ∨ b = tb) HBW.out).trans HW3.out (fun i hi => Or.inl (Or.inl hi))).trans hwp (fun i hi => Or.inl (Or.inr hi))).trans (Wr.of_below (F := fun _ => False) hbz) (fun _ h => h.elim)⟩
end Go.Proofs.Ytinmgbodgecoeaa
