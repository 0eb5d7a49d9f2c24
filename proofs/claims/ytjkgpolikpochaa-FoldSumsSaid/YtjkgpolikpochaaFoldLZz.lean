/- FoldTrees: true of any trees. Conditions: as stated. -/
import Derived.Test.YtjkgpolikpochaaQ07Zz
import Derived.Test.YtjkgpolikpochaaSameZz
import Derived.Test.YtjkgpolikpochaaHeavyZz
import Derived.Test.YtjkgpolikpochaaQ09Zz
set_option linter.unusedVariables false
set_option linter.unusedSimpArgs false
namespace Go.Proofs.Ytjkgpolikpochaa
open Go.RowKit

theorem StrsAt.below {w w' : World} {B B' : Nat} {ss : List ByteArray} {A : Option Addr} {n : Nat} (h : StrsAt w B ss A n) (hb : Below B w w') (hB : B ≤ B') : StrsAt w' B' ss A n := by
  obtain ⟨h1, h2, h3, h4⟩ := h
  refine ⟨h1, h2, h3, fun hp => ?_⟩
  obtain ⟨b, off, e, hlt, hc⟩ := h4 hp
  exact ⟨b, off, e, by omega, fun i s hi => (hb.cell (p := ⟨b, off + i, none⟩) hlt).trans (hc i s hi)⟩

/-- One of the trees that are asked, as memory grows. -/
structure RT (w W : World) (B b off k tn tc : Nat) (sv : Value) (t : T) (A : Option Addr) (an ac : Nat) : Prop where
  box : Row W w.heap.size #[.slice (some ⟨b, off, none⟩) tn tc, sv] 25
  c0 : W.cell? ⟨b, off + k * 3, none⟩ = some (.int .i64 t.op)
  c1 : W.cell? ⟨b, off + k * 3 + 1, none⟩ = some (.int .i64 t.n)
  c2 : W.cell? ⟨b, off + k * 3 + 2, none⟩ = some (.slice A an ac)
  tree : TreeAt W (Under B) t (.int .i64 t.op) (.int .i64 t.n) (.slice A an ac)
  below : Below w.heap.size w W
  lt : w.heap.size < W.heap.size
  blt : b < w.heap.size
  ble : B ≤ w.heap.size
theorem RT.grow {w W W' : World} {B b off k tn tc : Nat} {sv : Value} {t : T} {A : Option Addr} {an ac : Nat} (h : RT w W B b off k tn tc sv t A an ac) (hb : Below W.heap.size W W') : RT w W' B b off k tn tc sv t A an ac :=
  ⟨h.box.below hb h.lt, cell_below h.c0 hb (by have := h.blt; have := h.lt; omega), cell_below h.c1 hb (by have := h.blt; have := h.lt; omega), cell_below h.c2 hb (by have := h.blt; have := h.lt; omega),
    h.tree.below (hb.mono (by have := h.ble; have := h.lt; omega)) (Nat.le_refl _), h.below.trans (hb.mono h.below.size), Nat.lt_of_lt_of_le h.lt hb.size, h.blt, h.ble⟩
/-- A box with a tree. -/
structure BoxT (W : World) (p : Nat) (t : T) (A : Option Addr) (n c : Nat) : Prop where
  row : Row W p #[.int .i64 t.op, .int .i64 t.n, .slice A n c] 28
  tree : TreeAt W (Under W.heap.size) t (.int .i64 t.op) (.int .i64 t.n) (.slice A n c)
theorem BoxT.grow {W W' : World} {p : Nat} {t : T} {A : Option Addr} {n c : Nat} (h : BoxT W p t A n c) (hb : Below W.heap.size W W') : BoxT W' p t A n c :=
  ⟨h.row.below hb h.row.lt, h.tree.below hb hb.size⟩
theorem OwnT.grow {W W' : World} {t : T} {L H : Nat} {v0 v1 v2 : Value} (h : OwnT W (fun i => L ≤ i ∧ i < H) t v0 v1 v2) (hH : H ≤ W.heap.size) (hb : Below W.heap.size W W') : OwnT W' (fun i => L ≤ i ∧ i < H) t v0 v1 v2 :=
  OwnT.keep t h (fun i hi => hb.block i (by omega))

theorem TreeAt.root {w : World} {C : Nat → Nat → Prop} {t : T} {v0 v1 v2 : Value} (h : TreeAt w C t v0 v1 v2) : ∃ A n c, v0 = .int .i64 t.op ∧ v1 = .int .i64 t.n ∧ v2 = .slice A n c := by
  cases t with
  | node op n ks =>
    rw [TreeAt] at h
    obtain ⟨h0, h1, _, _, _, A, c, h2, _⟩ := h
    exact ⟨A, _, c, h0, h1, h2⟩
theorem RT.tree' {w W : World} {B b off k tn tc : Nat} {sv : Value} {t : T} {A : Option Addr} {an ac : Nat} (h : RT w W B b off k tn tc sv t A an ac) : TreeAt W (Under W.heap.size) t (.int .i64 t.op) (.int .i64 t.n) (.slice A an ac) :=
  h.tree.below (Below.refl _ _) (by have := h.ble; have := h.lt; omega)
theorem eq_self {W : World} {t : T} {v0 v1 v2 u0 u1 u2 : Value} (h : TreeAt W (Under W.heap.size) t v0 v1 v2) (h' : TreeAt W (Under W.heap.size) t u0 u1 u2) :
    Calls Try.prog 14 #[.agg #[v0, v1, v2], .agg #[u0, u1, u2]] W fun e w' => e = .returned (.bool true) ∧ Below W.heap.size W w' := by
  have hh := eqTree_all _ t t W.heap.size W v0 v1 v2 u0 u1 u2 (Nat.le_refl _) (Nat.le_refl _) h h'
  rw [yes_true rfl] at hh
  exact hh
theorem pure_true {W : World} {t : T} {v0 v1 v2 : Value} (hp : pureB t = true) (h : TreeAt W (Under W.heap.size) t v0 v1 v2) :
    Calls Try.prog 15 #[.agg #[v0, v1, v2]] W fun e w' => e = .returned (.bool true) ∧ Below W.heap.size W w' := by
  have hh := pure_all _ t W.heap.size W v0 v1 v2 (Nat.le_refl _) (Nat.le_refl _) h
  rw [hp] at hh
  exact hh
theorem pure_false {W : World} {t : T} {v0 v1 v2 : Value} (hp : pureB t = false) (h : TreeAt W (Under W.heap.size) t v0 v1 v2) :
    Calls Try.prog 15 #[.agg #[v0, v1, v2]] W fun e w' => e = .returned (.bool false) ∧ Below W.heap.size W w' := by
  have hh := pure_all _ t W.heap.size W v0 v1 v2 (Nat.le_refl _) (Nat.le_refl _) h
  rw [hp] at hh
  exact hh
theorem one_row {w : World} {L H : Nat} {t : T} {v0 v1 v2 : Value} (h : OwnT w (fun i => L ≤ i ∧ i < H) t v0 v1 v2) (hH : H ≤ w.heap.size) (hL : L ≤ w.heap.size) :
    RowAt L (w.alloc (.cells #[v0, v1, v2] 28)) (.slice (some ⟨w.heap.size, 0, none⟩) 1 1) 1 [t] [v0, v1, v2] (fun i => L ≤ i ∧ i < H) := by
  refine ⟨World.ownsRow_lit w #[v0, v1, v2] 1 hL (by unfold maxLen; omega) rfl, ?_, fun i hi => ⟨hi.1, by simp; omega, by simp [Value.ownBlock]; omega⟩⟩
  rw [OwnL]
  refine ⟨v0, v1, v2, [], fun i => L ≤ i ∧ i < H, fun _ => False, rfl, fun i hi => ⟨hi, fun h => h⟩, fun i hi => hi.elim, OwnT.keep t h (fun i hi => (below1 w _).block i (by omega)), by rw [OwnL]⟩
theorem spoil_end {w wc : World} {B b off k tn tc : Nat} {sv : Value} {t : T} {A : Option Addr} {an ac : Nat} (hr : RT w wc B b off k tn tc sv t A an ac) {p L H : Nat} {f : T} {x0 x1 x2 : Value}
    (hO : OwnT wc (fun i => L ≤ i ∧ i < H) f x0 x1 x2) (hp : w.heap.size < p) (hpL : p < L) (hL : L ≤ wc.heap.size) (hH : H ≤ wc.heap.size) (q0 q1 q2 : Value) :
    Calls Try.prog 18 #[.slice (some ⟨wc.heap.size, 0, none⟩) 1 1] ((((wc.setCell ⟨p, 0, none⟩ q0).setCell ⟨p, 1, none⟩ q1).setCell ⟨p, 2, none⟩ q2).alloc (.cells #[x0, x1, x2] 28))
      fun e w' => e = .returned (.tuple #[]) ∧ Row w' w.heap.size #[.slice (some ⟨b, off, none⟩) tn tc, sv] 25 ∧ Below w.heap.size w w' ∧ w.heap.size < w'.heap.size := by
  have hw : Wr (fun i => i = p) wc (((wc.setCell ⟨p, 0, none⟩ q0).setCell ⟨p, 1, none⟩ q1).setCell ⟨p, 2, none⟩ q2) := (((Wr.refl (fun i => i = p) wc).setR p 0 q0 (Or.inl rfl)).setR p 1 q1 (Or.inl rfl)).setR p 2 q2 (Or.inl rfl)
  have hsz : (((wc.setCell ⟨p, 0, none⟩ q0).setCell ⟨p, 1, none⟩ q1).setCell ⟨p, 2, none⟩ q2).heap.size = wc.heap.size := by simp
  generalize (((wc.setCell ⟨p, 0, none⟩ q0).setCell ⟨p, 1, none⟩ q1).setCell ⟨p, 2, none⟩ q2) = WS at hw hsz ⊢
  have hrow := one_row (OwnT.keep f hO (fun i hi => hw.block i (by omega) (by omega))) (by omega : H ≤ WS.heap.size) (by omega)
  rw [hsz] at hrow
  refine (spoil_all _ [f] _ _ _ L _ (Nat.le_refl _) hrow).mono ?_
  rintro e w' ⟨rfl, hs⟩
  have hlt := hr.lt
  have hal : Wr (fun _ => False) WS (WS.alloc (.cells #[x0, x1, x2] 28)) := Wr.of_below (below1 _ _)
  have hall : Wr (fun i => i = p ∨ (L ≤ i ∧ i < H) ∨ i = wc.heap.size) wc w' :=
    ((hw.mono (G := fun i => i = p ∨ (L ≤ i ∧ i < H) ∨ i = wc.heap.size) (fun i h => Or.inl (Or.inl h))).trans hal (fun _ h => h.elim)).trans hs (fun i h => by
      rcases h with h | h
      · exact Or.inl (Or.inr (Or.inl h))
      · simp only [Value.ownBlock, Option.some.injEq] at h; exact Or.inl (Or.inr (Or.inr h.symm)))
  have hz := hall.size
  exact ⟨rfl, hr.box.wr hall (by omega), hr.below.trans (hall.below hr.below.size (fun i h => by have := hr.below.size; omega)), by omega⟩
theorem zero_tree {w : World} {C : Nat → Nat → Prop} : TreeAt w C (.node 0 0 []) (.int .i64 0) (.int .i64 0) (.slice none 0 0) := TreeAt.leaf (i64c (by omega) (by omega)) (i64c (by omega) (by omega))

set_option maxRecDepth 100000 in
set_option maxHeartbeats 8000000 in
theorem trees_any (ts : List T) (ss : List ByteArray) (TA SA : Option Addr) (tn tc sn sc B : Nat) (w : World) (hB : B ≤ w.heap.size) (hT : KidsV w B ts TA tn) (htn : tn ≤ 140737488355328) (hS : StrsAt w B ss SA sn) :
    Calls Try.prog 3 #[.agg #[.slice TA tn tc, .slice SA sn sc]] w fun e w' => e = .returned (.bool true) ∧ Below w.heap.size w w' := by
  have HT := Lib.hid hT
  have HS := Lib.hid hS
  have HTL := Lib.hid hT.1
  clear hT hS
  go_enter Try.func3, Try.ntmps3
  refine wp_letter (fun Q hQ => ?_)
  have HQ := Lib.hid hQ
  clear hQ
  go_wp2_with fail
  refine (heavy_any ts ss TA SA tn tc sn sc B _ (by simp; omega) (HT.out.below ((below1 _ _).mono hB) (Nat.le_refl _)) htn (HS.out.below ((below1 _ _).mono hB) (Nat.le_refl _))).mono ?_
  rintro e w1 ⟨rfl, hb1⟩
  have HB1 := Lib.hid ((below1 w _).trans (hb1.mono (by simp)))
  have HRB := Lib.hid ((Row.new w _ _).below hb1 (by simp))
  have hz1 : w.heap.size < w1.heap.size := by have := hb1.size; simp at this; omega
  clear hb1
  cases hh : heavyB ts ss with
  | true =>
    go_wp2_with fail
    refine HQ.out _ _ _ ?_
    refine bodyPost_ret (v := .bool true) (by simp [results, Try.results3, go_sem]) rfl ⟨rfl, HB1.out⟩
  | false =>
    have HSZ := Lib.hid (heavy_no hh)
    clear hh
    go_wp2_with fail
    go_loopw [3] (fun i wr => ∃ k : Nat, k ≤ tn ∧ k ≤ 8 ∧ i = .int .i64 k ∧ Row wr w.heap.size #[.slice TA tn tc, .slice SA sn sc] 25 ∧ Below w.heap.size w wr ∧ w.heap.size < wr.heap.size) (fun i _ => 8 - (intOf i).toNat)
    case atStart => exact ⟨0, by omega, by omega, rfl, HRB.out, HB1.out, hz1⟩
    case round =>
      obtain ⟨k, hk2, hk8, rfl, hrow, hbw, hzl⟩ := hrel
      have b0 := hrow.cell (j := 0) rfl
      have b1 := hrow.cell (j := 1) rfl
      have HRW := Lib.hid hrow
      have HBW := Lib.hid hbw
      have hzw := hbw.size
      clear hrow hbw
      by_cases hgo : k < tn ∧ k < 8
      · obtain ⟨hlt, hlt8⟩ := hgo
        obtain ⟨b, off, t, v0, v1, v2, rfl, hbB, hkk, c0, c1, c2, ht⟩ := (HT.out.below (HBW.out.mono hB) (Nat.le_refl _)).get hlt
        obtain ⟨A, an, ac, rfl, rfl, rfl⟩ := ht.root
        have hsz := T.sizes_get hkk
        have hsz2 := HSZ.out.1
        have HR := Lib.hid (⟨HRW.out, c0, c1, c2, ht, HBW.out, hzl, by omega, hB⟩ : RT w wr B b off k tn tc (.slice SA sn sc) t A an ac)
        have hklt : (k : Int) < (tn : Int) := by omega
        have hk0 : (0 : Int) ≤ (k : Int) := by omega
        have d1 : decide ((k : Int) < (tn : Int)) = true := by simpa using hlt
        have d2 : decide ((k : Int) < 8) = true := by simp; omega
        have d3 : decide (k < tn) = true := by simpa using hlt
        clear hkk ht
        go_wp2_with fail
        refine (copy_all t.size t B wr _ _ _ (Nat.le_refl _) (by omega) (by omega) HR.out.tree).mono ?_
        rintro e w2 ⟨u0, u1, u2, rfl, hO, hb2⟩
        obtain ⟨IA, il, ic, rfl, rfl, rfl, _, _⟩ := hO.shape
        have HI := Lib.hid (⟨Row.new _ _ _, (OwnT.tree _ hO (fun i hi => hi.2)).below (below1 _ _) (by simp)⟩ : BoxT (w2.alloc (.cells #[.int .i64 t.op, .int .i64 t.n, .slice IA il ic] 28)) w2.heap.size t IA il ic)
        have HR2 := Lib.hid ((HR.out.grow hb2).grow (below1 _ (.cells #[.int .i64 t.op, .int .i64 t.n, .slice IA il ic] 28)))
        have hw2 : w.heap.size < w2.heap.size := (HR.out.grow hb2).lt
        clear b0 b1 c0 c1 c2 hO hb2
        go_wp2_with fail
        by_cases hm : mayB t = true
        · have HM := Lib.hid hm
          obtain ⟨hok, hts⟩ := may_iff.1 hm
          clear hm
          refine (fold_yes t _ _ _ _ _ (Nat.le_refl _) HI.out.tree HM.out).mono ?_
          rintro e w3 ⟨x0, x1, x2, rfl, hO, hb3⟩
          obtain ⟨XA, xl, xc, rfl, rfl, rfl, _, _⟩ := hO.shape
          have hfs := fold_size t
          have HF := Lib.hid (fold_with (t := t))
          have HFO := Lib.hid (fun n => fold_out (t := t) (n := n))
          have HPU := Lib.hid (pure_fold t hok)
          have hmf : mayB (foldT t) = true := may_iff.2 ⟨fold_ok t hok, by omega⟩
          have HMF := Lib.hid hmf
          have hfs2 := fold_size (foldT t)
          have HMFF := Lib.hid (may_iff.2 ⟨fold_ok _ (may_iff.1 hmf).1, by omega⟩ : mayB (foldT (foldT t)) = true)
          obtain ⟨f, hf⟩ : ∃ f, f = foldT t := ⟨_, rfl⟩
          rw [← hf] at HF HFO HPU HMF HMFF hfs hfs2 hO ⊢
          have HX := Lib.hid (⟨Row.new _ _ _, (OwnT.tree _ hO (fun i hi => hi.2)).below (below1 _ _) (by simp)⟩ : BoxT (w3.alloc (.cells #[.int .i64 f.op, .int .i64 f.n, .slice XA xl xc] 28)) w3.heap.size f XA xl xc)
          have HO := Lib.hid (hO.grow (Nat.le_refl _) (below1 _ (.cells #[.int .i64 f.op, .int .i64 f.n, .slice XA xl xc] 28)))
          have HR3 := Lib.hid ((HR2.out.grow hb3).grow (below1 _ (.cells #[.int .i64 f.op, .int .i64 f.n, .slice XA xl xc] 28)))
          have HI3 := Lib.hid ((HI.out.grow hb3).grow (below1 _ (.cells #[.int .i64 f.op, .int .i64 f.n, .slice XA xl xc] 28)))
          have b0 := HR3.out.box.cell (j := 0) rfl
          have c0 := HR3.out.c0
          have c1 := HR3.out.c1
          have c2 := HR3.out.c2
          have hz3 := hb3.size
          clear hb3 hO hf hmf
          go_wp2_with fail
          refine (tree_cnt t B _ _ _ _ (by have := HR3.out.lt; have := HR3.out.ble; omega) HR3.out.tree).mono ?_
          rintro e w4 ⟨rfl, hb4⟩
          rw [treeC_size HM.out]
          have HX4 := Lib.hid (HX.out.grow hb4)
          have HO4 := Lib.hid (HO.out.grow (by simp) hb4)
          have HR4 := Lib.hid (HR3.out.grow hb4)
          have HI4 := Lib.hid (HI3.out.grow hb4)
          have x0 := HX4.out.row.cell (j := 0) rfl
          have x1 := HX4.out.row.cell (j := 1) rfl
          have x2 := HX4.out.row.cell (j := 2) rfl
          have hz4 := hb4.size
          clear hb4 b0 c0 c1 c2 HX HO HR3 HI3
          go_wp2_with fail
          refine (tree_cnt f _ _ _ _ _ (Nat.le_refl _) HX4.out.tree).mono ?_
          rintro e w5 ⟨rfl, hb5⟩
          rw [treeC_size HMF.out]
          have HX5 := Lib.hid (HX4.out.grow hb5)
          have HO5 := Lib.hid (HO4.out.grow (by simp at hz4; omega) hb5)
          have HR5 := Lib.hid (HR4.out.grow hb5)
          have HI5 := Lib.hid (HI4.out.grow hb5)
          have hz5 := hb5.size
          have b0 := HR5.out.box.cell (j := 0) rfl
          have c0 := HR5.out.c0
          have c1 := HR5.out.c1
          have c2 := HR5.out.c2
          have i0 := HI5.out.row.cell (j := 0) rfl
          have i1 := HI5.out.row.cell (j := 1) rfl
          have i2 := HI5.out.row.cell (j := 2) rfl
          clear hb5 x0 x1 x2 HX4 HO4 HR4 HI4
          go_wp2_with fail
          have HE := Lib.hid (fun (W : World) (hb : Below w5.heap.size w5 W) => eq_self (HI5.out.grow hb).tree (HR5.out.grow hb).tree')
          have hs1 : decide (t.size < f.size) = false := by simp; omega
          have hs2 : decide ((t.size : Int) < (f.size : Int)) = false := by simp; omega
          have g1 : w.heap.size < w5.heap.size := HR5.out.lt
          have g2 : b < w5.heap.size := by have := HR5.out.blt; omega
          have g3 : w2.heap.size < w5.heap.size := HI5.out.row.lt
          refine region_grow (by kernel_rfl) (by kernel_rfl) (fun hGG => ?_)
          repeat (go_big_quiet_step (first | (go_at_call 13; exact call_grow_same (lnum_any _ _)) | (go_at_call 14; exact call_grow (HE.out _ (grow_below (Below.refl _ _) (Nat.le_refl _) _)))))
          refine wpQuiet_nil ?_
          rintro ⟨w6, hb6⟩
          simp only []
          have HX6 := Lib.hid (HX5.out.grow hb6)
          have HO6 := Lib.hid (HO5.out.grow (by simp at hz4; omega) hb6)
          have HR6 := Lib.hid (HR5.out.grow hb6)
          have HI6 := Lib.hid (HI5.out.grow hb6)
          have hz6 := hb6.size
          clear hb6 hGG b0 c0 c1 c2 i0 i1 i2 HX5 HO5 HR5 HI5 HE g1 g2 g3
          go_wp2_with fail
          have b0 := HR6.out.box.cell (j := 0) rfl
          have c0 := HR6.out.c0
          have c1 := HR6.out.c1
          have c2 := HR6.out.c2
          have x0 := HX6.out.row.cell (j := 0) rfl
          have x1 := HX6.out.row.cell (j := 1) rfl
          have x2 := HX6.out.row.cell (j := 2) rfl
          have g1 : w.heap.size < w6.heap.size := HR6.out.lt
          have g2 : b < w6.heap.size := by have := HR6.out.blt; omega
          have g3 : w3.heap.size < w6.heap.size := HX6.out.row.lt
          have hpp : pureB t = true ∨ pureB t = false := by cases pureB t <;> simp
          rcases hpp with hpp | hpp
          case' inl =>
            obtain ⟨hvo, hfe⟩ := HPU.out hpp
            have HPR := Lib.hid (fun (W : World) (hb : Below w6.heap.size w6 W) => pure_true hpp (HR6.out.grow hb).tree')
            have HEV := Lib.hid (fun (W : World) (hb : Below w6.heap.size w6 W) => eval_all _ t W.heap.size W _ _ _ (Nat.le_refl _) (Nat.le_refl _) (HR6.out.grow hb).tree' hvo)
            have HIN := Lib.hid (val_in64 t HR6.out.tree.tin hvo)
            have HFE := Lib.hid hfe
            have HE := Lib.hid (fun (W : World) (hb : Below w6.heap.size w6 W) => eq_self (t := f) (HX6.out.grow hb).tree (u0 := .int .i64 1) (u1 := .int .i64 (valT t)) (u2 := .slice none 0 0) (by rw [HFE.out]; exact TreeAt.leaf (i64c (by omega) (by omega)) HIN.out))
            clear hpp hvo hfe
            refine region_grow (by kernel_rfl) (by kernel_rfl) (fun hGG => ?_)
            repeat (go_big_quiet_step (first | (go_at_call 15; exact call_grow (HPR.out _ (grow_below (Below.refl _ _) (Nat.le_refl _) _))) | (go_at_call 16; exact call_grow (HEV.out _ (grow_below (Below.refl _ _) (Nat.le_refl _) _))) | (go_at_call 14; exact call_grow (HE.out _ (grow_below (Below.refl _ _) (Nat.le_refl _) _)))))
            refine wpQuiet_nil ?_
            rintro ⟨w7, hb7⟩
            simp only []
            clear hGG HPR HEV HIN HFE HE
          case' inr =>
            have HPR := Lib.hid (fun (W : World) (hb : Below w6.heap.size w6 W) => pure_false hpp (HR6.out.grow hb).tree')
            clear hpp
            refine region_grow (by kernel_rfl) (by kernel_rfl) (fun hGG => ?_)
            repeat (go_big_quiet_step (first | (go_at_call 15; exact call_grow (HPR.out _ (grow_below (Below.refl _ _) (Nat.le_refl _) _)))))
            refine wpQuiet_nil ?_
            rintro ⟨w7, hb7⟩
            simp only []
            clear hGG HPR
          all_goals
            have HX7 := Lib.hid (HX6.out.grow hb7)
            have HO7 := Lib.hid (HO6.out.grow (by simp at hz4; omega) hb7)
            have HR7 := Lib.hid (HR6.out.grow hb7)
            have HI7 := Lib.hid (HI6.out.grow hb7)
            have hz7 := hb7.size
            clear hb7 b0 c0 c1 c2 x0 x1 x2 HX6 HO6 HR6 HI6 g1 g2 g3
            go_wp2_with fail
            have HR8 := Lib.hid (HR7.out.grow (below1 w7 (.cells #[.int .i64 0, .int .i64 1, .int .i64 (-1), .int .i64 9, .int .i64 1099511627776] 2)))
            have HI8 := Lib.hid (HI7.out.grow (below1 w7 (.cells #[.int .i64 0, .int .i64 1, .int .i64 (-1), .int .i64 9, .int .i64 1099511627776] 2)))
            have HX8 := Lib.hid (HX7.out.grow (below1 w7 (.cells #[.int .i64 0, .int .i64 1, .int .i64 (-1), .int .i64 9, .int .i64 1099511627776] 2)))
            have HO8 := Lib.hid (HO7.out.grow (by simp at hz4; omega) (below1 w7 (.cells #[.int .i64 0, .int .i64 1, .int .i64 (-1), .int .i64 9, .int .i64 1099511627776] 2)))
            have HN8 := Lib.hid (Row.new w7 #[.int .i64 0, .int .i64 1, .int .i64 (-1), .int .i64 9, .int .i64 1099511627776] 2)
            go_loopw [12] (fun i wq => ∃ j : Nat, j ≤ 5 ∧ i = .int .i64 j ∧ RT w wq B b off k tn tc (.slice SA sn sc) t A an ac ∧ BoxT wq w2.heap.size t IA il ic ∧ BoxT wq w3.heap.size f XA xl xc ∧ OwnT wq (fun i => (w2.alloc (.cells #[.int .i64 t.op, .int .i64 t.n, .slice IA il ic] 28)).heap.size ≤ i ∧ i < w3.heap.size) f (.int .i64 f.op) (.int .i64 f.n) (.slice XA xl xc) ∧ Row wq w7.heap.size #[.int .i64 0, .int .i64 1, .int .i64 (-1), .int .i64 9, .int .i64 1099511627776] 2) (fun i _ => 5 - (intOf i).toNat)
            case atStart => exact ⟨0, by omega, rfl, HR8.out, HI8.out, HX8.out, HO8.out, HN8.out⟩
            case round =>
              obtain ⟨j, hj5, rfl, hr8, hi8, hx8, ho8, hn8⟩ := hrel
              have HI9 := Lib.hid hi8
              have HR9 := Lib.hid hr8
              have HX9 := Lib.hid hx8
              have HO9 := Lib.hid ho8
              have HN9 := Lib.hid hn8
              clear hr8 hi8 hx8 ho8 hn8 HR8 HI8 HX8 HO8 HN8
              by_cases hj : j < 5
              · obtain ⟨x, hx, hxi⟩ : ∃ x, wr.cell? ⟨w7.heap.size, j, none⟩ = some (.int .i64 x) ∧ In64 x := by
                  have h5 : j = 0 ∨ j = 1 ∨ j = 2 ∨ j = 3 ∨ j = 4 := by omega
                  rcases h5 with rfl | rfl | rfl | rfl | rfl
                  · exact ⟨0, HN9.out.cell (j := 0) rfl, i64c (by omega) (by omega)⟩
                  · exact ⟨1, HN9.out.cell (j := 1) rfl, i64c (by omega) (by omega)⟩
                  · exact ⟨-1, HN9.out.cell (j := 2) rfl, i64c (by omega) (by omega)⟩
                  · exact ⟨9, HN9.out.cell (j := 3) rfl, i64c (by omega) (by omega)⟩
                  · exact ⟨1099511627776, HN9.out.cell (j := 4) rfl, i64c (by omega) (by omega)⟩
                have HSA := Lib.hid (fun (W : World) (hb : Below wr.heap.size wr W) => same_any t f x W.heap.size W _ _ _ _ _ _ (Nat.le_refl _) (HR9.out.grow hb).tree' (HX9.out.grow hb).tree hxi HF.out (fun h hk => HFO.out x h (HR9.out.tree.tin) hxi hk))
                have b0 := HR9.out.box.cell (j := 0) rfl
                have c0 := HR9.out.c0
                have c1 := HR9.out.c1
                have c2 := HR9.out.c2
                have x0 := HX9.out.row.cell (j := 0) rfl
                have x1 := HX9.out.row.cell (j := 1) rfl
                have x2 := HX9.out.row.cell (j := 2) rfl
                have g1 : w.heap.size < wr.heap.size := HR9.out.lt
                have g2 : b < wr.heap.size := by have := HR9.out.blt; omega
                have g3 : w3.heap.size < wr.heap.size := HX9.out.row.lt
                have g4 : w7.heap.size < wr.heap.size := HN9.out.lt
                have hjj : (j : Int) < 5 := by omega
                have hjj0 : (0 : Int) ≤ (j : Int) := by omega
                have dj : decide ((j : Int) < 5) = true := by simpa using hjj
                clear hxi
                go_wp2_with fail
                refine region_grow (by kernel_rfl) (by kernel_rfl) (fun hGG => ?_)
                repeat (go_big_quiet_step ((go_at_call 17; exact call_grow (HSA.out _ (grow_below (Below.refl _ _) (Nat.le_refl _) _)))))
                refine wpQuiet_nil ?_
                rintro ⟨wp, hbp⟩
                simp only []
                clear hGG HSA hx b0 c0 c1 c2 x0 x1 x2
                go_wp2_with fail
                go_roundw
                case rel => exact ⟨j + 1, by omega, by go_num, HR9.out.grow hbp, HI9.out.grow hbp, HX9.out.grow hbp, HO9.out.grow (by simp at hz4; omega) hbp, HN9.out.below hbp g4⟩
                case measure => simp [intOf]; omega
              · obtain rfl : j = 5 := by omega
                have x0 := HX9.out.row.cell (j := 0) rfl
                have x1 := HX9.out.row.cell (j := 1) rfl
                have x2 := HX9.out.row.cell (j := 2) rfl
                have HL9 := Lib.hid (show w3.heap.size ≤ wr.heap.size from Nat.le_of_lt HX9.out.row.lt)
                go_wp2_with fail
                refine (fold_yes f _ wr _ _ _ (Nat.le_refl _) HX9.out.tree HMF.out).mono ?_
                rintro e wa ⟨y0, y1, y2, rfl, hOy, hba⟩
                obtain ⟨YA, yl, yc, rfl, rfl, rfl, _, _⟩ := hOy.shape
                generalize foldT f = g at *
                have HY := Lib.hid (⟨Row.new _ _ _, (OwnT.tree _ hOy (fun i hi => hi.2)).below (below1 _ _) (by simp)⟩ : BoxT (wa.alloc (.cells #[.int .i64 g.op, .int .i64 g.n, .slice YA yl yc] 28)) wa.heap.size g YA yl yc)
                have HRa := Lib.hid ((HR9.out.grow hba).grow (below1 wa (.cells #[.int .i64 g.op, .int .i64 g.n, .slice YA yl yc] 28)))
                have HIa := Lib.hid ((HI9.out.grow hba).grow (below1 wa (.cells #[.int .i64 g.op, .int .i64 g.n, .slice YA yl yc] 28)))
                have HXa := Lib.hid ((HX9.out.grow hba).grow (below1 wa (.cells #[.int .i64 g.op, .int .i64 g.n, .slice YA yl yc] 28)))
                have HOa := Lib.hid ((HO9.out.grow HL9.out hba).grow (Nat.le_trans HL9.out hba.size) (below1 wa (.cells #[.int .i64 g.op, .int .i64 g.n, .slice YA yl yc] 28)))
                have HLa := Lib.hid (Nat.le_trans HL9.out (Nat.le_trans hba.size (below1 wa (.cells #[.int .i64 g.op, .int .i64 g.n, .slice YA yl yc] 28)).size))
                clear hOy hba x0 x1 x2
                go_wp2_with fail
                refine (tree_cnt g _ _ _ _ _ (Nat.le_refl _) HY.out.tree).mono ?_
                rintro e wb ⟨rfl, hbb⟩
                rw [treeC_size HMFF.out]
                have HRb := Lib.hid (HRa.out.grow hbb)
                have HIb := Lib.hid (HIa.out.grow hbb)
                have HXb := Lib.hid (HXa.out.grow hbb)
                have HOb := Lib.hid (HOa.out.grow HLa.out hbb)
                have HLb := Lib.hid (Nat.le_trans HLa.out hbb.size)
                have hs3 : decide (f.size < g.size) = false := by simp; omega
                have hs4 : decide ((f.size : Int) < (g.size : Int)) = false := by simp; omega
                clear hbb HRa HIa HXa HOa HLa
                go_wp2_with fail
                refine (lnum_any _ _).mono ?_
                rintro e w' ⟨rfl, rfl⟩
                have b0 := HRb.out.box.cell (j := 0) rfl
                have c0 := HRb.out.c0
                have c1 := HRb.out.c1
                have c2 := HRb.out.c2
                go_wp2_with fail
                refine (copy_all t.size t B wb _ _ _ (Nat.le_refl _) (by omega) (by have := HRb.out.lt; have := HRb.out.ble; omega) HRb.out.tree).mono ?_
                rintro e wc ⟨z0, z1, z2, rfl, hOz, hbc⟩
                obtain ⟨ZA, zl, zc, rfl, rfl, rfl, _, _⟩ := hOz.shape
                have HRc := Lib.hid (HRb.out.grow hbc)
                have HIc := Lib.hid (HIb.out.grow hbc)
                have HXc := Lib.hid (HXb.out.grow hbc)
                have HOc := Lib.hid (HOb.out.grow HLb.out hbc)
                have HLc := Lib.hid (Nat.le_trans HLb.out hbc.size)
                have i0 := HIc.out.row.cell (j := 0) rfl
                have i1 := HIc.out.row.cell (j := 1) rfl
                have i2 := HIc.out.row.cell (j := 2) rfl
                have f0 := HIc.out.row.free 0
                have f1 := HIc.out.row.free 1
                have f2 := HIc.out.row.free 2
                have x0 := HXc.out.row.cell (j := 0) rfl
                have x1 := HXc.out.row.cell (j := 1) rfl
                have x2 := HXc.out.row.cell (j := 2) rfl
                have hz23 : w2.heap.size < w3.heap.size := by simp at hz3; omega
                have hn1 : w3.heap.size ≠ w2.heap.size := by omega
                have hn2 : w2.heap.size ≠ w3.heap.size := by omega
                clear hbc hOz HRb HIb HXb HOb HLb b0 c0 c1 c2
                go_wp2_with fail
                refine (spoil_end HRc.out HOc.out hw2 (by simp) (by have := HLc.out; simp; omega) HLc.out _ _ _).mono ?_
                rintro e wz ⟨rfl, hrz, hbz, hlz⟩
                have HRZ := Lib.hid hrz
                have HBZ := Lib.hid hbz
                clear hrz hbz i0 i1 i2 f0 f1 f2 x0 x1 x2
                go_wp2_with fail
                go_roundw
                case rel => exact ⟨k + 1, by omega, by omega, by go_num, HRZ.out, HBZ.out, hlz⟩
                case measure => simp [intOf]; omega
        · have hm' : mayB t = false := by simpa using hm
          have HM := Lib.hid hm'
          clear hm hm'
          refine (fold_no t _ _ _ _ _ (Nat.le_refl _) HI.out.tree HM.out).mono ?_
          rintro e w3 ⟨rfl, hb3⟩
          have HR3 := Lib.hid ((HR2.out.grow hb3).grow (below1 _ (.cells #[.int .i64 0, .int .i64 0, .slice none 0 0] 28)))
          have HX := Lib.hid (Row.new w3 #[.int .i64 0, .int .i64 0, .slice none 0 0] 28)
          clear hb3
          have b0 := HR3.out.box.cell (j := 0) rfl
          have c0 := HR3.out.c0
          have c1 := HR3.out.c1
          have c2 := HR3.out.c2
          go_wp2_with fail
          refine (tree_cnt t B _ _ _ _ (by have := HR3.out.lt; have := HR3.out.ble; omega) HR3.out.tree).mono ?_
          rintro e w4 ⟨rfl, hb4⟩
          rw [treeC_iff, HM.out]
          generalize (treeC t).1 = tz
          have HR4 := Lib.hid (HR3.out.grow hb4)
          have HX4 := Lib.hid (HX.out.below hb4 (by simp))
          have x0 := HX4.out.cell (j := 0) rfl
          have x1 := HX4.out.cell (j := 1) rfl
          have x2 := HX4.out.cell (j := 2) rfl
          clear hb4 b0 c0 c1 c2
          go_wp2_with fail
          refine (lnum_any _ _).mono ?_
          rintro e w' ⟨rfl, rfl⟩
          go_wp2_with fail
          refine (eqTree_all _ (.node 0 0 []) (.node 0 0 []) 0 _ _ _ _ _ _ _ (Nat.le_refl _) (by simp) zero_tree zero_tree).mono ?_
          rintro e w5 ⟨rfl, hb5⟩
          rw [yes_true rfl]
          have HR5 := Lib.hid (HR4.out.grow hb5)
          clear hb5 x0 x1 x2
          go_wp2_with fail
          go_roundw
          case rel => exact ⟨k + 1, by omega, by omega, by go_num, HR5.out.box, HR5.out.below, HR5.out.lt⟩
          case measure => simp [intOf]; omega
      · have hor : (decide (k < tn) = false ∧ decide ((k : Int) < (tn : Int)) = false) ∨ (decide (k < tn) = true ∧ decide ((k : Int) < (tn : Int)) = true ∧ decide ((k : Int) < 8) = false) := by
          by_cases hlt : k < tn
          · exact Or.inr ⟨by simpa using hlt, by simpa using hlt, by simp; omega⟩
          · exact Or.inl ⟨by simp; omega, by simp; omega⟩
        clear hgo
        rcases hor with ⟨hd, hd'⟩ | ⟨hd, hd', hd2⟩
        all_goals
          go_wp2_with fail
          refine (wakes_any _).mono ?_
          rintro e w2 ⟨rfl, hb2⟩
          have HB2 := Lib.hid hb2
          clear hb2
          go_wp2_with fail
          refine HQ.out _ _ _ ?_
          refine bodyPost_ret (v := .bool true) (by simp [results, Try.results3, go_sem]) rfl ⟨rfl, HBW.out.trans (HB2.out.mono HBW.out.size)⟩
end Go.Proofs.Ytjkgpolikpochaa
