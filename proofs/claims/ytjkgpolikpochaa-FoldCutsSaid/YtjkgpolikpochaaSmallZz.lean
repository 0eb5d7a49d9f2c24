/- Small: a tree, folded. Conditions: as stated. -/
import Derived.Test.YtjkgpolikpochaaQ06Zz
import Derived.Test.YtjkgpolikpochaaFoldPZz
set_option linter.unusedVariables false
set_option linter.unusedSimpArgs false
namespace Go.Proofs.Ytjkgpolikpochaa
open Go.RowKit

def SmallSaid (m : Nat) : Prop := ∀ (t : T) (B : Nat) (w : World) (v0 v1 v2 : Value), t.size ≤ m → t.size ≤ 1000000000 → B ≤ w.heap.size → TreeAt w (Under B) t v0 v1 v2 → okT t →
    Calls Try.prog 24 #[.agg #[v0, v1, v2]] w (TreeEnd (foldT t) w)

theorem TreeEnd.leaf {w W : World} {op x : Int} (h : Below w.heap.size w W) (ho : In64 op) (hx : In64 x) : TreeEnd (.node op x []) w (.returned (.agg #[.int .i64 op, .int .i64 x, .slice none 0 0])) W :=
  ⟨_, _, _, rfl, OwnT.leaf ho hx, h⟩

/-- The boxes of 'Small', and its row. -/
structure SmAt (w wr : World) (op x : Int) (A : Option Addr) (len cap : Nat) (lv : Value) (k : Nat) (ts : List T) (xs : List Value) (S : Nat → Prop) : Prop where
  r0 : Row wr w.heap.size #[.int .i64 op, .int .i64 x, .slice A len cap] 28
  r1 : Row wr (w.heap.size + 1) #[.int .i64 0, .int .i64 0, .slice none 0 0] 28
  r2 : Row wr (w.heap.size + 1 + 1) #[.int .i64 op, .int .i64 0, lv] 28
  row : RowAt (w.heap.size + 1 + 1 + 1) wr lv k ts xs S
  below : Below w.heap.size w wr

/-- .. behind its loop. -/
structure SmEnd (w W : World) (op : Int) (lv : Value) (k : Nat) (ts : List T) (xs : List Value) (S : Nat → Prop) : Prop where
  r1 : Row W (w.heap.size + 1) #[.int .i64 0, .int .i64 0, .slice none 0 0] 28
  r2 : Row W (w.heap.size + 1 + 1) #[.int .i64 op, .int .i64 0, lv] 28
  row : RowAt (w.heap.size + 1 + 1 + 1) W lv k ts xs S
  below : Below w.heap.size w W
theorem SmEnd.below' {w W W' : World} {op : Int} {lv : Value} {k : Nat} {ts : List T} {xs : List Value} {S : Nat → Prop} (h : SmEnd w W op lv k ts xs S) (hb : Below W.heap.size W W') : SmEnd w W' op lv k ts xs S :=
  ⟨h.r1.below hb h.r1.lt, h.r2.below hb h.r2.lt, h.row.wr (Wr.of_below (F := fun _ => False) hb) (fun i h => h.elim), h.below.trans (hb.mono (by have := h.below.size; omega))⟩
theorem RowAt.get {base : Nat} {w : World} {lv : Value} {k : Nat} {ts : List T} {xs : List Value} {S : Nat → Prop} (h : RowAt base w lv k ts xs S) (hk : ts.length = k) {i : Nat} {a : T} (hi : ts[i]? = some a) :
    ∃ g cap u2, lv = .slice (some ⟨g, 0, none⟩) k cap ∧ base ≤ g ∧ g < w.heap.size ∧ w.cell? ⟨g, i * 3, none⟩ = some (.int .i64 a.op) ∧ w.cell? ⟨g, i * 3 + 1, none⟩ = some (.int .i64 a.n) ∧ w.cell? ⟨g, i * 3 + 2, none⟩ = some u2 ∧ OwnT w S a (.int .i64 a.op) (.int .i64 a.n) u2 ∧ ∃ A n c, u2 = .slice A n c := by
  obtain ⟨u0, u1, u2, e0, e1, e2, e3⟩ := OwnL.get ts h.trees hi
  obtain ⟨A, n, c, rfl, rfl, rfl, _, _⟩ := e3.shape
  have hil : i < k := by
    rcases Nat.lt_or_ge i ts.length with h' | h'
    · omega
    · rw [List.getElem?_eq_none h'] at hi; cases hi
  obtain ⟨hl, hr⟩ := h.own
  rcases hr with ⟨hv, hn⟩ | ⟨g, cap, cur, hv, hg, hh, hc1, hc2, hc3, hc4⟩
  · omega
  · have hcell : ∀ j u, xs[j]? = some u → w.cell? ⟨g, j, none⟩ = some u := fun j u hj => by
      rw [← hc4] at hj
      have hlt : j < k * 3 := by
        rcases Nat.lt_or_ge j (k * 3) with h | h
        · exact h
        · rw [List.getElem?_take, if_neg (by omega)] at hj; cases hj
      rw [List.getElem?_take, if_pos hlt, Array.getElem?_toList] at hj
      exact (Row.cell (cs := cur) (t := 28) hh hj)
    exact ⟨g, cap, _, hv, hg, Row.lt (t := 28) hh, hcell _ _ e0, hcell _ _ e1, hcell _ _ e2, e3, _, _, _, rfl⟩
theorem treeEnd_kid {w w1 W : World} {X S : Nat → Prop} {a : T} {u0 u1 u2 : Value} (h1 : Below w.heap.size w w1) (hO : OwnT w1 S a u0 u1 u2) (hS : ∀ i, S i → w.heap.size ≤ i ∧ i < w1.heap.size) (hw : Wr X w1 W) (hX : ∀ i, X i → w.heap.size ≤ i ∧ ¬ S i) :
    TreeEnd a w (.returned (.agg #[u0, u1, u2])) W :=
  ⟨_, _, _, rfl, OwnT.mono _ (OwnT.keep _ hO (fun i hi => hw.block i (hS i hi).2 (fun hx => (hX i hx).2 hi))) (fun i hi => ⟨(hS i hi).1, Nat.lt_of_lt_of_le (hS i hi).2 hw.size⟩), h1.trans (hw.below h1.size (fun i hi => (hX i hi).1))⟩
theorem cells_new' (w : World) (cs : List Value) (t : TypeId) (r : Nat) (hr : r = w.heap.size) : ∀ (j : Nat) (u : Value), cs[j]? = some u → (w.alloc (.cells cs.toArray t)).cell? ((⟨r, 0, none⟩ : Addr).add j) = some u := by
  subst hr
  exact cells_new w cs t
theorem all_snoc (ks : List T) (t : T) (q : Bool) : (q && (ks ++ [t]).all fun k => decide (k.op = 1)) = ((q && ks.all fun k => decide (k.op = 1)) && decide (t.op = 1)) := by
  simp [List.all_append, Bool.and_assoc]

set_option maxRecDepth 100000 in
set_option maxHeartbeats 8000000 in
theorem small_all (m : Nat) : SmallSaid m := by
  induction m with
  | zero => intro t _ _ _ _ _ hm; have := t.size_pos; omega
  | succ m ih =>
    rintro ⟨op, x, ks⟩ B w v0 v1 v2 hm hm2 hB hv hok
    obtain ⟨A, cap, len, rfl, rfl, ho64, hx64, rfl, hk⟩ := KidsV.of_tree hv
    simp only [T.size] at hm hm2
    obtain ⟨hbad, hoks⟩ := okT_node.1 hok
    have HO64 := Lib.hid ho64
    have HX64 := Lib.hid hx64
    have HL := Lib.hid (fun W => leaf_any op W)
    have HLD := Lib.hid (fun W => load_any' op W)
    unfold leafB at HL
    rw [foldT]
    by_cases h1 : 1 ≤ op ∧ op ≤ 4
    · rw [if_pos h1]
      rw [decide_eq_true h1] at HL
      clear hv hk ih hm hok hbad hoks h1 ho64 hx64
      go_enter Try.func24, Try.ntmps24
      refine wp_letter (fun Q hQ => ?_)
      have HQ := Lib.hid hQ
      clear hQ
      go_wp2_with (go_at_call 36; refine (HL.out _).mono ?_; rintro e w' ⟨rfl, rfl⟩)
      refine HQ.out _ _ _ ?_
      exact bodyPost_ret (v := .agg #[.int .i64 op, .int .i64 x, .slice none 0 0]) (by simp [results, Try.results24, go_sem]) rfl (TreeEnd.leaf (below2 _ _ _) HO64.out HX64.out)
    · rw [if_neg h1]
      rw [decide_eq_false h1] at HL
      obtain ⟨q, hq⟩ : ∃ q, q = !loadB op := ⟨_, rfl⟩
      have hld : loadB op = !q := by rw [hq]; simp
      rw [hld] at HLD
      have HLQ := Lib.hid hld
      obtain ⟨hkl, hkn, _⟩ := id hk
      subst hkl
      have hns := T.length_sizes ks
      have HK := Lib.hid hk
      have IH := Lib.hid ih
      have HOK := Lib.hid hoks
      have HBAD := Lib.hid hbad
      have HN := Lib.hid h1
      clear hv hk ih hok hbad hoks h1 ho64 hx64 hq hld
      obtain ⟨i0, hi, hz0, hz1, hz2⟩ := info_parts tree_info
      go_enter Try.func24, Try.ntmps24
      refine wp_letter (fun Q hQ => ?_)
      have HQ := Lib.hid hQ
      clear hQ
      go_wp2_with (first | (go_at_call 36; refine (HL.out _).mono ?_; rintro e w' ⟨rfl, rfl⟩) | (go_at_call 37; refine (HLD.out _).mono ?_; rintro e w' ⟨rfl, rfl⟩))
      go_loopw [4, 25] (fun pl i wr => ∃ (k : Nat) (LA : Option Addr) (ln lc : Nat) (xs : List Value) (S : Nat → Prop), k ≤ ks.length ∧ i = .int .i64 k ∧ pl = .bool (q && (foldTs (ks.take k)).all fun k => decide (k.op = 1)) ∧ SmAt w wr op x A ks.length cap (.slice LA ln lc) k (foldTs (ks.take k)) xs S) (fun _ i _ => ks.length - (intOf i).toNat)
      case atStart => exact ⟨0, none, 0, 0, [], fun _ => False, by omega, rfl, by simp [foldTs], ((Row.new _ _ _).alloc _).alloc _, (Row.new' _ _ (by simp)).alloc _, Row.new' _ _ (by simp), RowAt.nil _ _, below3 _ _ _ _⟩
      case round =>
        obtain ⟨k, LA, ln, lc, xs, S, hk, rfl, rfl, hS⟩ := hrel
        have HS := Lib.hid hS
        have hbw := hS.below
        have hzw := hS.r2.lt
        have x2 : wr.cell? ⟨w.heap.size + 1 + 1, 2, none⟩ = some (.slice LA ln lc) := hS.r2.cell (j := 2) rfl
        clear hS
        by_cases hlt : k < ks.length
        · obtain ⟨b, off, t, v0, v1, v2, rfl, hb, hk1, c0, c1, c2, ht⟩ := (HK.out.below (hbw.mono hB) (Nat.le_refl _)).get hlt
          have hts := T.sizes_get hk1
          have HC := Lib.hid (fun W (hb : Below wr.heap.size wr W) => IH.out t B W v0 v1 v2 (by omega) (by omega) (by have := hb.size; omega) (ht.below (hb.mono (by omega)) (Nat.le_refl _)) (okTs_mem.1 HOK.out t (List.mem_of_getElem? hk1)))
          have hfk : foldTs (ks.take (k + 1)) = foldTs (ks.take k) ++ [foldT t] := by rw [take_succ_of hk1, foldTs_append]; rfl
          have HFK := Lib.hid hfk
          have hpl : (q && (foldTs (ks.take (k + 1))).all fun k => decide (k.op = 1)) = ((q && (foldTs (ks.take k)).all fun k => decide (k.op = 1)) && decide ((foldT t).op = 1)) := by rw [hfk]; exact all_snoc _ _ _
          have HPL := Lib.hid hpl
          have hklt : (k : Int) < (ks.length : Int) := by omega
          have hbl : b < wr.heap.size := by omega
          obtain ⟨a0, b0, A0, n0, cc0, rfl, rfl, rfl⟩ := ht.shape0
          obtain ⟨pl, hp⟩ : ∃ pl, pl = (q && (foldTs (ks.take k)).all fun k => decide (k.op = 1)) := ⟨_, rfl⟩
          rw [← hp] at HPL ⊢
          clear hk1 ht hts hfk hpl hp hbw
          go_wp2_with fail
          refine (HC.out _ (below1 _ _)).mono ?_
          rintro e w1 ⟨u0, u1, u2, rfl, hO, hb1⟩
          obtain ⟨A1, n1, cc1, rfl, rfl, rfl, _, _⟩ := hO.shape
          have hz1' : wr.heap.size + 1 ≤ w1.heap.size := by have := hb1.size; simpa using this
          have kr := (Row.new wr #[.int .i64 a0, .int .i64 b0, .slice A0 n0 cc0] 28).below hb1 (by simp)
          have k0 : w1.cell? ⟨wr.heap.size, 0, none⟩ = some (.int .i64 a0) := kr.cell (j := 0) rfl
          have k1 : w1.cell? ⟨wr.heap.size, 1, none⟩ = some (.int .i64 b0) := kr.cell (j := 1) rfl
          have k2 : w1.cell? ⟨wr.heap.size, 2, none⟩ = some (.slice A0 n0 cc0) := kr.cell (j := 2) rfl
          have kf0 := kr.free 0
          have kf1 := kr.free 1
          have kf2 := kr.free 2
          have HBW1 := Lib.hid ((below1 wr (.cells #[.int .i64 a0, .int .i64 b0, .slice A0 n0 cc0] 28)).trans (hb1.mono (by simp)))
          have x2' : w1.cell? ⟨w.heap.size + 1 + 1, 2, none⟩ = some (.slice LA ln lc) := cell_below x2 HBW1.out (by omega)
          have xf2 : w1.frozen? ⟨w.heap.size + 1 + 1, 2, none⟩ = false := (HS.out.r2.below HBW1.out (by omega)).free 2
          have HO := Lib.hid (show OwnT w1 (fun i => wr.heap.size + 1 ≤ i ∧ i < w1.heap.size) (foldT t) _ _ _ from OwnT.mono _ hO (fun i hi => ⟨by have := hi.1; simpa using this, hi.2⟩))
          have HKR := Lib.hid kr
          clear hO hb1 kr
          -- @@ROUND
          go_wp2_with (at_builtin; refine wpList_append_lies _ rfl (.tmp 32) (.tmp 34) 22 rfl (w.heap.size + 1 + 1 + 1) 28 i0 (.agg #[.int .i64 0, .int .i64 0, .slice none 0 0]) 3 40 Try.underlying22 hi hz0 hz1 hz2 rfl (by decide) _ k xs rfl (by refine ownsRow_wr (F := fun i => i = wr.heap.size) HS.out.row.own ?_ (fun g hg e => by have := (HS.out.row.lt hg).2; omega); repeat (first | (with_reducible exact Wr.of_below HBW1.out) | (with_reducible refine Wr.drewR ?_) | (with_reducible refine Wr.allocR ?_ _) | (with_reducible refine Wr.setR ?_ _ _ _ (Or.inl ?_)) | exact rfl | exact Or.inl rfl | exact Or.inr rfl)) ⟨w1.heap.size, 0, none⟩ 1 1 [.int .i64 (foldT t).op, .int .i64 (foldT t).n, .slice A1 n1 cc1] rfl rfl ?c1 ?c2 (by decide) ?c3 ?c4 ?c5 _ rfl ?_)
          case c1 => exact cells_new' _ _ _ _ (by simp)
          case c2 => intro u hu; simp at hu; rcases hu with rfl | rfl | rfl <;> rfl
          case c3 => unfold maxLen; omega
          case c4 => omega
          case c5 => simp; omega
          · intro g cap' w3 hown3 hgrow hat hglt
            have hat' : (Value.slice LA ln lc).ownBlock = some g ∨ g = w1.heap.size + 1 := by simpa using hat
            obtain ⟨W2, hW2⟩ : ∃ W2 : World, W2 = (((w1.setCell ⟨wr.heap.size, 0, none⟩ (.int .i64 (foldT t).op)).setCell ⟨wr.heap.size, 1, none⟩ (.int .i64 (foldT t).n)).setCell ⟨wr.heap.size, 2, none⟩ (.slice A1 n1 cc1)).alloc (.cells #[.int .i64 (foldT t).op, .int .i64 (foldT t).n, .slice A1 n1 cc1] 28) := ⟨_, rfl⟩
            have hgrow2 : W2.grownBy w3 (Value.slice LA ln lc).ownBlock := by rw [hW2]; exact hgrow
            have hW2s : W2.heap.size = w1.heap.size + 1 := by rw [hW2]; simp
            have h2 : Wr (fun i => i = wr.heap.size) w1 W2 := by
              rw [hW2]
              repeat (first | (with_reducible exact Wr.refl _ _) | (with_reducible refine Wr.drewR ?_) | (with_reducible refine Wr.allocR ?_ _) | (with_reducible refine Wr.setR ?_ _ _ _ (Or.inl ?_)) | exact rfl | exact Or.inl rfl | exact Or.inr rfl)
            have kr2 : Row W2 wr.heap.size #[.int .i64 (foldT t).op, .int .i64 (foldT t).n, .slice A1 n1 cc1] 28 := by
              rw [hW2]
              exact (((HKR.out.set 0 _).set 1 _).set 2 _).alloc _
            have h3 : Wr (fun i => (Value.slice LA ln lc).ownBlock = some i) W2 w3 := Wr.grown hgrow2 (fun k h => h)
            have hl : ∀ i, (Value.slice LA ln lc).ownBlock = some i → w.heap.size + 1 + 1 + 1 ≤ i ∧ i < wr.heap.size := fun i hi => HS.out.row.lt hi
            have hall : Wr (fun i => i = wr.heap.size ∨ (Value.slice LA ln lc).ownBlock = some i) wr w3 := ((Wr.of_below HBW1.out).trans h2 (fun i hi => Or.inl (Or.inl hi))).trans h3 (fun i hi => Or.inl (Or.inr hi))
            have n0 : ∀ i, i < w.heap.size + 1 + 1 + 1 → ¬ (i = wr.heap.size ∨ (Value.slice LA ln lc).ownBlock = some i) := fun i hi h => by
              rcases h with h | h
              · omega
              · have := (hl i h).1; omega
            have r2' := HS.out.r2.wr hall (n0 _ (by omega))
            have y2 : w3.cell? ⟨w.heap.size + 1 + 1, 2, none⟩ = some (.slice LA ln lc) := r2'.cell (j := 2) rfl
            have yf := r2'.free 2
            have z0 : w3.cell? ⟨wr.heap.size, 0, none⟩ = some (.int .i64 (foldT t).op) := (kr2.wr h3 (fun h => by have := (hl _ h).2; omega)).cell (j := 0) rfl
            have hz3 := hall.size
            have HNX := Lib.hid (fun (W4 : World) (h4 : Wr (fun i => i = w.heap.size + 1 + 1) w3 W4) => RowAt.next (X := fun i => i = wr.heap.size ∨ i = w.heap.size + 1 + 1) HS.out.row (by omega) (Wr.of_below HBW1.out) HO.out (fun i hi => ⟨by omega, hi.2⟩) (h2.mono (fun i hi => Or.inl (Or.inl hi))) hown3 hgrow2 (by rw [hW2s]; exact hat') (h4.mono (fun i hi => Or.inl (Or.inr hi))) (fun i hi => by
              have hg : w.heap.size + 1 + 1 + 1 ≤ g ∧ g ≠ wr.heap.size := by
                rcases hat' with h | h
                · have := hl g h; omega
                · omega
              refine ⟨fun hs => ?_, fun hs => ?_, fun hs => ?_, fun hs => ?_⟩
              · have := HS.out.row.sb i hs; rcases hi with hi | hi <;> omega
              · rcases hi with hi | hi <;> omega
              · have := hl i hs; rcases hi with hi | hi <;> omega
              · rcases hi with hi | hi <;> omega))
            have HR0 := Lib.hid (HS.out.r0.wr hall (n0 _ (by omega)))
            have HR1 := Lib.hid (HS.out.r1.wr hall (n0 _ (by omega)))
            have HR2 := Lib.hid r2'
            have HB3 := Lib.hid (HS.out.below.trans (hall.below (by omega) (fun i hi => by rcases hi with hi | hi; omega; have := (hl i hi).1; omega)))
            clear hown3 hgrow hat hat' hgrow2 h2 kr2 h3 hl hall n0 r2' hW2s hW2 W2 x2 x2' xf2 k0 k1 k2 kf0 kf1 kf2
            cases pl with
            | false =>
              go_wp2_with fail
              go_roundw
              case rel =>
                have hw4 : Wr (fun i => i = w.heap.size + 1 + 1) w3 (w3.setCell ⟨w.heap.size + 1 + 1, 2, none⟩ (.slice (some ⟨g, 0, none⟩) (k + 1) cap')) := Wr.cell1 _ _ _ _
                refine ⟨k + 1, _, _, _, _, _, by omega, by go_num, by rw [HPL.out]; rfl, HR0.out.wr hw4 (by omega), HR1.out.wr hw4 (by omega), HR2.out.set 2 _, by rw [HFK.out]; exact HNX.out _ hw4, HB3.out.trans (hw4.below (by omega) (fun i hi => by omega))⟩
              case measure => simp [intOf]; omega
            | true =>
              go_wp2_with fail
              go_roundw
              case rel =>
                have hw4 : Wr (fun i => i = w.heap.size + 1 + 1) w3 (w3.setCell ⟨w.heap.size + 1 + 1, 2, none⟩ (.slice (some ⟨g, 0, none⟩) (k + 1) cap')) := Wr.cell1 _ _ _ _
                refine ⟨k + 1, _, _, _, _, _, by omega, by go_num, by rw [HPL.out]; rfl, HR0.out.wr hw4 (by omega), HR1.out.wr hw4 (by omega), HR2.out.set 2 _, by rw [HFK.out]; exact HNX.out _ hw4, HB3.out.trans (hw4.below (by omega) (fun i hi => by omega))⟩
              case measure => simp [intOf]; omega
        · obtain rfl : k = ks.length := by omega
          rw [List.take_length] at HS ⊢
          have hS := HS.out
          obtain ⟨w0, rfl⟩ : ∃ w0 : World, w0 = wr := ⟨_, rfl⟩
          clear HS
          by_cases hpl : loadB op = false ∧ (foldTs ks).all (fun k => decide (k.op = 1)) = true
          · have hp : (q && (foldTs ks).all fun k => decide (k.op = 1)) = true := by
              have h := HLQ.out
              rw [hpl.1] at h
              have h' : q = true := by cases q; cases h; rfl
              rw [h', hpl.2]
              rfl
            rw [hp]
            clear hp
            have hT : TreeAt w0 (Under w0.heap.size) (.node op 0 (foldTs ks)) (.int .i64 op) (.int .i64 0) (.slice LA ln lc) := OwnT.tree _ (hS.row.node (foldTs_length ks) HO64.out (by unfold In64; omega)) (fun i hi => by
              rcases hi with hi | hi
              · have := hS.row.sb i hi; omega
              · have := hS.row.lt hi; omega)
            have hvo : valOk (.node op 0 (foldTs ks)) := plain_valOk HBAD.out HN.out hpl.1 (folds_ok ks HOK.out) (foldTs_length ks) hpl.2
            have HV := Lib.hid (value_all _ (.node op 0 (foldTs ks)) w0.heap.size w0 _ _ _ (Nat.le_refl _) (Nat.le_refl _) hT hvo)
            have HV64 := Lib.hid (val_in64 _ (TreeAt.tin _ hT) hvo)
            have HSM := Lib.hid (show smallN op (foldTs ks) = .node 1 (valT (.node op 0 (foldTs ks))) [] by unfold smallN; rw [if_pos ⟨hpl.1, hpl.2⟩])
            obtain ⟨vv, hvv⟩ : ∃ vv, vv = valT (.node op 0 (foldTs ks)) := ⟨_, rfl⟩
            rw [← hvv] at HV HV64 HSM
            have x0 : w0.cell? ⟨w.heap.size + 1 + 1, 0, none⟩ = some (.int .i64 op) := hS.r2.cell (j := 0) rfl
            have x1 : w0.cell? ⟨w.heap.size + 1 + 1, 1, none⟩ = some (.int .i64 0) := hS.r2.cell (j := 1) rfl
            have HS0 := Lib.hid hS
            clear hT hvo hpl hvv hbw hS
            go_wp2_with fail
            refine HV.out.mono ?_
            rintro e w1 ⟨rfl, hb1⟩
            have HB1 := Lib.hid hb1
            clear hb1
            go_wp2_with fail
            refine (con_any _ _).mono ?_
            rintro e w2 ⟨rfl, hb2⟩
            have HB2 := Lib.hid (HB1.out.trans (hb2.mono HB1.out.size))
            have hr1 := HS0.out.r1.below HB2.out (by omega)
            have q0 : w2.cell? ⟨w.heap.size + 1, 0, none⟩ = some (.int .i64 0) := hr1.cell (j := 0) rfl
            have q1 : w2.cell? ⟨w.heap.size + 1, 1, none⟩ = some (.int .i64 0) := hr1.cell (j := 1) rfl
            have q2 : w2.cell? ⟨w.heap.size + 1, 2, none⟩ = some (.slice none 0 0) := hr1.cell (j := 2) rfl
            have f0 := hr1.free 0
            have f1 := hr1.free 1
            have f2 := hr1.free 2
            clear hb2 hr1
            go_wp2_with fail
            refine HQ.out _ _ _ ?_
            refine bodyPost_ret (v := .agg #[.int .i64 1, .int .i64 vv, .slice none 0 0]) (by simp [results, Try.results24, go_sem, q0, q1, q2]) rfl ?_
            rw [HSM.out]
            refine TreeEnd.leaf (HS0.out.below.trans ((HB2.out.mono (by omega)).trans ?_)) (by unfold In64; omega) HV64.out
            refine Wr.below (F := fun i => i = w.heap.size + 1) ?_ (by have := HB2.out.size; omega) (fun i hi => by omega)
            repeat (first | (with_reducible exact Wr.refl _ _) | (with_reducible refine Wr.drewR ?_) | (with_reducible refine Wr.allocR ?_ _) | (with_reducible refine Wr.setR ?_ _ _ _ (Or.inl ?_)) | exact rfl | exact Or.inl rfl | exact Or.inr rfl)
          · have hp : (q && (foldTs ks).all fun k => decide (k.op = 1)) = false := by
              have h := HLQ.out
              cases q
              · rfl
              · rw [Bool.true_and]
                exact Bool.eq_false_iff.2 (fun h2 => hpl ⟨h, h2⟩)
            rw [hp]
            clear hp
            have hc := kids_cases (badN_iff.1 HBAD.out).1
            have hfl := foldTs_length ks
            by_cases hk1 : ks.length = 1
            · obtain ⟨a, hl⟩ := one_of' (l := foldTs ks) (by omega)
              have e2 : ((ks.length : Int) == 2) = false := by simp; omega
              have hop : op ≠ 12 := by omega
              clear hc hfl
              obtain ⟨g, cap', u2, hlv, hg0, hg1, c00_0, c01_0, c02_0, hO0, A0, n0, d0, rfl⟩ := hS.row.get (foldTs_length ks) (i := 0) (by rw [hl]; rfl)
              injection hlv with e1 e2 e3
              subst e1 e2 e3
              simp only [Nat.zero_mul, Nat.zero_add, Nat.one_mul, Nat.reduceAdd] at c00_0 c01_0 c02_0
              have HO0 := Lib.hid hO0
              have HE_0 := Lib.hid (show SmEnd w w0 op (.slice (some ⟨g, 0, none⟩) ks.length lc) ks.length (foldTs ks) xs S from ⟨hS.r1, hS.r2, hS.row, hS.below⟩)
              have HBS_0 := Lib.hid (Below.refl w0.heap.size w0)
              have x0_0 : w0.cell? ⟨w.heap.size + 1 + 1, 0, none⟩ = some (.int .i64 op) := hS.r2.cell (j := 0) rfl
              have x1_0 : w0.cell? ⟨w.heap.size + 1 + 1, 1, none⟩ = some (.int .i64 0) := hS.r2.cell (j := 1) rfl
              have x2_0 : w0.cell? ⟨w.heap.size + 1 + 1, 2, none⟩ = some (.slice (some ⟨g, 0, none⟩) ks.length lc) := hS.r2.cell (j := 2) rfl
              have q0_0 : w0.cell? ⟨w.heap.size + 1, 0, none⟩ = some (.int .i64 0) := hS.r1.cell (j := 0) rfl
              have q1_0 : w0.cell? ⟨w.heap.size + 1, 1, none⟩ = some (.int .i64 0) := hS.r1.cell (j := 1) rfl
              have q2_0 : w0.cell? ⟨w.heap.size + 1, 2, none⟩ = some (.slice none 0 0) := hS.r1.cell (j := 2) rfl
              have f0_0 := hS.r1.free 0
              have f1_0 := hS.r1.free 1
              have f2_0 := hS.r1.free 2
              have hk0 : (0 : Int) < (ks.length : Int) := by omega
              clear hS hbw x2 hO0
              have HAG := Lib.hid (fun W => again_any op a.op a.n A0 n0 d0 W)
              obtain ⟨qa, hqa⟩ : ∃ qa, qa = againB op a.op := ⟨_, rfl⟩
              rw [← hqa] at HAG
              have d12 : (op == 12) = false := by simp; omega
              have hsm : smallN op (foldTs ks) = if qa = true then a else .node op 0 (foldTs ks) := by rw [hqa]; conv => lhs; rw [hl]; unfold smallN; rw [if_neg (by rw [← hl]; exact hpl)]; simp only [← hl]
              clear hqa hpl
              go_wp2_with fail
              refine region_grow (by kernel_rfl) (by kernel_rfl) (fun hG => ?_)
              repeat (go_big_quiet_step (fail))
              refine wpQuiet_nil ?_
              rintro ⟨w5, hb⟩
              simp only []
              have HB_5 := Lib.hid hb
              clear hG hb
              have HE_5 := Lib.hid (HE_0.out.below' HB_5.out)
              have HBS_5 := Lib.hid (HBS_0.out.trans (HB_5.out.mono HBS_0.out.size))
              have hz_5 := HB_5.out.size
              have hgl_5 : g < w5.heap.size := by omega
              have hxl_5 : w.heap.size + 1 + 1 < w5.heap.size := by omega
              have x0_5 := cell_below x0_0 HB_5.out (by omega)
              have x1_5 := cell_below x1_0 HB_5.out (by omega)
              have x2_5 := cell_below x2_0 HB_5.out (by omega)
              have q0_5 := cell_below q0_0 HB_5.out (by omega)
              have q1_5 := cell_below q1_0 HB_5.out (by omega)
              have q2_5 := cell_below q2_0 HB_5.out (by omega)
              have f0_5 : w5.frozen? ⟨w.heap.size + 1, 0, none⟩ = false := HE_5.out.r1.free 0
              have f1_5 : w5.frozen? ⟨w.heap.size + 1, 1, none⟩ = false := HE_5.out.r1.free 1
              have f2_5 : w5.frozen? ⟨w.heap.size + 1, 2, none⟩ = false := HE_5.out.r1.free 2
              have c00_5 := cell_below c00_0 HB_5.out (by omega)
              have c01_5 := cell_below c01_0 HB_5.out (by omega)
              have c02_5 := cell_below c02_0 HB_5.out (by omega)
              clear x0_0 x1_0 x2_0 q0_0 q1_0 q2_0 f0_0 f1_0 f2_0 c00_0 c01_0 c02_0
              go_wp2_with fail
              refine region_grow (by kernel_rfl) (by kernel_rfl) (fun hG => ?_)
              repeat (go_big_quiet_step (((go_at_call 41; exact call_grow (HAG.out _)))))
              refine wpQuiet_nil ?_
              rintro ⟨w6, hb⟩
              simp only []
              have HB_6 := Lib.hid hb
              clear hG hb
              have HE_6 := Lib.hid (HE_5.out.below' HB_6.out)
              have HBS_6 := Lib.hid (HBS_5.out.trans (HB_6.out.mono HBS_5.out.size))
              have hz_6 := HB_6.out.size
              have hgl_6 : g < w6.heap.size := by omega
              have hxl_6 : w.heap.size + 1 + 1 < w6.heap.size := by omega
              have x0_6 := cell_below x0_5 HB_6.out (by omega)
              have x1_6 := cell_below x1_5 HB_6.out (by omega)
              have x2_6 := cell_below x2_5 HB_6.out (by omega)
              have q0_6 := cell_below q0_5 HB_6.out (by omega)
              have q1_6 := cell_below q1_5 HB_6.out (by omega)
              have q2_6 := cell_below q2_5 HB_6.out (by omega)
              have f0_6 : w6.frozen? ⟨w.heap.size + 1, 0, none⟩ = false := HE_6.out.r1.free 0
              have f1_6 : w6.frozen? ⟨w.heap.size + 1, 1, none⟩ = false := HE_6.out.r1.free 1
              have f2_6 : w6.frozen? ⟨w.heap.size + 1, 2, none⟩ = false := HE_6.out.r1.free 2
              have c00_6 := cell_below c00_5 HB_6.out (by omega)
              have c01_6 := cell_below c01_5 HB_6.out (by omega)
              have c02_6 := cell_below c02_5 HB_6.out (by omega)
              clear x0_5 x1_5 x2_5 q0_5 q1_5 q2_5 f0_5 f1_5 f2_5 c00_5 c01_5 c02_5
              cases qa with
              | true =>
                have HSM := Lib.hid (hsm.trans (if_pos rfl))
                clear hsm
                go_wp2_with fail
                refine HQ.out _ _ _ ?_
                refine bodyPost_ret (v := .agg #[.int .i64 a.op, .int .i64 a.n, .slice A0 n0 d0]) (by simp [results, Try.results24, go_sem, q0_6, q1_6, q2_6]) rfl ?_
                rw [HSM.out]
                refine treeEnd_kid (X := fun i => i = w.heap.size + 1) (S := S) HE_6.out.below (OwnT.keep _ HO0.out (fun i hi => HBS_6.out.block i (HE_0.out.row.sb i hi).2.1)) (fun i hi => by have := HE_0.out.row.sb i hi; have := HBS_6.out.size; omega) ?_ (fun i hi => ⟨by omega, fun hs => by have := HE_0.out.row.sb i hs; omega⟩)
                repeat (first | (with_reducible exact Wr.refl _ _) | (with_reducible refine Wr.drewR ?_) | (with_reducible refine Wr.allocR ?_ _) | (with_reducible refine Wr.setR ?_ _ _ _ (Or.inl ?_)) | exact rfl | exact Or.inl rfl | exact Or.inr rfl)
              | false =>
                have HSM := Lib.hid (hsm.trans (if_neg (by simp)))
                clear hsm
                go_wp2_with fail
                refine HQ.out _ _ _ ?_
                refine bodyPost_ret (v := .agg #[.int .i64 op, .int .i64 0, .slice (some ⟨g, 0, none⟩) ks.length lc]) (by simp [results, Try.results24, go_sem, q0_6, q1_6, q2_6]; all_goals omega) rfl ?_
                rw [HSM.out]
                refine treeEnd_mk (X := fun i => i = w.heap.size + 1) HE_6.out.below HE_6.out.row (foldTs_length ks) HO64.out (by unfold In64; omega) ?_ (fun i hi => by omega) (by omega)
                repeat (first | (with_reducible exact Wr.refl _ _) | (with_reducible refine Wr.drewR ?_) | (with_reducible refine Wr.allocR ?_ _) | (with_reducible refine Wr.setR ?_ _ _ _ (Or.inl ?_)) | exact rfl | exact Or.inl rfl | exact Or.inr rfl)
            · have hk2 : ks.length = 2 := by have := HN.out; omega
              obtain ⟨a, b, hl⟩ := two_of' (l := foldTs ks) (by omega)
              have e2 : ((ks.length : Int) == 2) = true := by simp; omega
              clear hc hfl hk1
              obtain ⟨g, cap', u2, hlv, hg0, hg1, c00_0, c01_0, c02_0, hO0, A0, n0, d0, rfl⟩ := hS.row.get (foldTs_length ks) (i := 0) (by rw [hl]; rfl)
              obtain ⟨g1, cap1, u12, hlv1, _, _, c10_0, c11_0, c12_0, hO1, A1, n1, d1, rfl⟩ := hS.row.get (foldTs_length ks) (i := 1) (by rw [hl]; rfl)
              have hgg : g = g1 := by rw [hlv] at hlv1; injection hlv1 with e1; injection e1 with e1; injection e1 with e1
              subst hgg
              injection hlv with e1 e2 e3
              subst e1 e2 e3
              simp only [Nat.zero_mul, Nat.zero_add, Nat.one_mul, Nat.reduceAdd] at c00_0 c01_0 c02_0 c10_0 c11_0 c12_0
              have HO0 := Lib.hid hO0
              have HO1 := Lib.hid hO1
              have HE_0 := Lib.hid (show SmEnd w w0 op (.slice (some ⟨g, 0, none⟩) ks.length lc) ks.length (foldTs ks) xs S from ⟨hS.r1, hS.r2, hS.row, hS.below⟩)
              have HBS_0 := Lib.hid (Below.refl w0.heap.size w0)
              have x0_0 : w0.cell? ⟨w.heap.size + 1 + 1, 0, none⟩ = some (.int .i64 op) := hS.r2.cell (j := 0) rfl
              have x1_0 : w0.cell? ⟨w.heap.size + 1 + 1, 1, none⟩ = some (.int .i64 0) := hS.r2.cell (j := 1) rfl
              have x2_0 : w0.cell? ⟨w.heap.size + 1 + 1, 2, none⟩ = some (.slice (some ⟨g, 0, none⟩) ks.length lc) := hS.r2.cell (j := 2) rfl
              have q0_0 : w0.cell? ⟨w.heap.size + 1, 0, none⟩ = some (.int .i64 0) := hS.r1.cell (j := 0) rfl
              have q1_0 : w0.cell? ⟨w.heap.size + 1, 1, none⟩ = some (.int .i64 0) := hS.r1.cell (j := 1) rfl
              have q2_0 : w0.cell? ⟨w.heap.size + 1, 2, none⟩ = some (.slice none 0 0) := hS.r1.cell (j := 2) rfl
              have f0_0 := hS.r1.free 0
              have f1_0 := hS.r1.free 1
              have f2_0 := hS.r1.free 2
              have hk0 : (0 : Int) < (ks.length : Int) := by omega
              have hk1 : (1 : Int) < (ks.length : Int) := by omega
              clear hS hbw x2 hlv1 hO1 hO0
              have HAG := Lib.hid (fun W => again_any op a.op a.n A0 n0 d0 W)
              have HNE := Lib.hid (fun W => neutral_any op b.op b.n A1 n1 d1 W)
              have HIS := Lib.hid (fun W => isn_any a.op a.n 0 A0 n0 d0 W)
              obtain ⟨qa, hqa⟩ : ∃ qa, qa = againB op a.op := ⟨_, rfl⟩
              obtain ⟨qn, hqn⟩ : ∃ qn, qn = neutralB op b.op b.n := ⟨_, rfl⟩
              obtain ⟨qi, hqi⟩ : ∃ qi, qi = isT a.op a.n 0 := ⟨_, rfl⟩
              rw [← hqa] at HAG
              rw [← hqn] at HNE
              rw [← hqi] at HIS
              have hsm : smallN op (foldTs ks) = if qn = true ∨ qa = true then a else if op = 12 ∧ qi = true then b else .node op 0 (foldTs ks) := by rw [hqa, hqn, hqi]; conv => lhs; rw [hl]; unfold smallN; rw [if_neg (by rw [← hl]; exact hpl)]; simp only [← hl]
              clear hqa hqn hqi hpl
              go_wp2_with fail
              refine region_grow (by kernel_rfl) (by kernel_rfl) (fun hG => ?_)
              repeat (go_big_quiet_step (((go_at_call 40; exact call_grow (HNE.out _)))))
              refine wpQuiet_nil ?_
              rintro ⟨w5, hb⟩
              simp only []
              have HB_5 := Lib.hid hb
              clear hG hb
              have HE_5 := Lib.hid (HE_0.out.below' HB_5.out)
              have HBS_5 := Lib.hid (HBS_0.out.trans (HB_5.out.mono HBS_0.out.size))
              have hz_5 := HB_5.out.size
              have hgl_5 : g < w5.heap.size := by omega
              have hxl_5 : w.heap.size + 1 + 1 < w5.heap.size := by omega
              have x0_5 := cell_below x0_0 HB_5.out (by omega)
              have x1_5 := cell_below x1_0 HB_5.out (by omega)
              have x2_5 := cell_below x2_0 HB_5.out (by omega)
              have q0_5 := cell_below q0_0 HB_5.out (by omega)
              have q1_5 := cell_below q1_0 HB_5.out (by omega)
              have q2_5 := cell_below q2_0 HB_5.out (by omega)
              have f0_5 : w5.frozen? ⟨w.heap.size + 1, 0, none⟩ = false := HE_5.out.r1.free 0
              have f1_5 : w5.frozen? ⟨w.heap.size + 1, 1, none⟩ = false := HE_5.out.r1.free 1
              have f2_5 : w5.frozen? ⟨w.heap.size + 1, 2, none⟩ = false := HE_5.out.r1.free 2
              have c00_5 := cell_below c00_0 HB_5.out (by omega)
              have c01_5 := cell_below c01_0 HB_5.out (by omega)
              have c02_5 := cell_below c02_0 HB_5.out (by omega)
              have c10_5 := cell_below c10_0 HB_5.out (by omega)
              have c11_5 := cell_below c11_0 HB_5.out (by omega)
              have c12_5 := cell_below c12_0 HB_5.out (by omega)
              clear x0_0 x1_0 x2_0 q0_0 q1_0 q2_0 f0_0 f1_0 f2_0 c00_0 c01_0 c02_0 c10_0 c11_0 c12_0
              cases qn with
              | true =>
                have HSM := Lib.hid (hsm.trans (if_pos (Or.inl rfl)))
                clear hsm
                go_wp2_with fail
                refine HQ.out _ _ _ ?_
                refine bodyPost_ret (v := .agg #[.int .i64 a.op, .int .i64 a.n, .slice A0 n0 d0]) (by simp [results, Try.results24, go_sem, q0_5, q1_5, q2_5]) rfl ?_
                rw [HSM.out]
                refine treeEnd_kid (X := fun i => i = w.heap.size + 1) (S := S) HE_5.out.below (OwnT.keep _ HO0.out (fun i hi => HBS_5.out.block i (HE_0.out.row.sb i hi).2.1)) (fun i hi => by have := HE_0.out.row.sb i hi; have := HBS_5.out.size; omega) ?_ (fun i hi => ⟨by omega, fun hs => by have := HE_0.out.row.sb i hs; omega⟩)
                repeat (first | (with_reducible exact Wr.refl _ _) | (with_reducible refine Wr.drewR ?_) | (with_reducible refine Wr.allocR ?_ _) | (with_reducible refine Wr.setR ?_ _ _ _ (Or.inl ?_)) | exact rfl | exact Or.inl rfl | exact Or.inr rfl)
              | false =>
                go_wp2_with fail
                refine region_grow (by kernel_rfl) (by kernel_rfl) (fun hG => ?_)
                repeat (go_big_quiet_step (((go_at_call 41; exact call_grow (HAG.out _)))))
                refine wpQuiet_nil ?_
                rintro ⟨w6, hb⟩
                simp only []
                have HB_6 := Lib.hid hb
                clear hG hb
                have HE_6 := Lib.hid (HE_5.out.below' HB_6.out)
                have HBS_6 := Lib.hid (HBS_5.out.trans (HB_6.out.mono HBS_5.out.size))
                have hz_6 := HB_6.out.size
                have hgl_6 : g < w6.heap.size := by omega
                have hxl_6 : w.heap.size + 1 + 1 < w6.heap.size := by omega
                have x0_6 := cell_below x0_5 HB_6.out (by omega)
                have x1_6 := cell_below x1_5 HB_6.out (by omega)
                have x2_6 := cell_below x2_5 HB_6.out (by omega)
                have q0_6 := cell_below q0_5 HB_6.out (by omega)
                have q1_6 := cell_below q1_5 HB_6.out (by omega)
                have q2_6 := cell_below q2_5 HB_6.out (by omega)
                have f0_6 : w6.frozen? ⟨w.heap.size + 1, 0, none⟩ = false := HE_6.out.r1.free 0
                have f1_6 : w6.frozen? ⟨w.heap.size + 1, 1, none⟩ = false := HE_6.out.r1.free 1
                have f2_6 : w6.frozen? ⟨w.heap.size + 1, 2, none⟩ = false := HE_6.out.r1.free 2
                have c00_6 := cell_below c00_5 HB_6.out (by omega)
                have c01_6 := cell_below c01_5 HB_6.out (by omega)
                have c02_6 := cell_below c02_5 HB_6.out (by omega)
                have c10_6 := cell_below c10_5 HB_6.out (by omega)
                have c11_6 := cell_below c11_5 HB_6.out (by omega)
                have c12_6 := cell_below c12_5 HB_6.out (by omega)
                clear x0_5 x1_5 x2_5 q0_5 q1_5 q2_5 f0_5 f1_5 f2_5 c00_5 c01_5 c02_5 c10_5 c11_5 c12_5
                cases qa with
                | true =>
                  have HSM := Lib.hid (hsm.trans (if_pos (Or.inr rfl)))
                  clear hsm
                  go_wp2_with fail
                  refine HQ.out _ _ _ ?_
                  refine bodyPost_ret (v := .agg #[.int .i64 a.op, .int .i64 a.n, .slice A0 n0 d0]) (by simp [results, Try.results24, go_sem, q0_6, q1_6, q2_6]) rfl ?_
                  rw [HSM.out]
                  refine treeEnd_kid (X := fun i => i = w.heap.size + 1) (S := S) HE_6.out.below (OwnT.keep _ HO0.out (fun i hi => HBS_6.out.block i (HE_0.out.row.sb i hi).2.1)) (fun i hi => by have := HE_0.out.row.sb i hi; have := HBS_6.out.size; omega) ?_ (fun i hi => ⟨by omega, fun hs => by have := HE_0.out.row.sb i hs; omega⟩)
                  repeat (first | (with_reducible exact Wr.refl _ _) | (with_reducible refine Wr.drewR ?_) | (with_reducible refine Wr.allocR ?_ _) | (with_reducible refine Wr.setR ?_ _ _ _ (Or.inl ?_)) | exact rfl | exact Or.inl rfl | exact Or.inr rfl)
                | false =>
                  by_cases h12 : op = 12
                  · have d12 : (op == 12) = true := by simpa using h12
                    have HH12 := Lib.hid h12
                    cases qi with
                    | true =>
                      have HSM := Lib.hid (hsm.trans ((if_neg (by simp)).trans (if_pos ⟨h12, rfl⟩)))
                      clear hsm h12
                      go_wp2_with fail
                      refine (HIS.out _).mono ?_
                      rintro e w7 ⟨rfl, hb⟩
                      have HB_7 := Lib.hid hb
                      clear hb
                      have HE_7 := Lib.hid (HE_6.out.below' HB_7.out)
                      have HBS_7 := Lib.hid (HBS_6.out.trans (HB_7.out.mono HBS_6.out.size))
                      have hz_7 := HB_7.out.size
                      have hgl_7 : g < w7.heap.size := by omega
                      have hxl_7 : w.heap.size + 1 + 1 < w7.heap.size := by omega
                      have x0_7 := cell_below x0_6 HB_7.out (by omega)
                      have x1_7 := cell_below x1_6 HB_7.out (by omega)
                      have x2_7 := cell_below x2_6 HB_7.out (by omega)
                      have q0_7 := cell_below q0_6 HB_7.out (by omega)
                      have q1_7 := cell_below q1_6 HB_7.out (by omega)
                      have q2_7 := cell_below q2_6 HB_7.out (by omega)
                      have f0_7 : w7.frozen? ⟨w.heap.size + 1, 0, none⟩ = false := HE_7.out.r1.free 0
                      have f1_7 : w7.frozen? ⟨w.heap.size + 1, 1, none⟩ = false := HE_7.out.r1.free 1
                      have f2_7 : w7.frozen? ⟨w.heap.size + 1, 2, none⟩ = false := HE_7.out.r1.free 2
                      have c00_7 := cell_below c00_6 HB_7.out (by omega)
                      have c01_7 := cell_below c01_6 HB_7.out (by omega)
                      have c02_7 := cell_below c02_6 HB_7.out (by omega)
                      have c10_7 := cell_below c10_6 HB_7.out (by omega)
                      have c11_7 := cell_below c11_6 HB_7.out (by omega)
                      have c12_7 := cell_below c12_6 HB_7.out (by omega)
                      clear x0_6 x1_6 x2_6 q0_6 q1_6 q2_6 f0_6 f1_6 f2_6 c00_6 c01_6 c02_6 c10_6 c11_6 c12_6
                      go_wp2_with fail
                      refine HQ.out _ _ _ ?_
                      refine bodyPost_ret (v := .agg #[.int .i64 b.op, .int .i64 b.n, .slice A1 n1 d1]) (by simp [results, Try.results24, go_sem, q0_7, q1_7, q2_7]) rfl ?_
                      rw [HSM.out]
                      refine treeEnd_kid (X := fun i => i = w.heap.size + 1) (S := S) HE_7.out.below (OwnT.keep _ HO1.out (fun i hi => HBS_7.out.block i (HE_0.out.row.sb i hi).2.1)) (fun i hi => by have := HE_0.out.row.sb i hi; have := HBS_7.out.size; omega) ?_ (fun i hi => ⟨by omega, fun hs => by have := HE_0.out.row.sb i hs; omega⟩)
                      repeat (first | (with_reducible exact Wr.refl _ _) | (with_reducible refine Wr.drewR ?_) | (with_reducible refine Wr.allocR ?_ _) | (with_reducible refine Wr.setR ?_ _ _ _ (Or.inl ?_)) | exact rfl | exact Or.inl rfl | exact Or.inr rfl)
                    | false =>
                      have HSM := Lib.hid (hsm.trans ((if_neg (by simp)).trans (if_neg (by simp))))
                      clear hsm h12
                      go_wp2_with fail
                      refine (HIS.out _).mono ?_
                      rintro e w7 ⟨rfl, hb⟩
                      have HB_7 := Lib.hid hb
                      clear hb
                      have HE_7 := Lib.hid (HE_6.out.below' HB_7.out)
                      have HBS_7 := Lib.hid (HBS_6.out.trans (HB_7.out.mono HBS_6.out.size))
                      have hz_7 := HB_7.out.size
                      have hgl_7 : g < w7.heap.size := by omega
                      have hxl_7 : w.heap.size + 1 + 1 < w7.heap.size := by omega
                      have x0_7 := cell_below x0_6 HB_7.out (by omega)
                      have x1_7 := cell_below x1_6 HB_7.out (by omega)
                      have x2_7 := cell_below x2_6 HB_7.out (by omega)
                      have q0_7 := cell_below q0_6 HB_7.out (by omega)
                      have q1_7 := cell_below q1_6 HB_7.out (by omega)
                      have q2_7 := cell_below q2_6 HB_7.out (by omega)
                      have f0_7 : w7.frozen? ⟨w.heap.size + 1, 0, none⟩ = false := HE_7.out.r1.free 0
                      have f1_7 : w7.frozen? ⟨w.heap.size + 1, 1, none⟩ = false := HE_7.out.r1.free 1
                      have f2_7 : w7.frozen? ⟨w.heap.size + 1, 2, none⟩ = false := HE_7.out.r1.free 2
                      have c00_7 := cell_below c00_6 HB_7.out (by omega)
                      have c01_7 := cell_below c01_6 HB_7.out (by omega)
                      have c02_7 := cell_below c02_6 HB_7.out (by omega)
                      have c10_7 := cell_below c10_6 HB_7.out (by omega)
                      have c11_7 := cell_below c11_6 HB_7.out (by omega)
                      have c12_7 := cell_below c12_6 HB_7.out (by omega)
                      clear x0_6 x1_6 x2_6 q0_6 q1_6 q2_6 f0_6 f1_6 f2_6 c00_6 c01_6 c02_6 c10_6 c11_6 c12_6
                      go_wp2_with fail
                      refine HQ.out _ _ _ ?_
                      refine bodyPost_ret (v := .agg #[.int .i64 op, .int .i64 0, .slice (some ⟨g, 0, none⟩) ks.length lc]) (by simp [results, Try.results24, go_sem, q0_7, q1_7, q2_7]; all_goals omega) rfl ?_
                      rw [HSM.out]
                      refine treeEnd_mk (X := fun i => i = w.heap.size + 1) HE_7.out.below HE_7.out.row (foldTs_length ks) HO64.out (by unfold In64; omega) ?_ (fun i hi => by omega) (by omega)
                      repeat (first | (with_reducible exact Wr.refl _ _) | (with_reducible refine Wr.drewR ?_) | (with_reducible refine Wr.allocR ?_ _) | (with_reducible refine Wr.setR ?_ _ _ _ (Or.inl ?_)) | exact rfl | exact Or.inl rfl | exact Or.inr rfl)
                  · have d12 : (op == 12) = false := by simpa using h12
                    have HSM := Lib.hid (hsm.trans ((if_neg (by simp)).trans (if_neg (by simp [h12]))))
                    clear hsm h12
                    go_wp2_with fail
                    refine HQ.out _ _ _ ?_
                    refine bodyPost_ret (v := .agg #[.int .i64 op, .int .i64 0, .slice (some ⟨g, 0, none⟩) ks.length lc]) (by simp [results, Try.results24, go_sem, q0_6, q1_6, q2_6]; all_goals omega) rfl ?_
                    rw [HSM.out]
                    refine treeEnd_mk (X := fun i => i = w.heap.size + 1) HE_6.out.below HE_6.out.row (foldTs_length ks) HO64.out (by unfold In64; omega) ?_ (fun i hi => by omega) (by omega)
                    repeat (first | (with_reducible exact Wr.refl _ _) | (with_reducible refine Wr.drewR ?_) | (with_reducible refine Wr.allocR ?_ _) | (with_reducible refine Wr.setR ?_ _ _ _ (Or.inl ?_)) | exact rfl | exact Or.inl rfl | exact Or.inr rfl)
end Go.Proofs.Ytjkgpolikpochaa
