/- between: an op of some ops between each two trees, folded. Conditions: as stated. -/
import Derived.Test.YtjkgpolikpochaaFoldLZz
import Derived.Test.YtjkgpolikpochaaBetwRZz
set_option linter.unusedVariables false
set_option linter.unusedSimpArgs false
namespace Go.Proofs.Ytjkgpolikpochaa
open Go.RowKit

/-- Apart from the row that grows, and from the box that holds it. -/
def Aside (W : World) (lv : Value) (p7 : Nat) : Nat → Nat → Prop := fun b _ => b < W.heap.size ∧ ¬ lv.ownBlock = some b ∧ b ≠ p7
structure QT (W : World) (base p7 : Nat) (lv : Value) (k : Nat) (ts : List T) (xs : List Value) : Prop where
  own : W.ownsRow base 28 3 lv k xs
  len : ts.length = k
  each : ∀ j t, ts[j]? = some t → ∃ v0 v1 v2, xs[j * 3]? = some v0 ∧ xs[j * 3 + 1]? = some v1 ∧ xs[j * 3 + 2]? = some v2 ∧ TreeAt W (Aside W lv p7) t v0 v1 v2
structure QS (w W : World) (p7 : Nat) (tv sv : Value) (LA : Option Addr) (ln lc k : Nat) (ts : List T) (xs : List Value) : Prop where
  r1 : Row W w.heap.size #[tv, sv] 25
  r7 : Row W p7 #[.slice LA ln lc, .slice none 0 0] 25
  qt : QT W (p7 + 1) p7 (.slice LA ln lc) k ts xs
  below : Below w.heap.size w W
  lt : w.heap.size < p7
theorem QT.nil (W : World) (base p7 : Nat) : QT W base p7 (.slice none 0 0) 0 [] [] :=
  ⟨World.ownsRow_nil _ _ _ _, rfl, fun j t h => by simp at h⟩
theorem QT.below {W W' : World} {base p7 : Nat} {lv : Value} {k : Nat} {ts : List T} {xs : List Value} (h : QT W base p7 lv k ts xs) (hb : Below W.heap.size W W') : QT W' base p7 lv k ts xs :=
  ⟨ownsRow_wr h.own (F := fun _ => False) (Wr.of_below hb) (fun _ _ h => h), h.len, fun j t hj => by
    obtain ⟨v0, v1, v2, e0, e1, e2, ht⟩ := h.each j t hj
    exact ⟨v0, v1, v2, e0, e1, e2, TreeAt.keep (fun b off hc => ⟨⟨Nat.lt_of_lt_of_le hc.1 hb.size, hc.2.1, hc.2.2⟩, fun i => hb.cell (p := ⟨b, i, none⟩) hc.1⟩) t ht⟩⟩
theorem QS.below' {w W W' : World} {p7 : Nat} {tv sv : Value} {LA : Option Addr} {ln lc k : Nat} {ts : List T} {xs : List Value} (h : QS w W p7 tv sv LA ln lc k ts xs) (hb : Below W.heap.size W W') : QS w W' p7 tv sv LA ln lc k ts xs :=
  ⟨h.r1.below hb h.r1.lt, h.r7.below hb h.r7.lt, h.qt.below hb, h.below.trans (hb.mono h.below.size), h.lt⟩

theorem QT.kids {W : World} {base p7 : Nat} {lv : Value} {k : Nat} {ts : List T} {xs : List Value} (h : QT W base p7 lv k ts xs) {A : Option Addr} {n c : Nat} (hlv : lv = .slice A n c) : KidsV W W.heap.size ts A n ∧ n = k := by
  obtain ⟨hl, hr⟩ := h.own
  rcases hr with ⟨hv, hn⟩ | ⟨g, cap, cur, hv, hg, hh, hc1, hc2, hc3, hc4⟩
  · rw [hlv] at hv
    simp only [Value.slice.injEq] at hv
    obtain ⟨rfl, rfl, rfl⟩ := hv
    exact ⟨⟨by rw [h.len, hn], by omega, fun hp => by omega⟩, hn.symm⟩
  · have hglt : g < W.heap.size := Row.lt (t := 28) hh
    rw [hlv] at hv
    simp only [Value.slice.injEq] at hv
    obtain ⟨rfl, rfl, rfl⟩ := hv
    refine ⟨⟨h.len, by unfold maxLen at hc2; omega, fun hp => ⟨g, 0, rfl, by omega, KidsAt.of (fun i t hi => ?_)⟩⟩, rfl⟩
    obtain ⟨u0, u1, u2, e0, e1, e2, e3⟩ := h.each i t hi
    have hcell : ∀ j u, xs[j]? = some u → W.cell? ⟨g, j, none⟩ = some u := fun j u hj => by
      rw [← hc4] at hj
      have hlt : j < n * 3 := by
        rcases Nat.lt_or_ge j (n * 3) with h | h
        · exact h
        · rw [List.getElem?_take, if_neg (by omega)] at hj; cases hj
      rw [List.getElem?_take, if_pos hlt, Array.getElem?_toList] at hj
      exact (Row.cell (cs := cur) (t := 28) hh hj)
    rw [show (0 : Nat) + i * 3 = i * 3 by omega]
    exact ⟨u0, u1, u2, hcell _ _ e0, hcell _ _ e1, hcell _ _ e2, TreeAt.keep (fun b off hc => ⟨hc.1, fun _ => rfl⟩) t e3⟩
theorem QT.lt {W : World} {base p7 : Nat} {lv : Value} {k : Nat} {ts : List T} {xs : List Value} (h : QT W base p7 lv k ts xs) {g : Nat} (hg : lv.ownBlock = some g) : base ≤ g ∧ g < W.heap.size := by
  obtain ⟨h1, cs, h2⟩ := ownsRow_row h.own hg
  exact ⟨h1, h2.lt⟩
theorem QS.next {w w6 W2 w3 : World} {p7 : Nat} {tv sv : Value} {LA : Option Addr} {ln lc k g cap : Nat} {ts : List T} {xs : List Value} {t : T} {v0 v1 v2 : Value} (h : QS w w6 p7 tv sv LA ln lc k ts xs)
    (ht : TreeAt w6 (Aside w6 (.slice LA ln lc) p7) t v0 v1 v2) (h2 : Below w6.heap.size w6 W2) (hown : w3.ownsRow (p7 + 1) 28 3 (.slice (some ⟨g, 0, none⟩) (k + 1) cap) (k + 1) (xs ++ [v0, v1, v2]))
    (hgrow : W2.grownBy w3 (Value.slice LA ln lc).ownBlock) (hat : (Value.slice LA ln lc).ownBlock = some g ∨ g = W2.heap.size) :
    QS w (w3.setCell ⟨p7, 0, none⟩ (.slice (some ⟨g, 0, none⟩) (k + 1) cap)) p7 tv sv (some ⟨g, 0, none⟩) (k + 1) cap (k + 1) (ts ++ [t]) (xs ++ [v0, v1, v2]) := by
  have z2 := h2.size
  have z3 := hgrow.size
  have h7 := h.r7.lt
  have hown' : ∀ i, (Value.slice LA ln lc).ownBlock = some i → p7 + 1 ≤ i ∧ i < w6.heap.size := fun i hi => h.qt.lt hi
  have hw3 : Wr (fun i => (Value.slice LA ln lc).ownBlock = some i) w6 w3 := (Wr.of_below (F := fun i => (Value.slice LA ln lc).ownBlock = some i) h2).trans (Wr.grown hgrow (fun i hi => hi)) (fun i hi => Or.inl hi)
  have hw4 : Wr (fun i => (Value.slice LA ln lc).ownBlock = some i ∨ i = p7) w6 (w3.setCell ⟨p7, 0, none⟩ (.slice (some ⟨g, 0, none⟩) (k + 1) cap)) := (hw3.mono (G := fun i => (Value.slice LA ln lc).ownBlock = some i ∨ i = p7) (fun i hi => Or.inl (Or.inl hi))).setR p7 0 _ (Or.inl (Or.inr rfl))
  have hgb : p7 + 1 ≤ g := by rcases hat with e | e; exact (hown' g e).1; omega
  have hkeep : ∀ b, Aside w6 (.slice LA ln lc) p7 b 0 → (w3.setCell ⟨p7, 0, none⟩ (.slice (some ⟨g, 0, none⟩) (k + 1) cap)).heap[b]? = w6.heap[b]? := fun b hb => hw4.block b hb.1 (fun e => by rcases e with e | e; exact hb.2.1 e; exact hb.2.2 e)
  have haside : ∀ b, Aside w6 (.slice LA ln lc) p7 b 0 → Aside (w3.setCell ⟨p7, 0, none⟩ (.slice (some ⟨g, 0, none⟩) (k + 1) cap)) (.slice (some ⟨g, 0, none⟩) (k + 1) cap) p7 b 0 := fun b hb => by
    refine ⟨by have := hb.1; have := hw4.size; omega, fun e => ?_, hb.2.2⟩
    simp only [Value.ownBlock, Option.some.injEq] at e
    subst e
    rcases hat with e | e
    · exact hb.2.1 e
    · have := hb.1; omega
  have hcell : ∀ b i, Aside w6 (.slice LA ln lc) p7 b 0 → (w3.setCell ⟨p7, 0, none⟩ (.slice (some ⟨g, 0, none⟩) (k + 1) cap)).cell? ⟨b, i, none⟩ = w6.cell? ⟨b, i, none⟩ := fun b i hb => World.cell?_of_block (a := ⟨b, i, none⟩) (hkeep b hb)
  have hT : ∀ (t' : T) {u0 u1 u2 : Value}, TreeAt w6 (Aside w6 (.slice LA ln lc) p7) t' u0 u1 u2 → TreeAt (w3.setCell ⟨p7, 0, none⟩ (.slice (some ⟨g, 0, none⟩) (k + 1) cap)) (Aside (w3.setCell ⟨p7, 0, none⟩ (.slice (some ⟨g, 0, none⟩) (k + 1) cap)) (.slice (some ⟨g, 0, none⟩) (k + 1) cap) p7) t' u0 u1 u2 := fun t' _ _ _ h' =>
    TreeAt.keep (fun b off hc => ⟨haside b hc, fun i => hcell b i hc⟩) t' h'
  have hxl : xs.length = k * 3 := h.qt.own.1
  refine ⟨h.r1.wr hw4 (fun e => ?_), ?_, ⟨ownsRow_wr hown (Wr.setCell (F := fun i => i = p7) w3 ⟨p7, 0, none⟩ _ rfl) (fun i hi e => ?_), by simp [h.qt.len], fun j t' hj => ?_⟩, h.below.trans (hw4.below h.below.size (fun i hi => ?_)), h.lt⟩
  · rcases e with e | e
    · have := (hown' _ e).1; have := h.lt; omega
    · have := h.lt; omega
  · exact (h.r7.wr hw3 (fun e => by have := (hown' _ e).1; omega)).set 0 _
  · simp only [Value.ownBlock, Option.some.injEq] at hi; omega
  · rcases Nat.lt_or_ge j ts.length with hlt | hge
    · rw [List.getElem?_append_left hlt] at hj
      obtain ⟨u0, u1, u2, e0, e1, e2, e3⟩ := h.qt.each j t' hj
      have hjk : j * 3 + 2 < xs.length := by rw [hxl, ← h.qt.len]; omega
      exact ⟨u0, u1, u2, by rw [List.getElem?_append_left (by omega)]; exact e0, by rw [List.getElem?_append_left (by omega)]; exact e1, by rw [List.getElem?_append_left (by omega)]; exact e2, hT t' e3⟩
    · have hjl : j = ts.length := by
        rcases Nat.lt_or_ge j (ts.length + 1) with h' | h'
        · omega
        · rw [List.getElem?_eq_none (by simpa using h')] at hj; cases hj
      subst hjl
      simp at hj
      subst hj
      have hlk := h.qt.len
      refine ⟨v0, v1, v2, ?_, ?_, ?_, hT t ht⟩
      · rw [List.getElem?_append_right (by omega), show ts.length * 3 - xs.length = 0 by omega]; rfl
      · rw [List.getElem?_append_right (by omega), show ts.length * 3 + 1 - xs.length = 1 by omega]; rfl
      · rw [List.getElem?_append_right (by omega), show ts.length * 3 + 2 - xs.length = 2 by omega]; rfl
  · rcases hi with hi | hi
    · have := (hown' _ hi).1; have := h.lt; omega
    · have := h.lt; omega
theorem QS.row3 {w w6 W2 w3 : World} {p7 : Nat} {tv sv : Value} {LA : Option Addr} {ln lc k : Nat} {ts : List T} {xs : List Value} (h : QS w w6 p7 tv sv LA ln lc k ts xs)
    (h2 : Below w6.heap.size w6 W2) (hgrow : W2.grownBy w3 (Value.slice LA ln lc).ownBlock) : Row w3 p7 #[.slice LA ln lc, .slice none 0 0] 25 := by
  have hw3 : Wr (fun i => (Value.slice LA ln lc).ownBlock = some i) w6 w3 := (Wr.of_below (F := fun i => (Value.slice LA ln lc).ownBlock = some i) h2).trans (Wr.grown hgrow (fun i hi => hi)) (fun i hi => Or.inl hi)
  exact h.r7.wr hw3 (fun e => by have := (h.qt.lt e).1; omega)
theorem QS.reset {w W : World} {p7 : Nat} {tv sv : Value} {LA : Option Addr} {ln lc k : Nat} {ts : List T} {xs : List Value} (h : QS w W p7 tv sv LA ln lc k ts xs) : QS w (W.setCell ⟨p7, 0, none⟩ (.slice none 0 0)) p7 tv sv none 0 0 0 [] [] :=
  ⟨h.r1.other (by have := h.lt; omega) 0 _, h.r7.set 0 _, QT.nil _ _ _, h.below.trans ((Wr.setCell (F := fun i => i = p7) W ⟨p7, 0, none⟩ _ rfl).below h.below.size (fun i hi => by have := h.lt; omega)), h.lt⟩
theorem QS.old {w wr W : World} {p7 : Nat} {tv sv : Value} {LA : Option Addr} {ln lc k B : Nat} {ts : List T} {xs : List Value} (h : QS w wr p7 tv sv LA ln lc k ts xs) (hB : B ≤ w.heap.size) (hb : Below wr.heap.size wr W) {t : T} {v0 v1 v2 : Value} (ht : TreeAt wr (Under B) t v0 v1 v2) :
    TreeAt W (Aside W (.slice LA ln lc) p7) t v0 v1 v2 :=
  TreeAt.keep (fun b off (hc : b < B) => by
    have h1 := h.below.size
    have h2 := h.lt
    have h3 := hb.size
    exact ⟨⟨by omega, fun e => by have := (h.qt.lt e).1; omega, by omega⟩, fun i => hb.cell (p := ⟨b, i, none⟩) (by show b < _; omega)⟩) t ht
theorem QS.fresh {w wr W : World} {p7 : Nat} {tv sv : Value} {LA : Option Addr} {ln lc k : Nat} {ts : List T} {xs : List Value} (h : QS w wr p7 tv sv LA ln lc k ts xs) {g : Nat} (hg : wr.heap.size ≤ g) (hl : g < W.heap.size) : Aside W (.slice LA ln lc) p7 g 0 := by
  have h1 := h.r7.lt
  exact ⟨hl, fun e => by have := (h.qt.lt e).2; omega, by omega⟩
theorem no_strs (w : World) (B : Nat) : StrsAt w B [] none 0 := ⟨rfl, by omega, fun s hs => by simp at hs, fun h => by omega⟩
/-- FoldTrees, of what has been gathered. -/
theorem QS.asked {w W : World} {p7 : Nat} {tv sv : Value} {LA : Option Addr} {ln lc k : Nat} {ts : List T} {xs : List Value} (h : QS w W p7 tv sv LA ln lc k ts xs) (hk : k ≤ 8) :
    Calls Try.prog 3 #[.agg #[.slice LA ln lc, .slice none 0 0]] W fun e w' => e = .returned (.bool true) ∧ Below W.heap.size W w' := by
  obtain ⟨h1, h2⟩ := h.qt.kids rfl
  exact trees_any ts [] LA none ln lc 0 0 W.heap.size W (Nat.le_refl _) h1 (by omega) (no_strs _ _)

set_option maxRecDepth 100000 in
set_option maxHeartbeats 8000000 in
theorem lbetw_any (ts : List T) (ss : List ByteArray) (TA SA : Option Addr) (tn tc sn sc B fr up : Nat) (hft : fr ≤ up + 1) (hto : up ≤ 100) (w : World) (hB : B ≤ w.heap.size) (hT : KidsV w B ts TA tn) (htn : tn ≤ 140737488355328) (hS : StrsAt w B ss SA sn) :
    Calls Try.prog 20 #[.agg #[.slice TA tn tc, .slice SA sn sc], .int .i64 fr, .int .i64 up] w fun e w' => e = .returned (.bool true) ∧ Below w.heap.size w w' := by
  have HT := Lib.hid hT
  have HS := Lib.hid hS
  clear hT hS
  obtain ⟨i0, hi, hz0, hz1', hz2⟩ := info_parts tree_info
  go_enter Try.func20, Try.ntmps20
  refine wp_letter (fun Q hQ => ?_)
  have HQ := Lib.hid hQ
  clear hQ
  go_wp2_with fail
  refine (heavy_any ts ss TA SA tn tc sn sc B _ (by simp; omega) (HT.out.below ((below1 _ _).mono hB) (Nat.le_refl _)) htn (HS.out.below ((below1 _ _).mono hB) (Nat.le_refl _))).mono ?_
  rintro e w1 ⟨rfl, hb1⟩
  have HB1 := Lib.hid ((below1 w _).trans (hb1.mono (by simp)))
  have HRB := Lib.hid ((Row.new w _ _).below hb1 (by simp))
  have hz1 : w.heap.size < w1.heap.size := by have := hb1.size; simp at this; omega
  clear hb1
  cases hh : heavyB ts ss with
  | true =>
    go_wp2_with fail
    refine HQ.out _ _ _ ?_
    refine bodyPost_ret (v := .bool true) (by simp [results, Try.results20, go_sem]) rfl ⟨rfl, HB1.out⟩
  | false =>
    clear hh
    go_wp2_with fail
    have HQ0 := Lib.hid (⟨HRB.out.alloc _, Row.new _ _ _, QT.nil _ _ _, HB1.out.alloc HB1.out.size _, hz1⟩ : QS w (w1.alloc (.cells #[.slice none 0 0, .slice none 0 0] 25)) w1.heap.size (.slice TA tn tc) (.slice SA sn sc) none 0 0 0 [] [])
    go_loopw [8] (fun i wr => ∃ (k : Nat) (LA : Option Addr) (ln lc m : Nat) (us : List T) (xs : List Value), k ≤ 3 ∧ m < 8 ∧ i = .int .i64 k ∧ QS w wr w1.heap.size (.slice TA tn tc) (.slice SA sn sc) LA ln lc m us xs) (fun i _ => 3 - (intOf i).toNat)
    case atStart => exact ⟨0, none, 0, 0, 0, [], [], by omega, by omega, rfl, HQ0.out⟩
    case round =>
      obtain ⟨k, LA, ln, lc, m, us, xs, hk3, hm8, rfl, hq⟩ := hrel
      have b0 := hq.r1.cell (j := 0) rfl
      have HQS := Lib.hid hq
      clear hq HQ0
      have hor : (decide ((k : Int) + 1 < (tn : Int)) = false) ∨ (decide ((k : Int) + 1 < (tn : Int)) = true ∧ (k : Int) + 1 < tn ∧ decide ((k : Int) < 3) = false) ∨ (decide ((k : Int) + 1 < (tn : Int)) = true ∧ (k : Int) + 1 < tn ∧ decide ((k : Int) < 3) = true ∧ k < 3) := by
        by_cases h1 : (k : Int) + 1 < (tn : Int)
        · by_cases h2 : k < 3
          · exact Or.inr (Or.inr ⟨by simpa using h1, h1, by simp; omega, h2⟩)
          · exact Or.inr (Or.inl ⟨by simpa using h1, h1, by simp; omega⟩)
        · exact Or.inl (by simpa using h1)
      rcases hor with hd | ⟨hd, hlt, hd2⟩ | ⟨hd, hlt, hd2, hlt3⟩
      case' inr.inr =>
        go_wp2_with fail
        obtain ⟨w4, hw4⟩ : ∃ w4 : World, w4 = wr := ⟨_, rfl⟩
        rw [← hw4] at HQS b0 ⊢
        have HW4 := Lib.hid hw4
        clear hw4
        go_loopw [9] (fun i wr => ∃ (op : Nat) (LA : Option Addr) (ln lc m : Nat) (us : List T) (xs : List Value), fr ≤ op ∧ op ≤ up + 1 ∧ m < 8 ∧ i = .int .i64 op ∧ QS w wr w1.heap.size (.slice TA tn tc) (.slice SA sn sc) LA ln lc m us xs) (fun i _ => up + 1 - (intOf i).toNat)
        case atStart => exact ⟨fr, LA, ln, lc, m, us, xs, by omega, by omega, by omega, rfl, HQS.out⟩
        case round =>
          clear HQS
          obtain ⟨op, LA, ln, lc, m, us, xs, ho1, ho2, hm8, rfl, hq⟩ := hrel
          have HQS := Lib.hid hq
          clear hq b0
          by_cases hop : op ≤ up
          · have do1 : decide ((op : Int) ≤ (up : Int)) = true := by simpa using hop
            have do2 : decide (op ≤ up) = true := by simpa using hop
            have HT2 := Lib.hid (HT.out.below (HQS.out.below.mono hB) (Nat.le_refl _))
            obtain ⟨b, off, ta, a0, a1, a2, hTA, hbB, _, c0, c1, c2, hta⟩ := HT2.out.get (show k < tn by omega)
            obtain ⟨b', off', tb, e0, e1, e2, hTA', _, _, d0, d1, d2, htb⟩ := HT2.out.get (show k + 1 < tn by omega)
            rw [hTA] at hTA'
            simp only [Option.some.injEq, Addr.mk.injEq, and_true] at hTA'
            obtain ⟨rfl, rfl⟩ := hTA'
            subst hTA
            have HA := Lib.hid hta
            have HBt := Lib.hid htb
            obtain ⟨A1, n1, cc1, rfl, rfl, rfl⟩ := hta.root
            obtain ⟨A2, n2, cc2, rfl, rfl, rfl⟩ := htb.root
            have b0 := HQS.out.r1.cell (j := 0) rfl
            have hk0 : (0 : Int) ≤ (k : Int) := by omega
            have hk1 : (k : Int) < (tn : Int) := by omega
            have hk2 : (0 : Int) ≤ (k : Int) + 1 := by omega
            have hz4 : w.heap.size < wr.heap.size := HQS.out.r1.lt
            have hz5 : b < wr.heap.size := by have := HQS.out.below.size; omega
            clear hta htb HT2
            go_wp2_with fail
            refine betw_region w.heap.size b off k tn tc op _ _ _ _ _ _ _ _ _ _ wr _ HQS.out.r1 hz5 htn (by omega) c0 c1 c2 d0 d1 d2 _ _ _ _ _ _ _ _ _ _ _ _ _ _ _ _ _ _ _ _ _ _ _ _ _ _ _ _ _ _ _ _ _ _ _ _ _ _ _ _ _ _ _ _ _ _ _ _ _ _ _ _ _ _ _ _ _ _ _ _ _ _ _ _ _ _ _ (fun w5 g p Y hb5 hg hp hrg hrp hne => ?_)
            clear c0 c1 c2 d0 d1 d2 b0
            have hk2' : ((kidsI op) == 1) = true ∨ ((kidsI op) == 1) = false := by cases ((kidsI op) == 1) <;> simp
            go_wp2_with fail
            refine (kids_any _ _).mono ?_
            rintro e w' ⟨rfl, rfl⟩
            rcases hk2' with hkk | hkk
            case' inl =>
              have q0 := hrp.cell (j := 0) rfl
              have q1 := hrp.cell (j := 1) rfl
              have q2 := hrp.cell (j := 2) rfl
              have f0 := hrp.free 0
              have f1 := hrp.free 1
              have f2 := hrp.free 2
              have hw6 : Wr (fun i => i = p) w5 (w5.setCell ⟨p, 2, none⟩ (.slice (some ⟨g, 0, none⟩) 1 2)) := Wr.setCell w5 ⟨p, 2, none⟩ _ rfl
              have HRP := Lib.hid (hrp.set 2 (.slice (some ⟨g, 0, none⟩) 1 2))
              have HRG := Lib.hid (hrg.wr hw6 (fun e => hne e))
              have HB6 := Lib.hid (hb5.trans (hw6.below hb5.size (fun i hi => by omega)))
              clear hb5 hrg hrp hw6
              have HT6 := Lib.hid (TreeAt.one (op := (op : Int)) (n := 0) (c := 2) (i64c (by omega) (by omega)) (i64c (by omega) (by omega)) HRG.out rfl rfl rfl (HQS.out.fresh hg HRG.out.lt) (HQS.out.old hB HB6.out HA.out))
              go_upto_region 13 with fail
              obtain ⟨v2, hv2⟩ : ∃ v, v = Value.slice (some ⟨g, 0, none⟩) 1 2 := ⟨_, rfl⟩
              simp only [List.setIfInBounds_toArray, List.set_cons_succ, List.set_cons_zero] at HRP
              generalize w5.setCell ⟨p, 2, none⟩ (Value.slice (some ⟨g, 0, none⟩) 1 2) = w6 at *
              rw [← hv2] at HT6 HRP
              have hv2c : v2.oneCell' = true := by rw [hv2]; rfl
              clear q0 q1 q2 f0 f1 f2 hv2
            case' inr =>
              have HT6 := Lib.hid (TreeAt.two (op := (op : Int)) (n := 0) (c := 2) (i64c (by omega) (by omega)) (i64c (by omega) (by omega)) hrg (HQS.out.fresh hg hrg.lt) (HQS.out.old hB hb5 HA.out) (HQS.out.old hB hb5 HBt.out))
              have HRP := Lib.hid hrp
              have HRG := Lib.hid hrg
              have HB6 := Lib.hid hb5
              clear hb5 hrg hrp
              go_upto_region 13 with fail
              obtain ⟨v2, hv2⟩ : ∃ v, v = Value.slice (some ⟨g, 0, none⟩) 2 2 := ⟨_, rfl⟩
              rw [← hv2] at HT6 HRP
              generalize w5 = w6 at *
              have hv2c : v2.oneCell' = true := by rw [hv2]; rfl
              clear hv2
            all_goals
              have HQ6 := Lib.hid (HQS.out.below' HB6.out)
              have q0 := HQ6.out.r7.cell (j := 0) rfl
              have q1 := HQ6.out.r7.cell (j := 1) rfl
              have f0 := HQ6.out.r7.free 0
              have r0 := HRP.out.cell (j := 0) rfl
              have r1 := HRP.out.cell (j := 1) rfl
              have r2 := HRP.out.cell (j := 2) rfl
              have hln : ln = m := (HQ6.out.qt.kids rfl).2
              subst hln
              have h76 := HQ6.out.r7.lt
              have HC2 := Lib.hid (show ∀ u, u ∈ [Value.int .i64 op, .int .i64 0, v2] → u.oneCell' = true from fun u hu => by simp at hu; rcases hu with rfl | rfl | rfl <;> first | rfl | exact hv2c)
              go_wp2_with (at_builtin; refine wpList_append_lies _ rfl (.tmp 54) (.tmp 56) 22 rfl (w1.heap.size + 1) 28 i0 (.agg #[.int .i64 0, .int .i64 0, .slice none 0 0]) 3 40 Try.underlying22 hi hz0 hz1' hz2 rfl (by decide) _ ln xs rfl (by exact (ownsRow_wr HQ6.out.qt.own ((Wr.refl (fun _ => False) w6).allocR _) (fun _ _ h => h))) ⟨w6.heap.size, 0, none⟩ 1 1 [.int .i64 op, .int .i64 0, v2] rfl rfl (by exact cells_new _ _ _) HC2.out (by decide) (by unfold maxLen; omega) (by omega) (by simp; omega) _ rfl ?_)
              intro g' cap' w3 hown3 hgrow hat hglt
              have HN := Lib.hid (QS.next HQ6.out HT6.out (below1 w6 _) hown3 hgrow (by simpa using hat))
              have hrow3 := HQ6.out.row3 (below1 w6 _) hgrow
              clear hown3 hgrow hat q0 q1 f0 r0 r1 r2
              have q0 := hrow3.cell (j := 0) rfl
              have q1 := hrow3.cell (j := 1) rfl
              have f0 := hrow3.free 0
              clear hrow3
              by_cases h8 : ln = 7
              · subst h8
                go_wp2_with fail
                refine (HN.out.asked (by omega)).mono ?_
                rintro e w8 ⟨rfl, hb8⟩
                have HN8 := Lib.hid (HN.out.below' hb8)
                clear hb8 q0 q1 f0
                have q0 := HN8.out.r7.cell (j := 0) rfl
                have f0 := HN8.out.r7.free 0
                go_wp2_with fail
                go_roundw
                case rel => exact ⟨op + 1, none, 0, 0, 0, [], [], by omega, by omega, by omega, by go_num, HN8.out.reset⟩
                case measure => simp [intOf]; omega
              · have d8 : (((ln : Int) + 1) == 8) = false := by simp; omega
                go_wp2_with fail
                go_roundw
                case rel => exact ⟨op + 1, _, _, _, _, _, _, by omega, by omega, by omega, by go_num, HN.out⟩
                case measure => simp [intOf]; omega
          · obtain rfl : op = up + 1 := by omega
            have do1 : decide (((up + 1 : Nat) : Int) ≤ (up : Int)) = false := by simp; omega
            have do2 : decide (up + 1 ≤ up) = false := by simp
            have do3 : decide ((up : Int) + 1 ≤ (up : Int)) = false := by simp; omega
            go_wp2_with fail
            go_roundw
            case rel => exact ⟨k + 1, LA, ln, lc, m, us, xs, by omega, by omega, by go_num, HQS.out⟩
            case measure => simp [intOf]; omega
      all_goals
        have q0 := HQS.out.r7.cell (j := 0) rfl
        have q1 := HQS.out.r7.cell (j := 1) rfl
        go_wp2_with fail
        refine (HQS.out.asked (by omega)).mono ?_
        rintro e w2 ⟨rfl, hb2⟩
        have HB2 := Lib.hid hb2
        clear hb2
        go_wp2_with fail
        refine HQ.out _ _ _ ?_
        refine bodyPost_ret (v := .bool true) (by simp [results, Try.results20, go_sem]) rfl ⟨rfl, HQS.out.below.trans (HB2.out.mono HQS.out.below.size)⟩
end Go.Proofs.Ytjkgpolikpochaa
