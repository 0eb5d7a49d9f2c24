/- FoldIdle: true of whatever is asked. No condition. -/
import Derived.Test.YtjkgpolikpochaaFoldLZ
set_option linter.unusedVariables false
set_option linter.unusedSimpArgs false
namespace Go.Proofs.Ytjkgpolikpochaa
open Go.RowKit

def idK (n : Int) : Nat → List T
  | 0 => [.node 2 0 [], .node 1 n []]
  | 1 => [.node 1 n [], .node 2 0 []]
  | _ => [.node 2 0 [], .node 2 0 []]
def idT (op n : Int) (k : Nat) : T := .node op 0 (idK n k)
theorem kidsI_bin {op : Int} (h : 12 ≤ op) (h' : op ≤ 30) : kidsI op = 2 := by
  unfold kidsI
  repeat (split; first | rfl | omega | skip)
  all_goals omega
theorem leaf_ok {op n : Int} (h : op = 1 ∨ (op = 2 ∧ n = 0)) : okT (.node op n []) := by
  rw [okT_node]
  refine ⟨badN_iff.2 ⟨?_, fun h' => by omega, fun h' => by omega⟩, by simp [okTs]⟩
  rcases h with h | ⟨h, _⟩ <;> subst h <;> rfl
theorem idT_may (op n : Int) (k : Nat) (h : 12 ≤ op) (h' : op ≤ 30) : mayB (idT op n k) = true := by
  have h1 : okT (.node 1 n []) := leaf_ok (Or.inl rfl)
  have h2 : okT (.node 2 0 []) := leaf_ok (Or.inr ⟨rfl, rfl⟩)
  refine may_iff.2 ⟨?_, ?_⟩
  · unfold idT
    rw [okT_node]
    have hl : (idK n k).length = 2 := by unfold idK; split <;> rfl
    refine ⟨badN_iff.2 ⟨by rw [hl, kidsI_bin h h']; rfl, fun _ => rfl, fun _ => by omega⟩, ?_⟩
    unfold idK
    split <;> simp [okTs, h1, h2]
  · unfold idT idK
    split <;> simp [T.size, T.sizes]

structure ID (w W : World) (g g1 g2 g3 : Nat) (tv sv : Value) (op n : Int) : Prop where
  r1 : Row W w.heap.size #[tv, sv] 25
  r3 : Row W (w.heap.size + 1) #[.int .i64 2, .int .i64 0, .slice none 0 0] 28
  below : Below w.heap.size w W
  row : Row W g #[.int .i64 op, .int .i64 0, .slice (some ⟨g1, 0, none⟩) 2 2, .int .i64 op, .int .i64 0, .slice (some ⟨g2, 0, none⟩) 2 2, .int .i64 op, .int .i64 0, .slice (some ⟨g3, 0, none⟩) 2 2] 28
  q1 : Row W g1 #[.int .i64 2, .int .i64 0, .slice none 0 0, .int .i64 1, .int .i64 n, .slice none 0 0] 28
  q2 : Row W g2 #[.int .i64 1, .int .i64 n, .slice none 0 0, .int .i64 2, .int .i64 0, .slice none 0 0] 28
  q3 : Row W g3 #[.int .i64 2, .int .i64 0, .slice none 0 0, .int .i64 2, .int .i64 0, .slice none 0 0] 28
theorem ID.grow {w W W' : World} {g g1 g2 g3 : Nat} {tv sv : Value} {op n : Int} (h : ID w W g g1 g2 g3 tv sv op n) (hb : Below W.heap.size W W') : ID w W' g g1 g2 g3 tv sv op n :=
  ⟨h.r1.below hb h.r1.lt, h.r3.below hb h.r3.lt, h.below.trans (hb.mono h.below.size), h.row.below hb h.row.lt, h.q1.below hb h.q1.lt, h.q2.below hb h.q2.lt, h.q3.below hb h.q3.lt⟩
theorem ID.get {w W : World} {g g1 g2 g3 : Nat} {tv sv : Value} {op n : Int} (h : ID w W g g1 g2 g3 tv sv op n) (ho : In64 op) (hn : In64 n) {k : Nat} (hk : k < 3) :
    ∃ gk, W.cell? ⟨g, k * 3, none⟩ = some (.int .i64 op) ∧ W.cell? ⟨g, k * 3 + 1, none⟩ = some (.int .i64 0) ∧ W.cell? ⟨g, k * 3 + 2, none⟩ = some (.slice (some ⟨gk, 0, none⟩) 2 2) ∧ TreeAt W (Under W.heap.size) (idT op n k) (.int .i64 op) (.int .i64 0) (.slice (some ⟨gk, 0, none⟩) 2 2) := by
  have h0 : In64 0 := i64c (by omega) (by omega)
  have l2 : TreeAt W (Under W.heap.size) (.node 2 0 []) (.int .i64 2) (.int .i64 0) (.slice none 0 0) := TreeAt.leaf (i64c (by omega) (by omega)) h0
  have l1 : TreeAt W (Under W.heap.size) (.node 1 n []) (.int .i64 1) (.int .i64 n) (.slice none 0 0) := TreeAt.leaf (i64c (by omega) (by omega)) hn
  have hk3 : k = 0 ∨ k = 1 ∨ k = 2 := by omega
  rcases hk3 with rfl | rfl | rfl
  · exact ⟨g1, h.row.cell (j := 0) rfl, h.row.cell (j := 1) rfl, h.row.cell (j := 2) rfl, TreeAt.two ho h0 h.q1 h.q1.lt l2 l1⟩
  · exact ⟨g2, h.row.cell (j := 3) rfl, h.row.cell (j := 4) rfl, h.row.cell (j := 5) rfl, TreeAt.two ho h0 h.q2 h.q2.lt l1 l2⟩
  · exact ⟨g3, h.row.cell (j := 6) rfl, h.row.cell (j := 7) rfl, h.row.cell (j := 8) rfl, TreeAt.two ho h0 h.q3 h.q3.lt l2 l2⟩

theorem ID.mk' {w W : World} {tv sv : Value} {op n : Int} (r1 : Row W w.heap.size #[tv, sv] 25) (r3 : Row W (w.heap.size + 1) #[.int .i64 2, .int .i64 0, .slice none 0 0] 28) (hb : Below w.heap.size w W) :
    ID w (((((W.alloc (.cells #[.int .i64 1, .int .i64 n, .slice none 0 0] 28)).alloc (.cells #[.int .i64 2, .int .i64 0, .slice none 0 0, .int .i64 1, .int .i64 n, .slice none 0 0] 28)).alloc (.cells #[.int .i64 1, .int .i64 n, .slice none 0 0, .int .i64 2, .int .i64 0, .slice none 0 0] 28)).alloc (.cells #[.int .i64 2, .int .i64 0, .slice none 0 0, .int .i64 2, .int .i64 0, .slice none 0 0] 28)).alloc (.cells #[.int .i64 op, .int .i64 0, .slice (some ⟨W.heap.size + 1, 0, none⟩) 2 2, .int .i64 op, .int .i64 0, .slice (some ⟨W.heap.size + 1 + 1, 0, none⟩) 2 2, .int .i64 op, .int .i64 0, .slice (some ⟨W.heap.size + 1 + 1 + 1, 0, none⟩) 2 2] 28)) (W.heap.size + 1 + 1 + 1 + 1) (W.heap.size + 1) (W.heap.size + 1 + 1) (W.heap.size + 1 + 1 + 1) tv sv op n :=
  ⟨((((r1.alloc _).alloc _).alloc _).alloc _).alloc _, ((((r3.alloc _).alloc _).alloc _).alloc _).alloc _, ((((hb.alloc (by have := hb.size; simp; omega) _).alloc (by have := hb.size; simp; omega) _).alloc (by have := hb.size; simp; omega) _).alloc (by have := hb.size; simp; omega) _).alloc (by have := hb.size; simp; omega) _,
    Row.new' _ _ (by simp), (((Row.new' _ _ (by simp)).alloc _).alloc _).alloc _, ((Row.new' _ _ (by simp)).alloc _).alloc _, (Row.new' _ _ (by simp)).alloc _⟩

set_option maxRecDepth 100000 in
set_option maxHeartbeats 8000000 in
theorem idle_any (TA SA : Option Addr) (tn tc sn sc : Nat) (w : World) :
    Calls Try.prog 8 #[.agg #[.slice TA tn tc, .slice SA sn sc]] w fun e w' => e = .returned (.bool true) ∧ Below w.heap.size w w' := by
  go_enter Try.func8, Try.ntmps8
  refine wp_letter (fun Q hQ => ?_)
  have HQ := Lib.hid hQ
  clear hQ
  go_wp2_with fail
  go_loopw [4] (fun o wr => ∃ op : Nat, 12 ≤ op ∧ op ≤ 31 ∧ o = .int .i64 op ∧ Row wr w.heap.size #[.slice TA tn tc, .slice SA sn sc] 25 ∧ Row wr (w.heap.size + 1) #[.int .i64 2, .int .i64 0, .slice none 0 0] 28 ∧ Below w.heap.size w wr) (fun o _ => 31 - (intOf o).toNat)
  case atStart => exact ⟨12, by omega, by omega, rfl, (Row.new _ _ _).alloc _, Row.new' _ _ (by simp), below2 _ _ _⟩
  case round =>
    obtain ⟨op, ho1, ho2, rfl, r1, r3, hbw⟩ := hrel
    have HR1 := Lib.hid r1
    have HR3 := Lib.hid r3
    have HB1 := Lib.hid hbw
    clear r1 r3 hbw
    by_cases hop : op ≤ 30
    · have d1 : decide ((op : Int) ≤ 30) = true := by simp; omega
      have d1' : (op : Int) ≤ 30 := by omega
      go_wp2_with fail
      go_loopw [5] (fun i wr => ∃ n : Int, -1 ≤ n ∧ n ≤ 3 ∧ i = .int .i64 n ∧ Row wr w.heap.size #[.slice TA tn tc, .slice SA sn sc] 25 ∧ Row wr (w.heap.size + 1) #[.int .i64 2, .int .i64 0, .slice none 0 0] 28 ∧ Below w.heap.size w wr) (fun i _ => (3 - intOf i).toNat)
      case atStart => exact ⟨-1, by omega, by omega, rfl, HR1.out, HR3.out, HB1.out⟩
      case round =>
        obtain ⟨n, hn1, hn2, rfl, r1, r3, hbw⟩ := hrel
        have HS1 := Lib.hid r1
        have HS3 := Lib.hid r3
        have HC1 := Lib.hid hbw
        clear r1 r3 hbw
        by_cases hn : n ≤ 2
        · have d2 : decide (n ≤ 2) = true := by simpa using hn
          have c0 := HS3.out.cell (j := 0) rfl
          have c1 := HS3.out.cell (j := 1) rfl
          have c2 := HS3.out.cell (j := 2) rfl
          have hz1 : w.heap.size + 1 < wr.heap.size := HS3.out.lt
          have hz2 : w.heap.size + 1 < wr.heap.size + 1 := by omega
          have hz3 : w.heap.size + 1 < wr.heap.size + 1 + 1 := by omega
          have hz4 : w.heap.size + 1 < wr.heap.size + 1 + 1 + 1 := by omega
          have hz5 : wr.heap.size < wr.heap.size + 1 + 1 := by omega
          have hz6 : wr.heap.size < wr.heap.size + 1 + 1 + 1 := by omega
          have hz7 : wr.heap.size < wr.heap.size + 1 := by omega
          go_wp2_with fail
          have HID := Lib.hid (ID.mk' (op := op) (n := n) HS1.out HS3.out HC1.out)
          have ho64 : In64 (op : Int) := i64c (by omega) (by omega)
          have hn64 : In64 n := i64c (by omega) (by omega)
          have HO64 := Lib.hid ho64
          have HN64 := Lib.hid hn64
          clear c0 c1 c2 hz1 hz2 hz3 hz4 hz5 hz6 hz7 ho64 hn64
          obtain ⟨w5, hw5⟩ : ∃ w5 : World, w5 = wr := ⟨_, rfl⟩
          rw [← hw5]
          rw [← hw5] at HID
          have HW5 := Lib.hid hw5
          clear hw5
          go_loopw [8] (fun i wr => ∃ k : Nat, k ≤ 3 ∧ i = .int .i64 k ∧ ID w wr (w5.heap.size + 1 + 1 + 1 + 1) (w5.heap.size + 1) (w5.heap.size + 1 + 1) (w5.heap.size + 1 + 1 + 1) (.slice TA tn tc) (.slice SA sn sc) op n) (fun i _ => 3 - (intOf i).toNat)
          case atStart => exact ⟨0, by omega, rfl, HID.out⟩
          case round =>
            obtain ⟨k, hk3, rfl, hid⟩ := hrel
            have HI2 := Lib.hid hid
            clear hid HID
            by_cases hk : k < 3
            · obtain ⟨gk, c0, c1, c2, ht⟩ := HI2.out.get HO64.out HN64.out hk
              have HT := Lib.hid ht
              have HM := Lib.hid (idT_may (op : Int) n k (by omega) (by omega))
              have hk' : (k : Int) < 3 := by omega
              have hk0 : (0 : Int) ≤ (k : Int) := by omega
              have dk : decide ((k : Int) < 3) = true := by simpa using hk'
              clear ht
              go_wp2_with fail
              refine (fold_yes (idT op n k) _ wr _ _ _ (Nat.le_refl _) HT.out HM.out).mono ?_
              rintro e w3 ⟨x0, x1, x2, rfl, hO, hb3⟩
              obtain ⟨XA, xl, xc, rfl, rfl, rfl, _, _⟩ := hO.shape
              have HF := Lib.hid (fold_with (t := idT op n k))
              have HFO := Lib.hid (fun x => fold_out (t := idT op n k) (n := x))
              have HTI := Lib.hid (TreeAt.tin _ HT.out)
              generalize foldT (idT op n k) = f at *
              have HX := Lib.hid (⟨Row.new _ _ _, (OwnT.tree _ hO (fun i hi => hi.2)).below (below1 _ _) (by simp)⟩ : BoxT (w3.alloc (.cells #[.int .i64 f.op, .int .i64 f.n, .slice XA xl xc] 28)) w3.heap.size f XA xl xc)
              have HI3 := Lib.hid ((HI2.out.grow hb3).grow (below1 _ (.cells #[.int .i64 f.op, .int .i64 f.n, .slice XA xl xc] 28)))
              clear hb3 hO c0 c1 c2 HT HI2
              go_wp2_with fail
              refine (lnum_any _ _).mono ?_
              rintro e w' ⟨rfl, rfl⟩
              go_wp2_with fail
              go_loopw [11] (fun i wr => ∃ x : Int, -2 ≤ x ∧ x ≤ 3 ∧ i = .int .i64 x ∧ ID w wr (w5.heap.size + 1 + 1 + 1 + 1) (w5.heap.size + 1) (w5.heap.size + 1 + 1) (w5.heap.size + 1 + 1 + 1) (.slice TA tn tc) (.slice SA sn sc) op n ∧ BoxT wr w3.heap.size f XA xl xc) (fun i _ => (3 - intOf i).toNat)
              case atStart => exact ⟨-2, by omega, by omega, rfl, HI3.out, HX.out⟩
              case round =>
                obtain ⟨x, hx1, hx2, rfl, hid, hbx⟩ := hrel
                have HI4 := Lib.hid hid
                have HX4 := Lib.hid hbx
                clear hid hbx HI3 HX
                by_cases hx : x ≤ 2
                · obtain ⟨gk, c0, c1, c2, ht⟩ := HI4.out.get HO64.out HN64.out hk
                  have HT := Lib.hid ht
                  have x0 := HX4.out.row.cell (j := 0) rfl
                  have x1 := HX4.out.row.cell (j := 1) rfl
                  have x2 := HX4.out.row.cell (j := 2) rfl
                  have HSA := Lib.hid (fun (W : World) (hb : Below wr.heap.size wr W) => same_any (idT op n k) f x W.heap.size W _ _ _ _ _ _ (Nat.le_refl _) (HT.out.below hb hb.size) (HX4.out.grow hb).tree (i64c (by omega) (by omega)) HF.out (fun h hk => HFO.out x h HTI.out (i64c (by omega) (by omega)) hk))
                  have g1 : w5.heap.size + 1 + 1 + 1 + 1 < wr.heap.size := HI4.out.row.lt
                  have g3 : w3.heap.size < wr.heap.size := HX4.out.row.lt
                  have dx : decide (x ≤ 2) = true := by simpa using hx
                  clear ht
                  go_wp2_with fail
                  refine region_grow (by kernel_rfl) (by kernel_rfl) (fun hGG => ?_)
                  repeat (go_big_quiet_step ((go_at_call 17; exact call_grow (HSA.out _ (grow_below (Below.refl _ _) (Nat.le_refl _) _)))))
                  refine wpQuiet_nil ?_
                  rintro ⟨wp, hbp⟩
                  simp only []
                  clear hGG HSA c0 c1 c2 x0 x1 x2 HT
                  go_wp2_with fail
                  go_roundw
                  case rel => exact ⟨x + 1, by omega, by omega, by go_num, HI4.out.grow hbp, HX4.out.grow hbp⟩
                  case measure => simp [intOf]; omega
                · obtain rfl : x = 3 := by omega
                  go_wp2_with fail
                  go_roundw
                  case rel => exact ⟨k + 1, by omega, by go_num, HI4.out⟩
                  case measure => simp [intOf]; omega
            · obtain rfl : k = 3 := by omega
              go_wp2_with fail
              go_roundw
              case rel => exact ⟨n + 1, by omega, by omega, by go_num, HI2.out.r1, HI2.out.r3, HI2.out.below⟩
              case measure => simp [intOf]; omega
        · obtain rfl : n = 3 := by omega
          go_wp2_with fail
          go_roundw
          case rel => exact ⟨op + 1, by omega, by omega, by go_num, HS1.out, HS3.out, HC1.out⟩
          case measure => simp [intOf]; omega
    · obtain rfl : op = 31 := by omega
      have c0 := HR1.out.cell (j := 0) rfl
      have hd : decide ((tn : Int) ≥ 0) = true := by simp
      have hd2 : decide ((0 : Int) ≤ (tn : Int)) = true := by simp
      go_wp2_with fail
      refine (wakes_any _).mono ?_
      rintro e w2 ⟨rfl, hb2⟩
      have HB2 := Lib.hid hb2
      clear hb2
      go_wp2_with fail
      refine HQ.out _ _ _ ?_
      refine bodyPost_ret (v := .bool true) (by simp [results, Try.results8, go_sem]) rfl ⟨rfl, HB1.out.trans (HB2.out.mono HB1.out.size)⟩
end Go.Proofs.Ytjkgpolikpochaa
