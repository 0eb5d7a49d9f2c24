/- Fold: a tree, folded, or refused. Conditions: as stated. Trees whose kids lie in a row known whole; a law's word 'num'. No condition. The page's machine: a call that is too deep. Conditions: as stated. The page's machine: a call's blocks. No condition. The page's machine: an object is no more. No program in sight but its name. No condition. The page's machine: steps that set a temporary, or read what comes in. Conditions: as stated. -/
import Derived.Test.YtjkgpolikpochaaSmallZz
import Derived.Test.YtjkgpolikpochaaEqTZz
import Derived.Test.YtjkgpolikpochaaQ06Zz
import Derived.Test.YtjkgpolikpochaaDoesBZz
import Derived.Test.YtjkgpolikpochaaDoesSetZz
import Derived.Test.YtjkgpolikpochaaDoesGetAZz
import Derived.Test.YtjkgpolikpochaaDoesGetBZz
import Derived.Laws.OwnMore
set_option linter.unusedVariables false
set_option linter.unusedSimpArgs false
namespace Go.Proofs.Ytjkgpolikpochaa
open Go.RowKit

mutual
theorem szF_ok : ∀ (t : T) (most : Int), okT t → (t.size : Int) ≤ most → szF t most = t.size
  | .node op x ks, most, h, hm => by
    obtain ⟨h1, h2⟩ := okT_node.1 h
    simp only [T.size] at hm ⊢
    rw [szF, if_neg (by rw [h1]; simp; omega), szsF_ok ks most 1 h2 (by omega)]
    omega
theorem szsF_ok : ∀ (ks : List T) (most n : Int), okTs ks → n + T.sizes ks ≤ most → szsF ks most n = n + T.sizes ks
  | [], most, n, h, hm => by simp [szsF, T.sizes]
  | k :: ks, most, n, h, hm => by
    simp only [okTs] at h
    simp only [T.sizes] at hm ⊢
    have hk := szF_ok k (most - n) h.1 (by omega)
    have hp := k.size_pos
    rw [szsF, if_neg (by omega), hk, szsF_ok ks most _ h.2 (by omega)]
    omega
end
mutual
theorem szF_pos : ∀ (t : T) (most : Int), szF t most ≠ -1 → okT t ∧ (t.size : Int) ≤ most
  | .node op x ks, most, h => by
    rw [szF] at h
    split at h
    · exact absurd rfl h
    · rename_i hn
      have h1 : badN op x ks.length = false := by
        cases hb : badN op x ks.length
        · rfl
        · exact absurd (Or.inl hb) hn
      have h2 : ¬ most < 1 := fun h' => hn (Or.inr h')
      obtain ⟨h3, h4⟩ := szsF_pos ks most 1 (by omega) (by omega) h
      exact ⟨okT_node.2 ⟨h1, h3⟩, by simp only [T.size]; omega⟩
theorem szsF_pos : ∀ (ks : List T) (most n : Int), 1 ≤ n → n ≤ most → szsF ks most n ≠ -1 → okTs ks ∧ n + T.sizes ks ≤ most
  | [], most, n, h0, h1, h => by simp [okTs, T.sizes]; omega
  | k :: ks, most, n, h0, h1, h => by
    rw [szsF] at h
    have hb := szF_bd k (most - n)
    split at h
    · exact absurd rfl h
    · rename_i hn
      have hk := szF_pos k (most - n) (by omega)
      have hsz := szF_ok k (most - n) hk.1 hk.2
      rw [hsz] at h hb
      obtain ⟨h3, h4⟩ := szsF_pos ks most (n + k.size) (by omega) (by omega) h
      simp only [okTs, T.sizes]
      exact ⟨⟨hk.1, h3⟩, by omega⟩
end
theorem may_iff {t : T} : mayB t = true ↔ okT t ∧ t.size ≤ 200 := by
  unfold mayB
  rw [decide_eq_true_eq]
  have hb := szF_bd t 200
  constructor
  · intro h
    have := szF_pos t 200 (by omega)
    exact ⟨this.1, by omega⟩
  · rintro ⟨h1, h2⟩
    have := szF_ok t 200 h1 (by omega)
    have hp := t.size_pos
    omega
mutual
theorem cnt_ok : ∀ (t : T) (n : Int), okT t → n + t.size ≤ 200 → cnt t n = (n + t.size, true)
  | .node op x ks, n, h, hm => by
    obtain ⟨h1, h2⟩ := okT_node.1 h
    simp only [T.size] at hm ⊢
    rw [cnt, if_neg (by rw [h1]; simp; omega), cnts_ok ks (n + 1) h2 (by omega)]
    congr 1
    omega
theorem cnts_ok : ∀ (ks : List T) (n : Int), okTs ks → n + T.sizes ks ≤ 200 → cnts ks n = (n + T.sizes ks, true)
  | [], n, h, hm => by simp [cnts, T.sizes]
  | k :: ks, n, h, hm => by
    simp only [okTs] at h
    simp only [T.sizes] at hm ⊢
    have hk := cnt_ok k n h.1 (by omega)
    rw [cnts, hk]
    simp only [Bool.true_eq_false, if_false]
    rw [cnts_ok ks _ h.2 (by omega)]
    congr 1
    omega
end
mutual
theorem cnt_pos : ∀ (t : T) (n : Int), (cnt t n).2 = true → okT t ∧ (0 ≤ n → n + t.size ≤ 200)
  | .node op x ks, n, h => by
    rw [cnt] at h
    split at h
    · cases h
    · rename_i hn
      have h1 : badN op x ks.length = false := by
        cases hb : badN op x ks.length
        · rfl
        · exact absurd (Or.inr hb) hn
      have h2 : ¬ n + 1 > 200 := fun h' => hn (Or.inl h')
      obtain ⟨h3, h4⟩ := cnts_pos ks (n + 1) h
      exact ⟨okT_node.2 ⟨h1, h3⟩, fun h0 => by have := h4 (by omega) (by omega); simp only [T.size]; omega⟩
theorem cnts_pos : ∀ (ks : List T) (n : Int), (cnts ks n).2 = true → okTs ks ∧ (0 ≤ n → n ≤ 200 → n + T.sizes ks ≤ 200)
  | [], n, h => by simp [okTs, T.sizes]
  | k :: ks, n, h => by
    rw [cnts] at h
    split at h
    · cases h
    · rename_i hn
      have hk2 : (cnt k n).2 = true := by simpa using hn
      have hk := cnt_pos k n hk2
      obtain ⟨h3, h4⟩ := cnts_pos ks (cnt k n).1 h
      simp only [okTs, T.sizes]
      refine ⟨⟨hk.1, h3⟩, fun h0 h1 => ?_⟩
      have hks := hk.2 h0
      have hc := cnt_ok k n hk.1 hks
      rw [hc] at h4
      have := h4 (by simp only; omega) (by simp only; omega)
      simp only at this
      omega
end
theorem treeC_iff {t : T} : (treeC t).2 = mayB t := by
  rw [Bool.eq_iff_iff, may_iff]
  unfold treeC
  constructor
  · intro h
    have := cnt_pos t 0 h
    exact ⟨this.1, by have := this.2 (by omega); omega⟩
  · rintro ⟨h1, h2⟩
    rw [cnt_ok t 0 h1 (by omega)]
theorem treeC_size {t : T} (h : mayB t = true) : treeC t = ((t.size : Int), true) := by
  obtain ⟨h1, h2⟩ := may_iff.1 h
  unfold treeC
  rw [cnt_ok t 0 h1 (by omega)]
  congr 1
  omega

set_option maxRecDepth 100000 in
set_option maxHeartbeats 4000000 in
theorem fold_no (t : T) (B : Nat) (w : World) (v0 v1 v2 : Value) (hB : B ≤ w.heap.size) (hv : TreeAt w (Under B) t v0 v1 v2) (hm : mayB t = false) :
    Calls Try.prog 11 #[.agg #[v0, v1, v2]] w fun e w' => e = .returned (.tuple #[.agg #[.int .i64 0, .int .i64 0, .slice none 0 0], .int .i64 1]) ∧ Below w.heap.size w w' := by
  obtain ⟨a, b, A, n, c, rfl, rfl, rfl⟩ := hv.shape0
  have HB2 := Lib.hid (below2 w (.cells #[.int .i64 a, .int .i64 b, .slice A n c] 28) (.cells #[.int .i64 0, .int .i64 0, .slice none 0 0] 28))
  have HM := Lib.hid (fun W (hb : Below w.heap.size w W) => hm ▸ may_any t B W _ _ _ (by have := hb.size; omega) (hv.below (hb.mono hB) (Nat.le_refl _)))
  clear hv hm
  go_enter Try.func11, Try.ntmps11
  refine wp_letter (fun Q hQ => ?_)
  have HQ := Lib.hid hQ
  clear hQ
  go_wp2_with fail
  refine (HM.out _ (by exact HB2.out)).mono ?_
  rintro e w1 ⟨rfl, hb1⟩
  have HB1 := Lib.hid (HB2.out.trans (hb1.mono (by simp; omega)))
  have q0 : w1.cell? ⟨w.heap.size + 1, 0, none⟩ = some (.int .i64 0) := cell_below (by simp [go_sem]) hb1 (by simp)
  have q1 : w1.cell? ⟨w.heap.size + 1, 1, none⟩ = some (.int .i64 0) := cell_below (by simp [go_sem]) hb1 (by simp)
  have q2 : w1.cell? ⟨w.heap.size + 1, 2, none⟩ = some (.slice none 0 0) := cell_below (by simp [go_sem]) hb1 (by simp)
  have f0 : w1.frozen? ⟨w.heap.size + 1, 0, none⟩ = false := ((bcell hb1).2 _ _ (by simp)).trans (by simp [go_sem])
  have f1 : w1.frozen? ⟨w.heap.size + 1, 1, none⟩ = false := ((bcell hb1).2 _ _ (by simp)).trans (by simp [go_sem])
  have f2 : w1.frozen? ⟨w.heap.size + 1, 2, none⟩ = false := ((bcell hb1).2 _ _ (by simp)).trans (by simp [go_sem])
  clear hb1
  go_wp2_with fail
  refine HQ.out _ _ _ ?_
  refine bodyPost_ret (v := .tuple #[.agg #[.int .i64 0, .int .i64 0, .slice none 0 0], .int .i64 1]) (by simp [results, Try.results11, go_sem, q0, q1, q2]) rfl ⟨rfl, HB1.out.trans (Wr.below (F := fun i => i = w.heap.size + 1) ?_ (by have := HB1.out.size; omega) (fun i hi => by omega))⟩
  repeat (first | (with_reducible exact Wr.refl _ _) | (with_reducible refine Wr.drewR ?_) | (with_reducible refine Wr.allocR ?_ _) | (with_reducible refine Wr.setR ?_ _ _ _ (Or.inl ?_)) | exact rfl)

/-- A call of 'Fold' that answers a tree. -/
def FoldEnd (t : T) (w : World) (e : Ending) (w' : World) : Prop :=
  ∃ u0 u1 u2, e = .returned (.tuple #[.agg #[u0, u1, u2], .int .i64 0]) ∧ OwnT w' (fun i => w.heap.size ≤ i ∧ i < w'.heap.size) t u0 u1 u2 ∧ Below w.heap.size w w'
set_option maxRecDepth 100000 in
set_option maxHeartbeats 4000000 in
theorem fold_yes (t : T) (B : Nat) (w : World) (v0 v1 v2 : Value) (hB : B ≤ w.heap.size) (hv : TreeAt w (Under B) t v0 v1 v2) (hm : mayB t = true) :
    Calls Try.prog 11 #[.agg #[v0, v1, v2]] w (FoldEnd (foldT t) w) := by
  obtain ⟨hok, hsz⟩ := may_iff.1 hm
  obtain ⟨a, b, A, n, c, rfl, rfl, rfl⟩ := hv.shape0
  have HB2 := Lib.hid (below2 w (.cells #[.int .i64 a, .int .i64 b, .slice A n c] 28) (.cells #[.int .i64 0, .int .i64 0, .slice none 0 0] 28))
  have HM := Lib.hid (fun W (hb : Below w.heap.size w W) => hm ▸ may_any t B W _ _ _ (by have := hb.size; omega) (hv.below (hb.mono hB) (Nat.le_refl _)))
  have HS := Lib.hid (fun W (hb : Below w.heap.size w W) => small_all t.size t B W _ _ _ (Nat.le_refl _) (by omega) (by have := hb.size; omega) (hv.below (hb.mono hB) (Nat.le_refl _)) hok)
  clear hv hm hok hsz
  go_enter Try.func11, Try.ntmps11
  refine wp_letter (fun Q hQ => ?_)
  have HQ := Lib.hid hQ
  clear hQ
  go_wp2_with fail
  refine (HM.out _ (by exact HB2.out)).mono ?_
  rintro e w1 ⟨rfl, hb1⟩
  have HB1 := Lib.hid (HB2.out.trans (hb1.mono (by simp; omega)))
  have t0 : w1.cell? ⟨w.heap.size, 0, none⟩ = some (.int .i64 a) := cell_below (by simp [go_sem]) hb1 (by simp; omega)
  have t1 : w1.cell? ⟨w.heap.size, 1, none⟩ = some (.int .i64 b) := cell_below (by simp [go_sem]) hb1 (by simp; omega)
  have t2 : w1.cell? ⟨w.heap.size, 2, none⟩ = some (.slice A n c) := cell_below (by simp [go_sem]) hb1 (by simp; omega)
  have hr1 : Row w1 (w.heap.size + 1) #[.int .i64 0, .int .i64 0, .slice none 0 0] 28 := (Row.new' (w := w.alloc (.cells #[.int .i64 a, .int .i64 b, .slice A n c] 28)) _ _ (by simp)).below hb1 (by simp)
  have HR1 := Lib.hid hr1
  have hr1l := hr1.lt
  clear hb1 hr1
  go_wp2_with fail
  refine (HS.out _ (by exact HB1.out)).mono ?_
  rintro e w2 ⟨u0, u1, u2, rfl, hO, hb2⟩
  obtain ⟨A1, n1, c1, rfl, rfl, rfl, _, _⟩ := hO.shape
  have hr2 := HR1.out.below hb2 hr1l
  have q0 : w2.cell? ⟨w.heap.size + 1, 0, none⟩ = some (.int .i64 0) := hr2.cell (j := 0) rfl
  have q1 : w2.cell? ⟨w.heap.size + 1, 1, none⟩ = some (.int .i64 0) := hr2.cell (j := 1) rfl
  have q2 : w2.cell? ⟨w.heap.size + 1, 2, none⟩ = some (.slice none 0 0) := hr2.cell (j := 2) rfl
  have f0 := hr2.free 0
  have f1 := hr2.free 1
  have f2 := hr2.free 2
  have HO := Lib.hid hO
  have HB3 := Lib.hid (HB1.out.trans (hb2.mono (by omega)))
  have hz2 := hb2.size
  clear hO hb2 hr2 t0 t1 t2
  go_wp2_with fail
  refine HQ.out _ _ _ ?_
  refine bodyPost_ret (v := .tuple #[.agg #[.int .i64 (foldT t).op, .int .i64 (foldT t).n, .slice A1 n1 c1], .int .i64 0]) (by simp [results, Try.results11, go_sem, q0, q1, q2]) rfl ?_
  have hk := treeEnd_kid (w := w) (X := fun i => i = w.heap.size + 1) (S := fun i => w1.heap.size ≤ i ∧ i < w2.heap.size) HB3.out HO.out (fun i hi => ⟨by have := HB1.out.size; omega, hi.2⟩) (W := ((w2.setCell ⟨w.heap.size + 1, 0, none⟩ (.int .i64 (foldT t).op)).setCell ⟨w.heap.size + 1, 1, none⟩ (.int .i64 (foldT t).n)).setCell ⟨w.heap.size + 1, 2, none⟩ (.slice A1 n1 c1)) (by
    repeat (first | (with_reducible exact Wr.refl _ _) | (with_reducible refine Wr.setR ?_ _ _ _ (Or.inl ?_)) | exact rfl)) (fun i hi => ⟨by omega, fun h => by omega⟩)
  obtain ⟨z0, z1, z2, e1, e2, e3⟩ := hk
  injection e1 with e1
  injection e1 with e1
  injection e1 with e1
  simp at e1
  obtain ⟨rfl, rfl, rfl⟩ := e1
  exact ⟨_, _, _, rfl, e2, e3⟩
end Go.Proofs.Ytjkgpolikpochaa
namespace Go.Proofs.Ytjkgpolikpochaa
open Go.RowKit

theorem TreeAt.leaf {w : World} {C : Nat → Nat → Prop} {op n : Int} {A : Option Addr} {c : Nat} (ho : In64 op) (hn : In64 n) : TreeAt w C (.node op n []) (.int .i64 op) (.int .i64 n) (.slice A 0 c) := by
  rw [TreeAt]
  exact ⟨rfl, rfl, ho, hn, by simp, A, c, rfl, fun h => absurd h (by simp)⟩
theorem TreeAt.two {w : World} {C : Nat → Nat → Prop} {op n : Int} {a b : T} {g c : Nat} {ty : TypeId} {x0 x1 x2 y0 y1 y2 : Value} (ho : In64 op) (hn : In64 n) (hr : Row w g #[x0, x1, x2, y0, y1, y2] ty) (hC : C g 0)
    (ha : TreeAt w C a x0 x1 x2) (hb : TreeAt w C b y0 y1 y2) : TreeAt w C (.node op n [a, b]) (.int .i64 op) (.int .i64 n) (.slice (some ⟨g, 0, none⟩) 2 c) := by
  rw [TreeAt]
  refine ⟨rfl, rfl, ho, hn, by simp, _, c, rfl, fun _ => ⟨g, 0, rfl, hC, ?_⟩⟩
  simp only [KidsAt]
  exact ⟨⟨_, _, _, hr.cell (j := 0) rfl, hr.cell (j := 1) rfl, hr.cell (j := 2) rfl, ha⟩, ⟨_, _, _, hr.cell (j := 3) rfl, hr.cell (j := 4) rfl, hr.cell (j := 5) rfl, hb⟩, trivial⟩
theorem TreeAt.one {w : World} {C : Nat → Nat → Prop} {op n : Int} {a : T} {g c : Nat} {ty : TypeId} {cs : Array Value} {x0 x1 x2 : Value} (ho : In64 op) (hn : In64 n) (hr : Row w g cs ty) (h0 : cs[0]? = some x0) (h1 : cs[1]? = some x1) (h2 : cs[2]? = some x2) (hC : C g 0)
    (ha : TreeAt w C a x0 x1 x2) : TreeAt w C (.node op n [a]) (.int .i64 op) (.int .i64 n) (.slice (some ⟨g, 0, none⟩) 1 c) := by
  rw [TreeAt]
  refine ⟨rfl, rfl, ho, hn, by simp, _, c, rfl, fun _ => ⟨g, 0, rfl, hC, ?_⟩⟩
  simp only [KidsAt]
  exact ⟨⟨_, _, _, hr.cell (j := 0) h0, hr.cell (j := 1) h1, hr.cell (j := 2) h2, ha⟩, trivial⟩

theorem lnum_any (n : Int) (w : World) : Calls Try.prog 13 #[.int .i64 n] w fun e w' => e = .returned (.int .i64 n) ∧ w = w' := by
  go_enter Try.func13, Try.ntmps13
  go_wp2_with fail
  go_ret
  exact ⟨rfl, rfl⟩

theorem i64c {n : Int} (h : -4611686018427387904 ≤ n) (h' : n ≤ 4611686018427387904) : In64 n := by unfold In64; omega
theorem OwnT.at {w : World} {S : Nat → Prop} {t : T} {v0 v1 v2 : Value} {B : Nat} (h : OwnT w S t v0 v1 v2) (hS : ∀ i, S i → i < B) : TreeAt w (Under B) t v0 v1 v2 := OwnT.tree t h hS

set_option maxHeartbeats 2000000 in
theorem wakes_any (w : World) : Calls Try.prog 19 #[] w fun e w' => e = .returned (.bool true) ∧ Below w.heap.size w w' := by
  go_enter Try.func19, Try.ntmps19
  refine wp_letter (fun Q hQ => ?_)
  have HQ := Lib.hid hQ
  clear hQ
  go_wp2_with fail
  refine (fold_yes (.node 12 0 [.node 1 1 [], .node 1 2 []]) (w.heap.size + 1) _ _ _ _ (by simp) (TreeAt.two (i64c (by omega) (by omega)) (i64c (by omega) (by omega)) (Row.new' _ _ rfl) (by show w.heap.size < w.heap.size + 1; omega) (TreeAt.leaf (i64c (by omega) (by omega)) (i64c (by omega) (by omega))) (TreeAt.leaf (i64c (by omega) (by omega)) (i64c (by omega) (by omega)))) (by decide +kernel)).mono ?_
  rintro e w1 ⟨u0, u1, u2, rfl, hO, hb⟩
  rw [show foldT (.node 12 0 [.node 1 1 [], .node 1 2 []]) = .node 1 3 [] from by kernel_rfl] at hO
  obtain ⟨A1, n1, c1, h0, h1, rfl, _, _⟩ := hO.shape
  simp only [T.op, T.n] at h0 h1
  subst h0 h1
  have HO := Lib.hid hO
  have HB := Lib.hid hb
  clear hO hb
  go_wp2_with fail
  refine (lnum_any _ _).mono ?_
  rintro e w' ⟨rfl, rfl⟩
  go_wp2_with fail
  have hT := (OwnT.tree _ HO.out (B := w1.heap.size) (fun i hi => hi.2)).below (below1 w1 (Obj.cells #[Value.int IntKind.i64 1, Value.int IntKind.i64 3, Value.slice A1 n1 c1] 28)) (Nat.le_refl _)
  refine (eqTree_all _ (.node 1 3 []) (.node 1 3 []) w1.heap.size _ _ _ _ _ _ _ (Nat.le_refl _) (by simp) hT (TreeAt.leaf (i64c (by omega) (by omega)) (i64c (by omega) (by omega)))).mono ?_
  rintro e w2 ⟨rfl, hb2⟩
  rw [yes_true rfl]
  have HB2 := Lib.hid hb2
  clear hb2 hT
  go_wp2_with fail
  refine HQ.out _ _ _ ?_
  refine bodyPost_ret (v := .bool true) (by simp [results, Try.results19, go_sem]) rfl ⟨rfl, ?_⟩
  have h1 := (below1 w _).trans (HB.out.mono (by simp))
  have h2 := h1.trans ((below1 w1 (Obj.cells #[Value.int IntKind.i64 1, Value.int IntKind.i64 3, Value.slice A1 n1 c1] 28)).mono h1.size)
  exact h2.trans (HB2.out.mono h2.size)
end Go.Proofs.Ytjkgpolikpochaa
namespace Go.Proofs.Ytjkgpolikpochaa
open Go.RowKit

set_option maxRecDepth 100000 in
set_option maxHeartbeats 8000000 in
theorem call_over (base mc : Nat) (own : Nat → Prop) (P : Value × Value × Value) (fuel : Int) (p : ProgS) (s : St) (f : Nat) (g : GraphS) (args : List V) (AA : Option Addr) (an acap : Nat) (w : World)
    (hM : Mach w base mc own P fuel s) (hP : ProgAt w base P p) (hI : Inv fuel s) (hf : fuel ≤ 100000000) (hg : p.funcs[f]? = some g) (hC0 : 0 ≤ s.calls) (hd : s.calls = 64) :
    Calls Try.prog 50 #[.pointer (some ⟨mc, 0, none⟩), .int .i64 f, .slice AA an acap] w fun e w' => CallSays base mc own P fuel ((none, stopF 4 s)) w e w' := by
  have hmc := (by obtain ⟨_, _, _, _, h⟩ := hM; exact ⟨h.mine, h.rest.own mc h.mine⟩ : own mc ∧ base ≤ mc ∧ mc < w.heap.size)
  obtain ⟨hm0, hmc0, hmc1⟩ := hmc
  have c11 : w.cell? ⟨mc, 11, none⟩ = some (.int .i64 64) := (by obtain ⟨_, _, _, _, h⟩ := hM; exact hd ▸ h.row.cell (j := 11) rfl)
  have HS := Lib.hid (fun W (hb : Below w.heap.size w W) => stop_any base mc own P fuel 4 s W (hM.below hb))
  have HM0 := Lib.hid hm0
  have HOW := Lib.hid (show ∀ k, own k → base ≤ k ∧ k < w.heap.size from by obtain ⟨_, _, _, _, h⟩ := hM; exact h.rest.own)
  clear hM hP hI hg hd hm0
  go_enter Try.func50, Try.ntmps50
  go_wp2_with (go_at_call 63; refine (HS.out _ (below1 _ _)).mono ?_; rintro e w1 ⟨rfl, hM1, hw1⟩; have HM1 := Lib.hid hM1; have HW1 := Lib.hid hw1; have hz1 := hw1.size; have hr0 := (Row.new w #[.int .i64 0, .int .i64 0] 90).wr hw1 (show ¬ w.heap.size = mc by omega); have r0 : w1.cell? ⟨w.heap.size, 0, none⟩ = some (.int .i64 0) := hr0.cell (j := 0) rfl; have r1 : w1.cell? ⟨w.heap.size, 1, none⟩ = some (.int .i64 0) := hr0.cell (j := 1) rfl; have r2 := hr0.free 0; have r3 := hr0.free 1; clear hM1 hw1 hr0)
  refine bodyPost_ret (v := ansV none) ?_ rfl ⟨rfl, own, fun _ h => h, fun _ h => Or.inl h, HM1.out.wr (wr_two _ _ _ _) (fun k hk => ⟨by omega, fun ho => by have := (HOW.out _ ho).2; omega⟩), ?_⟩
  · simp [results, Try.results50, go_sem, ansV, *]
  · exact ((Wr.of_below (below1 _ _)).trans HW1.out (fun i hi => Or.inl (hi ▸ HM0.out))).trans (wr_two _ _ _ _) (fun i hi => Or.inr (by omega))
end Go.Proofs.Ytjkgpolikpochaa
namespace Go.Proofs.Ytjkgpolikpochaa
open Go.RowKit

theorem TreeAt.shape {w : World} {C : Nat → Nat → Prop} {t : T} {v0 v1 v2 : Value} (h : TreeAt w C t v0 v1 v2) : ∃ a b A n c, v0 = .int .i64 a ∧ v1 = .int .i64 b ∧ v2 = .slice A n c := by
  obtain ⟨op, n, ks⟩ := t
  simp only [TreeAt] at h
  obtain ⟨h0, h1, _, _, _, A, cap, h5, _⟩ := h
  exact ⟨_, _, _, _, _, h0, h1, h5⟩
theorem stepsF_cons_true {R : CallR} {fuel : Int} {lo : List Nat} {s : St} {tp : List V} {x : StepS} {l : List StepS} (h : (doesF R fuel lo s tp x).1 = true) : stepsF R fuel lo s tp (x :: l) = stepsF R fuel lo (doesF R fuel lo s tp x).2.1 (doesF R fuel lo s tp x).2.2 l := by
  simp only [stepsF]
  rcases hd : doesF R fuel lo s tp x with ⟨b, s', tp'⟩
  rw [hd] at h
  simp only at h
  subst h
  rfl
theorem stepsF_cons_false {R : CallR} {fuel : Int} {lo : List Nat} {s : St} {tp : List V} {x : StepS} {l : List StepS} (h : (doesF R fuel lo s tp x).1 = false) : stepsF R fuel lo s tp (x :: l) = (false, (doesF R fuel lo s tp x).2.1, (doesF R fuel lo s tp x).2.2) := by
  simp only [stepsF]
  rcases hd : doesF R fuel lo s tp x with ⟨b, s', tp'⟩
  rw [hd] at h
  simp only at h
  subst h
  rfl
theorem drop_get {α : Type} {l : List α} {j : Nat} {x : α} (h : l[j]? = some x) : l.drop j = x :: l.drop (j + 1) := by
  have hlt : j < l.length := by
    rcases Nat.lt_or_ge j l.length with h' | h'
    · exact h'
    · rw [List.getElem?_eq_none h'] at h; cases h
  rw [List.drop_eq_getElem_cons hlt]
  rw [List.getElem?_eq_getElem hlt] at h
  injection h with h
  rw [h]
theorem blocksF_over {R : CallR} {fuel : Int} {lo : List Nat} {bs : List BlockS} {g k : Nat} {s s' : St} {tp tp' : List V} {b : BlockS} (hb : bs[k]? = some b) (h : blockF R fuel lo s tp b = (.over, s', tp')) : blocksF R fuel lo bs (g + 1) k s tp = (none, s') := by
  simp only [blocksF, Int.toNat_natCast, List.getD_eq_getElem?_getD, hb, Option.getD_some, h]
theorem blocksF_next {R : CallR} {fuel : Int} {lo : List Nat} {bs : List BlockS} {g k : Nat} {k' : Int} {s s' : St} {tp tp' : List V} {b : BlockS} (hb : bs[k]? = some b) (h : blockF R fuel lo s tp b = (.next k', s', tp')) : blocksF R fuel lo bs (g + 1) k s tp = blocksF R fuel lo bs g k' s' tp' := by
  simp only [blocksF, Int.toNat_natCast, List.getD_eq_getElem?_getD, hb, Option.getD_some, h]
theorem blocksF_ret {R : CallR} {fuel : Int} {lo : List Nat} {bs : List BlockS} {g k : Nat} {v : V} {s s' : St} {tp tp' : List V} {b : BlockS} (hb : bs[k]? = some b) (h : blockF R fuel lo s tp b = (.ret v, s', tp')) : blocksF R fuel lo bs (g + 1) k s tp = (some v, { s' with mem := killF s'.mem lo, calls := s'.calls - 1 }) := by
  simp only [blocksF, Int.toNat_natCast, List.getD_eq_getElem?_getD, hb, Option.getD_some, h]
theorem blockF_steps {R : CallR} {fuel : Int} {lo : List Nat} {s s' : St} {tp tp' : List V} {b : BlockS} (h : stepsF R fuel lo s tp b.steps = (false, s', tp')) : blockF R fuel lo s tp b = (.over, s', tp') := by
  simp only [blockF, h]

/-- The state between a call's steps. -/
structure BlkAt (base mc : Nat) (own : Nat → Prop) (P : Value × Value × Value) (fuel : Int) (d : Int) (ng fb tb nt : Nat) (G : Value × Value × Value × Value) (lv : Value) (lo : List Nat) (gr : Nat) (gc : Array Value) (w : World) (wr : World) (own' : Nat → Prop) (st : St) (tp : List V) : Prop where
  mach : Mach wr base mc own' P fuel st
  fr : FrameAt wr fb G tb tp lv lo
  off : OffAt base own' fb tb lv
  inv : Inv fuel st
  frok : FrOk st.mem tp lo ng
  calls : st.calls = d
  len : tp.length = nt
  grow : Row wr gr gc 77
  gn : ¬ own' gr
  rrow : Row wr w.heap.size #[.int .i64 0, .int .i64 0] 90
  rn : ¬ own' w.heap.size ∧ ¬ w.heap.size = tb
  up : ∀ i, own i → own' i
  down : ∀ i, own' i → own i ∨ w.heap.size ≤ i
  tbw : w.heap.size ≤ tb
  wr : Wr own w wr

section
variable {base mc : Nat} {own : Nat → Prop} {P : Value × Value × Value} {fuel d : Int} {ng fb tb nt : Nat} {G : Value × Value × Value × Value} {lv : Value} {lo : List Nat} {gr : Nat} {gc : Array Value} {w wr : World} {own' : Nat → Prop} {st : St} {tp : List V}

theorem BlkAt.below (h : BlkAt base mc own P fuel d ng fb tb nt G lv lo gr gc w wr own' st tp) {w' : World} (hb : Below wr.heap.size wr w') : BlkAt base mc own P fuel d ng fb tb nt G lv lo gr gc w w' own' st tp :=
  ⟨h.mach.below hb, h.fr.below hb, h.off, h.inv, h.frok, h.calls, h.len, h.grow.below hb h.grow.lt, h.gn, h.rrow.below hb h.rrow.lt, h.rn, h.up, h.down, h.tbw, h.wr.trans (Wr.of_below (F := fun _ => False) hb) (fun i hi => hi.elim)⟩

theorem BlkAt.mine (h : BlkAt base mc own P fuel d ng fb tb nt G lv lo gr gc w wr own' st tp) : own' mc := by obtain ⟨_, _, _, _, h⟩ := h.mach; exact h.mine

/-- The machine alone has changed, in its own block. -/
theorem BlkAt.mach' (h : BlkAt base mc own P fuel d ng fb tb nt G lv lo gr gc w wr own' st tp) {w' : World} {st' : St} (hw : Wr (fun b => b = mc) wr w') (hm : Mach w' base mc own' P fuel st') (hi : Inv fuel st') (hf : FrOk st'.mem tp lo ng) (hc : st'.calls = d) :
    BlkAt base mc own P fuel d ng fb tb nt G lv lo gr gc w w' own' st' tp := by
  have hmm := h.mine
  refine ⟨hm, h.fr.wr hw (fun e => h.off.fb.1 (by rw [e]; exact hmm)) (fun e => h.off.tb.1 (by rw [e]; exact hmm)) (fun g hg e => (h.off.lv g hg).1 (by rw [e]; exact hmm)), h.off, hi, hf, hc, h.len, h.grow.wr hw (fun e => h.gn (by rw [e]; exact hmm)), h.gn, h.rrow.wr hw (fun e => h.rn.1 (by rw [e]; exact hmm)), h.rn, h.up, h.down, h.tbw, h.wr.trans hw (fun i hi => ?_)⟩
  rcases h.down mc hmm with h' | h'
  · exact Or.inl (hi ▸ h')
  · exact Or.inr (hi ▸ h')

/-- A step is done. -/
theorem BlkAt.does (h : BlkAt base mc own P fuel d ng fb tb nt G lv lo gr gc w wr own' st tp) {r : Bool × St × List V} {e : Ending} {w' : World} (hd : DoesSays base mc own' P fuel fb tb G lv lo r wr e w') (hk : Kept fuel st tp lo ng r.2.1 r.2.2) (ht : r.1 = true) :
    ∃ own'', BlkAt base mc own P fuel d ng fb tb nt G lv lo gr gc w w' own'' r.2.1 r.2.2 ∧ (∀ i, own'' i → own' i ∨ wr.heap.size ≤ i) := by
  obtain ⟨_, own2, h1, h2, h3, h4, h5⟩ := hd
  have hl : ∀ i, i < wr.heap.size → ¬ own' i → ¬ own2 i := fun i hi hn ho => by rcases h2 i ho with h | h; exact hn h; omega
  have hfl := h.fr.row.lt
  have htl := (by obtain ⟨_, hr, _⟩ := h.fr.temps; exact hr.lt : tb < wr.heap.size)
  have hll : ∀ g, lv.ownBlock = some g → g < wr.heap.size := fun g hg => by obtain ⟨_, cs, hr⟩ := ownsRow_row h.fr.locs hg; exact hr.lt
  have htr : ∃ cs, Row wr tb cs 90 := by obtain ⟨cs, hr, _⟩ := h.fr.temps; exact ⟨cs, hr⟩
  have hng : ¬ (own' gr ∨ gr = tb) := fun e => by
    rcases e with e | e
    · exact h.gn e
    · obtain ⟨cs, hr⟩ := htr
      exact h.grow.ne hr (by decide) e
  have hnr : ¬ (own' w.heap.size ∨ w.heap.size = tb) := fun e => by
    rcases e with e | e
    · exact h.rn.1 e
    · exact h.rn.2 e
  refine ⟨own2, ⟨h3, h4 ht, ⟨⟨hl _ hfl h.off.fb.1, h.off.fb.2⟩, ⟨hl _ htl h.off.tb.1, h.off.tb.2⟩, fun g hg => ⟨hl g (hll g hg) (h.off.lv g hg).1, (h.off.lv g hg).2⟩⟩, hk.inv, hk.fr, hk.calls.trans h.calls, hk.len.trans h.len,
    h.grow.wr h5 hng, hl _ h.grow.lt h.gn, h.rrow.wr h5 hnr, ⟨hl _ h.rrow.lt h.rn.1, h.rn.2⟩, fun i hi => h1 i (h.up i hi), fun i hi => ?_, h.tbw, h.wr.trans h5 (fun i hi => ?_)⟩, h2⟩
  · rcases h2 i hi with h' | h'
    · exact h.down i h'
    · exact Or.inr (by have := h.wr.size; omega)
  · rcases hi with hi | hi
    · exact h.down i hi
    · exact Or.inr (hi ▸ h.tbw)

theorem BlkAt.done (h : BlkAt base mc own P fuel d ng fb tb nt G lv lo gr gc w wr own' st tp) {r : Bool × St × List V} {e : Ending} {w' : World} (hd : DoesSays base mc own' P fuel fb tb G lv lo r wr e w') :
    ∃ own2 : Nat → Prop, (∀ k, own k → own2 k) ∧ (∀ k, own2 k → own k ∨ w.heap.size ≤ k) ∧ Mach w' base mc own2 P fuel r.2.1 ∧ Wr own w w' ∧ Row w' w.heap.size #[.int .i64 0, .int .i64 0] 90 ∧ ¬ own2 w.heap.size := by
  obtain ⟨_, own2, h1, h2, h3, h4, h5⟩ := hd
  have hnr : ¬ (own' w.heap.size ∨ w.heap.size = tb) := fun e => by
    rcases e with e | e
    · exact h.rn.1 e
    · exact h.rn.2 e
  refine ⟨own2, fun k hk => h1 k (h.up k hk), fun k hk => ?_, h3, h.wr.trans h5 (fun i hi => ?_), h.rrow.wr h5 hnr, fun ho => ?_⟩
  · rcases h2 k hk with h' | h'
    · exact h.down k h'
    · exact Or.inr (by have := h.wr.size; omega)
  · rcases hi with hi | hi
    · exact h.down i hi
    · exact Or.inr (hi ▸ h.tbw)
  · rcases h2 _ ho with h' | h'
    · exact h.rn.1 h'
    · have := h.rrow.lt; omega
end

theorem doesSays_keep {base mc fb tb : Nat} {own : Nat → Prop} {P : Value × Value × Value} {fuel : Int} {G : Value × Value × Value × Value} {lv : Value} {lo : List Nat} {r : Bool × St × List V} {w : World} {e : Ending} {w' : World} {b : Nat} {cs : Array Value} {t : TypeId}
    (h : DoesSays base mc own P fuel fb tb G lv lo r w e w') (hr : Row w b cs t) (h1 : ¬ own b) (h2 : ¬ b = tb) : Row w' b cs t := by
  obtain ⟨_, own2, _, _, _, _, h5⟩ := h
  exact hr.wr h5 (fun e => by rcases e with e | e; exact h1 e; exact h2 e)
theorem doesSays_below {base mc fb tb : Nat} {own : Nat → Prop} {P : Value × Value × Value} {fuel : Int} {G : Value × Value × Value × Value} {lv : Value} {lo : List Nat} {r : Bool × St × List V} {w : World} {e : Ending} {w' : World}
    (h : DoesSays base mc own P fuel fb tb G lv lo r w e w') (hm : ∀ k, own k → base ≤ k) (ht : base ≤ tb) (hb : base ≤ w.heap.size) : Below base w w' := by
  obtain ⟨_, own2, _, _, _, _, h5⟩ := h
  exact h5.below hb (fun k hk => by rcases hk with hk | hk; exact hm k hk; omega)
theorem CallSays.below {base mc : Nat} {own : Nat → Prop} {P : Value × Value × Value} {fuel : Int} {r : Option V × St} {w w' w'' : World} {e : Ending} (h : CallSays base mc own P fuel r w e w') (hb : Below w'.heap.size w' w'') : CallSays base mc own P fuel r w e w'' := by
  obtain ⟨h0, own2, h1, h2, h3, h4⟩ := h
  exact ⟨h0, own2, h1, h2, h3.below hb, h4.trans (Wr.of_below (F := fun _ => False) hb) (fun i hi => hi.elim)⟩
theorem Mach.steps {w : World} {base mc : Nat} {own : Nat → Prop} {P : Value × Value × Value} {fuel : Int} {s : St} (h : Mach w base mc own P fuel s) : w.cell? ⟨mc, 8, none⟩ = some (.int .i64 s.steps) := by
  obtain ⟨_, _, _, _, h⟩ := h
  exact h.row.cell (j := 8) rfl
theorem FrOk.same {M M' : List MO} {tp : List V} {lo : List Nat} {ng : Nat} (h : FrOk M tp lo ng) (e : M' = M) : FrOk M' tp lo ng := e ▸ h
theorem vzero {v : V} (h1 : v.obj = 0) (h2 : v.n = 0) : v = ⟨0, 0⟩ := by
  obtain ⟨a, b⟩ := v
  simp only at h1 h2
  rw [h1, h2]
theorem call_pair {base mc : Nat} {own own2 : Nat → Prop} {P : Value × Value × Value} {fuel : Int} {s : St} {w w5 : World} (v : Option V) (h1 : ∀ k, own k → own2 k) (h2 : ∀ k, own2 k → own k ∨ w.heap.size ≤ k) (h3 : Mach w5 base mc own2 P fuel s) (h4 : Wr own w w5) (h5 : ¬ own2 w.heap.size) (hb : base ≤ w.heap.size) (a b : Int) :
    CallSays base mc own P fuel (v, s) w (.returned (ansV v)) ((w5.setCell ⟨w.heap.size, 0, none⟩ (.int .i64 a)).setCell ⟨w.heap.size, 1, none⟩ (.int .i64 b)) :=
  ⟨rfl, own2, h1, h2, h3.wr (wr_two _ _ _ _) (fun k hk => (by subst hk; exact ⟨hb, h5⟩)), h4.trans (wr_two _ _ _ _) (fun i hi => Or.inr (by omega))⟩
theorem ownsRow_base {w : World} {base base' : Nat} {e : TypeId} {size : Nat} {v : Value} {n : Nat} {xs : List Value} (h : w.ownsRow base e size v n xs) (hb : base' ≤ base) : w.ownsRow base' e size v n xs := by
  obtain ⟨h1, h2⟩ := h
  refine ⟨h1, ?_⟩
  rcases h2 with h2 | ⟨g, cap, cur, hv, hg, r⟩
  · exact Or.inl h2
  · exact Or.inr ⟨g, cap, cur, hv, Nat.le_trans hb hg, r⟩
theorem call_start {base mc fb tb nt lcap bcap : Nat} {own own1 : Nat → Prop} {P : Value × Value × Value} {fuel : Int} {s : St} {g : GraphS} {LA BA : Option Addr} {p : ProgS} {args : List V} {w wb w1 w2 w3 : World} {lvk : Value}
    (hL : LocsAt base mc own P fuel { s with calls := s.calls + 1, deep := max s.deep (s.calls + 1), steps := s.steps + countsF g.locs } fb tb nt g LA lcap BA bcap s.mem w wb.heap.size w1 w2 g.locs.length own1 lvk)
    (hwr : Wr (fun b => b = tb) w2 w3) (hv : VRow w3 tb (startF nt args)) (hl : (startF nt args).length = nt) (hnt : nt ≤ 1000) (how : ∀ k, own k → base ≤ k ∧ k < w.heap.size) (hwa : Wr own w w1) (hbw : Below base w wb) (hfb : wb.heap.size < fb) (htb : wb.heap.size < tb) (hwb : base ≤ w.heap.size ∧ w.heap.size < wb.heap.size ∧ fb < w1.heap.size ∧ tb < w1.heap.size ∧ wb.heap.size < w1.heap.size) (hI : Inv fuel s)
    (hst : countsF g.locs ≤ fuel - s.steps) (ha : ∀ v, v ∈ args → VOk s.mem.length v) (hg : p.globs.length < s.mem.length) (hobs : ∀ o, o ∈ g.locs → ObOk o) :
    BlkAt base mc own P fuel (s.calls + 1) p.globs.length fb tb nt (.int .i64 g.params, .int .i64 nt, .slice LA g.locs.length lcap, .slice BA g.blocks.length bcap) lvk (numsF s.mem g.locs.length) wb.heap.size #[.int .i64 g.params, .int .i64 nt, .slice LA g.locs.length lcap, .slice BA g.blocks.length bcap] w w3 own1
      { s with calls := s.calls + 1, deep := max s.deep (s.calls + 1), steps := s.steps + countsF g.locs, mem := makesF s.mem g.locs } (startF nt args) := by
  have hM0 : s.mem ≠ [] := by intro h; rw [h] at hg; simp at hg
  have hlen : (makesF s.mem g.locs).length = s.mem.length + g.locs.length := by
    rw [makesF_length]
    by_cases h : g.locs = []
    · simp [h]
    · rw [if_neg h, memBase_length, if_neg hM0]
  have hcb := countsF_bd hobs
  obtain ⟨l1, l2, l3, l4, l5, l6, l7, l8, l9, l10⟩ := hL
  rw [List.take_length] at l1
  have hn1 : ∀ i, w.heap.size ≤ i → i < w1.heap.size → ¬ own1 i := fun i h1 h2 h => by
    rcases l8 i h with h | h
    · have := (how i h).2; omega
    · omega
  have hno : ∀ i, lvk.ownBlock = some i → w1.heap.size ≤ i := fun i hi => (ownsRow_row l6 hi).1
  have hft : ¬ fb = tb := fun e => by obtain ⟨cs, hr, _⟩ := l3; exact l2.ne hr (by decide) e
  obtain ⟨hb0, hb1, hb2, hb3, hb4⟩ := hwb
  have hok : MemOk (makesF s.mem g.locs) := by obtain ⟨_, _, _, _, h⟩ := l1; exact h.rest.mem.ok
  have hlo := hI.lo
  have hmany := hI.many
  refine ⟨l1.wr hwr (fun k hk => ⟨by omega, hk ▸ hn1 tb (by omega) hb3⟩), ⟨?_, hv, ?_, by rw [hl]; omega⟩, ⟨⟨hn1 fb (by omega) hb2, by omega⟩, ⟨hn1 tb (by omega) hb3, by omega⟩, fun g' hg' => ⟨l9 g' hg', by have := hno g' hg'; omega⟩⟩,
    ⟨hI.kind, by show 0 ≤ s.steps + countsF g.locs; omega, by show s.steps + countsF g.locs ≤ fuel; omega, ?_, hok⟩, ⟨fun v hv' => ?_, fun x hx => ?_, by show p.globs.length < (makesF s.mem g.locs).length; omega⟩, rfl, hl,
    l4.wr hwr (fun h => by omega), hn1 _ (by omega) hb4, l5.wr hwr (fun h => by omega), ⟨hn1 _ (by omega) (by omega), by omega⟩, l7, fun i hi => ?_, by omega, ?_⟩
  · rw [hl]
    exact l2.wr hwr hft
  · rw [numsF_length]
    exact ownsRow_base (ownsRow_wr l6 hwr (fun i hi h => by have := hno i hi; omega)) (Nat.zero_le _)
  · show (makesF s.mem g.locs).length ≤ 20 + (s.steps + countsF g.locs).toNat
    omega
  · show VOk (makesF s.mem g.locs).length v
    unfold startF at hv'
    rcases List.mem_append.1 hv' with h | h
    · exact (ha v h).mono (by omega)
    · rw [(List.mem_replicate.1 h).2]
      exact ⟨by show 0 < _; omega, fun h => absurd rfl h, by unfold In64; constructor <;> decide⟩
  · show x < (makesF s.mem g.locs).length
    unfold numsF at hx
    rw [if_neg hM0] at hx
    obtain ⟨i, hi, rfl⟩ := List.mem_map.1 hx
    have := List.mem_range.1 hi
    omega
  · rcases l8 i hi with h | h
    · exact Or.inl h
    · exact Or.inr (by omega)
  · refine (hwa.trans l10 (fun i hi => ?_)).trans hwr (fun i hi => Or.inr (by omega))
    rcases hi with hi | hi
    · exact Or.inl hi
    · exact Or.inr (by omega)
end Go.Proofs.Ytjkgpolikpochaa
namespace Go.Proofs.Ytjkgpolikpochaa
open Go.RowKit

def dead (o : MO) : MO := { o with live := false }

theorem killF_snoc (M : List MO) (l : List Nat) (x : Nat) : killF M (l ++ [x]) = (killF M l).modify x dead := by
  induction l generalizing M with
  | nil => rfl
  | cons a l ih => exact ih _
theorem killF_length (M : List MO) (l : List Nat) : (killF M l).length = M.length := by
  induction l generalizing M with
  | nil => rfl
  | cons a l ih => simp [killF, ih]

theorem modify_get {M : List MO} {j k : Nat} {o : MO} {f : MO → MO} (h : (M.modify j f)[k]? = some o) : ∃ o0, M[k]? = some o0 ∧ o = if j = k then f o0 else o0 := by
  rw [List.getElem?_modify] at h
  cases h0 : M[k]? with
  | none => rw [h0] at h; simp at h
  | some o0 =>
    rw [h0] at h
    refine ⟨o0, rfl, ?_⟩
    simp at h
    split at h <;> simp_all

theorem MemOk.kill {M : List MO} (h : MemOk M) (j : Nat) : MemOk (M.modify j dead) := by
  refine ⟨by simpa using h.many, fun o ho => ?_, fun k o hk ho => ?_, fun o ho v hv => ?_⟩
  · obtain ⟨o0, h0, rfl⟩ := modify_get ho
    have := h.zero o0 h0
    subst this
    split <;> rfl
  · obtain ⟨o0, h0, rfl⟩ := modify_get ho
    have := h.size k o0 hk h0
    split
    · exact this
    · exact this
  · obtain ⟨k, hk⟩ := List.mem_iff_getElem?.1 ho
    obtain ⟨o0, h0, rfl⟩ := modify_get hk
    rw [List.length_modify]
    refine h.vals o0 (List.mem_of_getElem? h0) v ?_
    split at hv
    · exact hv
    · exact hv

theorem ObjIn.kill {xs : List Value} {rb : Nat → Nat} {j k : Nat} {o : MO} (h : ObjIn xs rb k o) (hl : k * 3 + 2 < xs.length) : ObjIn (xs.set (j * 3 + 2) (.bool false)) rb k (if j = k then dead o else o) := by
  obtain ⟨h0, h1, h2⟩ := h
  unfold ObjIn
  rw [List.getElem?_set_ne (by omega), List.getElem?_set_ne (by omega)]
  by_cases e : j = k
  · subst e
    rw [if_pos rfl, List.getElem?_set_self hl]
    exact ⟨h0, h1, rfl⟩
  · rw [if_neg e, List.getElem?_set_ne (by omega)]
    exact ⟨h0, h1, h2⟩

/-- The row of objects is written: an object is no more. -/
theorem MachAt.kill {w : World} {base mc : Nat} {own : Nat → Prop} {P : Value × Value × Value} {fuel : Int} {s : St} {inv outv : Value} {rb : Nat → Nat} {mg cap : Nat} (h : MachAt w base mc own P fuel s inv outv (.slice (some ⟨mg, 0, none⟩) s.mem.length cap) rb) (j : Nat) (hj : j < s.mem.length) :
    MachAt (w.setCell ⟨mg, j * 3 + 2, none⟩ (.bool false)) base mc own P fuel { s with mem := s.mem.modify j dead } inv outv (.slice (some ⟨mg, 0, none⟩) s.mem.length cap) rb ∧ Wr own w (w.setCell ⟨mg, j * 3 + 2, none⟩ (.bool false)) := by
  obtain ⟨hr, hm, hs⟩ := h
  have hmg := hs.memo mg rfl
  have hw : Wr (fun k => k = mg) w (w.setCell ⟨mg, j * 3 + 2, none⟩ (.bool false)) := Wr.cell1 w mg _ _
  obtain ⟨⟨xs, hx, hox⟩, hmi, hinj, hok⟩ := hs.mem
  obtain ⟨hgb, cs, hgr⟩ := ownsRow_row hx (g := mg) rfl
  have hne : ∀ g cs' t, Row w g cs' t → t ≠ 99 → ¬ g = mg := fun g cs' t hr' ht e => by subst e; exact hr'.ne hgr ht rfl
  have hb := hs.own mc hm
  have hbm := hs.own mg hmg
  refine ⟨⟨hr.wr hw (hne _ _ _ hr (by decide)), hm, ⟨?_, ?_, hs.outo, ?_, hs.memo, fun k hk => ⟨(hs.own k hk).1, Nat.lt_of_lt_of_le (hs.own k hk).2 hw.size⟩⟩⟩, hw.mono (fun k hk => Or.inl (hk ▸ hmg))⟩
  · exact hs.inp.below (fun b o hb' => World.cell?_of_block (a := ⟨b, o, none⟩) (hw.block b (by omega) (fun hf => by omega)))
  · refine ownsRow_wr hs.out hw (fun g hg => ?_)
    obtain ⟨_, cs', hr'⟩ := ownsRow_row hs.out hg
    exact hne g cs' _ hr' (by decide)
  · refine ⟨⟨xs.set (j * 3 + 2) (.bool false), by rw [List.length_modify]; exact (hx.stored (j * 3 + 2) _).1, fun k o ho => ?_⟩, fun k o hk ho => ?_, fun i k => by rw [List.length_modify]; exact hinj i k, hok.kill j⟩
    · obtain ⟨o0, h0, rfl⟩ := modify_get ho
      refine (hox k o0 h0).kill ?_
      have hkl : k < s.mem.length := by
        rcases Nat.lt_or_ge k s.mem.length with h | h
        · exact h
        · rw [List.getElem?_eq_none h] at h0; cases h0
      rw [hx.1]; omega
    · obtain ⟨o0, h0, rfl⟩ := modify_get ho
      obtain ⟨h1, cv, h2, h3⟩ := hmi k o0 hk h0
      refine ⟨h1, cv, h2.wr hw (hne _ _ _ h2 (by decide)), ?_⟩
      split
      · exact h3
      · exact h3
theorem MachAt.calls {w : World} {base mc : Nat} {own : Nat → Prop} {P : Value × Value × Value} {fuel : Int} {s : St} {inv outv memv : Value} {rb : Nat → Nat} (h : MachAt w base mc own P fuel s inv outv memv rb) (c : Int) :
    MachAt (w.setCell ⟨mc, 11, none⟩ (.int .i64 c)) base mc own P fuel { s with calls := c } inv outv memv rb := MachAt.num (s' := { s with calls := c }) h 11 _ rfl rfl rfl rfl
end Go.Proofs.Ytjkgpolikpochaa
namespace Go.Proofs.Ytjkgpolikpochaa
open Go.RowKit

/-- Such a step may be. -/
def FlatOk (nt nl ng : Nat) (x : StepS) : Prop :=
  TsOk nt nl ng x.args ∧ (∃ m : Nat, x.to = m ∧ m < nt) ∧ (x.op = 1 ∧ x.args.length = 1 ∨ x.op = 5 ∧ x.args.length = 0)

theorem KidsV.tin {w : World} {B n : Nat} {ks : List T} {A : Option Addr} (h : KidsV w B ks A n) : TsIn ks := by
  obtain ⟨hl, _, h2⟩ := h
  by_cases hn : 0 < n
  · obtain ⟨b, off, _, _, hk⟩ := h2 hn
    exact KidsAt.tin ks hk
  · have : ks = [] := List.length_eq_zero_iff.1 (by omega)
    subst this
    simp [TsIn]
theorem FrOk.set {M : List MO} {tp : List V} {lo : List Nat} {ng : Nat} (h : FrOk M tp lo ng) (k : Nat) {v : V} (hv : VOk M.length v) : FrOk M (tp.set k v) lo ng :=
  ⟨fun u hu => by rcases List.mem_or_eq_of_mem_set hu with h1 | h1; exact h.temps u h1; exact h1 ▸ hv, h.locs, h.globs⟩
theorem Mach.inp64 {w : World} {base mc : Nat} {own : Nat → Prop} {P : Value × Value × Value} {fuel : Int} {s : St} (h : Mach w base mc own P fuel s) {j : Nat} {x : Int} (hx : s.inp[j]? = some x) : In64 x := by
  obtain ⟨_, _, _, _, h⟩ := h
  obtain ⟨A, cap, _, _, _, h3⟩ := h.rest.inp
  have hlt : j < s.inp.length := by
    rcases Nat.lt_or_ge j s.inp.length with h' | h'
    · exact h'
    · rw [List.getElem?_eq_none h'] at hx; cases hx
  obtain ⟨b, off, _, _, hc⟩ := h3 (by omega)
  exact (hc j x hx).2

/-- What such a step keeps. -/
theorem flat_kept {R : CallR} {fuel : Int} {s : St} {tp : List V} {lo : List Nat} {ng nt nl : Nat} {x : StepS} (hI : Inv fuel s) (hFr : FrOk s.mem tp lo ng) (hlt : tp.length = nt) (hll : lo.length = nl) (hx : FlatOk nt nl ng x) (hti : TsIn x.args) (hin : ∀ y, s.inp[0]? = some y → In64 y)
    (ht : (doesF R fuel lo s tp x).1 = true) : Kept fuel s tp lo ng (doesF R fuel lo s tp x).2.1 (doesF R fuel lo s tp x).2.2 := by
  subst hlt hll
  obtain ⟨hts, ⟨m, hm, hmt⟩, hop⟩ := hx
  by_cases hy : (stepF fuel 1 s).1 = true
  · obtain ⟨hy0, hy1, hy2⟩ := stepF_yes hy
    have hlo := hI.lo
    have hmany := hI.many
    cases he : evalTs s.mem tp lo x.args with
    | none =>
      exfalso
      unfold doesF at ht
      rw [if_neg (by rw [hy]; simp), stepF_mem, he] at ht
      cases ht
    | some l =>
      have hok := evals_ok hI.mem hFr x.args hti hts he
      have hpos : 0 < s.mem.length := Nat.lt_of_le_of_lt (Nat.zero_le _) hFr.globs
      have hto : ¬ x.to < 0 := by omega
      rw [doesF_yes hy hy2 he]
      have key : ∀ (s' : St) (v : V), s'.kind = 0 → s'.steps = s.steps + 1 → s'.mem = s.mem → s'.calls = s.calls → VOk s.mem.length v → Kept fuel s tp lo ng s' (setT tp x.to v) := by
        intro s' v h1 h2 h3 h4 h5
        have e : setT tp x.to v = tp.set m v := by unfold setT; rw [if_pos (by omega), hm]; rfl
        rw [e]
        exact ⟨⟨h1, by omega, by omega, by rw [h3, h2]; omega, by rw [h3]; exact hI.mem⟩, by rw [h3]; exact hFr.set m h5, h4, by rw [h3]; exact Nat.le_refl _, by omega, by simp⟩
      rcases hop with ⟨h1, h2⟩ | ⟨h1, h2⟩
      · unfold actF
        rw [if_pos h1]
        exact key _ _ hy0 rfl rfl rfl (getD_ok hpos hok 0)
      · unfold actF
        rw [if_neg (by omega), if_neg (by omega), if_neg (by omega), if_pos h1]
        cases hi : s.inp with
        | nil =>
          simp only [hi]
          exact key _ _ hy0 rfl rfl rfl (VOk.num hpos (by unfold In64; omega))
        | cons y r =>
          simp only [hi]
          exact key _ _ hy0 rfl rfl rfl (VOk.num hpos (hin y (by rw [hi]; rfl)))
  · exfalso
    unfold doesF at ht
    rw [if_pos (by simpa using hy)] at ht
    cases ht

theorem does_flat (R : CallR) (fuel : Int) (hf : fuel ≤ 1000000000) (p : ProgS) (d : Int) (ng nt nl : Nat) (x : StepS) (hx : FlatOk nt nl ng x) : DoesOk R fuel p d ng nt nl x := by
  intro base mc own P s fb tb G tp lv lo A n cap w hM hP hI hd hF hO hFr hlt hll hk
  have hti := hk.tin
  have hin : ∀ y, s.inp[0]? = some y → In64 y := fun y hy => hM.inp64 hy
  have hkp := flat_kept (R := R) hI hFr hlt hll hx hti hin
  obtain ⟨op, dst, size, fn, ks⟩ := x
  obtain ⟨hts, ⟨m, hm, hmt⟩, hop⟩ := hx
  simp only at hts hm hop hk hti
  have hkl := hk.1
  subst hlt hll
  refine Calls.mono (R := fun e w' => DoesSays base mc own P fuel fb tb G lv lo (doesF R fuel lo s tp ⟨op, dst, size, fn, ks⟩) w e w') ?_ (fun e w' h => ⟨h, hkp⟩)
  by_cases hy : (stepF fuel 1 s).1 = true
  · cases he : evalTs s.mem tp lo ks with
    | none => exact does_fail base mc own P fuel s fb tb G tp lv lo ng R op dst size fn ks A n cap w hM hI.kind hI.lo hI.hi hf hF hO hFr hts hk (by omega) hti hy he
    | some l =>
      rcases hop with ⟨h1, h2⟩ | ⟨h1, h2⟩
      · exact does_set base mc own P fuel s fb tb G tp lv lo ng R op dst size fn ks A n cap w hM hI.kind hI.lo hI.hi hf hF hO hFr hts hk (by omega) hti hy ⟨l, he⟩ h1 m hm hmt (by omega)
      · cases hi : s.inp with
        | nil => exact does_get0 base mc own P fuel s fb tb G tp lv lo ng R op dst size fn ks A n cap w hM hI.kind hI.lo hI.hi hf hF hO hFr hts hk (by omega) hti hy ⟨l, he⟩ h1 m hm hmt hi
        | cons y il => exact does_get1 base mc own P fuel s fb tb G tp lv lo ng R op dst size fn ks A n cap w hM hI.kind hI.lo hI.hi hf hF hO hFr hts hk (by omega) hti hy ⟨l, he⟩ h1 m hm hmt y il hi
  · exact does_dry base mc own P fuel s fb tb G tp lv lo ng R op dst size fn ks A n cap w hM hI.kind hI.lo hI.hi hf hF hO hFr hts hk (by omega) (by simpa using hy)
end Go.Proofs.Ytjkgpolikpochaa
