/- Trees that may be (plain). No program in sight but its name. No condition. Nodes: how many nodes a tree has. Conditions: as stated. Whether objects may be (plain). No condition. -/
import Derived.Test.YtikbdplllopjlaaSizeZz
import Derived.Test.YtikbdplllopjlaaQ09Zz
import Derived.Test.YtikbdplllopjlaaQ02Zz
import Derived.IntWalk
set_option linter.unusedVariables false
set_option linter.unusedSimpArgs false
namespace Go.Proofs.Ytikbdplllopjlaa
open Go.RowKit

mutual
/-- A tree that may be, but for its size. -/
def okT : T → Prop
  | .node op x ks => badN op x ks.length = false ∧ okTs ks
def okTs : List T → Prop
  | [] => True
  | k :: ks => okT k ∧ okTs ks
end
theorem badN_iff {op x : Int} {n : Nat} : badN op x n = false ↔ (n : Int) = kidsI op ∧ (op > 4 → x = 0) ∧ (op ≠ 1 → 0 ≤ x) := by
  unfold badN
  simp
theorem kids_cases {op : Int} {n : Nat} (h : (n : Int) = kidsI op) : (1 ≤ op ∧ op ≤ 4 ∧ n = 0) ∨ (12 ≤ op ∧ op ≤ 30 ∧ n = 2) ∨ (5 ≤ op ∧ op ≤ 11 ∧ n = 1) ∨ (31 ≤ op ∧ op ≤ 36 ∧ n = 1) := by
  unfold kidsI at h
  split at h
  · omega
  · split at h
    · omega
    · split at h
      · omega
      · omega
theorem okTs_mem : ∀ {l : List T}, okTs l ↔ ∀ k, k ∈ l → okT k
  | [] => by simp [okTs]
  | a :: l => by
    simp only [okTs, List.mem_cons, okTs_mem (l := l)]
    constructor
    · rintro ⟨h1, h2⟩ k (rfl | hk)
      · exact h1
      · exact h2 k hk
    · intro h; exact ⟨h a (Or.inl rfl), fun k hk => h k (Or.inr hk)⟩
theorem okT_node {op x : Int} {ks : List T} : okT (.node op x ks) ↔ badN op x ks.length = false ∧ okTs ks := by rw [okT]
mutual
theorem szF_ok : ∀ (t : T) (most : Int), okT t → (t.size : Int) ≤ most → szF t most = t.size
  | .node op x ks, most, h, hm => by
    obtain ⟨h1, h2⟩ := okT_node.1 h
    simp only [T.size] at hm ⊢
    rw [szF, if_neg (by rw [h1]; simp; omega), szsF_ok ks most 1 h2 (by omega)]
    omega
theorem szsF_ok : ∀ (ks : List T) (most n : Int), okTs ks → n + T.sizes ks ≤ most → szsF ks most n = n + T.sizes ks
  | [], most, n, h, hm => by simp [szsF, T.sizes]
  | k :: ks, most, n, h, hm => by
    simp only [okTs] at h
    simp only [T.sizes] at hm ⊢
    have hk := szF_ok k (most - n) h.1 (by omega)
    have hp := k.size_pos
    rw [szsF, if_neg (by omega), hk, szsF_ok ks most _ h.2 (by omega)]
    omega
end
mutual
theorem szF_pos : ∀ (t : T) (most : Int), szF t most ≠ -1 → okT t ∧ (t.size : Int) ≤ most
  | .node op x ks, most, h => by
    rw [szF] at h
    split at h
    · exact absurd rfl h
    · rename_i hn
      have h1 : badN op x ks.length = false := by
        cases hb : badN op x ks.length
        · rfl
        · exact absurd (Or.inl hb) hn
      have h2 : ¬ most < 1 := fun h' => hn (Or.inr h')
      obtain ⟨h3, h4⟩ := szsF_pos ks most 1 (by omega) (by omega) h
      exact ⟨okT_node.2 ⟨h1, h3⟩, by simp only [T.size]; omega⟩
theorem szsF_pos : ∀ (ks : List T) (most n : Int), 1 ≤ n → n ≤ most → szsF ks most n ≠ -1 → okTs ks ∧ n + T.sizes ks ≤ most
  | [], most, n, h0, h1, h => by simp [okTs, T.sizes]; omega
  | k :: ks, most, n, h0, h1, h => by
    rw [szsF] at h
    have hb := szF_bd k (most - n)
    split at h
    · exact absurd rfl h
    · rename_i hn
      have hk := szF_pos k (most - n) (by omega)
      have hsz := szF_ok k (most - n) hk.1 hk.2
      rw [hsz] at h hb
      obtain ⟨h3, h4⟩ := szsF_pos ks most (n + k.size) (by omega) (by omega) h
      simp only [okTs, T.sizes]
      exact ⟨⟨hk.1, h3⟩, by omega⟩
end
theorem may_iff {t : T} : mayB t = true ↔ okT t ∧ t.size ≤ 200 := by
  unfold mayB
  rw [decide_eq_true_eq]
  have hb := szF_bd t 200
  constructor
  · intro h
    have := szF_pos t 200 (by omega)
    exact ⟨this.1, by omega⟩
  · rintro ⟨h1, h2⟩
    have := szF_ok t 200 h1 (by omega)
    have hp := t.size_pos
    omega
mutual
theorem cnt_ok : ∀ (t : T) (n : Int), okT t → n + t.size ≤ 200 → cnt t n = (n + t.size, true)
  | .node op x ks, n, h, hm => by
    obtain ⟨h1, h2⟩ := okT_node.1 h
    simp only [T.size] at hm ⊢
    rw [cnt, if_neg (by rw [h1]; simp; omega), cnts_ok ks (n + 1) h2 (by omega)]
    congr 1
    omega
theorem cnts_ok : ∀ (ks : List T) (n : Int), okTs ks → n + T.sizes ks ≤ 200 → cnts ks n = (n + T.sizes ks, true)
  | [], n, h, hm => by simp [cnts, T.sizes]
  | k :: ks, n, h, hm => by
    simp only [okTs] at h
    simp only [T.sizes] at hm ⊢
    have hk := cnt_ok k n h.1 (by omega)
    rw [cnts, hk]
    simp only [Bool.true_eq_false, if_false]
    rw [cnts_ok ks _ h.2 (by omega)]
    congr 1
    omega
end
mutual
theorem cnt_pos : ∀ (t : T) (n : Int), (cnt t n).2 = true → okT t ∧ (0 ≤ n → n + t.size ≤ 200)
  | .node op x ks, n, h => by
    rw [cnt] at h
    split at h
    · cases h
    · rename_i hn
      have h1 : badN op x ks.length = false := by
        cases hb : badN op x ks.length
        · rfl
        · exact absurd (Or.inr hb) hn
      have h2 : ¬ n + 1 > 200 := fun h' => hn (Or.inl h')
      obtain ⟨h3, h4⟩ := cnts_pos ks (n + 1) h
      exact ⟨okT_node.2 ⟨h1, h3⟩, fun h0 => by have := h4 (by omega) (by omega); simp only [T.size]; omega⟩
theorem cnts_pos : ∀ (ks : List T) (n : Int), (cnts ks n).2 = true → okTs ks ∧ (0 ≤ n → n ≤ 200 → n + T.sizes ks ≤ 200)
  | [], n, h => by simp [okTs, T.sizes]
  | k :: ks, n, h => by
    rw [cnts] at h
    split at h
    · cases h
    · rename_i hn
      have hk2 : (cnt k n).2 = true := by simpa using hn
      have hk := cnt_pos k n hk2
      obtain ⟨h3, h4⟩ := cnts_pos ks (cnt k n).1 h
      simp only [okTs, T.sizes]
      refine ⟨⟨hk.1, h3⟩, fun h0 h1 => ?_⟩
      have hks := hk.2 h0
      have hc := cnt_ok k n hk.1 hks
      rw [hc] at h4
      have := h4 (by simp only; omega) (by simp only; omega)
      simp only at this
      omega
end
theorem treeC_iff {t : T} : (treeC t).2 = mayB t := by
  rw [Bool.eq_iff_iff, may_iff]
  unfold treeC
  constructor
  · intro h
    have := cnt_pos t 0 h
    exact ⟨this.1, by have := this.2 (by omega); omega⟩
  · rintro ⟨h1, h2⟩
    rw [cnt_ok t 0 h1 (by omega)]
theorem treeC_size {t : T} (h : mayB t = true) : treeC t = ((t.size : Int), true) := by
  obtain ⟨h1, h2⟩ := may_iff.1 h
  unfold treeC
  rw [cnt_ok t 0 h1 (by omega)]
  congr 1
  omega

end Go.Proofs.Ytikbdplllopjlaa
namespace Go.Proofs.Ytikbdplllopjlaa
open Go.RowKit

theorem sizes_take_le : ∀ (ks : List T) (j : Nat), T.sizes (ks.take j) ≤ T.sizes ks
  | [], j => by simp [T.sizes]
  | k :: ks, 0 => by simp [T.sizes]
  | k :: ks, j + 1 => by have := sizes_take_le ks j; simp only [List.take_succ_cons, T.sizes]; omega
theorem sizes_next : ∀ {ks : List T} {j : Nat} {k : T}, ks[j]? = some k → T.sizes (ks.take (j + 1)) = T.sizes (ks.take j) + k.size
  | [], j, k, h => by simp at h
  | x :: ks, 0, k, h => by simp at h; subst h; simp [T.sizes]
  | x :: ks, j + 1, k, h => by
    simp only [List.getElem?_cons_succ] at h
    have := sizes_next (ks := ks) h
    simp only [List.take_succ_cons, T.sizes] at this ⊢
    omega
def NodesSaid (m : Nat) : Prop := ∀ (t : T) (B : Nat) (w : World) (v0 v1 v2 : Value), t.size ≤ m → B ≤ w.heap.size → TreeAt w (Under B) t v0 v1 v2 → t.size ≤ 1000000 →
    Calls Try.prog 49 #[.agg #[v0, v1, v2]] w fun e w' => e = .returned (.int .i64 (t.size : Nat)) ∧ Below w.heap.size w w'

set_option maxRecDepth 100000 in
set_option maxHeartbeats 8000000 in
theorem nodes_all (m : Nat) : NodesSaid m := by
  induction m with
  | zero => intro t _ _ _ _ _ hm; have := t.size_pos; omega
  | succ m ih =>
    rintro ⟨op, x, ks⟩ B w v0 v1 v2 hm hB hv hmany
    obtain ⟨A, cap, len, rfl, rfl, _, _, rfl, hk⟩ := KidsV.of_tree hv
    simp only [T.size] at hm hmany ⊢
    have hlen := hk.1
    have hlm := hk.2.1
    have HK := Lib.hid hk
    have HIH := Lib.hid ih
    have HL := Lib.hid hlen
    clear hv hk ih
    go_enter Try.func49, Try.ntmps49
    refine wp_letter (fun Q hQ => ?_)
    have HQ := Lib.hid hQ
    clear hQ
    go_wp2_with fail
    go_loopw [3, 9] (fun n i wr => ∃ j : Nat, j ≤ len ∧ i = .int .i64 j ∧ n = .int .i64 ((1 + T.sizes (ks.take j) : Nat) : Int) ∧ Below w.heap.size w wr) (fun _ i _ => len - (intOf i).toNat)
    case atStart => exact ⟨0, by omega, rfl, by simp [T.sizes], below1 _ _⟩
    case round =>
      obtain ⟨j, hj, rfl, rfl, hbw⟩ := hrel
      have hzw := hbw.size
      have HBW := Lib.hid hbw
      by_cases hlt : j < len
      · obtain ⟨b, off, k, u0, u1, u2, rfl, hb, hk1, k0, k1, k2, ht⟩ := (HK.out.below (hbw.mono hB) (Nat.le_refl _)).get hlt
        obtain ⟨a0, b0, A1, n1, c1, rfl, rfl, rfl⟩ := ht.shape0
        have hks := sizes_next hk1
        have hkt := sizes_take_le ks (j + 1)
        have hkp := k.size_pos
        have HC := Lib.hid (HIH.out k B (wr.alloc (.cells #[.int .i64 a0, .int .i64 b0, .slice A1 n1 c1] 62)) _ _ _ (by omega) (by simp; omega) (ht.below ((below1 wr _).mono (by omega)) (Nat.le_refl _)) (by omega))
        have HKS := Lib.hid hks
        have hjl : (j : Int) < (len : Int) := by omega
        have hbl : b < wr.heap.size := by omega
        clear hk1 ht hbw
        go_wp2_with fail
        refine HC.out.mono ?_
        rintro e w1 ⟨rfl, hb1⟩
        have HB1 := Lib.hid (HBW.out.trans (((below1 wr (.cells #[.int .i64 a0, .int .i64 b0, .slice A1 n1 c1] 62)).trans (hb1.mono (below1 wr _).size)).mono hzw))
        have hw1 : IntKind.i64.wrap (1 + (T.sizes (ks.take j) : Int) + (k.size : Int)) = 1 + (T.sizes (ks.take j) : Int) + (k.size : Int) := IntWalk.i64_in _ (by omega)
        clear hb1
        go_wp2_with fail
        go_roundw
        case rel => exact ⟨j + 1, by omega, by go_num, by rw [HKS.out]; push_cast; simp only [Value.int.injEq, true_and] ; omega, HB1.out⟩
        case measure => simp [intOf]; omega
      · obtain rfl : j = len := by omega
        rw [← HL.out, List.take_length]
        clear hbw
        go_wp2_with fail
        refine HQ.out _ _ _ ?_
        exact bodyPost_ret (v := .int .i64 ((1 + T.sizes ks : Nat) : Int)) (by simp [results, Try.results49, go_sem]) rfl ⟨rfl, HBW.out⟩
theorem nodes_any (t : T) (B : Nat) (w : World) (v0 v1 v2 : Value) (hB : B ≤ w.heap.size) (hv : TreeAt w (Under B) t v0 v1 v2) (hm : t.size ≤ 1000000) :
    Calls Try.prog 49 #[.agg #[v0, v1, v2]] w fun e w' => e = .returned (.int .i64 (t.size : Nat)) ∧ Below w.heap.size w w' := nodes_all t.size t B w v0 v1 v2 (Nat.le_refl _) hB hv hm
end Go.Proofs.Ytikbdplllopjlaa
namespace Go.Proofs.Ytikbdplllopjlaa
open Go.RowKit

def obB (o : ObS) : Bool := sizeB o.size && betwB o.count 1 64 && !decide ((o.init.length : Int) > o.count)
def obsB : List ObS → Bool
  | [] => true
  | o :: l => obB o && obsB l
def objsB (l : List ObS) (most : Int) : Bool := obsB l && decide ((l.length : Int) ≤ most)
end Go.Proofs.Ytikbdplllopjlaa
