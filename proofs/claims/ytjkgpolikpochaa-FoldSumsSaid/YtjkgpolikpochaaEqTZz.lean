/- EqTree, EqTrees: whether two trees are the same. No condition. -/
import Derived.Test.YtjkgpolikpochaaQ01Zz
import Derived.StillTailTactics
set_option linter.unusedVariables false
set_option linter.unusedSimpArgs false
namespace Go.Proofs.Ytjkgpolikpochaa
open Go.RowKit

noncomputable def yes (p : Prop) : Bool := @decide p (Classical.propDecidable p)
theorem yes_true {p : Prop} (h : p) : yes p = true := by unfold yes; exact @decide_eq_true _ (Classical.propDecidable p) h
theorem yes_false {p : Prop} (h : ¬ p) : yes p = false := by unfold yes; exact @decide_eq_false _ (Classical.propDecidable p) h

def EqTSaid (m : Nat) : Prop := ∀ (t t' : T) (B : Nat) (w : World) (v0 v1 v2 u0 u1 u2 : Value), t.size ≤ m → B ≤ w.heap.size → TreeAt w (Under B) t v0 v1 v2 → TreeAt w (Under B) t' u0 u1 u2 →
    Calls Try.prog 14 #[.agg #[v0, v1, v2], .agg #[u0, u1, u2]] w fun e w' => e = .returned (.bool (yes (t = t'))) ∧ Below w.heap.size w w'

set_option maxRecDepth 100000 in
set_option maxHeartbeats 1000000 in
theorem eqTrees_of (m : Nat) (ih : EqTSaid m) (ks ks' : List T) (A A' : Option Addr) (n n' cap cap' B : Nat) (w : World) (hm : T.sizes ks ≤ m) (hB : B ≤ w.heap.size) (hv : KidsV w B ks A n) (hu : KidsV w B ks' A' n') :
    Calls Try.prog 26 #[.slice A n cap, .slice A' n' cap'] w fun e w' => e = .returned (.bool (yes (ks = ks'))) ∧ Below w.heap.size w w' := by
  have hn := hv.2.1
  by_cases hlen : n = n'
  · subst hlen
    have hb0 : ((n : Int) != (n : Int)) = false := by simp
    have HV := Lib.hid hv
    have HU := Lib.hid hu
    have IH := Lib.hid ih
    clear hv hu ih
    go_enter Try.func26, Try.ntmps26
    go_wp2
    go_loopw [5] (fun i wr => ∃ k : Nat, k ≤ n ∧ i = .int .i64 k ∧ (∀ j, j < k → ks[j]? = ks'[j]?) ∧ Below w.heap.size w wr) (fun i _ => n - (intOf i).toNat)
    case atStart => exact ⟨0, by omega, rfl, fun j hj => absurd hj (by omega), Below.refl _ _⟩
    case round =>
      obtain ⟨k, hk, rfl, hsame, hnx⟩ := hrel
      have HS := Lib.hid hsame
      clear hsame
      by_cases hlt : k < n
      · obtain ⟨b, off, t, v0, v1, v2, rfl, hb, hk1, c0, c1, c2, ht⟩ := (HV.out.below (hnx.mono hB) (Nat.le_refl _)).get hlt
        obtain ⟨b', off', t', u0, u1, u2, rfl, hb', hk1', d0, d1, d2, hu⟩ := (HU.out.below (hnx.mono hB) (Nat.le_refl _)).get hlt
        have hsz : t.size ≤ m := Nat.le_trans (T.sizes_get hk1) hm
        have hcall := fun W (hb : Below w.heap.size w W) => IH.out t t' B W v0 v1 v2 u0 u1 u2 hsz (Nat.le_trans hB hb.size)
        have HC := Lib.hid hcall
        have HK := Lib.hid hk1
        have HK' := Lib.hid hk1'
        have HT := Lib.hid ht
        have HU' := Lib.hid hu
        have hklt : (k : Int) < (n : Int) := by omega
        clear hcall hk1 hk1' ht hu
        by_cases heq : t = t'
        · have hyes := yes_true heq
          have HE := Lib.hid heq
          clear heq
          go_wp2
          go_still_tail 8, (by kernel_rfl)
          go_wp2_with fail
          refine (HC.out _ (show Below w.heap.size w wr.drew from hnx.drew) (HT.out.below (Below.refl B wr).drew (Nat.le_refl _)) (HU'.out.below (Below.refl B wr).drew (Nat.le_refl _))).mono ?_
          rintro e w1 ⟨rfl, hb1⟩
          go_wp2_with fail
          go_roundw
          case rel =>
            refine ⟨k + 1, by omega, by go_num, fun j hj => ?_, hnx.drew.trans (hb1.mono (show w.heap.size ≤ wr.drew.heap.size from hnx.size))⟩
            by_cases hjk : j < k
            · exact HS.out j hjk
            · obtain rfl : j = k := by omega
              rw [HK.out, HK'.out, HE.out]
          case measure => simp [intOf]; omega
        · have hyes := yes_false heq
          have HE := Lib.hid heq
          clear heq
          go_wp2
          go_still_tail 8, (by kernel_rfl)
          go_wp2_with fail
          refine (HC.out _ (show Below w.heap.size w wr.drew from hnx.drew) (HT.out.below (Below.refl B wr).drew (Nat.le_refl _)) (HU'.out.below (Below.refl B wr).drew (Nat.le_refl _))).mono ?_
          rintro e w1 ⟨rfl, hb1⟩
          go_wp2_with fail
          go_ret
          refine ⟨ret_b (yes_false fun hks => HE.out ?_).symm, hnx.drew.trans (hb1.mono (show w.heap.size ≤ wr.drew.heap.size from hnx.size))⟩
          have h1 := HK.out
          have h2 := HK'.out
          rw [hks, h2] at h1
          injection h1 with h1
          exact h1.symm
      · obtain rfl : k = n := by omega
        go_wp2
        go_ret
        exact ⟨ret_b (yes_true (list_ext_upto (HV.out.1.trans HU.out.1.symm) (fun j hj => HS.out j (by rw [HV.out.1] at hj; exact hj)))).symm, hnx⟩
  · have hb0 : ((n : Int) != (n' : Int)) = true := by simp; omega
    have HE := Lib.hid (show yes (ks = ks') = false from yes_false (fun h => hlen (by rw [← hv.1, ← hu.1, h])))
    clear hv hu ih
    go_enter Try.func26, Try.ntmps26
    go_wp2
    go_ret
    exact ⟨ret_b HE.out.symm, Below.refl _ _⟩

theorem eqT_node (op n op' n' : Int) (ks ks' : List T) : (T.node op n ks = T.node op' n' ks') ↔ (op = op' ∧ n = n' ∧ ks = ks') := by
  constructor
  · intro h; injection h with h1 h2 h3; exact ⟨h1, h2, h3⟩
  · rintro ⟨rfl, rfl, rfl⟩; rfl

set_option maxRecDepth 100000 in
set_option maxHeartbeats 1000000 in
theorem eqTree_all (m : Nat) : EqTSaid m := by
  induction m with
  | zero => intro t _ _ _ _ _ _ _ _ _ hm; have := t.size_pos; omega
  | succ m ih =>
    rintro ⟨op, x, ks⟩ ⟨op', x', ks'⟩ B w v0 v1 v2 u0 u1 u2 hm hB hv hu
    obtain ⟨A, cap, n, rfl, rfl, _, _, rfl, hk⟩ := KidsV.of_tree hv
    obtain ⟨A', cap', n', rfl, rfl, _, _, rfl, hk'⟩ := KidsV.of_tree hu
    simp only [T.size] at hm
    have HC := Lib.hid (fun W (hb : Below w.heap.size w W) => eqTrees_of m ih ks ks' A A' n n' cap cap' B W (by omega) (Nat.le_trans hB hb.size) (hk.below (hb.mono hB) (Nat.le_refl _)) (hk'.below (hb.mono hB) (Nat.le_refl _)))
    clear hv hu hk hk' ih hm
    by_cases h1 : op = op'
    · by_cases h2 : x = x'
      · have HE := Lib.hid (eqT_node op x op' x' ks ks')
        have e1 : (op == op') = true := by simpa using h1
        have e2 : (x == x') = true := by simpa using h2
        have HF := Lib.hid (And.intro h1 h2)
        clear h1 h2
        go_enter Try.func14, Try.ntmps14
        go_wp2_with fail
        refine (HC.out _ ?_).mono ?_
        · exact ((Below.refl _ _).alloc (Nat.le_refl _) _).alloc (by simp) _
        rintro e w1 ⟨rfl, hb1⟩
        go_wp2_with fail
        go_ret
        refine ⟨ret_b (?_ : yes (ks = ks') = yes (T.node op x ks = T.node op' x' ks')), ?_⟩
        · have e : (T.node op x ks = T.node op' x' ks') = (ks = ks') := propext (HE.out.trans ⟨fun h => h.2.2, fun h => ⟨HF.out.1, HF.out.2, h⟩⟩)
          rw [e]
        · exact (below2 _ _ _).trans (hb1.mono (by simp; omega))
      · have HE := Lib.hid (show yes (T.node op x ks = T.node op' x' ks') = false from yes_false (fun h => h2 ((eqT_node ..).1 h).2.1))
        have e1 : (op == op') = true := by simpa using h1
        have e2 : (x == x') = false := by simpa using h2
        clear h1 h2
        go_enter Try.func14, Try.ntmps14
        go_wp2_with fail
        go_ret
        exact ⟨ret_b HE.out.symm, below2 _ _ _⟩
    · have HE := Lib.hid (show yes (T.node op x ks = T.node op' x' ks') = false from yes_false (fun h => h1 ((eqT_node ..).1 h).1))
      have e1 : (op == op') = false := by simpa using h1
      clear h1
      go_enter Try.func14, Try.ntmps14
      go_wp2_with fail
      go_ret
      exact ⟨ret_b HE.out.symm, below2 _ _ _⟩
end Go.Proofs.Ytjkgpolikpochaa
