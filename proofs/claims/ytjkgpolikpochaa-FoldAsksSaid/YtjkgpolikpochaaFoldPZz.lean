/- What a tree is folded to, as a plain function; trees that may be. No program in sight but its name. No condition. -/
import Derived.Test.YtjkgpolikpochaaSizeZz
import Derived.Test.YtjkgpolikpochaaValsZz
set_option linter.unusedVariables false
set_option linter.unusedSimpArgs false
namespace Go.Proofs.Ytjkgpolikpochaa
open Go.RowKit

mutual
/-- A tree that may be, but for its size. -/
def okT : T → Prop
  | .node op x ks => badN op x ks.length = false ∧ okTs ks
def okTs : List T → Prop
  | [] => True
  | k :: ks => okT k ∧ okTs ks
end
theorem badN_iff {op x : Int} {n : Nat} : badN op x n = false ↔ (n : Int) = kidsI op ∧ (op > 4 → x = 0) ∧ (op ≠ 1 → 0 ≤ x) := by
  unfold badN
  simp
theorem kids_cases {op : Int} {n : Nat} (h : (n : Int) = kidsI op) : (1 ≤ op ∧ op ≤ 4 ∧ n = 0) ∨ (12 ≤ op ∧ op ≤ 30 ∧ n = 2) ∨ (5 ≤ op ∧ op ≤ 11 ∧ n = 1) ∨ (31 ≤ op ∧ op ≤ 36 ∧ n = 1) := by
  unfold kidsI at h
  split at h
  · omega
  · split at h
    · omega
    · split at h
      · omega
      · omega

mutual
/-- What a tree is folded to. -/
def foldT : T → T
  | .node op x ks => if 1 ≤ op ∧ op ≤ 4 then .node op x [] else smallN op (foldTs ks)
def foldTs : List T → List T
  | [] => []
  | k :: ks => foldT k :: foldTs ks
def smallN (op : Int) (l : List T) : T :=
  if loadB op = false ∧ l.all (fun k => decide (k.op = 1)) = true then .node 1 (valT (.node op 0 l)) []
  else match l with
    | [a] => if againB op a.op = true then a else .node op 0 l
    | [a, b] => if neutralB op b.op b.n = true ∨ againB op a.op = true then a else if op = 12 ∧ isT a.op a.n 0 = true then b else .node op 0 l
    | _ => .node op 0 l
end
theorem foldTs_length (l : List T) : (foldTs l).length = l.length := by
  induction l with
  | nil => rfl
  | cons a l ih => simp [foldTs, ih]
theorem foldTs_append (a b : List T) : foldTs (a ++ b) = foldTs a ++ foldTs b := by
  induction a with
  | nil => rfl
  | cons x a ih => simp [foldTs, ih]
theorem okTs_mem : ∀ {l : List T}, okTs l ↔ ∀ k, k ∈ l → okT k
  | [] => by simp [okTs]
  | a :: l => by
    simp only [okTs, List.mem_cons, okTs_mem (l := l)]
    constructor
    · rintro ⟨h1, h2⟩ k (rfl | hk)
      · exact h1
      · exact h2 k hk
    · intro h; exact ⟨h a (Or.inl rfl), fun k hk => h k (Or.inr hk)⟩
theorem okT_node {op x : Int} {ks : List T} : okT (.node op x ks) ↔ badN op x ks.length = false ∧ okTs ks := by rw [okT]
theorem okT_con {t : T} (h : okT t) (h1 : t.op = 1) : t.kids = [] := by
  obtain ⟨op, x, ks⟩ := t
  rw [okT_node] at h
  simp only [T.op] at h1
  subst h1
  have h2 := (badN_iff.1 h.1).1
  have : ks.length = 0 := by
    unfold kidsI at h2
    rw [if_neg (by omega), if_pos (by omega)] at h2
    omega
  exact List.length_eq_zero_iff.1 this
theorem small_ok {op x : Int} {ks : List T} (h : badN op x ks.length = false) (hn : ¬ (1 ≤ op ∧ op ≤ 4)) {l : List T} (hl : okTs l) (hll : l.length = ks.length) : okT (smallN op l) := by
  obtain ⟨h1, h2, h3⟩ := badN_iff.1 h
  have hc := kids_cases h1
  have hb : badN op 0 l.length = false := badN_iff.2 ⟨by rw [hll]; exact h1, fun _ => rfl, fun _ => Int.le_refl _⟩
  have hnode : okT (.node op 0 l) := okT_node.2 ⟨hb, hl⟩
  unfold smallN
  split
  · exact okT_node.2 ⟨badN_iff.2 ⟨by simp [kidsI], fun h => by omega, fun h => absurd rfl h⟩, by simp [okTs]⟩
  · split
    · rename_i a
      simp only [okTs] at hl
      split
      · exact hl.1
      · exact hnode
    · rename_i a b
      simp only [okTs] at hl
      split
      · exact hl.1
      · split
        · exact hl.2.1
        · exact hnode
    · exact hnode
mutual
theorem fold_ok : ∀ (t : T), okT t → okT (foldT t)
  | .node op x ks, h => by
    obtain ⟨h1, h2⟩ := okT_node.1 h
    rw [foldT]
    split
    · rename_i hl
      have hc := kids_cases (badN_iff.1 h1).1
      have : ks.length = 0 := by omega
      rw [List.length_eq_zero_iff.1 this] at h1
      exact okT_node.2 ⟨h1, by simp [okTs]⟩
    · rename_i hl
      exact small_ok h1 hl (folds_ok ks h2) (foldTs_length ks)
theorem folds_ok : ∀ (ks : List T), okTs ks → okTs (foldTs ks)
  | [], h => by simp [foldTs, okTs]
  | k :: ks, h => by
    simp only [okTs] at h
    simp only [foldTs, okTs]
    exact ⟨fold_ok k h.1, folds_ok ks h.2⟩
end
theorem plain_valOk {op x : Int} {ks l : List T} (h : badN op x ks.length = false) (hn : ¬ (1 ≤ op ∧ op ≤ 4)) (hld : loadB op = false) (hl : okTs l) (hll : l.length = ks.length) (hp : l.all (fun k => decide (k.op = 1)) = true) : valOk (.node op 0 l) := by
  obtain ⟨h1, h2, h3⟩ := badN_iff.1 h
  have hc := kids_cases h1
  simp only [loadB, decide_eq_false_iff_not] at hld
  rw [valOk]
  refine ⟨?_, ?_⟩
  · rw [hll]
    rcases hc with hc | hc | hc | hc
    · exact absurd ⟨hc.1, hc.2.1⟩ hn
    · exact Or.inr (Or.inl ⟨⟨hc.1, hc.2.1⟩, hc.2.2⟩)
    · exact absurd ⟨hc.1, hc.2.1⟩ hld
    · exact Or.inr (Or.inr ⟨⟨hc.1, hc.2.1⟩, hc.2.2⟩)
  · clear hc h1 h2 h3 hll
    induction l with
    | nil => simp [valsOk]
    | cons a l ih =>
      simp only [okTs] at hl
      simp only [List.all_cons, Bool.and_eq_true, decide_eq_true_eq] at hp
      simp only [valsOk]
      refine ⟨?_, ih hl.2 hp.2⟩
      have hk := okT_con hl.1 hp.1
      obtain ⟨o, y, ks'⟩ := a
      simp only [T.kids] at hk
      subst hk
      rw [valOk]
      exact ⟨Or.inl ⟨hp.1, rfl⟩, by simp [valsOk]⟩
end Go.Proofs.Ytjkgpolikpochaa
