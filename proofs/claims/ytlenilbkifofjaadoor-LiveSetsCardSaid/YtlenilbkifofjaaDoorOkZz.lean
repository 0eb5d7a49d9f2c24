/- What the page's ops come to may be again. No program in sight. No condition. -/
import Derived.Test.YtlenilbkifofjaaDoorQ01Zz
set_option linter.unusedVariables false
set_option linter.unusedSimpArgs false
namespace Go.Proofs.YtlenilbkifofjaaDoor
open Go.RowKit

theorem wrap_in (n : Int) : In64 (wrap64 n) := by unfold wrap64 In64; omega
theorem bitsI_in (op : BinOp) (x y : Int) : In64 (bits op .i64 x y) := by
  unfold bits In64
  simp only [IntKind.wrap_i64]
  omega
theorem tru_in64 (t : Bool) : In64 (tru t) := by unfold In64; exact tru_in t
theorem tmod_in {a b : Int} (ha : In64 a) : In64 (a.tmod b) := by
  unfold In64 at *
  have h : ((a.tmod b).natAbs : Int) ≤ a.natAbs := by
    rw [Int.natAbs_tmod]
    exact_mod_cast Nat.mod_le _ _
  by_cases hz : 0 ≤ a
  · have := Int.tmod_nonneg b hz
    omega
  · have hs : a.tmod b ≤ 0 := by
      have h1 := Int.tmod_nonneg b (show 0 ≤ -a by omega)
      rw [Int.neg_tmod] at h1
      omega
    omega
theorem divR_in {op a b : Int} (ha : In64 a) : In64 (divR op a b) := by
  unfold divR partsQ partsR wholeQ wholeR
  (repeat' split) <;> first | exact wrap_in _ | exact ha | exact tmod_in ha | (unfold In64; omega)
theorem pow_div_in {a : Int} (ha : In64 a) (k : Nat) : In64 (a / 2 ^ k) := by
  have hp : (0 : Int) < 2 ^ k := Int.pow_pos (by decide)
  unfold In64 at *
  constructor
  · exact (Int.le_ediv_iff_mul_le hp).2 (by
      have : (-9223372036854775808 : Int) * 2 ^ k ≤ -9223372036854775808 * 1 := Int.mul_le_mul_of_nonpos_left (by decide) (by omega)
      omega)
  · have := Int.ediv_le_ediv hp ha.2
    refine Int.le_trans this ?_
    exact Int.ediv_le_self _ (by decide)
theorem two_in64 {op a b : Int} (ha : In64 a) : In64 (twoR op a b) := by
  unfold twoR
  (repeat' split) <;> first | exact wrap_in _ | exact bitsI_in _ _ _ | exact pow_div_in ha _ | exact divR_in ha | exact tru_in64 _
theorem un_in64 {op n : Int} (h : In64 n) : In64 (unR op n) := unR_lo op n h.1 h.2
theorem loaded_in64 {op n : Int} (h : In64 n) : In64 (loadedF op n) := by
  unfold loadedF
  split
  · exact h
  · exact cutN_lo _ _ _ h.1 h.2
theorem stored_in64 {s : Nat} {n : Int} (h : In64 n) : In64 (storedF s n) := by
  unfold storedF
  split
  · exact h
  · exact cutN_lo _ _ _ h.1 h.2

theorem VOk.num {n : Nat} {x : Int} (hn : 0 < n) (h : In64 x) : VOk n ⟨0, x⟩ := ⟨hn, fun h => absurd rfl h, h⟩

section
variable {M : List MO}

theorem MemOk.obj (h : MemOk M) {k : Nat} (hk : k < M.length) : 0 ≤ (mget M k).size ∧ (mget M k).size ≤ 8 ∧ (mget M k).l.length ≤ 64 := by
  have hg := mget_of hk
  by_cases h0 : k = 0
  · subst h0
    rw [h.zero _ hg]
    simp
  · have := h.size k _ (by omega) hg
    omega

theorem moved_ok (h : MemOk M) {a : V} (ha : VOk M.length a) (hp : a.obj ≠ 0) {n : Int} {r : V} (hr : movedF M a n = some r) : VOk M.length r := by
  unfold movedF at hr
  split at hr
  · rename_i hc
    obtain ⟨_, h1, h2⟩ := hc
    simp only [Option.some.injEq] at hr
    subst hr
    have hb := h.obj ha.1
    have := MO.bytes_bd hb.1 hb.2.1 hb.2.2
    have := ha.2.1 hp
    exact ⟨ha.1, fun _ => by simp only; omega, by unfold In64; simp only; omega⟩
  · cases hr

theorem bin_ok (h : MemOk M) {op : Int} {a b r : V} (ha : VOk M.length a) (hb : VOk M.length b) (hr : binF twoR M op a b = some r) : VOk M.length r := by
  have hn : 0 < M.length := Nat.lt_of_le_of_lt (Nat.zero_le _) ha.1
  unfold binF at hr
  by_cases h0 : a.obj = 0 ∧ b.obj = 0
  · rw [if_pos h0] at hr; simp only [Option.some.injEq] at hr; subst hr; exact VOk.num hn (two_in64 ha.2.2)
  · rw [if_neg h0] at hr
    by_cases h1 : op = 12 ∧ a.obj = 0
    · rw [if_pos h1] at hr; exact moved_ok h hb (by omega) hr
    · rw [if_neg h1] at hr
      by_cases h2 : op = 12 ∧ b.obj = 0
      · rw [if_pos h2] at hr; exact moved_ok h ha (by omega) hr
      · rw [if_neg h2] at hr
        by_cases h3 : op = 13 ∧ b.obj = 0
        · rw [if_pos h3] at hr
          split at hr
          · cases hr
          · exact moved_ok h ha (by omega) hr
        · rw [if_neg h3] at hr
          (repeat' split at hr) <;> first | (cases hr; done) | (simp only [Option.some.injEq] at hr; subst hr; exact VOk.num hn (two_in64 (by first | exact ha.2.2 | (unfold In64; omega)))) | (simp only [Option.some.injEq] at hr; subst hr; exact VOk.num hn (two_in64 (by split <;> (unfold In64; omega))))

theorem load_ok (h : MemOk M) {op : Int} {a r : V} (ha : VOk M.length a) (hr : loadF M op a = some r) : VOk M.length r := by
  have hn : 0 < M.length := Nat.lt_of_le_of_lt (Nat.zero_le _) ha.1
  unfold loadF at hr
  cases hF : atF M a (sizeL op) with
  | none => rw [hF] at hr; cases hr
  | some j =>
    rw [hF] at hr
    have hj := (atF_lt hF (ha.2.1 (atF_pos hF)).1).2.2.2
    have hv : VOk M.length ((mget M a.obj).l.getD j ⟨0, 0⟩) := by
      refine h.vals (mget M a.obj) (List.mem_of_getElem? (mget_of ha.1)) _ ?_
      rw [List.getD_eq_getElem?_getD, List.getElem?_eq_getElem hj]
      exact List.getElem_mem hj
    simp only at hr
    generalize (mget M a.obj).l.getD j ⟨0, 0⟩ = v at hv hr
    (repeat' split at hr)
    · simp only [Option.some.injEq] at hr; subst hr; exact hv
    · cases hr
    · simp only [Option.some.injEq] at hr; subst hr; exact VOk.num hn (loaded_in64 hv.2.2)

theorem getD_ok {l : List V} {n : Nat} (hn : 0 < n) (hl : ∀ v, v ∈ l → VOk n v) (j : Nat) : VOk n (l.getD j ⟨0, 0⟩) := by
  rw [List.getD_eq_getElem?_getD]
  cases hj : l[j]? with
  | none => exact VOk.num hn (by unfold In64; omega)
  | some v => exact hl v (List.mem_of_getElem? hj)

theorem apply_ok (h : MemOk M) (hn : 0 < M.length) {op : Int} {l : List V} {r : V} (hl : ∀ v, v ∈ l → VOk M.length v) (hr : applyF M op l = some r) : VOk M.length r := by
  unfold applyF at hr
  have h0 := getD_ok hn hl 0
  have h1 := getD_ok hn hl 1
  split at hr
  · exact load_ok h h0 hr
  · split at hr
    · split at hr
      · simp only [Option.some.injEq] at hr; subst hr; exact VOk.num hn (un_in64 h0.2.2)
      · cases hr
    · exact bin_ok h h0 h1 hr

/-- What a frame's values are, always. -/
structure FrOk (M : List MO) (tp : List V) (lo : List Nat) (ng : Nat) : Prop where
  temps : ∀ v, v ∈ tp → VOk M.length v
  locs : ∀ x, x ∈ lo → x < M.length
  globs : ng < M.length

mutual
theorem eval_ok {tp : List V} {lo : List Nat} {ng : Nat} (h : MemOk M) (hf : FrOk M tp lo ng) : ∀ (t : T) {r : V}, TIn t → TOk tp.length lo.length ng t → evalT M tp lo t = some r → VOk M.length r
  | .node op n ks, r, hi, ht, hr => by
    have hn : 0 < M.length := Nat.lt_of_le_of_lt (Nat.zero_le _) hf.globs
    simp only [TIn] at hi
    simp only [TOk] at ht
    obtain ⟨t1, t2, t3, t4, t5, t6, t7⟩ := ht
    simp only [evalT] at hr
    cases hks : evalTs M tp lo ks with
    | none => rw [hks] at hr; cases hr
    | some l =>
      rw [hks] at hr
      have hl := evals_ok h hf ks hi.2 t7 hks
      simp only [Option.bind_some, opF] at hr
      (repeat' split at hr)
      · simp only [Option.some.injEq] at hr; subst hr; exact VOk.num hn hi.1
      · simp only [Option.some.injEq] at hr; subst hr; exact getD_ok hn hf.temps _
      · simp only [Option.some.injEq] at hr; subst hr
        have := t5 (by assumption)
        refine ⟨hf.locs _ ?_, fun _ => by simp, by unfold In64; simp⟩
        rw [List.getD_eq_getElem?_getD, List.getElem?_eq_getElem (by omega)]
        exact List.getElem_mem _
      · simp only [Option.some.injEq] at hr; subst hr
        have := t6 (by assumption)
        have := hf.globs
        exact ⟨by simp only; omega, fun _ => by simp, by unfold In64; simp⟩
      · exact apply_ok h hn hl hr
theorem evals_ok {tp : List V} {lo : List Nat} {ng : Nat} (h : MemOk M) (hf : FrOk M tp lo ng) : ∀ (ks : List T) {l : List V}, TsIn ks → TsOk tp.length lo.length ng ks → evalTs M tp lo ks = some l → ∀ v, v ∈ l → VOk M.length v
  | [], l, _, _, hr => by simp [evalTs] at hr; subst hr; intro v hv; cases hv
  | k :: ks, l, hi, ht, hr => by
    simp only [TsIn] at hi
    simp only [TsOk] at ht
    simp only [evalTs] at hr
    cases hk : evalT M tp lo k with
    | none => rw [hk] at hr; cases hr
    | some v =>
      rw [hk] at hr
      cases hks : evalTs M tp lo ks with
      | none => rw [hks] at hr; simp at hr
      | some x =>
        rw [hks] at hr
        simp at hr
        subst hr
        have h1 := eval_ok h hf k hi.1 ht.1 hk
        have h2 := evals_ok h hf ks hi.2 ht.2 hks
        intro u hu
        cases hu with
        | head => exact h1
        | tail _ hu => exact h2 u hu
end
end
end Go.Proofs.YtlenilbkifofjaaDoor
