/- Programs that the graph lets be may be run (plain). Conditions: as stated. A region that draws its order, by what holds after each set of its operations. No program in sight. No condition. A region that draws its order and whose operations at most make new memory, by what each operation's result is. No program in sight. No condition. A region that draws its order, makes one box and writes it whole; its other operations at most make new memory. No program in sight. No condition. The page's machine, of two fuels: plain laws. No program in sight. Conditions: as stated. TreeWeight: how much a tree is. Conditions: as stated. -/
import Derived.Test.YtikbdplllopjlaaGAskHZz
import Derived.Test.YtikbdplllopjlaaQ07Zz
import Derived.Test.YtikbdplllopjlaaQ02Zz
import Derived.Test.YtikbdplllopjlaaQ01Zz
import Derived.Test.YtikbdplllopjlaaQ09Zz
set_option linter.unusedVariables false
set_option linter.unusedSimpArgs false
namespace Go.Proofs.Ytikbdplllopjlaa
open Go.RowKit

/-- A program whose numbers are numbers. -/
structure ProgIn (p : ProgS) : Prop where
  globs : ∀ o, o ∈ p.globs → ∀ x, x ∈ o.init → In64 x
  locs : ∀ g, g ∈ p.funcs → ∀ o, o ∈ g.locs → ∀ x, x ∈ o.init → In64 x
  conds : ∀ g, g ∈ p.funcs → ∀ b, b ∈ g.blocks → TIn b.cond
  args : ∀ g, g ∈ p.funcs → ∀ b, b ∈ g.blocks → ∀ x, x ∈ b.steps → TsIn x.args
  fns : ∀ g, g ∈ p.funcs → ∀ b, b ∈ g.blocks → ∀ x, x ∈ b.steps → In64 x.fn
theorem SliceAt.mem {α : Type} {w : World} {B sz : Nat} {E : (Nat → Option Value) → α → Prop} {l : List α} {v : Value} (h : SliceAt w B sz E l v) {x : α} (hx : x ∈ l) : ∃ c, E c x := by
  obtain ⟨i, hi⟩ := List.mem_iff_getElem?.1 hx
  obtain ⟨A, cap, _, _, h2⟩ := h
  obtain ⟨b, off, _, _, h3⟩ := h2 (List.length_pos_of_mem hx)
  exact ⟨_, h3 i x hi⟩
theorem ProgAt.pin {w : World} {B : Nat} {P : Value × Value × Value} {p : ProgS} (h : ProgAt w B P p) : ProgIn p := by
  obtain ⟨hg, hf, _⟩ := h
  refine ⟨fun o ho => ?_, fun g hgm o ho => ?_, fun g hgm b hb => ?_, fun g hgm b hb x hx => ?_, fun g hgm b hb x hx => ?_⟩
  · obtain ⟨c, _, _, ⟨v, _, hv⟩, _⟩ := hg.mem ho
    exact hv.in64
  · obtain ⟨c, _, _, ⟨v, _, hl⟩, _⟩ := hf.mem hgm
    obtain ⟨c, _, _, ⟨v, _, hv⟩, _⟩ := hl.mem ho
    exact hv.in64
  · obtain ⟨c, _, _, _, ⟨v, _, hl⟩, _⟩ := hf.mem hgm
    obtain ⟨c, _, _, ⟨v0, v1, v2, _, _, _, ht⟩, _⟩ := hl.mem hb
    exact ht.tin
  · obtain ⟨c, _, _, _, ⟨v, _, hl⟩, _⟩ := hf.mem hgm
    obtain ⟨c, ⟨v, _, hs⟩, _⟩ := hl.mem hb
    obtain ⟨c, _, _, _, _, ⟨v, _, A, n, cap, _, hk⟩, _⟩ := hs.mem hx
    exact hk.tin
  · obtain ⟨c, _, _, _, ⟨v, _, hl⟩, _⟩ := hf.mem hgm
    obtain ⟨c, ⟨v, _, hs⟩, _⟩ := hl.mem hb
    obtain ⟨c, _, _, _, _, _, _, _, _, hfn⟩ := hs.mem hx
    exact hfn
mutual
theorem gnames_tok {nt nl ng : Nat} : ∀ (t : T), okT t → gnamesB nt nl ng t = true → TOk nt nl ng t
  | .node op x ks, h, hn => by
    obtain ⟨h1, h2⟩ := okT_node.1 h
    obtain ⟨h3, h4, h5⟩ := badN_iff.1 h1
    rw [gnamesB] at hn
    rw [TOk]
    have hc := kids_cases h3
    have hk : ks.length = kidsN op := by unfold kidsN; split <;> (try split) <;> omega
    refine ⟨by omega, by omega, hk, fun e => ?_, fun e => ?_, fun e => ?_, ?_⟩
    · rw [if_pos e] at hn
      simp only [decide_eq_true_eq] at hn
      exact ⟨h5 (by omega), hn⟩
    · rw [if_neg (by omega), if_pos e] at hn
      simp only [decide_eq_true_eq] at hn
      exact ⟨h5 (by omega), hn⟩
    · rw [if_neg (by omega), if_neg (by omega), if_pos e] at hn
      simp only [decide_eq_true_eq] at hn
      exact ⟨h5 (by omega), hn⟩
    · by_cases h9 : op ≤ 4
      · have : ks = [] := List.eq_nil_of_length_eq_zero (by omega)
        rw [this, TsOk]
        trivial
      · rw [if_neg (by omega), if_neg (by omega), if_neg (by omega)] at hn
        exact gnames_tsok ks h2 hn
theorem gnames_tsok {nt nl ng : Nat} : ∀ (ks : List T), okTs ks → gnamesBs nt nl ng ks = true → TsOk nt nl ng ks
  | [], _, _ => by rw [TsOk]; trivial
  | k :: ks, h, hn => by
    simp only [okTs] at h
    rw [gnamesBs, Bool.and_eq_true] at hn
    rw [TsOk]
    exact ⟨gnames_tok k h.1 hn.1, gnames_tsok ks h.2 hn.2⟩
end
theorem gtreeB_true {na nb nc n : Int} {t : T} (h : (gtreeB na nb nc n t).1 = true) : mayB t = true ∧ gnamesB na nb nc t = true := by
  unfold gtreeB at h
  split at h
  · rename_i hc; exact hc
  · cases h
theorem gtreesB_true {na nb nc : Int} : ∀ (ks : List T) {n : Int}, (gtreesB na nb nc ks n).1 = true → ∀ k, k ∈ ks → mayB k = true ∧ gnamesB na nb nc k = true
  | [], n, _, k, hk => by cases hk
  | a :: ks, n, h, k, hk => by
    rw [gtreesB] at h
    split at h
    · rename_i ha
      rcases List.mem_cons.1 hk with rfl | hk
      · exact gtreeB_true ha
      · exact gtreesB_true ks h k hk
    · cases h
theorem gtsok {nt nl ng : Nat} : ∀ (ks : List T), (∀ k, k ∈ ks → mayB k = true ∧ gnamesB nt nl ng k = true) → TsOk nt nl ng ks
  | [], _ => by rw [TsOk]; trivial
  | k :: ks, h => by
    rw [TsOk]
    have hk := h k (by simp)
    exact ⟨gnames_tok k (may_iff.1 hk.1).1 hk.2, gtsok ks (fun k hk => h k (by simp [hk]))⟩
theorem gstepB_true {p : ProgS} {g : GraphS} {n : Int} {x : StepS} {nt : Nat} (ht : g.temps = nt) (hpar : ∀ g, g ∈ p.funcs → g.params ≤ 4) (hin : TsIn x.args) (h : (gstepB p g n x).1 = true) : StepOkG p nt g.locs.length x := by
  unfold gstepB at h
  split at h
  · cases h
  · rename_i hb
    split at h
    · cases h
    · rename_i hz
      unfold gbadA at hb
      rw [not_or, not_or, not_or] at hb
      obtain ⟨b1, b2, b3, b4⟩ := hb
      have hts := gtsok x.args (by rw [ht] at h; exact gtreesB_true x.args h)
      have b1' : (gshape p x).2.2 = true := by simpa using b1
      have b2' : (x.args.length : Int) = (gshape p x).1 := by omega
      rw [not_and] at b3 b4
      rw [ht] at b3
      have key : x.args.length ≤ 4 ∧ ((x.op = 1 ∧ x.args.length = 1 ∧ 0 ≤ x.to ∧ x.to < nt) ∨ (x.op = 2 ∧ x.args.length = 2 ∧ x.to = -1 ∧ (x.size = 1 ∨ x.size = 2 ∨ x.size = 4 ∨ x.size = 8)) ∨
          (x.op = 3 ∧ (∃ f g, x.fn = ((f : Nat) : Int) ∧ p.funcs[f]? = some g ∧ (x.args.length : Int) = g.params) ∧ (x.to = -1 ∨ 0 ≤ x.to ∧ x.to < nt)) ∨ (x.op = 4 ∧ x.args.length = 1 ∧ x.to = -1) ∨
          (x.op = 5 ∧ x.args.length = 0 ∧ 0 ≤ x.to ∧ x.to < nt) ∨ (x.op = 6 ∧ x.args.length = 1 ∧ x.to = -1)) := by
        unfold gshape at b1' b2' b3 b4
        by_cases h1 : x.op = 1
        · rw [if_pos h1] at b1' b2' b3 b4
          simp only at b2'
          exact ⟨by omega, Or.inl ⟨h1, by omega, Classical.not_not.1 (b3 rfl)⟩⟩
        · rw [if_neg h1] at b1' b2' b3 b4
          by_cases h2 : x.op = 2
          · rw [if_pos h2] at b1' b2' b3 b4
            simp only at b2' b1'
            refine ⟨by omega, Or.inr (Or.inl ⟨h2, by omega, Classical.not_not.1 (b4 rfl), ?_⟩)⟩
            unfold sizeB at b1'
            simpa using b1'
          · rw [if_neg h2] at b1' b2' b3 b4
            by_cases h3 : x.op = 3
            · rw [if_pos h3] at b1' b2' b3 b4
              by_cases h4 : 0 ≤ x.fn ∧ x.fn < p.funcs.length
              · rw [if_pos h4] at b1' b2' b3 b4
                obtain ⟨f, hf⟩ := Int.eq_ofNat_of_zero_le h4.1
                have hfl : f < p.funcs.length := by omega
                have hfg := List.getElem?_eq_getElem hfl
                have hgd : p.funcs.getD x.fn.toNat noGraph = p.funcs[f] := by rw [hf, Int.toNat_natCast, List.getD_eq_getElem?_getD, hfg]; rfl
                rw [hgd] at b2'
                simp only at b2' b3 b4
                have hp4 := hpar _ (List.getElem_mem hfl)
                refine ⟨by omega, Or.inr (Or.inr (Or.inl ⟨h3, ⟨f, _, hf, hfg, b2'⟩, ?_⟩))⟩
                by_cases h5 : x.to = -1
                · exact Or.inl h5
                · exact Or.inr (Classical.not_not.1 (b3 (by simpa using h5)))
              · rw [if_neg h4] at b1'
                cases b1'
            · rw [if_neg h3] at b1' b2' b3 b4
              by_cases h4 : x.op = 4 ∨ x.op = 6
              · rw [if_pos h4] at b1' b2' b3 b4
                simp only at b2'
                have h6 := Classical.not_not.1 (b4 rfl)
                rcases h4 with h4 | h4
                · exact ⟨by omega, Or.inr (Or.inr (Or.inr (Or.inl ⟨h4, by omega, h6⟩)))⟩
                · exact ⟨by omega, Or.inr (Or.inr (Or.inr (Or.inr (Or.inr ⟨h4, by omega, h6⟩))))⟩
              · rw [if_neg h4] at b1' b2' b3 b4
                by_cases h5 : x.op = 5
                · rw [if_pos h5] at b1' b2' b3 b4
                  simp only at b2'
                  have h6 := Classical.not_not.1 (b3 rfl)
                  exact ⟨by omega, Or.inr (Or.inr (Or.inr (Or.inr (Or.inl ⟨h5, by omega, h6⟩))))⟩
                · rw [if_neg h5] at b1'
                  cases b1'
      exact ⟨hts, hin, by omega, key.2⟩
theorem gstepsB_true {p : ProgS} {g : GraphS} : ∀ (l : List StepS) {n : Int}, (gstepsB p g l n).1 = true → ∀ x, x ∈ l → ∃ m, (gstepB p g m x).1 = true
  | [], n, _, x, hx => by cases hx
  | a :: l, n, h, x, hx => by
    rw [gstepsB] at h
    split at h
    · rename_i ha
      rcases List.mem_cons.1 hx with rfl | hx
      · exact ⟨_, ha⟩
      · exact gstepsB_true l h x hx
    · cases h
theorem gendB_true {p : ProgS} {g : GraphS} {n : Int} {b : BlockS} {nt : Nat} (ht : g.temps = nt) (h1 : 0 < g.blocks.length) (hin : TIn b.cond) (h : (gendB p g n b).1 = true) :
    (b.fin = 1 ∨ b.fin = 2 ∨ b.fin = 3) ∧ (0 ≤ b.next ∧ b.next < g.blocks.length) ∧ (0 ≤ b.els ∧ b.els < g.blocks.length) ∧ (b.fin ≠ 1 → TOk nt g.locs.length p.globs.length b.cond ∧ TIn b.cond) := by
  have tk : ∀ m, (gtreeB g.temps g.locs.length p.globs.length m b.cond).1 = true → TOk nt g.locs.length p.globs.length b.cond := fun m hm => by
    rw [ht] at hm
    obtain ⟨h1, h2⟩ := gtreeB_true hm
    exact gnames_tok _ (may_iff.1 h1).1 h2
  unfold gendB at h
  split at h
  · rename_i f1
    split at h
    · rename_i f2; exact ⟨Or.inl f1, f2.1, by omega, fun h => absurd f1 h⟩
    · cases h
  · rename_i f1
    split at h
    · rename_i f2
      split at h
      · rename_i f3; exact ⟨Or.inr (Or.inl f2), f3.1, f3.2, fun _ => ⟨tk _ h, hin⟩⟩
      · cases h
    · rename_i f2
      split at h
      · rename_i f3
        split at h
        · rename_i f4; exact ⟨Or.inr (Or.inr f3), by omega, by omega, fun _ => ⟨tk _ h, hin⟩⟩
        · cases h
      · cases h
theorem gblocksB_true {p : ProgS} {g : GraphS} : ∀ (l : List BlockS) {s n : Int}, 0 ≤ s → (gblocksB p g l s n).1 = true → ∀ b, b ∈ l → (∃ m, (gstepsB p g b.steps m).1 = true) ∧ (∃ m, (gendB p g m b).1 = true) ∧ (b.steps.length : Int) ≤ 2000
  | [], s, n, _, _, b, hb => by cases hb
  | a :: l, s, n, hs, h, b, hb => by
    rw [gblocksB] at h
    split at h
    · rename_i h1
      split at h
      · cases h
      · rename_i h2
        split at h
        · rename_i h3
          rcases List.mem_cons.1 hb with rfl | hb
          · exact ⟨⟨_, h1⟩, ⟨_, h3⟩, by omega⟩
          · exact gblocksB_true l (by omega) h b hb
        · cases h
    · cases h
theorem obsB_ok {l : List ObS} : obsB l = true → ∀ o, o ∈ l → ObOk o := by
  induction l with
  | nil => intro _ o ho; cases ho
  | cons a l ih =>
    intro h o ho
    rw [obsB, Bool.and_eq_true] at h
    rcases List.mem_cons.1 ho with rfl | ho
    · have h1 := h.1
      unfold obB sizeB betwB at h1
      simp at h1
      exact ⟨by omega, by omega, by omega, by omega⟩
    · exact ih h.2 o ho
theorem gfnB_true {p : ProgS} {g : GraphS} (hpar : ∀ g, g ∈ p.funcs → g.params ≤ 4) (hl : ∀ o, o ∈ g.locs → ∀ x, x ∈ o.init → In64 x) (hc : ∀ b, b ∈ g.blocks → TIn b.cond) (ha : ∀ b, b ∈ g.blocks → ∀ x, x ∈ b.steps → TsIn x.args) (h : gfnB p g = true) : FnOkG p g := by
  unfold gfnB at h
  split at h
  · rename_i hh
    obtain ⟨h1, h2, h3, h4, h5, h6, h7⟩ := hh
    obtain ⟨nt, hnt⟩ := Int.eq_ofNat_of_zero_le (show 0 ≤ g.temps by omega)
    unfold objsB at h5
    rw [Bool.and_eq_true, decide_eq_true_eq] at h5
    refine ⟨⟨nt, hnt, by omega, fun b hb => ?_⟩, by omega, fun o ho => ⟨obsB_ok h5.1 o ho, hl o ho⟩, by omega, by omega, by omega⟩
    obtain ⟨⟨m1, k1⟩, ⟨m2, k2⟩, k3⟩ := gblocksB_true g.blocks (by omega) h b hb
    obtain ⟨e1, e2, e3, e4⟩ := gendB_true hnt (by omega) (hc b hb) k2
    exact ⟨fun x hx => (by obtain ⟨m, hm⟩ := gstepsB_true b.steps k1 x hx; exact gstepB_true hnt hpar (ha b hb x hx) hm), by omega, e1, e2, e3, e4⟩
  · cases h
theorem gfnsB_true {p : ProgS} : ∀ (l : List GraphS), gfnsB p l = true → ∀ g, g ∈ l → gfnB p g = true
  | [], _, g, hg => by cases hg
  | a :: l, h, g, hg => by
    rw [gfnsB, Bool.and_eq_true] at h
    rcases List.mem_cons.1 hg with rfl | hg
    · exact h.1
    · exact gfnsB_true l h.2 g hg
theorem gmay_ok {p : ProgS} (hin : ProgIn p) (h : gmayB p = true) : ProgOkG p := by
  unfold gmayB at h
  split at h
  · rename_i hh
    obtain ⟨h1, h2, h3, h4, h5⟩ := hh
    unfold objsB at h1
    rw [Bool.and_eq_true, decide_eq_true_eq] at h1
    have hall := gfnsB_true p.funcs h
    have hpar : ∀ g, g ∈ p.funcs → g.params ≤ 4 := fun g hg => by
      have := hall g hg
      unfold gfnB at this
      split at this
      · rename_i hd; have := hd.2.1; omega
      · cases this
    obtain ⟨f, hf⟩ := Int.eq_ofNat_of_zero_le h4.1
    have hfl : f < p.funcs.length := by omega
    have hfg := List.getElem?_eq_getElem hfl
    have hgd : p.funcs.getD p.main.toNat noGraph = p.funcs[f] := by rw [hf, Int.toNat_natCast, List.getD_eq_getElem?_getD, hfg]; rfl
    rw [hgd] at h5
    exact ⟨fun o ho => ⟨obsB_ok h1.1 o ho, hin.globs o ho⟩, by omega, fun g hg => gfnB_true hpar (hin.locs g hg) (hin.conds g hg) (hin.args g hg) (hall g hg), f, _, hf, hfg, h5⟩
  · cases h
end Go.Proofs.Ytikbdplllopjlaa
namespace Go.Proofs.Ytikbdplllopjlaa
open Go.RowKit

def unlisted (n : Nat) (listed : Array Bool) : Nat := ((List.range n).filter fun j => !listed.getD j true).length
theorem filter_le_of {α : Type} {p q : α → Bool} : ∀ (l : List α), (∀ x, q x = true → p x = true) → (l.filter q).length ≤ (l.filter p).length
  | [], _ => by simp
  | x :: l, h => by
    have ih := filter_le_of l h
    cases hq : q x
    · rw [List.filter_cons_of_neg (by simp [hq])]
      cases hp : p x
      · rw [List.filter_cons_of_neg (by simp [hp])]; exact ih
      · rw [List.filter_cons_of_pos hp]; simp; omega
    · rw [List.filter_cons_of_pos hq, List.filter_cons_of_pos (h x hq)]; simpa using ih
theorem filter_lt_of {α : Type} {p q : α → Bool} : ∀ (l : List α) (y : α), (∀ x, q x = true → p x = true) → y ∈ l → p y = true → q y = false → (l.filter q).length < (l.filter p).length
  | [], y, _, hy, _, _ => by simp at hy
  | x :: l, y, h, hy, hp, hq => by
    by_cases hxy : x = y
    · subst hxy
      rw [List.filter_cons_of_pos hp, List.filter_cons_of_neg (by simp [hq])]
      have := filter_le_of l h
      simp
      omega
    · have hy' : y ∈ l := by rcases List.mem_cons.1 hy with h | h; exact absurd h.symm hxy; exact h
      have ih := filter_lt_of l y h hy' hp hq
      cases hq' : q x
      · rw [List.filter_cons_of_neg (by simp [hq'])]
        cases hp' : p x
        · rw [List.filter_cons_of_neg (by simp [hp'])]; exact ih
        · rw [List.filter_cons_of_pos hp']; simp; omega
      · rw [List.filter_cons_of_pos hq', List.filter_cons_of_pos (h x hq')]; simpa using ih
theorem unlisted_set {n i : Nat} {listed : Array Bool} (hi : i < n) (h : listed.getD i true = false) : unlisted n (listed.setIfInBounds i true) < unlisted n listed := by
  refine filter_lt_of _ i (fun x hx => ?_) (List.mem_range.2 hi) (by simp [h]) ?_
  · by_cases hxi : i = x
    · subst hxi; simp [h]
    · rw [getD_set_ne true hxi] at hx; exact hx
  · have hlt : i < listed.size := by
      rcases Nat.lt_or_ge i listed.size with h' | h'
      · exact h'
      · simp [Array.getD, Nat.not_lt.2 h'] at h
    simp [Array.getD, hlt]

theorem wpAny_inv {P : Program} {md : Region.Mode} {ops : Array Oper} {Q : Exit → Act → World → Prop} (Inv : Array Bool → Act → World → Prop)
    (hstep : ∀ listed a w i, i ∈ Region.ready md ops listed → Inv listed a w → wpOp P ops Q i (fun a' w' => Inv (listed.setIfInBounds i true) a' w') a w)
    (hend : ∀ listed a w, Region.ready md ops listed = [] → Inv listed a w → Q .normal a w) :
    ∀ (fuel : Nat) (listed : Array Bool) (a : Act) (w : World), unlisted ops.size listed ≤ fuel → Inv listed a w → wpAny P md ops Q fuel listed a w
  | 0, listed, a, w, hf, h => by
    have hr : Region.ready md ops listed = [] := by
      cases hr : Region.ready md ops listed with
      | nil => rfl
      | cons i l =>
        have hm : i ∈ Region.ready md ops listed := by rw [hr]; simp
        obtain ⟨h1, o, ho, _⟩ := mem_ready.1 hm
        have hlt : i < ops.size := by
          rcases Nat.lt_or_ge i ops.size with h' | h'
          · exact h'
          · rw [Array.getElem?_eq_none h'] at ho; cases ho
        have := unlisted_set hlt h1
        omega
    exact ⟨hr, hend listed a w hr h⟩
  | fuel + 1, listed, a, w, hf, h => by
    refine ⟨fun hr => hend listed a w hr h, fun i hi => ?_⟩
    obtain ⟨h1, o, ho, _⟩ := mem_ready.1 hi
    have hlt : i < ops.size := by
      rcases Nat.lt_or_ge i ops.size with h' | h'
      · exact h'
      · rw [Array.getElem?_eq_none h'] at ho; cases ho
    have hu := unlisted_set hlt h1
    exact wpOp_mono (fun a' w' h' => wpAny_inv Inv hstep hend fuel _ a' w' (by omega) h') (hstep listed a w i hi h)

/-- The region's rule: 'Inv': what holds when so many operations have been done. -/
theorem wp_region_inv {P : Program} {id : Nat} {Q : Exit → Act → World → Prop} {a : Act} {w : World} {l : List Oper} (hm : P.follows .mixedOrders = true) (Inv : Array Bool → Act → World → Prop)
    (h0 : Inv (Array.replicate l.toArray.size false) a w.drew)
    (hstep : ∀ listed a w i, i ∈ Region.ready .any l.toArray listed → Inv listed a w → wpOp P l.toArray Q i (fun a' w' => Inv (listed.setIfInBounds i true) a' w') a w)
    (hend : ∀ listed a w, Region.ready .any l.toArray listed = [] → Inv listed a w → Q .normal a w) : (Code.region id l.toArray true).wp P Q a w :=
  wp_region_any hm (wpAny_inv Inv hstep hend _ _ _ _ (by unfold unlisted; exact Nat.le_trans (List.length_filter_le _ _) (by simp)) h0)
/-- Nothing is ready: an operation all of whose forerunners are done is done. -/
theorem flag_of {md : Region.Mode} {ops : Array Oper} {L : Array Bool} {j : Nat} {o : Oper} (hj : j < L.size) (hr : Region.ready md ops L = []) (ho : ops[j]? = some o) (hd : ∀ e ∈ o.after, L.getD e.on false = true) : L.getD j false = true := by
  cases h : L.getD j true with
  | false =>
    have : j ∈ Region.ready md ops L := mem_ready.2 ⟨h, o, ho, fun e he _ => hd e he⟩
    rw [hr] at this
    cases this
  | true => simp [Array.getD, hj] at h ⊢; exact h
/-- One operation without a guard, what follows behind a letter. -/
theorem wpOp_plain {P : Program} {ops : Array Oper} {Q : Exit → Act → World → Prop} {i : Nat} {o : Oper} {a : Act} {w : World} {K : Act → World → Prop} (ho : ops[i]? = some o) (hg : o.guard = none)
    (h : ∀ K' : Act → World → Prop, (∀ a w, K a w → K' a w) → o.wp P a w K' Q) : wpOp P ops Q i K a w := by
  unfold wpOp
  rw [ho]
  simp only
  rw [if_pos (by simp [Region.wanted, hg])]
  exact Or.inl (h K (fun _ _ h => h))
end Go.Proofs.Ytikbdplllopjlaa
namespace Go.Proofs.Ytikbdplllopjlaa
open Go.RowKit

def upd (Y : Nat → Value) (i : Nat) (v : Value) : Nat → Value := fun j => if j = i then v else Y j
theorem upd_self (Y : Nat → Value) (i : Nat) (v : Value) : upd Y i v i = v := by simp [upd]
theorem upd_ne (Y : Nat → Value) {i j : Nat} (v : Value) (h : j ≠ i) : upd Y i v j = Y j := by simp [upd, h]
theorem ls_set' {L : Array Bool} {i j : Nat} (h : (L.setIfInBounds i true).getD j false = true) : j = i ∨ L.getD j false = true := by
  by_cases hij : i = j
  · exact Or.inl hij.symm
  · rw [getD_set_ne false hij] at h; exact Or.inr h

/-- 'Cl W i v': what is known of operation i's result v, at whatever later world W. -/
theorem region_cl {P : Program} {id : Nat} {Q : Exit → Act → World → Prop} {a : Act} {w : World} {l : List Oper} (hm : P.follows .mixedOrders = true) (Cl : World → Nat → Value → Prop) (mk : (Nat → Value) → Act) (Y0 : Nat → Value) (ha : a = mk Y0)
    (hback : l.zipIdx.all (fun x => x.1.after.all fun e => decide (e.on < x.2)) = true)
    (hmono : ∀ W W' i v, Below W.heap.size W W' → Cl W i v → Cl W' i v)
    (hstep : ∀ i o Y W, l[i]? = some o → Below w.heap.size w W → (∀ e ∈ o.after, Region.binds .any e = true → Cl W e.on (Y e.on)) → ∀ K : Act → World → Prop, (∀ v W', Below W.heap.size W W' → Cl W' i v → K (mk (upd Y i v)) W') → wpOp P l.toArray Q i K (mk Y) W)
    (hend : ∀ Y W, Below w.heap.size w W → (∀ i, i < l.length → Cl W i (Y i)) → Q .normal (mk Y) W) : (Code.region id l.toArray true).wp P Q a w := by
  refine wp_region_inv hm (fun L act W => L.size = l.length ∧ ∃ Y, act = mk Y ∧ Below w.heap.size w W ∧ ∀ i, L.getD i false = true → Cl W i (Y i)) ?_ ?_ ?_
  · refine ⟨by simp, Y0, ha, (Below.refl _ _).drew, fun j h => ?_⟩
    rcases Nat.lt_or_ge j l.length with hj | hj
    · simp [Array.getD, hj] at h
    · simp [Array.getD, Nat.not_lt.2 hj] at h
  · rintro L act W i hi ⟨hsz, Y, rfl, hb, hc⟩
    obtain ⟨hn, o, ho, hall⟩ := mem_ready.1 hi
    refine hstep i o Y W (by simpa using ho) hb (fun e he hbd => hc _ (hall e he hbd)) _ (fun v W' hb' hv => ⟨by simp [hsz], upd Y i v, rfl, hb.trans (hb'.mono hb.size), fun j hj => ?_⟩)
    by_cases hji : j = i
    · subst hji; rw [upd_self]; exact hv
    · rw [upd_ne Y v hji]
      exact hmono _ _ _ _ hb' (hc j ((ls_set' hj).resolve_left hji))
  · rintro L act W hr ⟨hsz, Y, rfl, hb, hc⟩
    refine hend Y W hb ?_
    have key : ∀ n i, i < n → i < l.length → L.getD i false = true := by
      intro n
      induction n with
      | zero => intro i h; omega
      | succ n ih =>
        intro i hin hil
        refine flag_of (j := i) (by omega) hr (by simp [hil]; rfl) (fun e he => ?_)
        have hlt : e.on < i := by
          have hx := List.all_eq_true.1 hback (l[i], i) (List.mem_iff_getElem?.2 ⟨i, by simp [hil]⟩)
          exact of_decide_eq_true ((Array.all_eq_true_iff_forall_mem.1 hx) e he)
        exact ih e.on (by omega) (by omega)
    exact fun i hi => hc i (key (i + 1) i (by omega) hi)
end Go.Proofs.Ytikbdplllopjlaa
namespace Go.Proofs.Ytikbdplllopjlaa
open Go.RowKit

structure XBox (w : World) (ia is ix sz : Nat) (ty : TypeId) (boxed : Value → Array Value) (Cl : World → Nat → Value → Prop) (Off : Nat → Value → Nat → Prop) (L : Array Bool) (Y : Nat → Value) (W : World) : Prop where
  below : Below w.heap.size w W
  cl : ∀ i, i ≠ ia → i ≠ is → L.getD i false = true → Cl W i (Y i) ∧ (L.getD ia false = true → ∀ p, Y ia = .pointer (some ⟨p, 0, none⟩) → Off i (Y i) p)
  box : L.getD ia false = true → ∃ p cs, Y ia = .pointer (some ⟨p, 0, none⟩) ∧ w.heap.size ≤ p ∧ Row W p cs ty ∧ cs.size = sz ∧ (L.getD is false = true → L.getD ix false = true ∧ cs = boxed (Y ix))
  dep : L.getD is false = true → L.getD ia false = true

theorem ls_un {L : Array Bool} {i : Nat} (hn : L.getD i true = false) (h : L.getD i false = true) : False := by
  rcases Nat.lt_or_ge i L.size with hj | hj
  · simp [Array.getD, hj] at h hn; rw [hn] at h; cases h
  · simp [Array.getD, Nat.not_lt.2 hj] at h
theorem ls_keep {L : Array Bool} {i j : Nat} (h : L.getD j false = true) : (L.setIfInBounds i true).getD j false = true := by
  by_cases hij : i = j
  · subst hij
    rcases Nat.lt_or_ge i L.size with hj | hj
    · simp [Array.getD, hj]
    · simp [Array.getD, Nat.not_lt.2 hj] at h
  · rw [getD_set_ne false hij]; exact h

/-- Nothing is ready: an operation whose binding forerunners are done is done. -/
theorem flag_of_any {md : Region.Mode} {ops : Array Oper} {L : Array Bool} {j : Nat} {o : Oper} (hj : j < L.size) (hr : Region.ready md ops L = []) (ho : ops[j]? = some o) (hd : ∀ e ∈ o.after, Region.binds md e = true → L.getD e.on false = true) : L.getD j false = true := by
  cases h : L.getD j true with
  | false =>
    have : j ∈ Region.ready md ops L := mem_ready.2 ⟨h, o, ho, hd⟩
    rw [hr] at this
    cases this
  | true => simp [Array.getD, hj] at h ⊢; exact h

theorem region_box {P : Program} {id : Nat} {Q : Exit → Act → World → Prop} {a : Act} {w : World} {l : List Oper} (hm : P.follows .mixedOrders = true) (ia is ix sz : Nat) (ty : TypeId) (boxed : Value → Array Value)
    (Cl : World → Nat → Value → Prop) (Off : Nat → Value → Nat → Prop) (mk : (Nat → Value) → Act) (Y0 : Nat → Value) (ha : a = mk Y0)
    (hback : l.zipIdx.all (fun x => x.1.after.all fun e => !Region.binds .any e || decide (e.on < x.2)) = true)
    (hia : ia < l.length) (his : is < l.length) (hne : ia ≠ is) (hxa : ix ≠ ia) (hxs : ix ≠ is)
    (hst : ∀ o, l[is]? = some o → (∃ e ∈ o.after, e.on = ia ∧ Region.binds .any e = true) ∧ (∃ e ∈ o.after, e.on = ix ∧ Region.binds .any e = true))
    (hmono : ∀ W W' i v, Below W.heap.size W W' → Cl W i v → Cl W' i v)
    (hstore : ∀ W W' i v p, w.heap.size ≤ p → Wr (fun k => k = p) W W' → Off i v p → Cl W i v → Cl W' i v)
    (hfresh : ∀ W i v, Below w.heap.size w W → Cl W i v → Off i v W.heap.size)
    (hstep : ∀ i o Y W, i ≠ ia → i ≠ is → l[i]? = some o → Below w.heap.size w W → (∀ e ∈ o.after, Region.binds .any e = true → e.on ≠ ia → e.on ≠ is → Cl W e.on (Y e.on)) →
      ∀ K : Act → World → Prop, (∀ v W', Below W.heap.size W W' → Cl W' i v → (∀ p, w.heap.size ≤ p → p < W.heap.size → (∀ e ∈ o.after, Region.binds .any e = true → e.on ≠ ia → e.on ≠ is → Off e.on (Y e.on) p) → Off i v p) → K (mk (upd Y i v)) W') → wpOp P l.toArray Q i K (mk Y) W)
    (halloc : ∀ o Y W, l[ia]? = some o → Below w.heap.size w W → ∀ K : Act → World → Prop, (∀ cs : Array Value, cs.size = sz → K (mk (upd Y ia (.pointer (some ⟨W.heap.size, 0, none⟩)))) (W.alloc (.cells cs ty))) → wpOp P l.toArray Q ia K (mk Y) W)
    (hwrite : ∀ o Y W p cs, l[is]? = some o → Y ia = .pointer (some ⟨p, 0, none⟩) → Row W p cs ty → cs.size = sz → Cl W ix (Y ix) → ∀ K : Act → World → Prop, (∀ W' v, Wr (fun k => k = p) W W' → Row W' p (boxed (Y ix)) ty → (boxed (Y ix)).size = sz → K (mk (upd Y is v)) W') → wpOp P l.toArray Q is K (mk Y) W)
    (hend : ∀ Y W p, Below w.heap.size w W → w.heap.size ≤ p → Y ia = .pointer (some ⟨p, 0, none⟩) → Row W p (boxed (Y ix)) ty → (∀ i, i < l.length → i ≠ ia → i ≠ is → Cl W i (Y i) ∧ Off i (Y i) p) → Q .normal (mk Y) W) : (Code.region id l.toArray true).wp P Q a w := by
  refine wp_region_inv hm (fun L act W => L.size = l.length ∧ ∃ Y, act = mk Y ∧ XBox w ia is ix sz ty boxed Cl Off L Y W) ?_ ?_ ?_
  · have hf : ∀ j, (Array.replicate l.toArray.size false).getD j false = true → False := fun j h => by
      rcases Nat.lt_or_ge j l.length with hj | hj
      · simp [Array.getD, hj] at h
      · simp [Array.getD, Nat.not_lt.2 hj] at h
    exact ⟨by simp, Y0, ha, (Below.refl _ _).drew, fun i _ _ h => (hf i h).elim, fun h => (hf _ h).elim, fun h => (hf _ h).elim⟩
  · rintro L act W i hi ⟨hsz, Y, rfl, hJ⟩
    obtain ⟨hn, o, ho, hall⟩ := mem_ready.1 hi
    have ho' : l[i]? = some o := by simpa using ho
    have hb := hJ.below
    by_cases h1 : i = ia
    · subst h1
      refine halloc o Y W ho' hb _ (fun cs hcs => ⟨by simp [hsz], _, rfl, hb.alloc hb.size _, fun j hj1 hj2 g => ?_, fun g => ?_, fun g => ?_⟩)
      · have g' := (ls_set' g).resolve_left hj1
        obtain ⟨c1, c2⟩ := hJ.cl j hj1 hj2 g'
        rw [upd_ne Y _ hj1]
        refine ⟨hmono _ _ _ _ ((Below.refl _ _).alloc (Nat.le_refl _) _) c1, fun _ p hp => ?_⟩
        rw [upd_self] at hp
        injection hp with hp
        injection hp with hp
        injection hp with hp
        rw [← hp]
        exact hfresh W j _ hb c1
      · refine ⟨W.heap.size, cs, upd_self _ _ _, hb.size, Row.new _ _ _, hcs, fun g2 => ?_⟩
        exact (ls_un hn (hJ.dep ((ls_set' g2).resolve_left (Ne.symm hne)))).elim
      · exact (ls_un hn (hJ.dep ((ls_set' g).resolve_left (Ne.symm hne)))).elim
    · by_cases h2 : i = is
      · subst h2
        obtain ⟨⟨e1, he1, hon1, hb1⟩, ⟨e2, he2, hon2, hb2⟩⟩ := hst o ho'
        have f1 := hall e1 he1 hb1
        have f2 := hall e2 he2 hb2
        rw [hon1] at f1
        rw [hon2] at f2
        obtain ⟨p, cs, hp, hpw, hrow, hcs, _⟩ := hJ.box f1
        refine hwrite o Y W p cs ho' hp hrow hcs (hJ.cl ix hxa hxs f2).1 _ (fun W' v hw' hr' hbs => ⟨by simp [hsz], _, rfl, hb.trans (hw'.below hb.size (fun k hk => by omega)), fun j hj1 hj2 g => ?_, fun g => ?_, fun g => ls_keep f1⟩)
        · have g' := (ls_set' g).resolve_left hj2
          obtain ⟨c1, c2⟩ := hJ.cl j hj1 hj2 g'
          rw [upd_ne Y _ hj2, upd_ne Y _ hne]
          exact ⟨hstore _ _ _ _ p hpw hw' (c2 f1 p hp) c1, fun _ => c2 f1⟩
        · rw [upd_ne Y _ hne, upd_ne Y _ hxs]
          exact ⟨p, _, hp, hpw, hr', hbs, fun _ => ⟨ls_keep f2, rfl⟩⟩
      · refine hstep i o Y W h1 h2 ho' hb (fun e he hbd n1 n2 => (hJ.cl e.on n1 n2 (hall e he hbd)).1) _ (fun v W' hb' hv hoff => ⟨by simp [hsz], _, rfl, hb.trans (hb'.mono hb.size), fun j hj1 hj2 g => ?_, fun g => ?_, fun g => ls_keep (hJ.dep ((ls_set' g).resolve_left (Ne.symm h2)))⟩)
        · by_cases hji : j = i
          · subst hji
            rw [upd_self, upd_ne Y _ (Ne.symm h1)]
            refine ⟨hv, fun g2 p hp => ?_⟩
            have g3 := (ls_set' g2).resolve_left (Ne.symm h1)
            obtain ⟨p', cs, hp', hpw, hrow, _⟩ := hJ.box g3
            have : p = p' := by rw [hp] at hp'; simpa using hp'
            subst this
            exact hoff p hpw hrow.lt (fun e he hbd n1 n2 => (hJ.cl e.on n1 n2 (hall e he hbd)).2 g3 p hp)
          · have g' := (ls_set' g).resolve_left hji
            obtain ⟨c1, c2⟩ := hJ.cl j hj1 hj2 g'
            rw [upd_ne Y _ hji, upd_ne Y _ (Ne.symm h1)]
            exact ⟨hmono _ _ _ _ hb' c1, fun g2 => c2 ((ls_set' g2).resolve_left (Ne.symm h1))⟩
        · obtain ⟨p, cs, hp, hpw, hrow, hcs, hw⟩ := hJ.box ((ls_set' g).resolve_left (Ne.symm h1))
          rw [upd_ne Y _ (Ne.symm h1)]
          refine ⟨p, cs, hp, hpw, hrow.below hb' hrow.lt, hcs, fun g2 => ?_⟩
          obtain ⟨x1, x2⟩ := hw ((ls_set' g2).resolve_left (Ne.symm h2))
          have hxi : ix ≠ i := fun e => ls_un hn (e ▸ x1)
          rw [upd_ne Y _ hxi]
          exact ⟨ls_keep x1, x2⟩
  · rintro L act W hr ⟨hsz, Y, rfl, hJ⟩
    have key : ∀ n i, i < n → i < l.length → L.getD i false = true := by
      intro n
      induction n with
      | zero => intro i h; omega
      | succ n ih =>
        intro i hin hil
        refine flag_of_any (j := i) (by omega) hr (show l.toArray[i]? = some l[i] by simp [hil]) (fun e he hbd => ?_)
        have hlt : e.on < i := by
          have hx := List.all_eq_true.1 hback (l[i], i) (List.mem_iff_getElem?.2 ⟨i, by simp [hil]⟩)
          have hy := (Array.all_eq_true_iff_forall_mem.1 hx) e he
          rw [hbd] at hy
          simpa using hy
        exact ih e.on (by omega) (by omega)
    have fl : ∀ i, i < l.length → L.getD i false = true := fun i hi => key (i + 1) i (by omega) hi
    obtain ⟨p, cs, hp, hpw, hrow, _, hw⟩ := hJ.box (fl ia hia)
    obtain ⟨_, rfl⟩ := hw (fl is his)
    exact hend Y W p hJ.below hpw hp hrow (fun i hi n1 n2 => ⟨(hJ.cl i n1 n2 (fl i hi)).1, (hJ.cl i n1 n2 (fl i hi)).2 (fl ia hia) p hp⟩)

/-! ### Runs: the answer of a run in a box -/
abbrev outA (o : OutS) (v : Value) : Value := .agg #[.int .i64 o.kind, .int .i64 o.code, v, .int .i64 o.steps, .int .i64 o.deep]
abbrev outT (o : OutS) (er : Int) (v : Value) : Value := .tuple #[outA o v, .int .i64 er]
def aggOf : Value → Array Value
  | .agg cs => cs
  | _ => #[]
/-- What is known of each operation's result: up to 'ic' the constants, then the call, a move, the two parts; a box; the write; the second part again. -/
structure RunCl (ty : TypeId) (base ic : Nat) (cst : Nat → Value) (o : OutS) (er : Int) (W : World) (i : Nat) (v : Value) : Prop where
  c : i < ic → v = cst i
  t : i = ic ∨ i = ic + 1 → ∃ u, v = outT o er u ∧ W.ownsRow base ty 1 u o.out.length (o.out.map (Value.int .i64))
  a : i = ic + 2 → ∃ u, v = outA o u ∧ W.ownsRow base ty 1 u o.out.length (o.out.map (Value.int .i64))
  e : i = ic + 3 ∨ i = ic + 6 → v = .int .i64 er
def RunOff (ic : Nat) (o : OutS) (er : Int) (i : Nat) (v : Value) (p : Nat) : Prop :=
  (i = ic ∨ i = ic + 1 → ∀ u, v = outT o er u → u.ownBlock ≠ some p) ∧ (i = ic + 2 → ∀ u, v = outA o u → u.ownBlock ≠ some p)
section
variable {ty : TypeId} {base ic : Nat} {cst : Nat → Value} {o : OutS} {er : Int} {W W' : World} {i : Nat} {v : Value}
theorem RunCl.wr {F : Nat → Prop} (h : RunCl ty base ic cst o er W i v) (hw : Wr F W W') (hF : ∀ g, F g → ∀ u, (i = ic ∨ i = ic + 1 → v = outT o er u → u.ownBlock ≠ some g) ∧ (i = ic + 2 → v = outA o u → u.ownBlock ≠ some g)) : RunCl ty base ic cst o er W' i v := by
  refine ⟨h.c, fun hi => ?_, fun hi => ?_, h.e⟩
  · obtain ⟨u, e, hu⟩ := h.t hi
    exact ⟨u, e, ownsRow_wr hu hw (fun g hg hf => (hF g hf u).1 hi e hg)⟩
  · obtain ⟨u, e, hu⟩ := h.a hi
    exact ⟨u, e, ownsRow_wr hu hw (fun g hg hf => (hF g hf u).2 hi e hg)⟩
theorem RunCl.below (h : RunCl ty base ic cst o er W i v) (hb : Below W.heap.size W W') : RunCl ty base ic cst o er W' i v := h.wr (F := fun _ => False) (Wr.of_below hb) (fun _ h => h.elim)
theorem outT_inj {u u' : Value} (h : outT o er u = outT o er u') : u = u' := by simpa [outT, outA] using h
theorem outA_inj {u u' : Value} (h : outA o u = outA o u') : u = u' := by simpa [outA] using h
theorem RunCl.fresh (h : RunCl ty base ic cst o er W i v) : RunOff ic o er i v W.heap.size := by
  refine ⟨fun hi u hu hb => ?_, fun hi u hu hb => ?_⟩
  · obtain ⟨u', e, ho⟩ := h.t hi
    obtain rfl := outT_inj (hu.symm.trans e)
    have := (ho.lt _ hb).2
    omega
  · obtain ⟨u', e, ho⟩ := h.a hi
    obtain rfl := outA_inj (hu.symm.trans e)
    have := (ho.lt _ hb).2
    omega
theorem RunCl.const (h : i < ic) : RunCl ty base ic cst o er W i (cst i) := ⟨fun _ => rfl, fun h' => by omega, fun h' => by omega, fun h' => by omega⟩
theorem RunOff.const (h : i < ic) (p : Nat) : RunOff ic o er i v p := ⟨fun h' => by omega, fun h' => by omega⟩
theorem RunCl.err (h : i = ic + 3 ∨ i = ic + 6) : RunCl ty base ic cst o er W i (.int .i64 er) := ⟨fun h' => by omega, fun h' => by omega, fun h' => by omega, fun _ => rfl⟩
theorem RunOff.err (h : i = ic + 3 ∨ i = ic + 6) (p : Nat) : RunOff ic o er i v p := ⟨fun h' => by omega, fun h' => by omega⟩
theorem RunCl.call {u : Value} (h : i = ic ∨ i = ic + 1) (hu : W.ownsRow base ty 1 u o.out.length (o.out.map (Value.int .i64))) : RunCl ty base ic cst o er W i (outT o er u) := ⟨fun h' => by omega, fun _ => ⟨u, rfl, hu⟩, fun h' => by omega, fun h' => by omega⟩
theorem RunOff.call {u : Value} (h : i = ic ∨ i = ic + 1) {p : Nat} (hp : u.ownBlock ≠ some p) : RunOff ic o er i (outT o er u) p := ⟨fun _ u' e => by rw [← outT_inj e]; exact hp, fun h' => by omega⟩
theorem RunCl.part {u : Value} (h : i = ic + 2) (hu : W.ownsRow base ty 1 u o.out.length (o.out.map (Value.int .i64))) : RunCl ty base ic cst o er W i (outA o u) := ⟨fun h' => by omega, fun h' => by omega, fun _ => ⟨u, rfl, hu⟩, fun h' => by omega⟩
theorem RunOff.part {u : Value} (h : i = ic + 2) {p : Nat} (hp : u.ownBlock ≠ some p) : RunOff ic o er i (outA o u) p := ⟨fun h' => by omega, fun _ u' e => by rw [← outA_inj e]; exact hp⟩
end
def regsOf : Code → List Code
  | .region i l b => [.region i l b]
  | .loop c => regsOf c
  | .seq a b => regsOf a ++ regsOf b
  | .block _ c => regsOf c
  | .scope c => regsOf c
  | .cond _ a b => regsOf a ++ regsOf b
  | _ => []
theorem size5 {cs : Array Value} (h : cs.size = 5) : ∃ a b c d e, cs = #[a, b, c, d, e] := by
  obtain ⟨l⟩ := cs
  match l, h with
  | [a, b, c, d, e], _ => exact ⟨a, b, c, d, e, rfl⟩
end Go.Proofs.Ytikbdplllopjlaa
namespace Go.Proofs.Ytikbdplllopjlaa
open Go.RowKit

/-- What a run leaves: it puts out more, it takes more steps, at most its fuel. -/
def Mono (f : Int) (s s' : St) : Prop := s.out <+: s'.out ∧ s.steps ≤ s'.steps ∧ s'.steps ≤ f
theorem Mono.refl {f : Int} {s : St} (h : s.steps ≤ f) : Mono f s s := ⟨List.prefix_refl _, Int.le_refl _, h⟩
theorem Mono.trans {f : Int} {a b c : St} (h : Mono f a b) (k : Mono f b c) : Mono f a c := ⟨h.1.trans k.1, Int.le_trans h.2.1 k.2.1, k.2.2⟩
theorem Mono.same {f : Int} {s s' t : St} (h : Mono f s s') (h1 : t.out = s'.out) (h2 : t.steps = s'.steps) : Mono f s t := ⟨h1 ▸ h.1, h2 ▸ h.2.1, h2 ▸ h.2.2⟩
theorem stepF_mono {f n : Int} {s : St} (hn : 0 ≤ n) (h : s.steps ≤ f) : Mono f s (stepF f n s).2 := by
  unfold stepF
  split
  · split
    · exact ⟨List.prefix_refl _, h, Int.le_refl _⟩
    · exact ⟨List.prefix_refl _, by show s.steps ≤ s.steps + n; omega, by show s.steps + n ≤ f; omega⟩
  · exact Mono.refl h
def MonoR (f : Int) (R : CallR) : Prop := ∀ fn args s, s.steps ≤ f → Mono f s (R fn args s).2
section
variable {f : Int} {R : CallR}
theorem actF_mono (hR : MonoR f R) {s : St} (h : s.steps ≤ f) (tp : List V) (x : StepS) (l : List V) : Mono f s (actF R s tp x l).2.1 := by
  have hr := Mono.refl h
  unfold actF
  split
  · exact hr
  · split
    · split <;> exact hr.same rfl rfl
    · split
      · have := hR x.fn l s h
        split <;> (rename_i e; rw [e] at this; exact this)
      · split
        · split
          · exact hr
          · exact hr.same rfl rfl
        · split
          · exact hr.same rfl rfl
          · split
            · exact hr.same rfl rfl
            · exact ⟨List.prefix_append _ _, Int.le_refl _, h⟩
theorem doesF_mono (hR : MonoR f R) (lo : List Nat) {s : St} (h : s.steps ≤ f) (tp : List V) (x : StepS) : Mono f s (doesF R f lo s tp x).2.1 := by
  have h1 := stepF_mono (n := 1) (by omega) h
  unfold doesF
  split
  · exact h1
  · split
    · exact h1.same rfl rfl
    · exact h1.trans (actF_mono hR h1.2.2 _ _ _)
theorem stepsF_mono (hR : MonoR f R) (lo : List Nat) : ∀ (xs : List StepS) {s : St} (tp : List V), s.steps ≤ f → Mono f s (stepsF R f lo s tp xs).2.1
  | [], s, tp, h => Mono.refl h
  | x :: r, s, tp, h => by
    have h1 := doesF_mono hR lo h tp x
    rw [stepsF]
    split
    · rename_i s' tp' e
      rw [e] at h1
      exact h1.trans (stepsF_mono hR lo r tp' h1.2.2)
    · rename_i s' tp' e
      rw [e] at h1
      exact h1
theorem blockF_mono (hR : MonoR f R) (lo : List Nat) {s : St} (h : s.steps ≤ f) (tp : List V) (b : BlockS) : Mono f s (blockF R f lo s tp b).2.1 := by
  have h1 := stepsF_mono hR lo b.steps tp h
  unfold blockF
  split
  · rename_i s' tp' e
    rw [e] at h1
    exact h1
  · rename_i s' tp' e
    rw [e] at h1
    have h2 := h1.trans (stepF_mono (n := 1) (by omega) h1.2.2)
    split
    · exact h2
    · split
      · exact h2
      · split
        · exact h2.same rfl rfl
        · split <;> exact h2
theorem blocksF_mono (hR : MonoR f R) (lo : List Nat) (bs : List BlockS) : ∀ (g : Nat) (k : Int) {s : St} (tp : List V), s.steps ≤ f → Mono f s (blocksF R f lo bs g k s tp).2
  | 0, _, s, _, h => Mono.refl h
  | g + 1, k, s, tp, h => by
    have h1 := blockF_mono hR lo h tp (bs.getD k.toNat noBlock)
    rw [blocksF]
    split
    · rename_i s' tp' e
      rw [e] at h1
      exact h1
    · rename_i k' s' tp' e
      rw [e] at h1
      exact h1.trans (blocksF_mono hR lo bs g k' tp' h1.2.2)
    · rename_i v s' tp' e
      rw [e] at h1
      exact h1.same rfl rfl
end
/-- No function's locals are fewer than none. -/
def Counts (p : ProgS) : Prop := ∀ fn : Int, 0 ≤ countsF (p.funcs.getD fn.toNat noGraph).locs
theorem callF_mono {p : ProgS} (hp : Counts p) (f : Int) : ∀ d, MonoR f (callF p f d)
  | 0, fn, args, s, h => by
    show Mono f s (stopF 4 s)
    unfold stopF
    split <;> exact (Mono.refl h).same rfl rfl
  | d + 1, fn, args, s, h => by
    rw [callF]
    have h0 : Mono f s { s with calls := s.calls + 1, deep := max s.deep (s.calls + 1) } := (Mono.refl h).same rfl rfl
    have h1 := h0.trans (stepF_mono (hp fn) h)
    dsimp only
    split
    · exact h1
    · exact (h1.trans ((Mono.refl h1.2.2).same (t := { (stepF f (countsF (p.funcs.getD fn.toNat noGraph).locs) { s with calls := s.calls + 1, deep := max s.deep (s.calls + 1) }).2 with mem := makesF (stepF f (countsF (p.funcs.getD fn.toNat noGraph).locs) { s with calls := s.calls + 1, deep := max s.deep (s.calls + 1) }).2.mem (p.funcs.getD fn.toNat noGraph).locs }) rfl rfl)).trans (blocksF_mono (callF_mono hp f d) _ _ _ _ _ h1.2.2)

/-! ### Two fuels -/
/-- The one with less fuel has none left; the other one has put out no less, and has taken more steps. -/
def Dry (f : Int) (s1 s2 : St) : Prop := s1.kind = 2 ∧ s1.out <+: s2.out ∧ f < s2.steps
theorem Dry.on {f f2 : Int} {s1 s2 t : St} (h : Dry f s1 s2) (k : Mono f2 s2 t) : Dry f s1 t := ⟨h.1, h.2.1.trans k.1, by have := h.2.2; have := k.2.1; omega⟩
def SimR (f1 : Int) (R1 R2 : CallR) : Prop := ∀ fn args s, s.kind = 0 → s.steps ≤ f1 →
  (R1 fn args s = R2 fn args s ∧ (R1 fn args s).2.steps ≤ f1 ∧ (R1 fn args s).2.kind ≠ 2 ∧ ((R1 fn args s).1 ≠ none → (R1 fn args s).2.kind = 0)) ∨ ((R1 fn args s).1 = none ∧ Dry f1 (R1 fn args s).2 (R2 fn args s).2)
theorem stepF_sim {f1 f2 n : Int} {s : St} (hf : f1 < f2) (hn : 0 ≤ n) (hk : s.kind = 0) (hs : s.steps ≤ f1) :
    (stepF f1 n s = (true, { s with steps := s.steps + n }) ∧ stepF f2 n s = (true, { s with steps := s.steps + n }) ∧ s.steps + n ≤ f1) ∨ ((stepF f1 n s).1 = false ∧ Dry f1 (stepF f1 n s).2 (stepF f2 n s).2) := by
  unfold stepF
  rw [if_pos hk, if_pos hk]
  by_cases h1 : n > f1 - s.steps
  · right
    rw [if_pos h1]
    refine ⟨rfl, rfl, ?_, ?_⟩
    · split <;> exact List.prefix_refl _
    · split
      · exact hf
      · show f1 < s.steps + n; omega
  · left
    rw [if_neg h1, if_neg (by omega)]
    exact ⟨rfl, rfl, by omega⟩
section
variable {f1 f2 : Int} {R1 R2 : CallR}
theorem actF_sim (hf : f1 < f2) (h1 : SimR f1 R1 R2) {s : St} (hk : s.kind = 0) (hs : s.steps ≤ f1) (tp : List V) (x : StepS) (l : List V) :
    (actF R1 s tp x l = actF R2 s tp x l ∧ (actF R1 s tp x l).2.1.steps ≤ f1 ∧ (actF R1 s tp x l).2.1.kind ≠ 2 ∧ ((actF R1 s tp x l).1 = true → (actF R1 s tp x l).2.1.kind = 0)) ∨ ((actF R1 s tp x l).1 = false ∧ Dry f1 (actF R1 s tp x l).2.1 (actF R2 s tp x l).2.1) := by
  by_cases h3 : x.op = 3
  · have hx : ∀ R : CallR, actF R s tp x l = match R x.fn l s with | (some v, s') => (true, s', setT tp x.to v) | (none, s') => (false, s', tp) := fun R => by
      unfold actF
      rw [if_neg (by omega), if_neg (by omega), if_pos h3]
      cases R x.fn l s with
      | mk v s' => cases v <;> rfl
    rw [hx, hx]
    rcases h1 x.fn l s hk hs with ⟨e, a, b, c⟩ | ⟨a, b⟩
    · left
      rw [← e]
      refine ⟨rfl, ?_⟩
      cases hr : R1 x.fn l s with
      | mk v s' =>
        rw [hr] at a b c
        cases v with
        | none => exact ⟨a, b, fun h => by cases h⟩
        | some v => exact ⟨a, b, fun _ => c (by simp)⟩
    · right
      cases hr : R1 x.fn l s with
      | mk v s' =>
        rw [hr] at a b
        simp only at a
        subst a
        refine ⟨rfl, ?_⟩
        cases hr2 : R2 x.fn l s with
        | mk v2 s2 => rw [hr2] at b; cases v2 <;> exact b
  · left
    have hx : actF R1 s tp x l = actF R2 s tp x l := by
      unfold actF
      repeat (first | rfl | (split; · rfl) | (rw [if_neg h3, if_neg h3]))
    refine ⟨hx, ?_⟩
    unfold actF
    by_cases g1 : x.op = 1
    · rw [if_pos g1]; exact ⟨hs, by rw [hk]; omega, fun _ => hk⟩
    · rw [if_neg g1]
      by_cases g2 : x.op = 2
      · rw [if_pos g2]
        split
        · exact ⟨hs, by show s.kind ≠ 2; rw [hk]; omega, fun _ => hk⟩
        · exact ⟨hs, by show (3 : Int) ≠ 2; omega, fun h => by cases h⟩
      · rw [if_neg g2, if_neg h3]
        by_cases g5 : x.op = 5
        · rw [if_pos g5]
          split
          · exact ⟨hs, by show s.kind ≠ 2; rw [hk]; omega, fun _ => hk⟩
          · exact ⟨hs, by show s.kind ≠ 2; rw [hk]; omega, fun _ => hk⟩
        · rw [if_neg g5]
          split
          · exact ⟨hs, by show (3 : Int) ≠ 2; omega, fun h => by cases h⟩
          · split
            · exact ⟨hs, by show (1 : Int) ≠ 2; omega, fun h => by cases h⟩
            · exact ⟨hs, by show s.kind ≠ 2; rw [hk]; omega, fun _ => hk⟩
/-- Two results that are the same, within the fuel; or the first has none left. -/
def SimB (f1 : Int) (r1 r2 : Bool × St × List V) : Prop :=
  (r1 = r2 ∧ r1.2.1.steps ≤ f1 ∧ r1.2.1.kind ≠ 2 ∧ (r1.1 = true → r1.2.1.kind = 0)) ∨ (r1.1 = false ∧ Dry f1 r1.2.1 r2.2.1)
theorem doesF_sim (hf : f1 < f2) (h1 : SimR f1 R1 R2) (h2 : MonoR f2 R2) (lo : List Nat) {s : St} (hk : s.kind = 0) (hs : s.steps ≤ f1) (tp : List V) (x : StepS) : SimB f1 (doesF R1 f1 lo s tp x) (doesF R2 f2 lo s tp x) := by
  rcases stepF_sim (n := 1) hf (by omega) hk hs with ⟨e1, e2, hle⟩ | ⟨e1, hd⟩
  · unfold doesF
    rw [e1, e2]
    simp only [Bool.true_eq_false, if_false]
    split
    · left
      exact ⟨rfl, hle, by show (3 : Int) ≠ 2; omega, fun h => by cases h⟩
    · exact actF_sim (s := { s with steps := s.steps + 1 }) hf h1 hk hle tp x _
  · have hm := stepF_mono (f := f2) (n := 1) (by omega) (show s.steps ≤ f2 by omega)
    right
    have e : doesF R1 f1 lo s tp x = (false, (stepF f1 1 s).2, tp) := by unfold doesF; rw [if_pos e1]
    rw [e]
    refine ⟨rfl, ?_⟩
    unfold doesF
    split
    · exact hd
    · split
      · exact ⟨hd.1, hd.2.1, hd.2.2⟩
      · exact hd.on (actF_mono h2 hm.2.2 _ _ _)
theorem stepsF_sim (hf : f1 < f2) (h1 : SimR f1 R1 R2) (h2 : MonoR f2 R2) (lo : List Nat) : ∀ (xs : List StepS) {s : St} (tp : List V), s.kind = 0 → s.steps ≤ f1 → SimB f1 (stepsF R1 f1 lo s tp xs) (stepsF R2 f2 lo s tp xs)
  | [], s, tp, hk, hs => Or.inl ⟨rfl, hs, by show s.kind ≠ 2; omega, fun _ => hk⟩
  | x :: r, s, tp, hk, hs => by
    have hm := doesF_mono h2 lo (show s.steps ≤ f2 by omega) tp x
    rw [stepsF, stepsF]
    rcases doesF_sim hf h1 h2 lo hk hs tp x with ⟨e, a, b, c⟩ | ⟨a, b⟩
    · rw [← e]
      cases hr : doesF R1 f1 lo s tp x with
      | mk ok q =>
        obtain ⟨s', tp'⟩ := q
        rw [hr] at a b c
        cases ok with
        | true => exact stepsF_sim hf h1 h2 lo r tp' (c rfl) a
        | false => exact Or.inl ⟨rfl, a, b, fun h => by cases h⟩
    · right
      cases hr : doesF R1 f1 lo s tp x with
      | mk ok q =>
        obtain ⟨s', tp'⟩ := q
        rw [hr] at a b
        simp only at a
        subst a
        refine ⟨rfl, ?_⟩
        cases hr2 : doesF R2 f2 lo s tp x with
        | mk ok2 q2 =>
          obtain ⟨s2, tp2⟩ := q2
          rw [hr2] at b hm
          cases ok2 with
          | true => exact b.on (stepsF_mono h2 lo r tp2 hm.2.2)
          | false => exact b
/-- Where a block goes on, it took a step. -/
def SimG (f1 : Int) (s : St) (r1 r2 : Goes × St × List V) : Prop :=
  (r1 = r2 ∧ r1.2.1.steps ≤ f1 ∧ r1.2.1.kind ≠ 2 ∧ (r1.1 ≠ .over → r1.2.1.kind = 0 ∧ s.steps + 1 ≤ r1.2.1.steps)) ∨ (r1.1 = .over ∧ Dry f1 r1.2.1 r2.2.1)
theorem blockF_sim (hf : f1 < f2) (h1 : SimR f1 R1 R2) (h2 : MonoR f2 R2) (lo : List Nat) {s : St} (hk : s.kind = 0) (hs : s.steps ≤ f1) (hm1 : MonoR f1 R1) (tp : List V) (b : BlockS) : SimG f1 s (blockF R1 f1 lo s tp b) (blockF R2 f2 lo s tp b) := by
  have hm := stepsF_mono h2 lo b.steps tp (show s.steps ≤ f2 by omega)
  have hmm := stepsF_mono hm1 lo b.steps tp hs
  unfold blockF
  rcases stepsF_sim hf h1 h2 lo b.steps tp hk hs with ⟨e, a, c, d⟩ | ⟨a, c⟩
  · rw [← e]
    cases hr : stepsF R1 f1 lo s tp b.steps with
    | mk ok q =>
      obtain ⟨s', tp'⟩ := q
      rw [hr] at a c d hmm
      rw [← e, hr] at hm
      cases ok with
      | false => exact Or.inl ⟨rfl, a, c, fun h => absurd rfl h⟩
      | true =>
        have hk' := d rfl
        simp only at hk' a
        dsimp only
        rcases stepF_sim (n := 1) hf (by omega) hk' a with ⟨e1, e2, hle⟩ | ⟨e1, hd⟩
        · rw [e1, e2]
          simp only [Bool.true_eq_false, if_false]
          have hst : s.steps + 1 ≤ s'.steps + 1 := by have := hmm.2.1; simp only at this; omega
          split
          · exact Or.inl ⟨rfl, hle, by show s'.kind ≠ 2; omega, fun _ => ⟨hk', hst⟩⟩
          · split
            · exact Or.inl ⟨rfl, hle, by show (3 : Int) ≠ 2; omega, fun h => absurd rfl h⟩
            · split
              · exact Or.inl ⟨rfl, hle, by show s'.kind ≠ 2; omega, fun _ => ⟨hk', hst⟩⟩
              · exact Or.inl ⟨rfl, hle, by show s'.kind ≠ 2; omega, fun _ => ⟨hk', hst⟩⟩
        · right
          rw [if_pos e1]
          refine ⟨rfl, ?_⟩
          split
          · exact hd
          · split
            · exact hd
            · split
              · exact ⟨hd.1, hd.2.1, hd.2.2⟩
              · split <;> exact hd
  · right
    cases hr : stepsF R1 f1 lo s tp b.steps with
    | mk ok q =>
      obtain ⟨s', tp'⟩ := q
      rw [hr] at a c
      simp only at a
      subst a
      refine ⟨rfl, ?_⟩
      cases hr2 : stepsF R2 f2 lo s tp b.steps with
      | mk ok2 q2 =>
        obtain ⟨s2, tp2⟩ := q2
        rw [hr2] at c hm
        cases ok2 with
        | false => exact c
        | true =>
          have h3 := c.on (stepF_mono (n := 1) (by omega) hm.2.2)
          dsimp only
          split
          · exact h3
          · split
            · exact h3
            · split
              · exact ⟨h3.1, h3.2.1, h3.2.2⟩
              · split <;> exact h3
def SimO (f1 : Int) (r1 r2 : Option V × St) : Prop :=
  (r1 = r2 ∧ r1.2.steps ≤ f1 ∧ r1.2.kind ≠ 2 ∧ (r1.1 ≠ none → r1.2.kind = 0)) ∨ (r1.1 = none ∧ Dry f1 r1.2 r2.2)
theorem blocksF_sim (hf : f1 < f2) (h1 : SimR f1 R1 R2) (h2 : MonoR f2 R2) (hm1 : MonoR f1 R1) (lo : List Nat) (bs : List BlockS) : ∀ (g1 g2 : Nat) (k : Int) {s : St} (tp : List V), s.kind = 0 → s.steps ≤ f1 → f1 - s.steps < g1 → f2 - s.steps < g2 →
    SimO f1 (blocksF R1 f1 lo bs g1 k s tp) (blocksF R2 f2 lo bs g2 k s tp)
  | 0, _, _, s, _, _, hs, hg, _ => by omega
  | _ + 1, 0, _, s, _, _, hs, _, hg => by omega
  | g1 + 1, g2 + 1, k, s, tp, hk, hs, hg1, hg2 => by
    have hm := blockF_mono h2 lo (show s.steps ≤ f2 by omega) tp (bs.getD k.toNat noBlock)
    rw [blocksF, blocksF]
    rcases blockF_sim hf h1 h2 lo hk hs hm1 tp (bs.getD k.toNat noBlock) with ⟨e, a, c, d⟩ | ⟨a, c⟩
    · rw [← e]
      cases hr : blockF R1 f1 lo s tp (bs.getD k.toNat noBlock) with
      | mk gg q =>
        obtain ⟨s', tp'⟩ := q
        rw [hr] at a c d
        simp only at a c d
        cases gg with
        | over => exact Or.inl ⟨rfl, a, c, fun h => absurd rfl h⟩
        | next k' =>
          obtain ⟨hk', hst⟩ := d (by simp)
          exact blocksF_sim hf h1 h2 hm1 lo bs g1 g2 k' tp' hk' a (by omega) (by omega)
        | ret v => exact Or.inl ⟨rfl, a, c, fun _ => (d (by simp)).1⟩
    · right
      cases hr : blockF R1 f1 lo s tp (bs.getD k.toNat noBlock) with
      | mk gg q =>
        obtain ⟨s', tp'⟩ := q
        rw [hr] at a c
        simp only at a
        subst a
        refine ⟨rfl, ?_⟩
        cases hr2 : blockF R2 f2 lo s tp (bs.getD k.toNat noBlock) with
        | mk gg2 q2 =>
          obtain ⟨s2, tp2⟩ := q2
          rw [hr2] at c hm
          cases gg2 with
          | over => exact c
          | next k' => exact c.on (blocksF_mono h2 lo bs g2 k' tp2 hm.2.2)
          | ret v => exact ⟨c.1, c.2.1, c.2.2⟩
end
theorem callF_sim {p : ProgS} (hp : Counts p) {f1 f2 : Int} (hf : f1 < f2) : ∀ d, SimR f1 (callF p f1 d) (callF p f2 d)
  | 0, fn, args, s, hk, hs => by
    left
    have e : ∀ f, callF p f 0 fn args s = (none, { s with kind := 4 }) := fun f => by show (none, stopF 4 s) = _; unfold stopF; rw [if_pos hk]
    rw [e, e]
    exact ⟨rfl, hs, by show (4 : Int) ≠ 2; omega, fun h => absurd rfl h⟩
  | d + 1, fn, args, s, hk, hs => by
    have e : ∀ f, callF p f (d + 1) fn args s = (if (stepF f (countsF (p.funcs.getD fn.toNat noGraph).locs) { s with calls := s.calls + 1, deep := max s.deep (s.calls + 1) }).1 = false then (none, (stepF f (countsF (p.funcs.getD fn.toNat noGraph).locs) { s with calls := s.calls + 1, deep := max s.deep (s.calls + 1) }).2)
        else blocksF (callF p f d) f (numsF (stepF f (countsF (p.funcs.getD fn.toNat noGraph).locs) { s with calls := s.calls + 1, deep := max s.deep (s.calls + 1) }).2.mem (p.funcs.getD fn.toNat noGraph).locs.length) (p.funcs.getD fn.toNat noGraph).blocks (f - (stepF f (countsF (p.funcs.getD fn.toNat noGraph).locs) { s with calls := s.calls + 1, deep := max s.deep (s.calls + 1) }).2.steps + 1).toNat 0
          { (stepF f (countsF (p.funcs.getD fn.toNat noGraph).locs) { s with calls := s.calls + 1, deep := max s.deep (s.calls + 1) }).2 with mem := makesF (stepF f (countsF (p.funcs.getD fn.toNat noGraph).locs) { s with calls := s.calls + 1, deep := max s.deep (s.calls + 1) }).2.mem (p.funcs.getD fn.toNat noGraph).locs } (startF (p.funcs.getD fn.toNat noGraph).temps.toNat args)) := fun f => by rw [callF]
    rw [e, e]
    have hg : 0 ≤ countsF (p.funcs.getD fn.toNat noGraph).locs := hp fn
    generalize p.funcs.getD fn.toNat noGraph = g at hg ⊢
    have hm2 := stepF_mono (f := f2) (s := { s with calls := s.calls + 1, deep := max s.deep (s.calls + 1) }) hg (show s.steps ≤ f2 by omega)
    rcases stepF_sim (s := { s with calls := s.calls + 1, deep := max s.deep (s.calls + 1) }) hf hg hk hs with ⟨e1, e2, hle⟩ | ⟨e1, hd⟩
    · rw [e1, e2]
      simp only [Bool.true_eq_false, if_false]
      have hle' : s.steps + countsF g.locs ≤ f1 := hle
      exact blocksF_sim hf (callF_sim hp hf d) (callF_mono hp f2 d) (callF_mono hp f1 d) _ _ _ _ _ _ hk hle (by show f1 - (s.steps + countsF g.locs) < _; omega) (by show f2 - (s.steps + countsF g.locs) < _; omega)
    · right
      rw [if_pos e1]
      refine ⟨rfl, ?_⟩
      split
      · exact hd
      · have h3 : Dry f1 (stepF f1 (countsF g.locs) { s with calls := s.calls + 1, deep := max s.deep (s.calls + 1) }).2 { (stepF f2 (countsF g.locs) { s with calls := s.calls + 1, deep := max s.deep (s.calls + 1) }).2 with mem := makesF (stepF f2 (countsF g.locs) { s with calls := s.calls + 1, deep := max s.deep (s.calls + 1) }).2.mem g.locs } := ⟨hd.1, hd.2.1, hd.2.2⟩
        exact h3.on (blocksF_mono (callF_mono hp f2 d) _ _ _ _ _ hm2.2.2)
/-! ### Runs -/
def startS (p : ProgS) (inp : List Int) : St := ⟨inp, 0, 0, [], 0, 0, 0, makesF [] p.globs⟩
theorem runF_eq (p : ProgS) (inp : List Int) (f : Int) : runF p inp f = endF (callF p f 64 p.main [] (startS p inp)) := rfl
theorem endF_none (s : St) : endF (none, s) = if s.kind = 3 then ⟨3, 0, [], 0, 0⟩ else ⟨s.kind, s.code, s.out, s.steps, s.deep⟩ := rfl
theorem endF_some (v : V) (s : St) : endF (some v, s) = if v.obj > 0 then ⟨3, 0, [], 0, 0⟩ else ⟨1, v.n, s.out, s.steps, s.deep⟩ := by
  unfold endF
  by_cases h : v.obj > 0
  · simp [h]
  · simp [h]
theorem endF_out (r : Option V × St) (h : (endF r).kind ≠ 3) : (endF r).out = r.2.out ∧ (endF r).steps = r.2.steps := by
  obtain ⟨v, s⟩ := r
  cases v with
  | none =>
    rw [endF_none] at h ⊢
    by_cases hk : s.kind = 3
    · rw [if_pos hk] at h; exact absurd rfl h
    · rw [if_neg hk]; exact ⟨rfl, rfl⟩
  | some v =>
    rw [endF_some] at h ⊢
    by_cases hk : v.obj > 0
    · rw [if_pos hk] at h; exact absurd rfl h
    · rw [if_neg hk]; exact ⟨rfl, rfl⟩
theorem endF_some_kind (v : V) (s : St) : (endF (some v, s)).kind = 1 ∨ (endF (some v, s)).kind = 3 := by
  rw [endF_some]
  by_cases h : v.obj > 0
  · rw [if_pos h]; right; rfl
  · rw [if_neg h]; left; rfl
/-- Two fuels: the same, or the first has none left. -/
theorem runF_two {p : ProgS} (hp : Counts p) (inp : List Int) {f1 f2 : Int} (hf : f1 < f2) (h0 : 0 ≤ f1) :
    (runF p inp f1 = runF p inp f2 ∧ (runF p inp f1).kind ≠ 2 ∧ ((runF p inp f1).kind ≠ 3 → (runF p inp f1).steps ≤ f1)) ∨
    ((runF p inp f1).kind = 2 ∧ ((runF p inp f2).kind ≠ 3 → (runF p inp f1).out <+: (runF p inp f2).out ∧ f1 < (runF p inp f2).steps)) := by
  rw [runF_eq, runF_eq]
  rcases callF_sim hp hf 64 p.main [] (startS p inp) rfl h0 with ⟨e, a, b, c⟩ | ⟨a, b⟩
  · left
    rw [← e]
    refine ⟨rfl, ?_, fun h => by rw [(endF_out _ h).2]; exact a⟩
    cases hr : callF p f1 64 p.main [] (startS p inp) with
    | mk v s =>
      rw [hr] at b
      cases v with
      | none => rw [endF_none]; split <;> simp_all
      | some v => rcases endF_some_kind v s with h | h <;> rw [h] <;> omega
  · right
    cases hr : callF p f1 64 p.main [] (startS p inp) with
    | mk v s =>
      rw [hr] at a b
      simp only at a
      subst a
      have hk2 : s.kind = 2 := b.1
      have e1 : endF (none, s) = ⟨s.kind, s.code, s.out, s.steps, s.deep⟩ := by rw [endF_none, if_neg (by omega)]
      rw [e1]
      refine ⟨hk2, fun h => ?_⟩
      obtain ⟨h1, h2⟩ := endF_out _ h
      rw [h1, h2]
      exact ⟨b.2.1, b.2.2⟩
theorem stepF_dryN {s : St} {n : Int} (hk : s.kind = 0) (hs : s.steps = 0) (hn : 0 < n) : stepF 0 n s = (false, { s with steps := 0, kind := 2 }) := by
  unfold stepF
  rw [if_pos hk, if_pos (by omega)]
theorem stepF_dry {s : St} (hk : s.kind = 0) (hs : s.steps = 0) : stepF 0 1 s = (false, { s with steps := 0, kind := 2 }) := stepF_dryN hk hs (by omega)
theorem stepF_none {s : St} (hk : s.kind = 0) (hs : s.steps = 0) : stepF 0 0 s = (true, s) := by
  unfold stepF
  rw [if_pos hk, if_neg (by omega)]
  cases s
  simp
theorem blockF_dry (R : CallR) (lo : List Nat) {s : St} (tp : List V) (b : BlockS) (hk : s.kind = 0) (hs : s.steps = 0) : ∃ tp', blockF R 0 lo s tp b = (.over, { s with steps := 0, kind := 2 }, tp') := by
  unfold blockF
  cases hb : b.steps with
  | nil =>
    refine ⟨tp, ?_⟩
    rw [stepsF]
    dsimp only
    rw [stepF_dry hk hs]
    simp
  | cons x r =>
    refine ⟨tp, ?_⟩
    have e : doesF R 0 lo s tp x = (false, { s with steps := 0, kind := 2 }, tp) := by unfold doesF; rw [stepF_dry hk hs]; simp
    rw [stepsF, e]
/-- Without fuel it does not end otherwise. -/
theorem runF_zero {p : ProgS} (hp : Counts p) (inp : List Int) : (runF p inp 0).kind = 2 := by
  rw [runF_eq]
  have hg := hp p.main
  rw [callF]
  dsimp only
  generalize p.funcs.getD p.main.toNat noGraph = g at hg ⊢
  have key : ∀ s1 : St, s1.kind = 0 → s1.steps = 0 → (endF (if (stepF 0 (countsF g.locs) s1).1 = false then (none, (stepF 0 (countsF g.locs) s1).2)
      else blocksF (callF p 0 63) 0 (numsF (stepF 0 (countsF g.locs) s1).2.mem g.locs.length) g.blocks (0 - (stepF 0 (countsF g.locs) s1).2.steps + 1).toNat 0 { (stepF 0 (countsF g.locs) s1).2 with mem := makesF (stepF 0 (countsF g.locs) s1).2.mem g.locs } (startF g.temps.toNat []))).kind = 2 := by
    intro s1 hk hs
    rcases Int.lt_or_eq_of_le hg with hlt | heq
    · rw [stepF_dryN hk hs hlt, if_pos rfl, endF_none]
      rfl
    · rw [← heq, stepF_none hk hs]
      simp only [Bool.true_eq_false, if_false]
      rw [show ((0 : Int) - s1.steps + 1).toNat = 1 from by rw [hs]; rfl, blocksF]
      obtain ⟨tp', hb⟩ := blockF_dry (callF p 0 63) (numsF s1.mem g.locs.length) (s := { s1 with mem := makesF s1.mem g.locs }) (startF g.temps.toNat []) (g.blocks.getD (0 : Int).toNat noBlock) hk hs
      rw [hb, endF_none]
      rfl
  exact key { startS p inp with calls := (startS p inp).calls + 1, deep := max (startS p inp).deep ((startS p inp).calls + 1) } rfl rfl
/-- What the law of fuel says. -/
theorem runF_more {p : ProgS} (hp : Counts p) (inp : List Int) {f1 f2 : Int} (hf : f1 < f2) (h0 : 0 ≤ f1) (hk : (runF p inp f1).kind ≠ 2) : runF p inp f2 = runF p inp f1 := by
  rcases runF_two hp inp hf h0 with ⟨e, _⟩ | ⟨e, _⟩
  · exact e.symm
  · exact absurd e hk
theorem runF_begins {p : ProgS} (hp : Counts p) (inp : List Int) {f1 f2 : Int} (hf : f1 < f2) (h0 : 0 ≤ f1) (hk : (runF p inp f2).kind ≠ 3) : (runF p inp f1).out <+: (runF p inp f2).out := by
  rcases runF_two hp inp hf h0 with ⟨e, _⟩ | ⟨_, e⟩
  · rw [e]; exact List.prefix_refl _
  · exact (e hk).1
theorem runF_exact {p : ProgS} (hp : Counts p) (inp : List Int) {f : Int} (h0 : 0 ≤ f) (hk : (runF p inp f).kind = 1) :
    1 ≤ (runF p inp f).steps ∧ (runF p inp f).steps ≤ f ∧ runF p inp (runF p inp f).steps = runF p inp f ∧ (runF p inp ((runF p inp f).steps - 1)).kind = 2 := by
  have hpos : 0 < f := by
    rcases Int.lt_or_eq_of_le h0 with h | h
    · exact h
    · rw [← h, runF_zero hp] at hk; omega
  have h1 : 1 ≤ (runF p inp f).steps := by
    rcases runF_two hp inp hpos (Int.le_refl 0) with ⟨e, h, _⟩ | ⟨_, h⟩
    · rw [runF_zero hp] at h; exact absurd rfl h
    · have := (h (by omega)).2; omega
  have h2 : (runF p inp f).steps ≤ f := by
    rcases runF_two hp inp (show f < f + 1 by omega) h0 with ⟨_, _, h⟩ | ⟨h, _⟩
    · exact h (by omega)
    · omega
  refine ⟨h1, h2, ?_, ?_⟩
  · rcases Int.lt_or_eq_of_le h2 with hlt | heq
    · rcases runF_two hp inp hlt (by omega) with ⟨e, _⟩ | ⟨_, h⟩
      · exact e
      · have := (h (by omega)).2; omega
    · rw [heq]
  · rcases runF_two hp inp (show (runF p inp f).steps - 1 < f by omega) (by omega) with ⟨e, _, h⟩ | ⟨h, _⟩
    · have h3 := h (by rw [e]; omega)
      rw [e] at h3
      omega
    · exact h
end Go.Proofs.Ytikbdplllopjlaa
namespace Go.Proofs.Ytikbdplllopjlaa
open Go.RowKit

mutual
def wgt : T → Int → Int
  | .node _ _ ks, d => if d = 0 then 1048576 else wgts ks d 1
def wgts : List T → Int → Int → Int
  | [], _, n => n
  | k :: ks, d, n => if n < 1048576 then wgts ks d (n + wgt k (d - 1)) else n
end
mutual
theorem wgt_bd : ∀ (t : T) (d : Int), 0 ≤ d → 1 ≤ wgt t d ∧ wgt t d ≤ 1048576 * (d + 1)
  | .node op x ks, d, h => by
    rw [wgt]
    split
    · omega
    · exact wgts_bd ks d 1 (by omega) (by omega) (by omega)
theorem wgts_bd : ∀ (ks : List T) (d n : Int), 1 ≤ d → 1 ≤ n → n ≤ 1048576 * (d + 1) → 1 ≤ wgts ks d n ∧ wgts ks d n ≤ 1048576 * (d + 1)
  | [], d, n, h, h0, h1 => by rw [wgts]; exact ⟨h0, h1⟩
  | k :: ks, d, n, h, h0, h1 => by
    rw [wgts]
    have hk := wgt_bd k (d - 1) (by omega)
    split
    · exact wgts_bd ks d _ h (by omega) (by omega)
    · exact ⟨h0, h1⟩
end
mutual
theorem wgt_size : ∀ (t : T) (d : Int), 0 ≤ d → wgt t d < 1048576 → wgt t d = t.size
  | .node op x ks, d, h, hw => by
    rw [wgt] at hw ⊢
    split at hw
    · omega
    · rename_i hd
      rw [if_neg hd]
      have := wgts_size ks d 1 (by omega) (by omega) hw
      simp only [T.size]
      omega
theorem wgts_size : ∀ (ks : List T) (d n : Int), 1 ≤ d → 0 ≤ n → wgts ks d n < 1048576 → wgts ks d n = n + T.sizes ks
  | [], d, n, h, _, hw => by simp [wgts, T.sizes]
  | k :: ks, d, n, h, h0, hw => by
    rw [wgts] at hw ⊢
    split at hw
    · rename_i hn
      rw [if_pos hn]
      have hk := wgt_bd k (d - 1) (by omega)
      have h1 := wgts_size ks d _ h (by omega) hw
      have hlt : wgt k (d - 1) < 1048576 := by
        rcases Int.lt_or_le (wgt k (d - 1)) 1048576 with h' | h'
        · exact h'
        · have := wgts_ge ks d (n + wgt k (d - 1)) h; omega
      have h2 := wgt_size k (d - 1) (by omega) hlt
      simp only [T.sizes]
      omega
    · omega
theorem wgts_ge : ∀ (ks : List T) (d n : Int), 1 ≤ d → n ≤ wgts ks d n
  | [], d, n, h => by rw [wgts]; exact Int.le_refl _
  | k :: ks, d, n, h => by
    rw [wgts]
    have hk := wgt_bd k (d - 1) (by omega)
    split
    · have := wgts_ge ks d (n + wgt k (d - 1)) h; omega
    · exact Int.le_refl _
end
def WgtSaid (m : Nat) : Prop := ∀ (t : T) (d : Int) (B : Nat) (w : World) (v0 v1 v2 : Value), t.size ≤ m → B ≤ w.heap.size → TreeAt w (Under B) t v0 v1 v2 → 0 ≤ d → d ≤ 1000 →
    Calls Try.prog 17 #[.agg #[v0, v1, v2], .int .i64 d] w fun e w' => e = .returned (.int .i64 (wgt t d)) ∧ Below w.heap.size w w'

set_option maxRecDepth 100000 in
set_option maxHeartbeats 4000000 in
theorem wgt_all (m : Nat) : WgtSaid m := by
  induction m with
  | zero => intro t _ _ _ _ _ _ hm; have := t.size_pos; omega
  | succ m ih =>
    rintro ⟨op, x, ks⟩ d B w v0 v1 v2 hm hB hv hd0 hd1
    obtain ⟨A, cap, len, rfl, rfl, _, _, rfl, hk⟩ := KidsV.of_tree hv
    simp only [T.size] at hm
    have hlen := hk.1
    have hlm := hk.2.1
    by_cases h0 : d = 0
    · subst h0
      have hr : wgt (.node op x ks) 0 = 1048576 := by rw [wgt, if_pos rfl]
      rw [hr]
      clear hv hk ih hm hr
      go_enter Try.func17, Try.ntmps17
      go_wp2_with fail
      go_ret
      exact ⟨rfl, below1 _ _⟩
    · have e0 : (d == 0) = false := by simpa using h0
      have hr : wgt (.node op x ks) d = wgts ks d 1 := by rw [wgt, if_neg h0]
      rw [hr]
      have hd2 : 1 ≤ d := by omega
      have HK := Lib.hid hk
      have IH := Lib.hid ih
      clear hv hk ih hr h0
      go_enter Try.func17, Try.ntmps17
      refine wp_letter (fun Q hQ => ?_)
      have HQ := Lib.hid hQ
      clear hQ
      go_wp2_with fail
      go_loopw [5, 6] (fun a i wr => ∃ (k : Nat) (n : Int), k ≤ len ∧ i = .int .i64 k ∧ a = .int .i64 n ∧ 1 ≤ n ∧ n ≤ 1048576 * (d + 1) ∧ wgts (ks.drop k) d n = wgts ks d 1 ∧ Below w.heap.size w wr ∧ wr.cell? ⟨w.heap.size, 2, none⟩ = some (.slice A len cap) ∧ w.heap.size < wr.heap.size) (fun _ i _ => len - (intOf i).toNat)
      case atStart => exact ⟨0, 1, by omega, rfl, rfl, by omega, by omega, rfl, below1 _ _, by simp [go_sem], by simp [go_sem]⟩
      case round =>
        obtain ⟨k, n, hk2, rfl, rfl, hm0, hm1, hcs, hbw, hc2, hzl⟩ := hrel
        have HCS := Lib.hid hcs
        clear hcs
        have hzw := hbw.size
        by_cases hlt : k < len
        · obtain ⟨b, off, t, v0, v1, v2, rfl, hb, hk1, c0, c1, c2, ht⟩ := (HK.out.below (hbw.mono hB) (Nat.le_refl _)).get hlt
          have hklt : (k : Int) < (len : Int) := by omega
          have hd3 : decide ((k : Int) < (len : Int)) = true := by simpa using hlt
          have HD := Lib.hid (show wgts (ks.drop k) d n = if n < 1048576 then wgts (ks.drop (k + 1)) d (n + wgt t (d - 1)) else n from by rw [drop_of hk1]; rfl)
          have hbl : b < wr.heap.size := by omega
          by_cases hn : n < 1048576
          · have hsz : t.size ≤ m := Nat.le_trans (T.sizes_get hk1) (by omega)
            have hbd := wgt_bd t (d - 1) (by omega)
            have HC := Lib.hid (IH.out t (d - 1) B wr v0 v1 v2 hsz (by omega) ht (by omega) (by omega))
            obtain ⟨q, hq⟩ : ∃ q, q = wgt t (d - 1) := ⟨_, rfl⟩
            rw [← hq] at HC HD hbd
            obtain ⟨hbd0, hbd1⟩ := hbd
            have HD2 := Lib.hid (HD.out.trans (if_pos hn))
            have hd4 : decide (n < 1048576) = true := by simpa using hn
            clear hk1 ht hq hsz HD
            go_wp2_with fail
            refine HC.out.mono ?_
            rintro e w1 ⟨rfl, hb1⟩
            have hc2' : w1.cell? ⟨w.heap.size, 2, none⟩ = some (.slice (some ⟨b, off, none⟩) len cap) := cell_below hc2 hb1 (by omega)
            go_wp2_with fail
            go_roundw
            case rel =>
              exact ⟨k + 1, n + q, by omega, by go_num, rfl, by omega, by omega, by rw [← HCS.out, HD2.out], hbw.trans (hb1.mono hzw), hc2', by have := hb1.size; omega⟩
            case measure => simp [intOf]; omega
          · have HE := Lib.hid (show wgts ks d 1 = n by rw [← HCS.out, HD.out, if_neg hn])
            have hd4 : decide (n < 1048576) = false := by simpa using hn
            clear hk1 ht HD hn
            go_wp2_with fail
            refine HQ.out _ _ _ ?_
            exact bodyPost_ret (v := .int .i64 n) (by simp [results, Try.results17, go_sem]) rfl ⟨by rw [HE.out], hbw⟩
        · obtain rfl : k = len := by omega
          have hd3 : decide ((k : Int) < (k : Int)) = false := by simp
          have HE := Lib.hid (show wgts ks d 1 = n by rw [← HCS.out, drop_nil_of (by omega)]; rfl)
          go_wp2_with fail
          refine HQ.out _ _ _ ?_
          exact bodyPost_ret (v := .int .i64 n) (by simp [results, Try.results17, go_sem]) rfl ⟨by rw [HE.out], hbw⟩
end Go.Proofs.Ytikbdplllopjlaa
