/- The page's machine, in whole: what a run keeps. Plain laws; no program in sight. No condition. -/
import Derived.Test.YtlenilbkifofjaaDoorQ02Zz
set_option linter.unusedVariables false
set_option linter.unusedSimpArgs false
namespace Go.Proofs.YtlenilbkifofjaaDoor
open Go.RowKit

/-- A step that may be. -/
def StepOkG (p : ProgS) (nt nl : Nat) (x : StepS) : Prop :=
  TsOk nt nl p.globs.length x.args ∧ TsIn x.args ∧ x.args.length ≤ 1000 ∧
  ((x.op = 1 ∧ x.args.length = 1 ∧ (x.to = -1 ∨ 0 ≤ x.to ∧ x.to < nt)) ∨ (x.op = 2 ∧ x.args.length = 2 ∧ x.to = -1 ∧ (x.size = 1 ∨ x.size = 2 ∨ x.size = 4 ∨ x.size = 8)) ∨
   (x.op = 3 ∧ (∃ f g, x.fn = ((f : Nat) : Int) ∧ p.funcs[f]? = some g ∧ (x.args.length : Int) = g.params) ∧ (x.to = -1 ∨ 0 ≤ x.to ∧ x.to < nt)) ∨ (x.op = 4 ∧ x.args.length = 1 ∧ x.to = -1) ∨
   (x.op = 5 ∧ x.args.length = 0 ∧ 0 ≤ x.to ∧ x.to < nt) ∨ (x.op = 6 ∧ x.args.length = 1 ∧ x.to = -1))
structure BlockOkG (p : ProgS) (g : GraphS) (nt : Nat) (b : BlockS) : Prop where
  steps : ∀ x, x ∈ b.steps → StepOkG p nt g.locs.length x
  few : b.steps.length ≤ 1000000
  fin : b.fin = 1 ∨ b.fin = 2 ∨ b.fin = 3
  next : 0 ≤ b.next ∧ b.next < g.blocks.length
  els : 0 ≤ b.els ∧ b.els < g.blocks.length
  cond : b.fin ≠ 1 → TOk nt g.locs.length p.globs.length b.cond ∧ TIn b.cond
structure FnOkG (p : ProgS) (g : GraphS) : Prop where
  nt : ∃ nt : Nat, g.temps = nt ∧ nt ≤ 8000 ∧ ∀ b, b ∈ g.blocks → BlockOkG p g nt b
  params : 0 ≤ g.params ∧ g.params ≤ g.temps
  obs : ∀ o, o ∈ g.locs → ObOk o ∧ ∀ x, x ∈ o.init → In64 x
  locs : g.locs.length ≤ 400
  one : 0 < g.blocks.length
  few : g.blocks.length ≤ 1000000
structure ProgOkG (p : ProgS) : Prop where
  globs : ∀ o, o ∈ p.globs → ObOk o ∧ ∀ x, x ∈ o.init → In64 x
  gfew : p.globs.length ≤ 16
  fns : ∀ g, g ∈ p.funcs → FnOkG p g
  main : ∃ f g, p.main = ((f : Nat) : Int) ∧ p.funcs[f]? = some g ∧ g.params = 0

theorem FrOk.grow {M M' : List MO} {tp : List V} {lo : List Nat} {ng : Nat} (h : FrOk M tp lo ng) (hl : M.length ≤ M'.length) : FrOk M' tp lo ng :=
  ⟨fun v hv => (h.temps v hv).mono hl, fun x hx => Nat.lt_of_lt_of_le (h.locs x hx) hl, Nat.lt_of_lt_of_le h.globs hl⟩
theorem FrOk.put {M : List MO} {tp : List V} {lo : List Nat} {ng : Nat} (h : FrOk M tp lo ng) (dst : Int) {v : V} (hv : VOk M.length v) : FrOk M (setT tp dst v) lo ng := by
  unfold setT
  split
  · exact ⟨fun u hu => by rcases List.mem_or_eq_of_mem_set hu with h1 | h1; exact h.temps u h1; exact h1 ▸ hv, h.locs, h.globs⟩
  · exact h
theorem setT_length (tp : List V) (dst : Int) (v : V) : (setT tp dst v).length = tp.length := by unfold setT; split <;> simp
theorem MemOk.put {M : List MO} (h : MemOk M) (k j : Nat) {v : V} (hk : 1 ≤ k) (hv : VOk M.length v) : MemOk (M.modify k fun o => { o with l := o.l.set j v }) := by
  refine ⟨by simpa using h.many, fun o ho => ?_, fun i o h1 ho => ?_, fun o ho u hu => ?_⟩
  · obtain ⟨o0, h0, he⟩ := modify_get ho
    rw [if_neg (by omega)] at he
    subst he
    exact h.zero _ h0
  · obtain ⟨o0, h0, rfl⟩ := modify_get ho
    have := h.size i o0 h1 h0
    split
    · simpa using this
    · exact this
  · rw [List.length_modify]
    rcases mem_modify ho with ho | ⟨o0, h0, rfl⟩
    · exact h.vals o ho u hu
    · rcases List.mem_or_eq_of_mem_set hu with hu | hu
      · exact h.vals o0 (List.mem_of_getElem? h0) u hu
      · exact hu ▸ hv
theorem storeF_kept {M M' : List MO} {size : Int} {a x : V} (hs : storeF M size a x = some M') (h0 : 0 ≤ size) (hm : MemOk M) (hn : NumOk M) (hx : VOk M.length x) : MemOk M' ∧ NumOk M' ∧ M'.length = M.length := by
  refine ⟨?_, hn.store hs h0, ?_⟩
  · unfold storeF at hs
    cases ha : atF M a size.toNat with
    | none => rw [ha] at hs; simp at hs
    | some j =>
      rw [ha] at hs
      simp only at hs
      split at hs
      · cases hs
      · simp only [Option.some.injEq] at hs
        subst hs
        have hp : 0 < a.obj := by
          unfold atF at ha
          split at ha
          · rename_i h1; exact h1.1
          · cases ha
        refine hm.put a.obj j hp ?_
        split
        · exact ⟨Nat.lt_of_le_of_lt (Nat.zero_le _) hx.1, fun h => absurd rfl h, stored_in64 hx.2.2⟩
        · exact hx
  · unfold storeF at hs
    split at hs
    · cases hs
    · split at hs
      · cases hs
      · simp only [Option.some.injEq] at hs
        subst hs
        simp

/-- What is kept by a call at so many calls. -/
def RKept (p : ProgS) (fuel : Int) (c : Int) (R : CallR) : Prop :=
  ∀ (f : Nat) g args s v s', p.funcs[f]? = some g → (args.length : Int) = g.params → GInv fuel s → s.calls = c → (∀ v, v ∈ args → VOk (memBase s.mem).length v) → p.globs.length < (memBase s.mem).length → R f args s = (some v, s') → GKept fuel s s' ∧ VOk (memBase s'.mem).length v

section
variable {p : ProgS} {fuel : Int} {R : CallR} {lo : List Nat} {nt nl : Nat}
theorem does_kept (hR : ∀ c, RKept p fuel c R) {s s' : St} {tp tp' : List V} {x : StepS} (hI : GInv fuel s) (hF : FrOk (memBase s.mem) tp lo p.globs.length) (ht : tp.length = nt) (hl : lo.length = nl) (hx : StepOkG p nt nl x) (h : doesF R fuel lo s tp x = (true, s', tp')) :
    GKept fuel s s' ∧ FrOk (memBase s'.mem) tp' lo p.globs.length ∧ tp'.length = tp.length := by
  subst ht hl
  obtain ⟨hts, hti, _, hop⟩ := hx
  by_cases hy : (stepF fuel 1 s).1 = true
  · obtain ⟨h1, hI1⟩ := hI.tick (by omega) hy
    cases he : evalTs s.mem tp lo x.args with
    | none =>
      unfold doesF at h
      rw [if_neg (by rw [hy]; simp), stepF_mem, he] at h
      cases h
    | some l =>
      have hok := evals_ok hI.mem hF x.args hti hts (by rw [evalTs_base]; exact he)
      have hlen := evalTs_length he
      rw [doesF_yes hy h1 he] at h
      have hK1 : GKept fuel s { s with steps := s.steps + 1 } := ⟨hI1, rfl, Nat.le_refl _, by show s.steps ≤ s.steps + 1; omega⟩
      have hpos := memBase_pos s.mem
      have hg := fun j => getD_ok hpos hok j
      unfold actF at h
      rcases hop with ⟨h1, h2, h3⟩ | ⟨h1, h2, h3, h4⟩ | ⟨h1, ⟨f, g, h2, h3, h4⟩, h5⟩ | ⟨h1, h2, h3⟩ | ⟨h1, h2, h3, h4⟩ | ⟨h1, h2, h3⟩
      · rw [if_pos h1] at h
        simp only [Prod.mk.injEq, true_and] at h
        obtain ⟨rfl, rfl⟩ := h
        exact ⟨hK1, hF.put _ (hg 0), setT_length _ _ _⟩
      · rw [if_neg (by omega), if_pos h1] at h
        split at h
        · rename_i M hst
          simp only [Prod.mk.injEq, true_and] at h
          obtain ⟨rfl, rfl⟩ := h
          have hb := storeF_base s.mem x.size (l.getD 0 ⟨0, 0⟩) (l.getD 1 ⟨0, 0⟩)
          simp only at hst
          rw [hst] at hb
          obtain ⟨k1, k2, k3⟩ := storeF_kept hb (by omega) hI.mem hI.num (hg 1)
          refine ⟨⟨⟨hI1.kind, hI1.lo, hI1.hi, by show (memBase M).length ≤ _; rw [k3]; exact hI1.many, hI1.outs, hI1.calls, hI1.deep, hI1.inp, k1, k2⟩, rfl, by show _ ≤ (memBase M).length; rw [k3]; exact Nat.le_refl _, by show s.steps ≤ s.steps + 1; omega⟩, ?_, rfl⟩
          exact hF.grow (by show _ ≤ (memBase M).length; rw [k3]; exact Nat.le_refl _)
        · cases h
      · rw [if_neg (by omega), if_neg (by omega), if_pos h1] at h
        split at h
        · rename_i v s2 hr
          simp only [Prod.mk.injEq, true_and] at h
          obtain ⟨rfl, rfl⟩ := h
          rw [h2] at hr
          obtain ⟨k1, k2⟩ := hR _ f g l _ v s2 h3 (by rw [hlen]; exact h4) hI1 rfl hok hF.globs hr
          exact ⟨hK1.trans k1, (hF.grow k1.grow).put _ k2, setT_length _ _ _⟩
        · cases h
      · rw [if_neg (by omega), if_neg (by omega), if_neg (by omega), if_neg (by omega)] at h
        split at h
        · cases h
        · rw [if_neg (by omega)] at h
          simp only [Prod.mk.injEq, true_and] at h
          obtain ⟨rfl, rfl⟩ := h
          have h0 := hI.lo
          have h5 := hI.outs
          refine ⟨⟨⟨hI1.kind, hI1.lo, hI1.hi, hI1.many, ?_, hI1.calls, hI1.deep, hI1.inp, hI1.mem, hI1.num⟩, rfl, Nat.le_refl _, by show s.steps ≤ s.steps + 1; omega⟩, hF, rfl⟩
          show (s.out ++ _).length ≤ (s.steps + 1).toNat
          rw [List.length_append, List.length_singleton]
          omega
      · rw [if_neg (by omega), if_neg (by omega), if_neg (by omega), if_pos h1] at h
        split at h
        · rename_i hin
          simp only [Prod.mk.injEq, true_and] at h
          obtain ⟨rfl, rfl⟩ := h
          exact ⟨hK1, hF.put _ (VOk.num hpos (by unfold In64; omega)), setT_length _ _ _⟩
        · rename_i n r hin
          simp only [Prod.mk.injEq, true_and] at h
          obtain ⟨rfl, rfl⟩ := h
          simp only at hin
          have hi64 := hI.inp
          rw [hin] at hi64
          refine ⟨⟨⟨hI1.kind, hI1.lo, hI1.hi, hI1.many, hI1.outs, hI1.calls, hI1.deep, fun x hx => hi64 x (List.mem_cons_of_mem _ hx), hI1.mem, hI1.num⟩, rfl, Nat.le_refl _, by show s.steps ≤ s.steps + 1; omega⟩, hF.put _ (VOk.num hpos (hi64 n (by simp))), setT_length _ _ _⟩
      · rw [if_neg (by omega), if_neg (by omega), if_neg (by omega), if_neg (by omega)] at h
        split at h
        · cases h
        · cases h
  · unfold doesF at h
    rw [if_pos (by simpa using hy)] at h
    cases h
theorem steps_kept (hR : ∀ c, RKept p fuel c R) : ∀ (xs : List StepS) {s s' : St} {tp tp' : List V}, GInv fuel s → FrOk (memBase s.mem) tp lo p.globs.length → tp.length = nt → lo.length = nl → (∀ x, x ∈ xs → StepOkG p nt nl x) → stepsF R fuel lo s tp xs = (true, s', tp') →
    GKept fuel s s' ∧ FrOk (memBase s'.mem) tp' lo p.globs.length ∧ tp'.length = tp.length
  | [], s, s', tp, tp', hI, hF, _, _, _, h => by
    rw [stepsF] at h
    simp only [Prod.mk.injEq, true_and] at h
    obtain ⟨rfl, rfl⟩ := h
    exact ⟨GKept.refl hI, hF, rfl⟩
  | x :: r, s, s', tp, tp', hI, hF, ht, hl, hx, h => by
    rw [stepsF] at h
    split at h
    · rename_i s1 tp1 h1
      obtain ⟨k1, k2, k3⟩ := does_kept hR hI hF ht hl (hx x (by simp)) h1
      obtain ⟨m1, m2, m3⟩ := steps_kept hR r k1.inv k2 (k3.trans ht) hl (fun y hy => hx y (List.mem_cons_of_mem _ hy)) h
      exact ⟨k1.trans m1, m2, m3.trans k3⟩
    · cases h
theorem block_kept (hR : ∀ c, RKept p fuel c R) {g : GraphS} {b : BlockS} {s s' : St} {tp tp' : List V} {go : Goes} (hI : GInv fuel s) (hF : FrOk (memBase s.mem) tp lo p.globs.length) (ht : tp.length = nt) (hl : lo.length = g.locs.length) (hb : BlockOkG p g nt b) (h : blockF R fuel lo s tp b = (go, s', tp')) (hgo : go ≠ .over) :
    GKept fuel s s' ∧ FrOk (memBase s'.mem) tp' lo p.globs.length ∧ tp'.length = tp.length ∧ s.steps + 1 ≤ s'.steps ∧ (∀ k, go = .next k → 0 ≤ k ∧ k < g.blocks.length) ∧ (∀ v, go = .ret v → VOk (memBase s'.mem).length v) := by
  unfold blockF at h
  split at h
  · simp only [Prod.mk.injEq] at h; exact absurd h.1.symm hgo
  · rename_i s1 tp1 h1
    obtain ⟨k1, k2, k3⟩ := steps_kept hR b.steps hI hF ht hl hb.steps h1
    have hmono := k1.steps
    split at h
    · simp only [Prod.mk.injEq] at h; exact absurd h.1.symm hgo
    · rename_i hy
      have hy' : (stepF fuel 1 s1).1 = true := by simpa using hy
      obtain ⟨e1, hI1⟩ := k1.inv.tick (by omega) hy'
      rw [e1] at h
      have hK : GKept fuel s { s1 with steps := s1.steps + 1 } := k1.trans ⟨hI1, rfl, Nat.le_refl _, by show s1.steps ≤ s1.steps + 1; omega⟩
      split at h
      · simp only [Prod.mk.injEq] at h
        obtain ⟨rfl, rfl, rfl⟩ := h
        exact ⟨hK, k2, k3, by show s.steps + 1 ≤ s1.steps + 1; omega, fun k hk => (by injection hk with hk; exact hk ▸ hb.next), fun v hv => (by cases hv)⟩
      · rename_i hfin
        obtain ⟨hc1, hc2⟩ := hb.cond hfin
        split at h
        · simp only [Prod.mk.injEq] at h; exact absurd h.1.symm hgo
        · rename_i v hv
          have hvok := eval_ok k1.inv.mem k2 b.cond hc2 (by rw [k3, ht, hl]; exact hc1) (by rw [evalT_base]; exact hv)
          split at h
          · simp only [Prod.mk.injEq] at h
            obtain ⟨rfl, rfl, rfl⟩ := h
            exact ⟨hK, k2, k3, by show s.steps + 1 ≤ s1.steps + 1; omega, fun k hk => (by cases hk), fun u hu => (by injection hu with hu; exact hu ▸ hvok)⟩
          · simp only [Prod.mk.injEq] at h
            obtain ⟨rfl, rfl, rfl⟩ := h
            exact ⟨hK, k2, k3, by show s.steps + 1 ≤ s1.steps + 1; omega, fun k hk => (by injection hk with hk; subst hk; split; exact hb.els; exact hb.next), fun u hu => (by cases hu)⟩
theorem MemOk.kills {M : List MO} (h : MemOk M) : ∀ (l : List Nat), MemOk (killF M l)
  | [] => h
  | k :: l => (h.kill k).kills l
theorem blocks_kept (hR : ∀ c, RKept p fuel c R) {g : GraphS} (hl : lo.length = g.locs.length) (hb : ∀ b, b ∈ g.blocks → BlockOkG p g nt b) : ∀ (m : Nat) (k : Int) {s s' : St} {tp : List V} {v : V}, GInv fuel s → 1 ≤ s.calls → FrOk (memBase s.mem) tp lo p.globs.length → tp.length = nt → 0 ≤ k → k < g.blocks.length →
    blocksF R fuel lo g.blocks m k s tp = (some v, s') → GInv fuel s' ∧ s'.calls = s.calls - 1 ∧ (memBase s.mem).length ≤ (memBase s'.mem).length ∧ s.steps ≤ s'.steps ∧ VOk (memBase s'.mem).length v
  | 0, k, s, s', tp, v, _, _, _, _, _, _, h => by rw [blocksF] at h; cases h
  | m + 1, k, s, s', tp, v, hI, hc, hF, ht, hk0, hk1, h => by
    rw [blocksF] at h
    obtain ⟨kn, rfl⟩ := Int.eq_ofNat_of_zero_le hk0
    have hkl : kn < g.blocks.length := by omega
    have hbk : g.blocks.getD ((kn : Int)).toNat noBlock ∈ g.blocks := by
      rw [Int.toNat_natCast, List.getD_eq_getElem?_getD, List.getElem?_eq_getElem hkl]
      exact List.getElem_mem _
    split at h
    · cases h
    · rename_i k' s1 tp1 h1
      obtain ⟨a1, a2, a3, a4, a5, _⟩ := block_kept hR hI hF ht hl (hb _ hbk) h1 (by simp)
      obtain ⟨k0, k1⟩ := a5 k' rfl
      obtain ⟨b1, b2, b3, b4, b5⟩ := blocks_kept hR hl hb m k' a1.inv (by rw [a1.calls]; exact hc) a2 (a3.trans ht) k0 k1 h
      exact ⟨b1, by rw [b2, a1.calls], Nat.le_trans a1.grow b3, by omega, b5⟩
    · rename_i u s1 tp1 h1
      obtain ⟨a1, a2, a3, a4, _, a6⟩ := block_kept hR hI hF ht hl (hb _ hbk) h1 (by simp)
      simp only [Prod.mk.injEq, Option.some.injEq] at h
      obtain ⟨rfl, rfl⟩ := h
      have e : memBase (killF s1.mem lo) = killF (memBase s1.mem) lo := (killF_base _ _).symm
      have el : (memBase (killF s1.mem lo)).length = (memBase s1.mem).length := by rw [e, killF_length]
      have hcs := a1.calls
      refine ⟨⟨a1.inv.kind, a1.inv.lo, a1.inv.hi, by show (memBase (killF s1.mem lo)).length ≤ _; rw [el]; exact a1.inv.many, a1.inv.outs, by show 0 ≤ s1.calls - 1; omega, a1.inv.deep, a1.inv.inp, by show MemOk (memBase (killF s1.mem lo)); rw [e]; exact a1.inv.mem.kills lo, by show NumOk (memBase (killF s1.mem lo)); rw [e]; exact a1.inv.num.kills lo⟩, by show s1.calls - 1 = s.calls - 1; omega, by show _ ≤ (memBase (killF s1.mem lo)).length; rw [el]; exact a1.grow, by show s.steps ≤ s1.steps; omega, by show VOk (memBase (killF s1.mem lo)).length u; rw [el]; exact a6 u rfl⟩
theorem makes_ok : ∀ (l : List ObS) {M : List MO}, MemOk (memBase M) → (∀ o, o ∈ l → ObOk o ∧ ∀ x, x ∈ o.init → In64 x) → (memBase M).length + l.length ≤ 4294967296 → MemOk (memBase (makesF M l))
  | [], M, h, _, _ => h
  | o :: l, M, h, ho, hm => by
    have h1 := ho o (by simp)
    simp only [List.length_cons] at hm
    have h2 := makeF_ok h o h1.1.1 (by have := h1.1.2.2.1; omega) h1.2 (by rw [memBase_twice]; omega)
    rw [makeF_base] at h2
    refine makes_ok l (M := makeF M o) (by rw [makeF_based]; exact h2) (fun x hx => ho x (List.mem_cons_of_mem _ hx)) ?_
    rw [makeF_based, makeF_length]
    omega
theorem call_start_ok {g : GraphS} {s : St} {args : List V} (hg : FnOkG p g) (hnt : g.temps = nt) (hI : GInv fuel s) (ha : ∀ v, v ∈ args → VOk (memBase s.mem).length v) (hal : args.length ≤ nt) (hgl : p.globs.length < (memBase s.mem).length) (hf : fuel ≤ 100000000) (hst : s.steps + countsF g.locs ≤ fuel) :
    GInv fuel { s with calls := s.calls + 1, deep := max s.deep (s.calls + 1), steps := s.steps + countsF g.locs, mem := makesF s.mem g.locs } ∧ FrOk (memBase (makesF s.mem g.locs)) (startF nt args) (numsF s.mem g.locs.length) p.globs.length ∧ (startF nt args).length = nt ∧ (numsF s.mem g.locs.length).length = g.locs.length ∧ (memBase (makesF s.mem g.locs)).length = (memBase s.mem).length + g.locs.length := by
  have hcb := countsF_bd (fun o ho => (hg.obs o ho).1)
  have hml := memBase_makes s.mem g.locs
  have h1 := hI.lo
  have h2 := hI.many
  have h3 := hI.outs
  have h4 := hI.calls
  have h5 := hI.deep
  have hpos := memBase_pos s.mem
  refine ⟨⟨hI.kind, by show 0 ≤ s.steps + _; omega, hst, ?_, ?_, by show 0 ≤ s.calls + 1; omega, by show 0 ≤ max s.deep (s.calls + 1); omega, hI.inp, ?_, ?_⟩, ⟨?_, ?_, by omega⟩, ?_, numsF_length _ _, hml⟩
  · show (memBase (makesF s.mem g.locs)).length ≤ 20 + (s.steps + countsF g.locs).toNat
    omega
  · show s.out.length ≤ (s.steps + countsF g.locs).toNat
    omega
  · exact makes_ok g.locs hI.mem hg.obs (by omega)
  · show NumOk (memBase (makesF s.mem g.locs))
    rw [← makesF_base]
    exact hI.num.makes g.locs
  · intro v hv
    unfold startF at hv
    rw [List.mem_append] at hv
    rcases hv with hv | hv
    · exact (ha v hv).mono (by omega)
    · rw [List.mem_replicate] at hv
      rw [hv.2]
      exact VOk.num (by omega) (by unfold In64; omega)
  · intro x hx
    unfold numsF at hx
    simp only [List.mem_map, List.mem_range] at hx
    obtain ⟨i, hi, rfl⟩ := hx
    rw [← memBase_length]
    omega
  · unfold startF
    rw [List.length_append, List.length_replicate]
    omega
end
theorem callF_dryG {p : ProgS} {fuel : Int} {d f : Nat} {g : GraphS} {args : List V} {s : St} (hg : p.funcs[f]? = some g) (hy : (stepF fuel (countsF g.locs) { s with calls := s.calls + 1, deep := max s.deep (s.calls + 1) }).1 = false) :
    callF p fuel (d + 1) f args s = (none, (stepF fuel (countsF g.locs) { s with calls := s.calls + 1, deep := max s.deep (s.calls + 1) }).2) := by
  simp only [callF, Int.toNat_natCast, List.getD_eq_getElem?_getD, hg, Option.getD_some, hy, if_true]
theorem callF_goG {p : ProgS} {fuel : Int} {d f nt : Nat} {g : GraphS} {args : List V} {s : St} (hg : p.funcs[f]? = some g) (hnt : g.temps = nt) (hy : (stepF fuel (countsF g.locs) { s with calls := s.calls + 1, deep := max s.deep (s.calls + 1) }).1 = true) :
    callF p fuel (d + 1) f args s = blocksF (callF p fuel d) fuel (numsF s.mem g.locs.length) g.blocks (fuel - (s.steps + countsF g.locs) + 1).toNat 0 { s with calls := s.calls + 1, deep := max s.deep (s.calls + 1), steps := s.steps + countsF g.locs, mem := makesF s.mem g.locs } (startF nt args) := by
  obtain ⟨hy0, hy1, hy2⟩ := stepF_yes hy
  simp only [callF, Int.toNat_natCast, List.getD_eq_getElem?_getD, hg, Option.getD_some, hy, Bool.true_eq_false, if_false, hy2, hnt]

theorem call_kept {p : ProgS} (hp : ProgOkG p) {fuel : Int} (hf : fuel ≤ 100000000) : ∀ (d : Nat) (c : Int), RKept p fuel c (callF p fuel d)
  | 0, c, f, g, args, s, v, s', _, _, _, _, _, _, h => by
    rw [callF] at h
    cases h
  | d + 1, c, f, g, args, s, v, s', hg, hal, hI, hc, ha, hgl, h => by
    have hfn := hp.fns g (List.mem_of_getElem? hg)
    obtain ⟨nt, hnt, hnt2, hbk⟩ := hfn.nt
    have hpa := hfn.params
    by_cases hy : (stepF fuel (countsF g.locs) { s with calls := s.calls + 1, deep := max s.deep (s.calls + 1) }).1 = true
    · rw [callF_goG hg hnt hy] at h
      obtain ⟨_, hy1, _⟩ := stepF_yes hy
      simp only at hy1
      obtain ⟨k1, k2, k3, k4, k5⟩ := call_start_ok hfn hnt hI ha (by omega) hgl hf (by omega)
      obtain ⟨b1, b2, b3, b4, b5⟩ := blocks_kept (fun c => call_kept hp hf d c) k4 hbk _ 0 k1 (by show 1 ≤ s.calls + 1; have := hI.calls; omega) k2 k3 (by omega) (by have := hfn.one; omega) h
      have hcb := countsF_bd (fun o ho => (hfn.obs o ho).1)
      refine ⟨⟨b1, by rw [b2]; show s.calls + 1 - 1 = s.calls; omega, ?_, ?_⟩, b5⟩
      · have b3' : (memBase (makesF s.mem g.locs)).length ≤ (memBase s'.mem).length := b3
        omega
      · have b4' : s.steps + countsF g.locs ≤ s'.steps := b4
        omega
    · rw [callF_dryG hg (by simpa using hy)] at h
      cases h
end Go.Proofs.YtlenilbkifofjaaDoor
