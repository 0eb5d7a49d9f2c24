/- What the run of a tree's program comes to; that it may be. No program in sight but its name. Conditions: as stated. A region that draws its order, by what holds after each set of its operations. No program in sight. No condition. same: its two programs, made in whatever order. Conditions: as stated. same: the steps of its first region. Conditions: as stated. A region that draws its order and whose operations at most make new memory, by what each operation's result is. No program in sight. No condition. EqLongs, EqOutcome: of what is the same. Conditions: as stated. same: what its last region's operations give. Conditions: as stated. Trees: trees of one's own are written over. Conditions: as stated. -/
import Derived.Test.YtjkgpolikpochaaRunAZz
import Derived.Test.YtjkgpolikpochaaPrgOfZz
import Derived.Test.YtjkgpolikpochaaQ08Zz
import Derived.Test.YtjkgpolikpochaaQ01Zz
import Derived.Test.YtjkgpolikpochaaQ02Zz
import Derived.Test.YtjkgpolikpochaaQ04Zz
import Derived.Test.YtjkgpolikpochaaQ03Zz
import Derived.Test.YtjkgpolikpochaaCntZz
set_option linter.unusedVariables false
set_option linter.unusedSimpArgs false
namespace Go.Proofs.Ytjkgpolikpochaa
open Go.RowKit

def memA : List MO := [⟨0, [], false⟩, ⟨8, [⟨0, 7⟩, ⟨0, -1⟩], true⟩, ⟨4, [⟨0, -5⟩, ⟨0, 2⟩, ⟨0, 0⟩], true⟩]
def memB : List MO := memA ++ [⟨8, [⟨0, 7⟩, ⟨0, -1⟩], true⟩, ⟨4, [⟨0, -5⟩, ⟨0, 2⟩, ⟨0, 0⟩], true⟩]
theorem memA_eq : makesF [] obsOf = memA := by rfl
theorem memB_eq : makesF memA obsOf = memB := by rfl
theorem loA_eq : numsF memA 2 = [3, 4] := by rfl
def tpOf (n : Int) : List V := [⟨0, n⟩, ⟨4, 0⟩]
theorem memB_ok : MemOk memB := by
  refine ⟨by simp [memB, memA], fun o h => ?_, fun k o hk h => ?_, fun o h v hv => ?_⟩
  · simp [memB, memA] at h; exact h.symm
  · rcases k with _ | _ | _ | _ | _ | k
    · omega
    all_goals (simp [memB, memA] at h)
    all_goals (subst h; simp)
  · simp [memB, memA] at h
    have hl : memB.length = 5 := by simp [memB, memA]
    rw [hl]
    rcases h with rfl | rfl | rfl | rfl | rfl
    all_goals simp at hv
    all_goals (rcases hv with rfl | rfl | rfl)
    all_goals (exact ⟨by simp, fun h => absurd rfl h, by unfold In64; constructor <;> simp⟩)
theorem frB_ok {n : Int} (h : In64 n) : FrOk memB (tpOf n) [3, 4] 2 := by
  have hl : memB.length = 5 := by simp [memB, memA]
  refine ⟨fun v hv => ?_, fun x hx => ?_, by rw [hl]; omega⟩
  · rw [hl]
    simp [tpOf] at hv
    rcases hv with rfl | rfl
    · exact ⟨by simp, fun h => absurd rfl h, h⟩
    · exact ⟨by simp, fun _ => by simp, by unfold In64; constructor <;> simp⟩
  · rw [hl]
    simp at hx
    omega

/-- What a tree comes to, in the program of one tree. -/
def outOf (n : Int) (t : T) : OutS :=
  match evalT memB (tpOf n) [3, 4] t with
  | none => ⟨3, 0, [], 0, 0⟩
  | some v => if v.obj > 0 then ⟨3, 0, [], 0, 0⟩ else ⟨1, v.n, [], 8, 1⟩

theorem run_prog (t : T) (n : Int) : runF (progOf t) [n] 100 = outOf n t := by
  rw [runF_main (f := 0) rfl]
  have hm : makesF [] (progOf t).globs = memA := memA_eq
  rw [hm]
  have hfn : (progOf t).funcs[0]? = some (graphOf t) := rfl
  have hcount : countsF (graphOf t).locs = 5 := rfl
  have hy : (stepF 100 (countsF (graphOf t).locs) { ({ s00 [n] with mem := memA } : St) with calls := ({ s00 [n] with mem := memA } : St).calls + 1, deep := max ({ s00 [n] with mem := memA } : St).deep (({ s00 [n] with mem := memA } : St).calls + 1) }).1 = true := by
    rw [hcount]; simp [stepF, s00]
  rw [callF_go (nt := 2) hfn rfl hy, hcount]
  have hb : (graphOf t).blocks[0]? = some ⟨stepsOf, 3, t, 0, 0⟩ := rfl
  have hst : startF 2 [] = [⟨0, 0⟩, ⟨0, 0⟩] := rfl
  have hlen : (graphOf t).locs.length = 2 := rfl
  have hml : makesF memA (graphOf t).locs = memB := memB_eq
  have hgas : (100 - ((s00 [n]).steps + 5) + 1).toNat = 95 + 1 := by simp [s00]
  simp only [hst, hlen, loA_eq, hml, hgas]
  obtain ⟨st, hse⟩ : ∃ st : St, st = { s00 [n] with calls := 1, deep := 1, steps := 5, mem := memB } := ⟨_, rfl⟩
  have hst2 : ({ inp := (s00 [n]).inp, kind := (s00 [n]).kind, code := (s00 [n]).code, out := (s00 [n]).out, steps := (s00 [n]).steps + 5, deep := max (s00 [n]).deep ((s00 [n]).calls + 1), calls := (s00 [n]).calls + 1, mem := memB } : St) = st := by rw [hse]; simp [s00]; decide
  rw [hst2]
  generalize callF (progOf t) 100 63 = R
  have hsteps : stepsF R 100 [3, 4] st [⟨0, 0⟩, ⟨0, 0⟩] stepsOf = (true, { st with inp := [], steps := 7 }, tpOf n) := by
    rw [hse]
    simp [stepsF, stepsOf, doesF, stepF, s00, evalTs, evalT, actF, setT, locT, opF, tpOf]
  have hz : ((0 : Nat) : Int) = 0 := rfl
  unfold outOf
  cases he : evalT memB (tpOf n) [3, 4] t with
  | none =>
    have hbl : blockF R 100 [3, 4] st [⟨0, 0⟩, ⟨0, 0⟩] ⟨stepsOf, 3, t, 0, 0⟩ = (.over, { st with inp := [], steps := 8, kind := 3 }, tpOf n) := by
      unfold blockF
      rw [hsteps]
      simp only
      rw [hse]
      simp [stepF, s00, he]
    have h2 := blocksF_over (R := R) (fuel := 100) (lo := [3, 4]) (g := 95) (k := 0) (tp := [⟨0, 0⟩, ⟨0, 0⟩]) (s := st) hb hbl
    rw [hz] at h2
    rw [h2]
    rw [hse]
    simp [endF, s00]
  | some v =>
    have hbl : blockF R 100 [3, 4] st [⟨0, 0⟩, ⟨0, 0⟩] ⟨stepsOf, 3, t, 0, 0⟩ = (.ret v, { st with inp := [], steps := 8 }, tpOf n) := by
      unfold blockF
      rw [hsteps]
      simp only
      rw [hse]
      simp [stepF, s00, he]
    have h2 := blocksF_ret (R := R) (fuel := 100) (lo := [3, 4]) (g := 95) (k := 0) (tp := [⟨0, 0⟩, ⟨0, 0⟩]) (s := st) hb hbl
    rw [hz] at h2
    rw [h2]
    rw [hse]
    by_cases ho : v.obj > 0
    · simp [endF, s00, ho]
    · simp [endF, s00, ho]

theorem stepGet_val (t : T) : stepC (progOf t) (graphOf t) ⟨5, 0, 0, 0, []⟩ = (0, true) := by
  unfold stepC
  rw [if_neg (by simp [stepBad, manyC, graphOf])]
  rfl
theorem loc_val : withC 2 2 2 locT = (1, true) := by
  unfold withC treeC locT
  simp [cnt, cnts, badN, kidsI, namesB, namesBs]
theorem stepSet_val (t : T) : stepC (progOf t) (graphOf t) ⟨1, 1, 0, 0, [locT]⟩ = (1, true) := by
  unfold stepC
  rw [if_neg (by simp [stepBad, manyC, graphOf])]
  have h1 : (graphOf t).temps = 2 := rfl
  have h2 : ((graphOf t).locs.length : Int) = 2 := rfl
  have h3 : ((progOf t).globs.length : Int) = 2 := rfl
  simp only [h1, h2, h3, argsC, loc_val]
  simp
theorem end_val (t : T) : endC (progOf t) (graphOf t) ⟨stepsOf, 3, t, 0, 0⟩ = withC 2 2 2 t := by
  have h1 : (graphOf t).temps = 2 := rfl
  have h2 : ((graphOf t).locs.length : Int) = 2 := rfl
  have h3 : ((progOf t).globs.length : Int) = 2 := rfl
  have h4 : ((graphOf t).blocks.length : Int) = 1 := rfl
  unfold endC
  simp only [h1, h2, h3, h4]
  have : numB 0 (1 - 1) = true := by decide
  rw [this, yes_true (show True ∧ True from ⟨trivial, trivial⟩)]
  simp
theorem withC_bd (t : T) : 0 ≤ (withC 2 2 2 t).1 ∧ (withC 2 2 2 t).1 ≤ 201 := by
  have h := cnt_bd t 0 (by omega) (by omega)
  unfold withC treeC
  exact ⟨h.1, h.2.1⟩
/-- Whether the program of a tree may be. -/
theorem progB_of (t : T) : progB (progOf t) = (withC 2 2 2 t).2 := by
  have hb := withC_bd t
  unfold progB
  have h1 : objsB (progOf t).globs 16 = true := by simp [progOf, objsB, obsOf, obsB, obB, sizeB, betwB]
  have h2 : betwB ((progOf t).funcs.length : Int) 1 8 = true := by simp [progOf, betwB]
  have h3 : numB (progOf t).main (((progOf t).funcs.length : Int) - 1) = true := by simp [progOf, numB]
  have h4 : ((progOf t).funcs.getD (progOf t).main.toNat noGraph).params = 0 := rfl
  rw [h1, h2, h3, yes_true h4]
  have h5 : fnsB (progOf t) (progOf t).funcs = fnB (progOf t) (graphOf t) := by
    show (fnB (progOf t) (graphOf t) && true) = _
    rw [Bool.and_true]
  rw [h5]
  simp only [Bool.true_and]
  unfold fnB
  have g1 : numB (graphOf t).params 4 = true := by simp [graphOf, numB]
  have g2 : decide ((graphOf t).params > (graphOf t).temps) = false := by simp [graphOf]
  have g3 : decide ((graphOf t).temps > 1000) = false := by simp [graphOf]
  have g4 : objsB (graphOf t).locs 24 = true := by simp [graphOf, objsB, obsOf, obsB, obB, sizeB, betwB]
  have g5 : betwB ((graphOf t).blocks.length : Int) 1 1000 = true := by simp [graphOf, betwB]
  rw [g1, g2, g3, g4, g5]
  simp only [Bool.true_and, Bool.not_false]
  have hs : stepsC (progOf t) (graphOf t) stepsOf 0 = some 1 := by
    show (if (stepC (progOf t) (graphOf t) ⟨5, 0, 0, 0, []⟩).2 = false ∨ 0 + (stepC (progOf t) (graphOf t) ⟨5, 0, 0, 0, []⟩).1 > 8000 then none else stepsC (progOf t) (graphOf t) [⟨1, 1, 0, 0, [locT]⟩] (0 + (stepC (progOf t) (graphOf t) ⟨5, 0, 0, 0, []⟩).1)) = some 1
    rw [stepGet_val, if_neg (by simp)]
    show (if (stepC (progOf t) (graphOf t) ⟨1, 1, 0, 0, [locT]⟩).2 = false ∨ _ then none else _) = some 1
    rw [stepSet_val, if_neg (by simp)]
    rfl
  show (if (0 : Int) + stepsOf.length > 2000 then false else match stepsC (progOf t) (graphOf t) stepsOf 0 with
    | none => false
    | some m => if (endC (progOf t) (graphOf t) ⟨stepsOf, 3, t, 0, 0⟩).2 = false ∨ m + (endC (progOf t) (graphOf t) ⟨stepsOf, 3, t, 0, 0⟩).1 > 8000 then false else true) = _
  rw [if_neg (by simp [stepsOf]), hs, end_val]
  simp only
  cases hw : (withC 2 2 2 t).2
  · simp
  · rw [if_neg (by simp; omega)]

theorem progOf_any (t : T) (P : Value × Value × Value) (B : Nat) (w : World) (hB : B ≤ w.heap.size) (hP : ProgV w B P (progOf t)) :
    Calls Try.prog 31 #[.agg #[P.1, P.2.1, P.2.2]] w fun e w' => e = .returned (.bool (withC 2 2 2 t).2) ∧ Below w.heap.size w w' := by
  rw [← progB_of]
  refine prog_any (progOf t) (fun g hg => ?_) P B w hB hP
  simp [progOf] at hg
  subst hg
  have hbd := withC_bd t
  refine fn_any (progOf t) (graphOf t) (fun b hb x hx => ?_) (fun b hb => ?_) (fun b hb => ?_)
  · simp [graphOf] at hb
    subst hb
    simp [stepsOf] at hx
    rcases hx with rfl | rfl
    · exact ⟨step_get _ _ 0 [] (by omega) (by simp [graphOf]) rfl (by simp [graphOf, obsOf]) (by simp [progOf, obsOf]), by rw [stepGet_val]; simp, by rw [stepGet_val]; simp⟩
    · exact ⟨step_set _ _ 1 [locT] (by omega) (by simp [graphOf]) rfl (by simp [graphOf, obsOf]) (by simp [progOf, obsOf]), by rw [stepSet_val]; simp, by rw [stepSet_val]; simp⟩
  · simp [graphOf] at hb
    subst hb
    simp [stepsOf]
  · simp [graphOf] at hb
    subst hb
    rw [end_val]
    exact ⟨end_ret _ _ t stepsOf (by simp [graphOf]) (by simp [graphOf]) (by simp [graphOf, obsOf]) (by simp [progOf, obsOf]), hbd.1, by omega⟩

theorem obsOf_ok : ∀ o, o ∈ obsOf → ObOk o := by
  intro o ho
  simp [obsOf] at ho
  rcases ho with rfl | rfl
  · exact ⟨by simp, by simp, by simp, by simp⟩
  · exact ⟨by simp, by simp, by simp, by simp⟩
theorem main_ok {t : T} (h : (withC 2 2 2 t).2 = true) : MainOk (progOf t) 0 2 (graphOf t) := by
  have h1 : (treeC t).2 = true ∧ namesB 2 2 2 t = true := by unfold withC at h; simpa using h
  have h2 := may_iff.1 (treeC_iff ▸ h1.1)
  refine ⟨rfl, rfl, obsOf_ok, by simp [progOf, obsOf], by simp [progOf, obsOf], rfl, by omega, obsOf_ok, by simp [graphOf, obsOf], by simp [graphOf], fun b hb => ?_⟩
  simp [graphOf] at hb
  subst hb
  refine ⟨Or.inr (Or.inr rfl), ⟨by simp, by simp [graphOf]⟩, ⟨by simp, by simp [graphOf]⟩, fun _ => names_TOk t h2.1 h1.2, fun x hx => ?_⟩
  simp [stepsOf] at hx
  rcases hx with rfl | rfl
  · exact ⟨by simp [TsOk], ⟨0, rfl, by omega⟩, Or.inr ⟨rfl, rfl⟩⟩
  · refine ⟨?_, ⟨1, rfl, by omega⟩, Or.inl ⟨rfl, rfl⟩⟩
    simp [TsOk, TOk, locT, kidsN, graphOf, obsOf, progOf]

/-- A folded tree's program may be where the tree's may, and comes to the same wherever the tree came to a number. -/
theorem fold_with {t : T} (h : (withC 2 2 2 t).2 = true) : (withC 2 2 2 (foldT t)).2 = true := by
  have h1 : (treeC t).2 = true ∧ namesB 2 2 2 t = true := by unfold withC at h; simpa using h
  have h2 := may_iff.1 (treeC_iff ▸ h1.1)
  unfold withC
  simp only [Bool.and_eq_true]
  refine ⟨treeC_iff ▸ may_iff.2 ⟨fold_ok t h2.1, Nat.le_trans (fold_size t) h2.2⟩, fold_names t h1.2⟩
theorem fold_out {t : T} {n : Int} (h : (withC 2 2 2 t).2 = true) (hi : TIn t) (hn : In64 n) (hk : (outOf n t).kind = 1) : outOf n (foldT t) = outOf n t := by
  have h1 : (treeC t).2 = true ∧ namesB 2 2 2 t = true := by unfold withC at h; simpa using h
  have h2 := may_iff.1 (treeC_iff ▸ h1.1)
  unfold outOf at hk ⊢
  cases he : evalT memB (tpOf n) [3, 4] t with
  | none => rw [he] at hk; simp at hk
  | some v =>
    rw [fold_eval memB_ok (frB_ok hn) t h2.1 hi (names_TOk t h2.1 h1.2) he]
end Go.Proofs.Ytjkgpolikpochaa
namespace Go.Proofs.Ytjkgpolikpochaa
open Go.RowKit

def unlisted (n : Nat) (listed : Array Bool) : Nat := ((List.range n).filter fun j => !listed.getD j true).length
theorem filter_le_of {α : Type} {p q : α → Bool} : ∀ (l : List α), (∀ x, q x = true → p x = true) → (l.filter q).length ≤ (l.filter p).length
  | [], _ => by simp
  | x :: l, h => by
    have ih := filter_le_of l h
    cases hq : q x
    · rw [List.filter_cons_of_neg (by simp [hq])]
      cases hp : p x
      · rw [List.filter_cons_of_neg (by simp [hp])]; exact ih
      · rw [List.filter_cons_of_pos hp]; simp; omega
    · rw [List.filter_cons_of_pos hq, List.filter_cons_of_pos (h x hq)]; simpa using ih
theorem filter_lt_of {α : Type} {p q : α → Bool} : ∀ (l : List α) (y : α), (∀ x, q x = true → p x = true) → y ∈ l → p y = true → q y = false → (l.filter q).length < (l.filter p).length
  | [], y, _, hy, _, _ => by simp at hy
  | x :: l, y, h, hy, hp, hq => by
    by_cases hxy : x = y
    · subst hxy
      rw [List.filter_cons_of_pos hp, List.filter_cons_of_neg (by simp [hq])]
      have := filter_le_of l h
      simp
      omega
    · have hy' : y ∈ l := by rcases List.mem_cons.1 hy with h | h; exact absurd h.symm hxy; exact h
      have ih := filter_lt_of l y h hy' hp hq
      cases hq' : q x
      · rw [List.filter_cons_of_neg (by simp [hq'])]
        cases hp' : p x
        · rw [List.filter_cons_of_neg (by simp [hp'])]; exact ih
        · rw [List.filter_cons_of_pos hp']; simp; omega
      · rw [List.filter_cons_of_pos hq', List.filter_cons_of_pos (h x hq')]; simpa using ih
theorem unlisted_set {n i : Nat} {listed : Array Bool} (hi : i < n) (h : listed.getD i true = false) : unlisted n (listed.setIfInBounds i true) < unlisted n listed := by
  refine filter_lt_of _ i (fun x hx => ?_) (List.mem_range.2 hi) (by simp [h]) ?_
  · by_cases hxi : i = x
    · subst hxi; simp [h]
    · rw [getD_set_ne true hxi] at hx; exact hx
  · have hlt : i < listed.size := by
      rcases Nat.lt_or_ge i listed.size with h' | h'
      · exact h'
      · simp [Array.getD, Nat.not_lt.2 h'] at h
    simp [Array.getD, hlt]

theorem wpAny_inv {P : Program} {md : Region.Mode} {ops : Array Oper} {Q : Exit → Act → World → Prop} (Inv : Array Bool → Act → World → Prop)
    (hstep : ∀ listed a w i, i ∈ Region.ready md ops listed → Inv listed a w → wpOp P ops Q i (fun a' w' => Inv (listed.setIfInBounds i true) a' w') a w)
    (hend : ∀ listed a w, Region.ready md ops listed = [] → Inv listed a w → Q .normal a w) :
    ∀ (fuel : Nat) (listed : Array Bool) (a : Act) (w : World), unlisted ops.size listed ≤ fuel → Inv listed a w → wpAny P md ops Q fuel listed a w
  | 0, listed, a, w, hf, h => by
    have hr : Region.ready md ops listed = [] := by
      cases hr : Region.ready md ops listed with
      | nil => rfl
      | cons i l =>
        have hm : i ∈ Region.ready md ops listed := by rw [hr]; simp
        obtain ⟨h1, o, ho, _⟩ := mem_ready.1 hm
        have hlt : i < ops.size := by
          rcases Nat.lt_or_ge i ops.size with h' | h'
          · exact h'
          · rw [Array.getElem?_eq_none h'] at ho; cases ho
        have := unlisted_set hlt h1
        omega
    exact ⟨hr, hend listed a w hr h⟩
  | fuel + 1, listed, a, w, hf, h => by
    refine ⟨fun hr => hend listed a w hr h, fun i hi => ?_⟩
    obtain ⟨h1, o, ho, _⟩ := mem_ready.1 hi
    have hlt : i < ops.size := by
      rcases Nat.lt_or_ge i ops.size with h' | h'
      · exact h'
      · rw [Array.getElem?_eq_none h'] at ho; cases ho
    have hu := unlisted_set hlt h1
    exact wpOp_mono (fun a' w' h' => wpAny_inv Inv hstep hend fuel _ a' w' (by omega) h') (hstep listed a w i hi h)

/-- The region's rule: 'Inv': what holds when so many operations have been done. -/
theorem wp_region_inv {P : Program} {id : Nat} {Q : Exit → Act → World → Prop} {a : Act} {w : World} {l : List Oper} (hm : P.follows .mixedOrders = true) (Inv : Array Bool → Act → World → Prop)
    (h0 : Inv (Array.replicate l.toArray.size false) a w.drew)
    (hstep : ∀ listed a w i, i ∈ Region.ready .any l.toArray listed → Inv listed a w → wpOp P l.toArray Q i (fun a' w' => Inv (listed.setIfInBounds i true) a' w') a w)
    (hend : ∀ listed a w, Region.ready .any l.toArray listed = [] → Inv listed a w → Q .normal a w) : (Code.region id l.toArray true).wp P Q a w :=
  wp_region_any hm (wpAny_inv Inv hstep hend _ _ _ _ (by unfold unlisted; exact Nat.le_trans (List.length_filter_le _ _) (by simp)) h0)
/-- Nothing is ready: an operation all of whose forerunners are done is done. -/
theorem flag_of {md : Region.Mode} {ops : Array Oper} {L : Array Bool} {j : Nat} {o : Oper} (hj : j < L.size) (hr : Region.ready md ops L = []) (ho : ops[j]? = some o) (hd : ∀ e ∈ o.after, L.getD e.on false = true) : L.getD j false = true := by
  cases h : L.getD j true with
  | false =>
    have : j ∈ Region.ready md ops L := mem_ready.2 ⟨h, o, ho, fun e he _ => hd e he⟩
    rw [hr] at this
    cases this
  | true => simp [Array.getD, hj] at h ⊢; exact h
/-- One operation without a guard, what follows behind a letter. -/
theorem wpOp_plain {P : Program} {ops : Array Oper} {Q : Exit → Act → World → Prop} {i : Nat} {o : Oper} {a : Act} {w : World} {K : Act → World → Prop} (ho : ops[i]? = some o) (hg : o.guard = none)
    (h : ∀ K' : Act → World → Prop, (∀ a w, K a w → K' a w) → o.wp P a w K' Q) : wpOp P ops Q i K a w := by
  unfold wpOp
  rw [ho]
  simp only
  rw [if_pos (by simp [Region.wanted, hg])]
  exact Or.inl (h K (fun _ _ h => h))
end Go.Proofs.Ytjkgpolikpochaa
namespace Go.Proofs.Ytjkgpolikpochaa
open Go.RowKit

theorem ls_set {L : Array Bool} {i j : Nat} (h : (L.setIfInBounds i true).getD j false = true) : j = i ∨ L.getD j false = true := by
  by_cases hij : i = j
  · exact Or.inl hij.symm
  · rw [getD_set_ne false hij] at h; exact Or.inr h

/-- What holds when so many of the operations have been done. -/
structure SJ (w : World) (a b : Int) (A : Option Addr) (an ac : Nat) (a' b' : Int) (A' : Option Addr) (an' ac' : Nat) (L : Array Bool) (y7 y8 y10 y11 y12 y13 : Value) (lo1 hi1 lo2 hi2 p7 p8 : Nat) (P1 P2 : Value × Value × Value) (W : World) : Prop where
  r0 : Row W w.heap.size #[.int .i64 a, .int .i64 b, .slice A an ac] 28
  r1 : Row W (w.heap.size + 1) #[.int .i64 a', .int .i64 b', .slice A' an' ac'] 28
  below : Below w.heap.size w W
  l0 : L.getD 0 false = true → y10 = .agg #[.int .i64 a, .int .i64 b, .slice A an ac]
  l2 : L.getD 2 false = true → y12 = .agg #[.int .i64 a', .int .i64 b', .slice A' an' ac']
  c1 : L.getD 1 false = true → y11 = .agg #[P1.1, P1.2.1, P1.2.2] ∧ PrgRows W lo1 hi1 a b A an ac P1 ∧ w.heap.size + 2 ≤ lo1 ∧ lo1 ≤ hi1 ∧ hi1 ≤ W.heap.size
  c3 : L.getD 3 false = true → y13 = .agg #[P2.1, P2.2.1, P2.2.2] ∧ PrgRows W lo2 hi2 a' b' A' an' ac' P2 ∧ w.heap.size + 2 ≤ lo2 ∧ lo2 ≤ hi2 ∧ hi2 ≤ W.heap.size
  a4 : L.getD 4 false = true → y7 = .pointer (some ⟨p7, 0, none⟩) ∧ w.heap.size + 2 ≤ p7 ∧ p7 < W.heap.size ∧ ∃ cs, Row W p7 cs 54 ∧ cs.size = 3 ∧ (L.getD 6 false = true → cs = #[P1.1, P1.2.1, P1.2.2])
  a5 : L.getD 5 false = true → y8 = .pointer (some ⟨p8, 0, none⟩) ∧ w.heap.size + 2 ≤ p8 ∧ p8 < W.heap.size ∧ ∃ cs, Row W p8 cs 54 ∧ cs.size = 3 ∧ (L.getD 7 false = true → cs = #[P2.1, P2.2.1, P2.2.2])
  x14 : L.getD 1 false = true → L.getD 4 false = true → p7 < lo1 ∨ hi1 ≤ p7
  x34 : L.getD 3 false = true → L.getD 4 false = true → p7 < lo2 ∨ hi2 ≤ p7
  x15 : L.getD 1 false = true → L.getD 5 false = true → p8 < lo1 ∨ hi1 ≤ p8
  x35 : L.getD 3 false = true → L.getD 5 false = true → p8 < lo2 ∨ hi2 ≤ p8
  x45 : L.getD 4 false = true → L.getD 5 false = true → p7 ≠ p8
  d6 : L.getD 6 false = true → L.getD 1 false = true
  d7 : L.getD 7 false = true → L.getD 3 false = true
  d64 : L.getD 6 false = true → L.getD 4 false = true
  d75 : L.getD 7 false = true → L.getD 5 false = true

section
variable {w W W' : World} {a b : Int} {A : Option Addr} {an ac : Nat} {a' b' : Int} {A' : Option Addr} {an' ac' : Nat} {L : Array Bool} {y7 y8 y10 y11 y12 y13 : Value} {lo1 hi1 lo2 hi2 p7 p8 : Nat} {P1 P2 : Value × Value × Value}
theorem SJ.grow (h : SJ w a b A an ac a' b' A' an' ac' L y7 y8 y10 y11 y12 y13 lo1 hi1 lo2 hi2 p7 p8 P1 P2 W) (hb : Below W.heap.size W W') : SJ w a b A an ac a' b' A' an' ac' L y7 y8 y10 y11 y12 y13 lo1 hi1 lo2 hi2 p7 p8 P1 P2 W' := by
  have hz := hb.size
  have hw := h.below.size
  exact { h with
    r0 := h.r0.below hb h.r0.lt, r1 := h.r1.below hb h.r1.lt, below := h.below.trans (hb.mono hw)
    c1 := fun hl => by obtain ⟨e, r, x, y, z⟩ := h.c1 hl; exact ⟨e, r.wr (F := fun _ => False) (Wr.of_below hb) (fun _ h => h.elim), x, y, by omega⟩
    c3 := fun hl => by obtain ⟨e, r, x, y, z⟩ := h.c3 hl; exact ⟨e, r.wr (F := fun _ => False) (Wr.of_below hb) (fun _ h => h.elim), x, y, by omega⟩
    a4 := fun hl => by obtain ⟨e, x, y, cs, r, s, t⟩ := h.a4 hl; exact ⟨e, x, by omega, cs, r.below hb y, s, t⟩
    a5 := fun hl => by obtain ⟨e, x, y, cs, r, s, t⟩ := h.a5 hl; exact ⟨e, x, by omega, cs, r.below hb y, s, t⟩ }
theorem SJ.start (W : World) (h0 : Row W w.heap.size #[.int .i64 a, .int .i64 b, .slice A an ac] 28) (h1 : Row W (w.heap.size + 1) #[.int .i64 a', .int .i64 b', .slice A' an' ac'] 28) (h2 : Below w.heap.size w W) :
    SJ w a b A an ac a' b' A' an' ac' (Array.replicate 8 false) y7 y8 y10 y11 y12 y13 lo1 hi1 lo2 hi2 p7 p8 P1 P2 W := by
  have hf : ∀ j, (Array.replicate 8 false).getD j false = true → False := fun j h => by
    rcases Nat.lt_or_ge j 8 with hj | hj
    · simp [Array.getD, hj] at h
    · simp [Array.getD, Nat.not_lt.2 hj] at h
  exact ⟨h0, h1, h2, fun h => (hf _ h).elim, fun h => (hf _ h).elim, fun h => (hf _ h).elim, fun h => (hf _ h).elim, fun h => (hf _ h).elim, fun h => (hf _ h).elim, fun h => (hf _ h).elim, fun h => (hf _ h).elim, fun h => (hf _ h).elim, fun h => (hf _ h).elim, fun h => (hf _ h).elim, fun h => (hf _ h).elim, fun h => (hf _ h).elim, fun h => (hf _ h).elim, fun h => (hf _ h).elim⟩

theorem ne_of_true {j : Nat} (h0 : L.getD j true = false) (h : L.getD j false = true) : False := by
  rcases Nat.lt_or_ge j L.size with hj | hj
  · simp [Array.getD, hj] at h h0; rw [h0] at h; cases h
  · simp [Array.getD, Nat.not_lt.2 hj] at h
/-- A flag that is no matter of this operation. -/
theorem ls_ne {i j : Nat} (h : (L.setIfInBounds i true).getD j false = true) (hij : j ≠ i) : L.getD j false = true := (ls_set h).resolve_left hij

theorem SJ.load0 (h : SJ w a b A an ac a' b' A' an' ac' L y7 y8 y10 y11 y12 y13 lo1 hi1 lo2 hi2 p7 p8 P1 P2 W) : SJ w a b A an ac a' b' A' an' ac' (L.setIfInBounds 0 true) y7 y8 (.agg #[.int .i64 a, .int .i64 b, .slice A an ac]) y11 y12 y13 lo1 hi1 lo2 hi2 p7 p8 P1 P2 W :=
  ⟨h.r0, h.r1, h.below, fun _ => rfl, fun g => h.l2 (ls_ne g (by omega)), fun g => h.c1 (ls_ne g (by omega)), fun g => h.c3 (ls_ne g (by omega)), fun g => by obtain ⟨e, x, y, cs, r, s, t⟩ := h.a4 (ls_ne g (by omega)); exact ⟨e, x, y, cs, r, s, fun g' => t (ls_ne g' (by omega))⟩, fun g => by obtain ⟨e, x, y, cs, r, s, t⟩ := h.a5 (ls_ne g (by omega)); exact ⟨e, x, y, cs, r, s, fun g' => t (ls_ne g' (by omega))⟩,
    fun g g' => h.x14 (ls_ne g (by omega)) (ls_ne g' (by omega)), fun g g' => h.x34 (ls_ne g (by omega)) (ls_ne g' (by omega)), fun g g' => h.x15 (ls_ne g (by omega)) (ls_ne g' (by omega)), fun g g' => h.x35 (ls_ne g (by omega)) (ls_ne g' (by omega)), fun g g' => h.x45 (ls_ne g (by omega)) (ls_ne g' (by omega)),
    fun g => by rw [getD_set_ne false (by omega)]; exact h.d6 (ls_ne g (by omega)), fun g => by rw [getD_set_ne false (by omega)]; exact h.d7 (ls_ne g (by omega)), fun g => by rw [getD_set_ne false (by omega)]; exact h.d64 (ls_ne g (by omega)), fun g => by rw [getD_set_ne false (by omega)]; exact h.d75 (ls_ne g (by omega))⟩
end
end Go.Proofs.Ytjkgpolikpochaa
namespace Go.Proofs.Ytjkgpolikpochaa
open Go.RowKit
section
variable {w W W' : World} {a b : Int} {A : Option Addr} {an ac : Nat} {a' b' : Int} {A' : Option Addr} {an' ac' : Nat} {L : Array Bool} {y7 y8 y10 y11 y12 y13 : Value} {lo1 hi1 lo2 hi2 p7 p8 : Nat} {P1 P2 : Value × Value × Value}
theorem ls_self {i : Nat} (hsz : L.size = 8) (hi : i < 8) : (L.setIfInBounds i true).getD i false = true := by
  simp [Array.getD, hsz, hi]
theorem SJ.load2 (h : SJ w a b A an ac a' b' A' an' ac' L y7 y8 y10 y11 y12 y13 lo1 hi1 lo2 hi2 p7 p8 P1 P2 W) (hsz : L.size = 8) : SJ w a b A an ac a' b' A' an' ac' (L.setIfInBounds 2 true) y7 y8 y10 y11 (.agg #[.int .i64 a', .int .i64 b', .slice A' an' ac']) y13 lo1 hi1 lo2 hi2 p7 p8 P1 P2 W :=
  ⟨h.r0,
    h.r1,
    h.below,
    fun g => h.l0 (ls_ne g (by omega)),
    fun _ => rfl,
    fun g => h.c1 (ls_ne g (by omega)),
    fun g => h.c3 (ls_ne g (by omega)),
    fun g => by obtain ⟨e, x, y, cs, r, s, t⟩ := h.a4 (ls_ne g (by omega)); exact ⟨e, x, y, cs, r, s, fun g' => t (ls_ne g' (by omega))⟩,
    fun g => by obtain ⟨e, x, y, cs, r, s, t⟩ := h.a5 (ls_ne g (by omega)); exact ⟨e, x, y, cs, r, s, fun g' => t (ls_ne g' (by omega))⟩,
    fun g g' => h.x14 (ls_ne g (by omega)) (ls_ne g' (by omega)),
    fun g g' => h.x34 (ls_ne g (by omega)) (ls_ne g' (by omega)),
    fun g g' => h.x15 (ls_ne g (by omega)) (ls_ne g' (by omega)),
    fun g g' => h.x35 (ls_ne g (by omega)) (ls_ne g' (by omega)),
    fun g g' => h.x45 (ls_ne g (by omega)) (ls_ne g' (by omega)),
    fun g => by rw [getD_set_ne false (by omega)]; exact h.d6 (ls_ne g (by omega)),
    fun g => by rw [getD_set_ne false (by omega)]; exact h.d7 (ls_ne g (by omega)),
    fun g => by rw [getD_set_ne false (by omega)]; exact h.d64 (ls_ne g (by omega)),
    fun g => by rw [getD_set_ne false (by omega)]; exact h.d75 (ls_ne g (by omega))⟩
theorem SJ.call1 (h : SJ w a b A an ac a' b' A' an' ac' L y7 y8 y10 y11 y12 y13 lo1 hi1 lo2 hi2 p7 p8 P1 P2 W) (hsz : L.size = 8) (hn : L.getD 1 true = false) {P : Value × Value × Value} (hb : Below W.heap.size W W') (hP : PrgRows W' W.heap.size W'.heap.size a b A an ac P) : SJ w a b A an ac a' b' A' an' ac' (L.setIfInBounds 1 true) y7 y8 y10 (.agg #[P.1, P.2.1, P.2.2]) y12 y13 W.heap.size W'.heap.size lo2 hi2 p7 p8 P P2 W' :=
  ⟨(h.grow hb).r0,
    (h.grow hb).r1,
    (h.grow hb).below,
    fun g => (h.grow hb).l0 (ls_ne g (by omega)),
    fun g => (h.grow hb).l2 (ls_ne g (by omega)),
    fun _ => ⟨rfl, hP, by have := h.r1.lt; omega, hb.size, Nat.le_refl _⟩,
    fun g => (h.grow hb).c3 (ls_ne g (by omega)),
    fun g => by obtain ⟨e, x, y, cs, r, s, t⟩ := (h.grow hb).a4 (ls_ne g (by omega)); exact ⟨e, x, y, cs, r, s, fun g' => (ne_of_true hn (h.d6 (ls_ne g' (by omega)))).elim⟩,
    fun g => by obtain ⟨e, x, y, cs, r, s, t⟩ := (h.grow hb).a5 (ls_ne g (by omega)); exact ⟨e, x, y, cs, r, s, fun g' => t (ls_ne g' (by omega))⟩,
    fun g g' => Or.inl (h.a4 (ls_ne g' (by omega))).2.2.1,
    fun g g' => (h.grow hb).x34 (ls_ne g (by omega)) (ls_ne g' (by omega)),
    fun g g' => Or.inl (h.a5 (ls_ne g' (by omega))).2.2.1,
    fun g g' => (h.grow hb).x35 (ls_ne g (by omega)) (ls_ne g' (by omega)),
    fun g g' => (h.grow hb).x45 (ls_ne g (by omega)) (ls_ne g' (by omega)),
    fun _ => ls_self hsz (by omega),
    fun g => by rw [getD_set_ne false (by omega)]; exact (h.grow hb).d7 (ls_ne g (by omega)),
    fun g => by rw [getD_set_ne false (by omega)]; exact (h.grow hb).d64 (ls_ne g (by omega)),
    fun g => by rw [getD_set_ne false (by omega)]; exact (h.grow hb).d75 (ls_ne g (by omega))⟩
theorem SJ.call3 (h : SJ w a b A an ac a' b' A' an' ac' L y7 y8 y10 y11 y12 y13 lo1 hi1 lo2 hi2 p7 p8 P1 P2 W) (hsz : L.size = 8) (hn : L.getD 3 true = false) {P : Value × Value × Value} (hb : Below W.heap.size W W') (hP : PrgRows W' W.heap.size W'.heap.size a' b' A' an' ac' P) : SJ w a b A an ac a' b' A' an' ac' (L.setIfInBounds 3 true) y7 y8 y10 y11 y12 (.agg #[P.1, P.2.1, P.2.2]) lo1 hi1 W.heap.size W'.heap.size p7 p8 P1 P W' :=
  ⟨(h.grow hb).r0,
    (h.grow hb).r1,
    (h.grow hb).below,
    fun g => (h.grow hb).l0 (ls_ne g (by omega)),
    fun g => (h.grow hb).l2 (ls_ne g (by omega)),
    fun g => (h.grow hb).c1 (ls_ne g (by omega)),
    fun _ => ⟨rfl, hP, by have := h.r1.lt; omega, hb.size, Nat.le_refl _⟩,
    fun g => by obtain ⟨e, x, y, cs, r, s, t⟩ := (h.grow hb).a4 (ls_ne g (by omega)); exact ⟨e, x, y, cs, r, s, fun g' => t (ls_ne g' (by omega))⟩,
    fun g => by obtain ⟨e, x, y, cs, r, s, t⟩ := (h.grow hb).a5 (ls_ne g (by omega)); exact ⟨e, x, y, cs, r, s, fun g' => (ne_of_true hn (h.d7 (ls_ne g' (by omega)))).elim⟩,
    fun g g' => (h.grow hb).x14 (ls_ne g (by omega)) (ls_ne g' (by omega)),
    fun g g' => Or.inl (h.a4 (ls_ne g' (by omega))).2.2.1,
    fun g g' => (h.grow hb).x15 (ls_ne g (by omega)) (ls_ne g' (by omega)),
    fun g g' => Or.inl (h.a5 (ls_ne g' (by omega))).2.2.1,
    fun g g' => (h.grow hb).x45 (ls_ne g (by omega)) (ls_ne g' (by omega)),
    fun g => by rw [getD_set_ne false (by omega)]; exact (h.grow hb).d6 (ls_ne g (by omega)),
    fun _ => ls_self hsz (by omega),
    fun g => by rw [getD_set_ne false (by omega)]; exact (h.grow hb).d64 (ls_ne g (by omega)),
    fun g => by rw [getD_set_ne false (by omega)]; exact (h.grow hb).d75 (ls_ne g (by omega))⟩
theorem SJ.alloc4 (h : SJ w a b A an ac a' b' A' an' ac' L y7 y8 y10 y11 y12 y13 lo1 hi1 lo2 hi2 p7 p8 P1 P2 W) (hsz : L.size = 8) (hn : L.getD 4 true = false) (hb : Below W.heap.size W W') (hr : Row W' W.heap.size #[.slice none 0 0, .slice none 0 0, .int .i64 0] 54) : SJ w a b A an ac a' b' A' an' ac' (L.setIfInBounds 4 true) (.pointer (some ⟨W.heap.size, 0, none⟩)) y8 y10 y11 y12 y13 lo1 hi1 lo2 hi2 W.heap.size p8 P1 P2 W' :=
  ⟨(h.grow hb).r0,
    (h.grow hb).r1,
    (h.grow hb).below,
    fun g => (h.grow hb).l0 (ls_ne g (by omega)),
    fun g => (h.grow hb).l2 (ls_ne g (by omega)),
    fun g => (h.grow hb).c1 (ls_ne g (by omega)),
    fun g => (h.grow hb).c3 (ls_ne g (by omega)),
    fun _ => ⟨rfl, by have := h.r1.lt; omega, hr.lt, _, hr, rfl, fun g' => (ne_of_true hn (h.d64 (ls_ne g' (by omega)))).elim⟩,
    fun g => by obtain ⟨e, x, y, cs, r, s, t⟩ := (h.grow hb).a5 (ls_ne g (by omega)); exact ⟨e, x, y, cs, r, s, fun g' => t (ls_ne g' (by omega))⟩,
    fun g g' => Or.inr (h.c1 (ls_ne g (by omega))).2.2.2.2,
    fun g g' => Or.inr (h.c3 (ls_ne g (by omega))).2.2.2.2,
    fun g g' => (h.grow hb).x15 (ls_ne g (by omega)) (ls_ne g' (by omega)),
    fun g g' => (h.grow hb).x35 (ls_ne g (by omega)) (ls_ne g' (by omega)),
    fun g g' e => by have := (h.a5 (ls_ne g' (by omega))).2.2.1; omega,
    fun g => by rw [getD_set_ne false (by omega)]; exact (h.grow hb).d6 (ls_ne g (by omega)),
    fun g => by rw [getD_set_ne false (by omega)]; exact (h.grow hb).d7 (ls_ne g (by omega)),
    fun _ => ls_self hsz (by omega),
    fun g => by rw [getD_set_ne false (by omega)]; exact (h.grow hb).d75 (ls_ne g (by omega))⟩
theorem SJ.alloc5 (h : SJ w a b A an ac a' b' A' an' ac' L y7 y8 y10 y11 y12 y13 lo1 hi1 lo2 hi2 p7 p8 P1 P2 W) (hsz : L.size = 8) (hn : L.getD 5 true = false) (hb : Below W.heap.size W W') (hr : Row W' W.heap.size #[.slice none 0 0, .slice none 0 0, .int .i64 0] 54) : SJ w a b A an ac a' b' A' an' ac' (L.setIfInBounds 5 true) y7 (.pointer (some ⟨W.heap.size, 0, none⟩)) y10 y11 y12 y13 lo1 hi1 lo2 hi2 p7 W.heap.size P1 P2 W' :=
  ⟨(h.grow hb).r0,
    (h.grow hb).r1,
    (h.grow hb).below,
    fun g => (h.grow hb).l0 (ls_ne g (by omega)),
    fun g => (h.grow hb).l2 (ls_ne g (by omega)),
    fun g => (h.grow hb).c1 (ls_ne g (by omega)),
    fun g => (h.grow hb).c3 (ls_ne g (by omega)),
    fun g => by obtain ⟨e, x, y, cs, r, s, t⟩ := (h.grow hb).a4 (ls_ne g (by omega)); exact ⟨e, x, y, cs, r, s, fun g' => t (ls_ne g' (by omega))⟩,
    fun _ => ⟨rfl, by have := h.r1.lt; omega, hr.lt, _, hr, rfl, fun g' => (ne_of_true hn (h.d75 (ls_ne g' (by omega)))).elim⟩,
    fun g g' => (h.grow hb).x14 (ls_ne g (by omega)) (ls_ne g' (by omega)),
    fun g g' => (h.grow hb).x34 (ls_ne g (by omega)) (ls_ne g' (by omega)),
    fun g g' => Or.inr (h.c1 (ls_ne g (by omega))).2.2.2.2,
    fun g g' => Or.inr (h.c3 (ls_ne g (by omega))).2.2.2.2,
    fun g g' e => by have := (h.a4 (ls_ne g (by omega))).2.2.1; omega,
    fun g => by rw [getD_set_ne false (by omega)]; exact (h.grow hb).d6 (ls_ne g (by omega)),
    fun g => by rw [getD_set_ne false (by omega)]; exact (h.grow hb).d7 (ls_ne g (by omega)),
    fun g => by rw [getD_set_ne false (by omega)]; exact (h.grow hb).d64 (ls_ne g (by omega)),
    fun _ => ls_self hsz (by omega)⟩
theorem SJ.store6 (h : SJ w a b A an ac a' b' A' an' ac' L y7 y8 y10 y11 y12 y13 lo1 hi1 lo2 hi2 p7 p8 P1 P2 W) (hsz : L.size = 8) (hd1 : L.getD 1 false = true) (hd2 : L.getD 4 false = true) (hw : Wr (fun i => i = p7) W W') (hr : Row W' p7 #[P1.1, P1.2.1, P1.2.2] 54) : SJ w a b A an ac a' b' A' an' ac' (L.setIfInBounds 6 true) y7 y8 y10 y11 y12 y13 lo1 hi1 lo2 hi2 p7 p8 P1 P2 W' :=
  ⟨h.r0.wr hw (by have := (h.a4 hd2).2.1; omega),
    h.r1.wr hw (by have := (h.a4 hd2).2.1; omega),
    h.below.trans (hw.below h.below.size (fun i hi => by have := (h.a4 hd2).2.1; omega)),
    fun g => h.l0 (ls_ne g (by omega)),
    fun g => h.l2 (ls_ne g (by omega)),
    fun g => by obtain ⟨e, r, x, y, z⟩ := h.c1 (ls_ne g (by omega)); exact ⟨e, r.wr hw (fun i hi => hi ▸ h.x14 (ls_ne g (by omega)) hd2), x, y, by have := hw.size; omega⟩,
    fun g => by obtain ⟨e, r, x, y, z⟩ := h.c3 (ls_ne g (by omega)); exact ⟨e, r.wr hw (fun i hi => hi ▸ h.x34 (ls_ne g (by omega)) hd2), x, y, by have := hw.size; omega⟩,
    fun g => by obtain ⟨e, x, y, cs, r, s, t⟩ := h.a4 hd2; exact ⟨e, x, hr.lt, _, hr, rfl, fun _ => rfl⟩,
    fun g => by obtain ⟨e, x, y, cs, r, s, t⟩ := h.a5 (ls_ne g (by omega)); exact ⟨e, x, by have := hw.size; omega, cs, r.wr hw (fun e => h.x45 hd2 (ls_ne g (by omega)) e.symm), s, fun g' => t (ls_ne g' (by omega))⟩,
    fun g g' => h.x14 (ls_ne g (by omega)) (ls_ne g' (by omega)),
    fun g g' => h.x34 (ls_ne g (by omega)) (ls_ne g' (by omega)),
    fun g g' => h.x15 (ls_ne g (by omega)) (ls_ne g' (by omega)),
    fun g g' => h.x35 (ls_ne g (by omega)) (ls_ne g' (by omega)),
    fun g g' => h.x45 (ls_ne g (by omega)) (ls_ne g' (by omega)),
    fun _ => by rw [getD_set_ne false (by omega)]; exact hd1,
    fun g => by rw [getD_set_ne false (by omega)]; exact h.d7 (ls_ne g (by omega)),
    fun _ => by rw [getD_set_ne false (by omega)]; exact hd2,
    fun g => by rw [getD_set_ne false (by omega)]; exact h.d75 (ls_ne g (by omega))⟩
theorem SJ.store7 (h : SJ w a b A an ac a' b' A' an' ac' L y7 y8 y10 y11 y12 y13 lo1 hi1 lo2 hi2 p7 p8 P1 P2 W) (hsz : L.size = 8) (hd1 : L.getD 3 false = true) (hd2 : L.getD 5 false = true) (hw : Wr (fun i => i = p8) W W') (hr : Row W' p8 #[P2.1, P2.2.1, P2.2.2] 54) : SJ w a b A an ac a' b' A' an' ac' (L.setIfInBounds 7 true) y7 y8 y10 y11 y12 y13 lo1 hi1 lo2 hi2 p7 p8 P1 P2 W' :=
  ⟨h.r0.wr hw (by have := (h.a5 hd2).2.1; omega),
    h.r1.wr hw (by have := (h.a5 hd2).2.1; omega),
    h.below.trans (hw.below h.below.size (fun i hi => by have := (h.a5 hd2).2.1; omega)),
    fun g => h.l0 (ls_ne g (by omega)),
    fun g => h.l2 (ls_ne g (by omega)),
    fun g => by obtain ⟨e, r, x, y, z⟩ := h.c1 (ls_ne g (by omega)); exact ⟨e, r.wr hw (fun i hi => hi ▸ h.x15 (ls_ne g (by omega)) hd2), x, y, by have := hw.size; omega⟩,
    fun g => by obtain ⟨e, r, x, y, z⟩ := h.c3 (ls_ne g (by omega)); exact ⟨e, r.wr hw (fun i hi => hi ▸ h.x35 (ls_ne g (by omega)) hd2), x, y, by have := hw.size; omega⟩,
    fun g => by obtain ⟨e, x, y, cs, r, s, t⟩ := h.a4 (ls_ne g (by omega)); exact ⟨e, x, by have := hw.size; omega, cs, r.wr hw (fun e => h.x45 (ls_ne g (by omega)) hd2 e), s, fun g' => t (ls_ne g' (by omega))⟩,
    fun g => by obtain ⟨e, x, y, cs, r, s, t⟩ := h.a5 hd2; exact ⟨e, x, hr.lt, _, hr, rfl, fun _ => rfl⟩,
    fun g g' => h.x14 (ls_ne g (by omega)) (ls_ne g' (by omega)),
    fun g g' => h.x34 (ls_ne g (by omega)) (ls_ne g' (by omega)),
    fun g g' => h.x15 (ls_ne g (by omega)) (ls_ne g' (by omega)),
    fun g g' => h.x35 (ls_ne g (by omega)) (ls_ne g' (by omega)),
    fun g g' => h.x45 (ls_ne g (by omega)) (ls_ne g' (by omega)),
    fun g => by rw [getD_set_ne false (by omega)]; exact h.d6 (ls_ne g (by omega)),
    fun _ => by rw [getD_set_ne false (by omega)]; exact hd1,
    fun g => by rw [getD_set_ne false (by omega)]; exact h.d64 (ls_ne g (by omega)),
    fun _ => by rw [getD_set_ne false (by omega)]; exact hd2⟩
end
end Go.Proofs.Ytjkgpolikpochaa
namespace Go.Proofs.Ytjkgpolikpochaa
open Go.RowKit

def upd (Y : Nat → Value) (i : Nat) (v : Value) : Nat → Value := fun j => if j = i then v else Y j
theorem upd_self (Y : Nat → Value) (i : Nat) (v : Value) : upd Y i v i = v := by simp [upd]
theorem upd_ne (Y : Nat → Value) {i j : Nat} (v : Value) (h : j ≠ i) : upd Y i v j = Y j := by simp [upd, h]
theorem ls_set' {L : Array Bool} {i j : Nat} (h : (L.setIfInBounds i true).getD j false = true) : j = i ∨ L.getD j false = true := by
  by_cases hij : i = j
  · exact Or.inl hij.symm
  · rw [getD_set_ne false hij] at h; exact Or.inr h

/-- 'Cl W i v': what is known of operation i's result v, at whatever later world W. -/
theorem region_cl {P : Program} {id : Nat} {Q : Exit → Act → World → Prop} {a : Act} {w : World} {l : List Oper} (hm : P.follows .mixedOrders = true) (Cl : World → Nat → Value → Prop) (mk : (Nat → Value) → Act) (Y0 : Nat → Value) (ha : a = mk Y0)
    (hback : l.zipIdx.all (fun x => x.1.after.all fun e => decide (e.on < x.2)) = true)
    (hmono : ∀ W W' i v, Below W.heap.size W W' → Cl W i v → Cl W' i v)
    (hstep : ∀ i o Y W, l[i]? = some o → Below w.heap.size w W → (∀ e ∈ o.after, Region.binds .any e = true → Cl W e.on (Y e.on)) → ∀ K : Act → World → Prop, (∀ v W', Below W.heap.size W W' → Cl W' i v → K (mk (upd Y i v)) W') → wpOp P l.toArray Q i K (mk Y) W)
    (hend : ∀ Y W, Below w.heap.size w W → (∀ i, i < l.length → Cl W i (Y i)) → Q .normal (mk Y) W) : (Code.region id l.toArray true).wp P Q a w := by
  refine wp_region_inv hm (fun L act W => L.size = l.length ∧ ∃ Y, act = mk Y ∧ Below w.heap.size w W ∧ ∀ i, L.getD i false = true → Cl W i (Y i)) ?_ ?_ ?_
  · refine ⟨by simp, Y0, ha, (Below.refl _ _).drew, fun j h => ?_⟩
    rcases Nat.lt_or_ge j l.length with hj | hj
    · simp [Array.getD, hj] at h
    · simp [Array.getD, Nat.not_lt.2 hj] at h
  · rintro L act W i hi ⟨hsz, Y, rfl, hb, hc⟩
    obtain ⟨hn, o, ho, hall⟩ := mem_ready.1 hi
    refine hstep i o Y W (by simpa using ho) hb (fun e he hbd => hc _ (hall e he hbd)) _ (fun v W' hb' hv => ⟨by simp [hsz], upd Y i v, rfl, hb.trans (hb'.mono hb.size), fun j hj => ?_⟩)
    by_cases hji : j = i
    · subst hji; rw [upd_self]; exact hv
    · rw [upd_ne Y v hji]
      exact hmono _ _ _ _ hb' (hc j ((ls_set' hj).resolve_left hji))
  · rintro L act W hr ⟨hsz, Y, rfl, hb, hc⟩
    refine hend Y W hb ?_
    have key : ∀ n i, i < n → i < l.length → L.getD i false = true := by
      intro n
      induction n with
      | zero => intro i h; omega
      | succ n ih =>
        intro i hin hil
        refine flag_of (j := i) (by omega) hr (by simp [hil]; rfl) (fun e he => ?_)
        have hlt : e.on < i := by
          have hx := List.all_eq_true.1 hback (l[i], i) (List.mem_iff_getElem?.2 ⟨i, by simp [hil]⟩)
          exact of_decide_eq_true ((Array.all_eq_true_iff_forall_mem.1 hx) e he)
        exact ih e.on (by omega) (by omega)
    exact fun i hi => hc i (key (i + 1) i (by omega) hi)
end Go.Proofs.Ytjkgpolikpochaa
namespace Go.Proofs.Ytjkgpolikpochaa
open Go.RowKit

set_option maxRecDepth 100000 in
set_option maxHeartbeats 4000000 in
theorem eqLongs_same (l : List Int) (v v' : Value) (b1 b2 : Nat) (w : World) (hv : w.ownsRow b1 2 1 v l.length (l.map (Value.int .i64))) (hu : w.ownsRow b2 2 1 v' l.length (l.map (Value.int .i64))) :
    Calls Try.prog 51 #[v, v'] w fun e w' => e = .returned (.bool true) ∧ Below w.heap.size w w' := by
  obtain ⟨A, c, hvs⟩ : ∃ A c, v = .slice A l.length c := (by obtain ⟨_, h | ⟨g, c, cur, h, _⟩⟩ := hv; exact ⟨none, 0, by rw [h.1, h.2]⟩; exact ⟨_, _, h⟩)
  obtain ⟨A', c', hus⟩ : ∃ A c, v' = .slice A l.length c := (by obtain ⟨_, h | ⟨g, c, cur, h, _⟩⟩ := hu; exact ⟨none, 0, by rw [h.1, h.2]⟩; exact ⟨_, _, h⟩)
  subst hvs hus
  have hlm : l.length ≤ 9223372036854775807 := by
    obtain ⟨_, h | ⟨g, c, cur, _, _, _, h1, h2, _⟩⟩ := hv
    · omega
    · unfold maxLen at h2; omega
  have hb0 : ((l.length : Int) != (l.length : Int)) = false := by simp
  have HV := Lib.hid hv
  have HU := Lib.hid hu
  clear hv hu
  go_enter Try.func51, Try.ntmps51
  go_wp2_with fail
  go_loopw [5] (fun i wr => ∃ k : Nat, k ≤ l.length ∧ i = .int .i64 k ∧ Below w.heap.size w wr) (fun i _ => l.length - (intOf i).toNat)
  case atStart => exact ⟨0, by omega, rfl, Below.refl _ _⟩
  case round =>
    obtain ⟨k, hk2, rfl, hbw⟩ := hrel
    by_cases hlt : k < l.length
    · obtain ⟨x, hx⟩ : ∃ x, l[k]? = some x := ⟨_, List.getElem?_eq_getElem hlt⟩
      obtain ⟨g, rfl, hg⟩ : ∃ g, A = some ⟨g, 0, none⟩ ∧ g < w.heap.size := (by
        obtain ⟨_, h | ⟨g, c, cur, h, _, hh, _⟩⟩ := HV.out
        · omega
        · injection h with h; exact ⟨g, h, Row.lt hh⟩)
      obtain ⟨g', rfl, hg'⟩ : ∃ g, A' = some ⟨g, 0, none⟩ ∧ g < w.heap.size := (by
        obtain ⟨_, h | ⟨g, c, cur, h, _, hh, _⟩⟩ := HU.out
        · omega
        · injection h with h; exact ⟨g, h, Row.lt hh⟩)
      have e1 : wr.cell? ⟨g, k, none⟩ = some (.int .i64 x) := (by
        have := HV.out.cells (g := g) rfl k (.int .i64 x) (by rw [List.getElem?_map, hx]; rfl)
        rw [addr0] at this
        exact cell_below this hbw (by simpa using hg))
      have e2 : wr.cell? ⟨g', k, none⟩ = some (.int .i64 x) := (by
        have := HU.out.cells (g := g') rfl k (.int .i64 x) (by rw [List.getElem?_map, hx]; rfl)
        rw [addr0] at this
        exact cell_below this hbw (by simpa using hg'))
      have hklt : (k : Int) < (l.length : Int) := by omega
      have hxx : (x != x) = false := by simp
      clear hx
      go_wp2_with fail
      go_quiet (fail)
      go_wp2_with fail
      go_roundw
      case rel => exact ⟨k + 1, by omega, by go_num, below_drewN hbw _⟩
      case measure => simp [intOf]; omega
    · obtain rfl : k = l.length := by omega
      go_wp2_with fail
      go_ret
      exact ⟨rfl, hbw⟩

set_option maxRecDepth 100000 in
set_option maxHeartbeats 4000000 in
theorem eqOut_same (o : OutS) (v v' : Value) (b1 b2 : Nat) (w : World) (hv : w.ownsRow b1 2 1 v o.out.length (o.out.map (Value.int .i64))) (hu : w.ownsRow b2 2 1 v' o.out.length (o.out.map (Value.int .i64))) :
    Calls Try.prog 33 #[.agg #[.int .i64 o.kind, .int .i64 o.code, v, .int .i64 o.steps, .int .i64 o.deep], .agg #[.int .i64 o.kind, .int .i64 o.code, v', .int .i64 o.steps, .int .i64 o.deep]] w fun e w' => e = .returned (.bool true) ∧ Below w.heap.size w w' := by
  have e1 : (o.kind == o.kind) = true := by simp
  have e2 : (o.code == o.code) = true := by simp
  have e3 : (o.steps == o.steps) = true := by simp
  have e4 : (o.deep == o.deep) = true := by simp
  have HV := Lib.hid hv
  have HU := Lib.hid hu
  clear hv hu
  go_enter Try.func33, Try.ntmps33
  go_wp2_with fail
  have hb := below2 w (Obj.cells #[.int .i64 o.kind, .int .i64 o.code, v, .int .i64 o.steps, .int .i64 o.deep] 58) (Obj.cells #[.int .i64 o.kind, .int .i64 o.code, v', .int .i64 o.steps, .int .i64 o.deep] 58)
  refine (eqLongs_same o.out v v' b1 b2 _ (own_one (own_one HV.out _) _) (own_one (own_one HU.out _) _)).mono ?_
  rintro e w1 ⟨rfl, hb1⟩
  have c3 : w1.cell? ⟨w.heap.size, 3, none⟩ = some (.int .i64 o.steps) := cell_below (by simp [go_sem]) hb1 (by simp [go_sem])
  have c4 : w1.cell? ⟨w.heap.size, 4, none⟩ = some (.int .i64 o.deep) := cell_below (by simp [go_sem]) hb1 (by simp [go_sem])
  have d3 : w1.cell? ⟨w.heap.size + 1, 3, none⟩ = some (.int .i64 o.steps) := cell_below (by simp [go_sem]) hb1 (by simp [go_sem])
  have d4 : w1.cell? ⟨w.heap.size + 1, 4, none⟩ = some (.int .i64 o.deep) := cell_below (by simp [go_sem]) hb1 (by simp [go_sem])
  have hb2 := hb.trans (hb1.mono (by simp [go_sem]; try omega))
  clear hb hb1
  go_wp2_with fail
  go_ret
  exact ⟨rfl, hb2⟩
end Go.Proofs.Ytjkgpolikpochaa
namespace Go.Proofs.Ytjkgpolikpochaa
open Go.RowKit

/-- What is known of each operation's result. -/
def LastCl (o : OutS) (P2 : Value × Value × Value) (OA : Option Addr) (oc b9 : Nat) (n : Int) (W : World) (i : Nat) (v : Value) : Prop :=
  match i with
  | 0 => v = .pointer (some ⟨b9, 0, none⟩)
  | 1 => v = .int .i64 1
  | 2 => v = .bool false
  | 3 => v = .bool false
  | 4 => v = .agg #[.int .i64 o.kind, .int .i64 o.code, .slice OA o.out.length oc, .int .i64 o.steps, .int .i64 o.deep]
  | 5 => v = .agg #[P2.1, P2.2.1, P2.2.2]
  | 6 => v = .int .i64 n
  | 7 => ∃ g, v = .slice (some ⟨g, 0, none⟩) 1 1 ∧ g < W.heap.size ∧ W.cell? ⟨g, 0, none⟩ = some (.int .i64 n)
  | 8 => ∃ A c B, v = .agg #[.int .i64 o.kind, .int .i64 o.code, .slice A o.out.length c, .int .i64 o.steps, .int .i64 o.deep] ∧ W.ownsRow B 2 1 (.slice A o.out.length c) o.out.length (o.out.map (Value.int .i64))
  | _ => v = .bool true
theorem LastCl.mono {o : OutS} {P2 : Value × Value × Value} {OA : Option Addr} {oc b9 : Nat} {n : Int} {W W' : World} {i : Nat} {v : Value} (hb : Below W.heap.size W W') (h : LastCl o P2 OA oc b9 n W i v) : LastCl o P2 OA oc b9 n W' i v := by
  match i, h with
  | 0, h => exact h
  | 1, h => exact h
  | 2, h => exact h
  | 3, h => exact h
  | 4, h => exact h
  | 5, h => exact h
  | 6, h => exact h
  | 7, h => obtain ⟨g, h1, h2, h3⟩ := h; exact ⟨g, h1, Nat.lt_of_lt_of_le h2 hb.size, cell_below h3 hb h2⟩
  | 8, h =>
    obtain ⟨A, c, B, h1, h2⟩ := h
    refine ⟨A, c, B, h1, ownsRow_wr h2 (F := fun _ => False) (Wr.of_below hb) (fun _ _ h => h)⟩
  | _ + 9, h => exact h
theorem wpOp_wanted {P : Program} {ops : Array Oper} {Q : Exit → Act → World → Prop} {i : Nat} {o : Oper} {a : Act} {w : World} {K : Act → World → Prop} (ho : ops[i]? = some o) (hg : Region.wanted o (yielded ops a.tmps) = true)
    (h : ∀ K' : Act → World → Prop, (∀ a w, K a w → K' a w) → o.wp P a w K' Q) : wpOp P ops Q i K a w := by
  unfold wpOp
  rw [ho]
  simp only
  rw [if_pos hg]
  exact Or.inl (h K (fun _ _ h => h))
end Go.Proofs.Ytjkgpolikpochaa
namespace Go.Proofs.Ytjkgpolikpochaa
open Go.RowKit

def SpoilSaid (m : Nat) : Prop := ∀ (ks : List T) (xs : List Value) (S : Nat → Prop) (lv : Value) (base : Nat) (w : World), T.sizes ks ≤ m → RowAt base w lv ks.length ks xs S →
    Calls Try.prog 18 #[lv] w fun e w' => e = .returned (.tuple #[]) ∧ Wr (fun i => S i ∨ lv.ownBlock = some i) w w'

theorem OwnT.row {w : World} {S : Nat → Prop} {t : T} {v0 v1 v2 : Value} {base : Nat} (h : OwnT w S t v0 v1 v2) (hS : ∀ i, S i → i < w.heap.size) : ∃ xs S', RowAt 0 w v2 t.kids.length t.kids xs S' ∧ (∀ i, S' i ∨ v2.ownBlock = some i → S i) ∧ T.sizes t.kids < t.size := by
  obtain ⟨op, x, ks⟩ := t
  rw [OwnT] at h
  obtain ⟨_, _, _, _, xs, S', h4, h5, h6, h7⟩ := h
  refine ⟨xs, S', ⟨h4, h7, fun i hi => ⟨Nat.zero_le _, hS i (h6 i hi), fun hg => (h5 i hg).2 hi⟩⟩, fun i hi => ?_, by simp [T.kids, T.size]⟩
  rcases hi with hi | hi
  · exact h6 i hi
  · exact (h5 i hi).1

set_option maxRecDepth 100000 in
set_option maxHeartbeats 4000000 in
theorem spoil_all (m : Nat) : SpoilSaid m := by
  induction m with
  | zero =>
    intro ks xs S lv base w hm hR
    have hk : ks = [] := by
      cases ks with
      | nil => rfl
      | cons a l => have := a.size_pos; simp only [T.sizes] at hm; omega
    subst hk
    obtain ⟨_, h | ⟨g, c, cur, h, _⟩⟩ := hR.own
    all_goals
      obtain ⟨A, n, c', hlv⟩ : ∃ A n c, lv = .slice A n c ∧ n = 0 := by first | exact ⟨_, _, _, h.1, rfl⟩ | exact ⟨_, _, _, h, rfl⟩
      obtain ⟨rfl, rfl⟩ := hlv
      clear hR h
      go_enter Try.func18, Try.ntmps18
      go_wp2_with fail
      go_loop [2] (fun i => i = .int .i64 0) (fun _ => 0)
      case atStart => rfl
      case round =>
        obtain rfl := hrel
        go_wp2_with fail
        go_end0
        exact ⟨rfl, Wr.refl _ _⟩
  | succ m ih =>
    intro ks xs S lv base w hm hR
    obtain ⟨hxl, h | ⟨g, cap, cur, hlv, hbg, hh, hc1, hc2, hc3, hc4⟩⟩ := id hR.own
    · obtain ⟨rfl, hn⟩ := h
      clear hR
      go_enter Try.func18, Try.ntmps18
      go_wp2_with fail
      go_loop [2] (fun i => i = .int .i64 0) (fun _ => 0)
      case atStart => rfl
      case round =>
        obtain rfl := hrel
        go_wp2_with fail
        go_end0
        exact ⟨rfl, Wr.refl _ _⟩
    · subst hlv
      have hgS : ¬ S g := fun hs => (hR.sb g hs).2.2 rfl
      have hglt : g < w.heap.size := Row.lt (t := 28) hh
      have HR := Lib.hid hR
      have IH := Lib.hid ih
      have HH := Lib.hid (show Row w g cur 28 from hh)
      have HC4 := Lib.hid hc4
      have hcl : ks.length * 3 ≤ cur.size := by rw [hc3]; exact Nat.mul_le_mul_right _ hc1
      have HC3 := Lib.hid hc3
      have hln : ks.length ≤ 9223372036854775807 := by unfold maxLen at hc2; omega
      clear hR ih hh hc4 hc3
      go_enter Try.func18, Try.ntmps18
      refine wp_letter (fun Q hQ => ?_)
      have HQ := Lib.hid hQ
      clear hQ
      go_wp2_with fail
      go_loopw [2] (fun i wr => ∃ (k : Nat) (cs : Array Value) (S' : Nat → Prop), k ≤ ks.length ∧ i = .int .i64 k ∧ Row wr g cs 28 ∧ cs.size = cur.size ∧ (∀ j, k * 3 ≤ j → cs[j]? = cur[j]?) ∧ OwnL wr S' (ks.drop k) (xs.drop (k * 3)) ∧ (∀ i, S' i → S i) ∧ Wr (fun i => S i ∨ i = g) w wr) (fun i _ => ks.length - (intOf i).toNat)
      case atStart => exact ⟨0, cur, S, by omega, rfl, HH.out, rfl, fun j _ => rfl, by simpa using HR.out.trees, fun i h => h, Wr.refl _ _⟩
      case round =>
        obtain ⟨k, cs, S', hk, rfl, hrow, hcsz, hsame, hO, hSS, hwr⟩ := hrel
        have hzw := hwr.size
        by_cases hlt : k < ks.length
        · obtain ⟨t, ht⟩ : ∃ t, ks[k]? = some t := ⟨_, List.getElem?_eq_getElem hlt⟩
          rw [drop_of ht, OwnL] at hO
          obtain ⟨u0, u1, u2, us, S1, S2, hxs, h1, h2, hT, hL⟩ := hO
          obtain ⟨A2, n2, c2, _, _, hu2, _, _⟩ := hT.shape
          obtain ⟨xs2, S3, hR2, hS3, hsz2⟩ := OwnT.row (base := 0) hT (fun i hi => by have := HR.out.sb i (hSS i (h1 i hi).1); omega)
          have hts := T.sizes_get ht
          have HC := Lib.hid (IH.out t.kids xs2 S3 u2 0 wr (by omega) hR2)
          have hx : ∀ j, xs[k * 3 + j]? = (u0 :: u1 :: u2 :: us)[j]? := fun j => by rw [← hxs, List.getElem?_drop]
          have hcur : ∀ j, j < 3 → cs[k * 3 + j]? = xs[k * 3 + j]? := fun j hj => by
            rw [hsame _ (by omega), ← HC4.out, List.getElem?_take, if_pos (by omega), Array.getElem?_toList]
          have d0 : wr.cell? ⟨g, k * 3, none⟩ = some u0 := hrow.cell (j := k * 3) (by have := (hcur 0 (by omega)).trans (hx 0); simpa using this)
          have d1 : wr.cell? ⟨g, k * 3 + 1, none⟩ = some u1 := hrow.cell (j := k * 3 + 1) (by have := (hcur 1 (by omega)).trans (hx 1); simpa using this)
          have d2 : wr.cell? ⟨g, k * 3 + 2, none⟩ = some u2 := hrow.cell (j := k * 3 + 2) (by have := (hcur 2 (by omega)).trans (hx 2); simpa using this)
          subst hu2
          have hklt : (k : Int) < (ks.length : Int) := by omega
          have hxs' : xs.drop ((k + 1) * 3) = us := by
            rw [show (k + 1) * 3 = k * 3 + 3 by omega, ← List.drop_drop, hxs]; rfl
          have HL := Lib.hid hL
          have HT := Lib.hid (And.intro h1 (And.intro h2 (And.intro hS3 hSS)))
          have HROW := Lib.hid hrow
          have HSAME := Lib.hid hsame
          have HWR := Lib.hid hwr
          have HXS := Lib.hid hxs'
          clear hx hcur hR2 hxs h1 h2 hT hL hS3 hSS hrow hsame hwr hxs' ht hts hsz2
          go_wp2_with fail
          refine HC.out.mono ?_
          rintro e w1 ⟨rfl, hw1⟩
          have hS3g : ∀ i, (S3 i ∨ (Value.slice A2 n2 c2).ownBlock = some i) → S1 i := HT.out.2.2.1
          have hw1' : Wr S1 wr w1 := hw1.mono (fun i hi => Or.inl (hS3g i hi))
          have hg1 : ¬ S1 g := fun h => hgS (HT.out.2.2.2 g (HT.out.1 g h).1)
          have hrow1 := HROW.out.wr hw1' hg1
          have e0 : ∃ u, w1.cell? ⟨g, k * 3, none⟩ = some u := ⟨_, hrow1.cell (Array.getElem?_eq_getElem (by omega))⟩
          have e1 : ∃ u, w1.cell? ⟨g, k * 3 + 1, none⟩ = some u := ⟨_, hrow1.cell (Array.getElem?_eq_getElem (by omega))⟩
          have e2 : ∃ u, w1.cell? ⟨g, k * 3 + 2, none⟩ = some u := ⟨_, hrow1.cell (Array.getElem?_eq_getElem (by omega))⟩
          obtain ⟨y0, e0⟩ := e0
          obtain ⟨y1, e1⟩ := e1
          obtain ⟨y2, e2⟩ := e2
          have f0 := hrow1.free (k * 3)
          have f1 := hrow1.free (k * 3 + 1)
          have f2 := hrow1.free (k * 3 + 2)
          have HROW1 := Lib.hid hrow1
          have HW1 := Lib.hid hw1'
          clear hw1 hw1' hrow1 hS3g
          go_wp2_with fail
          go_roundw
          case rel =>
            have hset : ∀ a b c : Value, Row (((w1.setCell ⟨g, k * 3, none⟩ a).setCell ⟨g, k * 3 + 1, none⟩ b).setCell ⟨g, k * 3 + 2, none⟩ c) g (((cs.setIfInBounds (k * 3) a).setIfInBounds (k * 3 + 1) b).setIfInBounds (k * 3 + 2) c) 28 := fun a b c => ((HROW1.out.set _ _).set _ _).set _ _
            have hw2 : ∀ a b c : Value, Wr (fun i => i = g) w1 (((w1.setCell ⟨g, k * 3, none⟩ a).setCell ⟨g, k * 3 + 1, none⟩ b).setCell ⟨g, k * 3 + 2, none⟩ c) := fun a b c => (((Wr.refl (fun i => i = g) w1).setR g _ _ (Or.inl rfl)).setR g _ _ (Or.inl rfl)).setR g _ _ (Or.inl rfl)
            refine ⟨k + 1, _, S2, by omega, by go_num, hset _ _ _, by simp [hcsz], fun j hj => ?_, ?_, fun i hi => HT.out.2.2.2 i (HT.out.2.1 i hi), ?_⟩
            · rw [Array.getElem?_setIfInBounds_ne (by omega), Array.getElem?_setIfInBounds_ne (by omega), Array.getElem?_setIfInBounds_ne (by omega)]
              exact HSAME.out j (by omega)
            · rw [HXS.out]
              refine OwnL.keep _ HL.out (fun i hi => ?_)
              have hSi := HT.out.2.2.2 i (HT.out.2.1 i hi)
              have hil := (HR.out.sb i hSi).2.1
              have hz1 := HW1.out.size
              exact ((hw2 _ _ _).block i (by omega) (fun e => hgS (e ▸ hSi))).trans (HW1.out.block i (by omega) (fun h => (HT.out.1 i h).2 hi))
            · exact (HWR.out.trans HW1.out (fun i hi => Or.inl (Or.inl (HT.out.2.2.2 i (HT.out.1 i hi).1)))).trans (hw2 _ _ _) (fun i hi => Or.inl (Or.inr hi))
          case measure => simp [intOf]; omega
        · obtain rfl : k = ks.length := by omega
          have HWR := Lib.hid hwr
          clear hO hrow hsame hwr
          go_wp2_with fail
          refine HQ.out _ _ _ ?_
          go_end0
          exact ⟨rfl, HWR.out.mono (fun i hi => Or.inl (by rcases hi with hi | hi; exact Or.inl hi; exact Or.inr (by rw [hi]; rfl)))⟩
end Go.Proofs.Ytjkgpolikpochaa
