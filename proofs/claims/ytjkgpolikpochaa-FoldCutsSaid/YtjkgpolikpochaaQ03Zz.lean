/- What is read as trees, as asks of trees, lies in memory as trees. No condition. Trees whose rows of kids are all blocks of their own. No program in sight but its name. No condition. A row of trees of the call's own that grows by one. No program in sight but its name. No condition. The page's memory and ops (chapters 1, 6, 7), as plain functions. No program in sight. No condition. -/
import Derived.Test.YtjkgpolikpochaaHeavyZz
import Derived.Test.YtjkgpolikpochaaQ02Zz
import Derived.Test.YtjkgpolikpochaaQ01Zz
import Derived.SizedLaws
import Derived.Deep.Slices
import Derived.Deep.Strs
import Derived.ProofKit
import Derived.Deep.AppendLies
set_option linter.unusedVariables false
set_option linter.unusedSimpArgs false
namespace Go.Proofs.Ytjkgpolikpochaa
open Go.RowKit Go.Deep

theorem list_of {α : Type} (n : Nat) (p : Nat → α → Prop) (h : ∀ i, i < n → ∃ x, p i x) : ∃ l : List α, l.length = n ∧ ∀ i x, l[i]? = some x → p i x := by
  induction n with
  | zero => exact ⟨[], rfl, fun i x h => by simp at h⟩
  | succ n ih =>
    obtain ⟨l, hl, hp⟩ := ih (fun i hi => h i (by omega))
    obtain ⟨x, hx⟩ := h n (by omega)
    refine ⟨l ++ [x], by simp [hl], fun i y hy => ?_⟩
    rcases Nat.lt_or_ge i l.length with hlt | hge
    · rw [List.getElem?_append_left hlt] at hy; exact hp i y hy
    · rw [List.getElem?_append_right hge] at hy
      have : i - l.length = 0 := by
        rcases Nat.eq_zero_or_pos (i - l.length) with h0 | h0
        · exact h0
        · rw [List.getElem?_eq_none (by simp; omega)] at hy; cases hy
      rw [this] at hy
      simp at hy
      subst hy
      rw [show i = n by omega]
      exact hx
theorem cs3 {cs : List Value} {v0 v1 v2 : Value} (hl : cs.length = 3) (h0 : (cs.drop 0).take 1 = [v0]) (h1 : (cs.drop 1).take 1 = [v1]) (h2 : (cs.drop 2).take 1 = [v2]) : cs = [v0, v1, v2] := by
  match cs, hl with
  | [a, b, c], _ => simp at h0 h1 h2; rw [h0, h1, h2]

section
variable {H : Type} {enc : TypeId × Value → H} {w : World} {base : Nat} {spare : Nat → Bool} {held : Bool}
def KidsRead (w : World) (B : Nat) (cs : List Value) : Prop := ∃ ts A n c, cs = [.slice A n c] ∧ KidsV w B ts A n

theorem kids_trod {n : Nat} (ih : ∀ (m : Nat) (cs : List Value) (x : DataW H × List MemPlace), m < n → DataW.trod enc Try.prog w base spare held m 28 cs = some x → ∃ t v0 v1 v2, cs = [v0, v1, v2] ∧ TreeAt w (Under w.heap.size) t v0 v1 v2)
    {m : Nat} (hm : m ≤ n) {cs : List Value} {x : DataW H × List MemPlace} (h : DataW.trod enc Try.prog w base spare held m 22 cs = some x) : KidsRead w w.heap.size cs := by
  rcases DataW.trod_slice Try.underlying22 h with ⟨rfl, _⟩ | ⟨a, len, cap, elems, rest, k, hk, rfl, _, _, hl, hc, hel, he, _⟩
  · exact ⟨[], none, 0, 0, rfl, rfl, by omega, fun h => by omega⟩
  · have hce : Try.prog.cellsOf 28 = 3 := by kernel_rfl
    rw [hce] at he
    have raw : ∀ i, i < len → ∃ t, ∃ v0 v1 v2, w.cells? base (a.add (i * 3)) 3 = some [v0, v1, v2] ∧ TreeAt w (Under w.heap.size) t v0 v1 v2 := by
      intro i hi
      have h1 := he i hi
      rw [List.getElem?_eq_getElem (by omega)] at h1
      obtain ⟨cs', h2, h3⟩ := Option.bind_eq_some_iff.1 h1
      obtain ⟨t, v0, v1, v2, rfl, ht⟩ := ih k cs' _ (by omega) h3
      exact ⟨t, v0, v1, v2, h2, ht⟩
    have hml : maxLen = 9223372036854775807 := rfl
    rcases Nat.eq_zero_or_pos len with h0 | hp
    · subst h0
      exact ⟨[], some a, 0, cap, rfl, rfl, by omega, fun h => by omega⟩
    · have hspot : a.spot = none ∧ a.block < w.heap.size := by
        obtain ⟨t, v0, v1, v2, h2, _⟩ := raw 0 hp
        have hb := World.cells?_block h2 (by omega)
        have c0 := (World.cells?_some h2).2.2 0 (by omega)
        obtain ⟨b, off, spot⟩ := a
        have hs : spot = none := by simpa [Addr.add] using World.cell?_spot c0
        exact ⟨hs, by simpa [Addr.add] using hb⟩
      obtain ⟨b, off, spot⟩ := a
      obtain ⟨hs, hb⟩ := hspot
      simp only at hs hb
      subst hs
      have key : ∀ i, i < len → ∃ t, ∃ v0 v1 v2, w.cell? ⟨b, off + i * 3, none⟩ = some v0 ∧ w.cell? ⟨b, off + i * 3 + 1, none⟩ = some v1 ∧ w.cell? ⟨b, off + i * 3 + 2, none⟩ = some v2 ∧ TreeAt w (Under w.heap.size) t v0 v1 v2 := by
        intro i hi
        obtain ⟨t, v0, v1, v2, h2, ht⟩ := raw i hi
        rw [Go.WideShapes.add_plain] at h2
        obtain ⟨_, _, hcell⟩ := World.cells?_some h2
        have c0 := hcell 0 (by omega)
        have c1 := hcell 1 (by omega)
        have c2 := hcell 2 (by omega)
        rw [Go.WideShapes.add_plain] at c0 c1 c2
        exact ⟨t, v0, v1, v2, by simpa using c0, by simpa using c1, by simpa using c2, ht⟩
      obtain ⟨ts, htl, hts⟩ := list_of len _ key
      exact ⟨ts, some ⟨b, off, none⟩, len, cap, rfl, htl, by omega, fun hp => ⟨b, off, rfl, hb, KidsAt.of (fun i t hi => hts i t hi)⟩⟩
theorem tree_trod : ∀ (n m : Nat) (cs : List Value) (x : DataW H × List MemPlace), m < n → DataW.trod enc Try.prog w base spare held m 28 cs = some x → ∃ t v0 v1 v2, cs = [v0, v1, v2] ∧ TreeAt w (Under w.heap.size) t v0 v1 v2 := by
  intro n
  induction n with
  | zero => intro m cs x h; omega
  | succ n ih =>
    intro m cs x hm h
    obtain ⟨xs, k, rfl, _, hl, _, hf⟩ := DataW.trod_struct Try.underlying28 h
    have hce : Try.prog.cellsOf 28 = 3 := by kernel_rfl
    have hc3 : Try.prog.cellsOf 3 = 1 := by kernel_rfl
    have hc2 : Try.prog.cellsOf 2 = 1 := by kernel_rfl
    have hcs : Try.prog.cellsOf 22 = 1 := by kernel_rfl
    rw [hce] at hl
    have f0 : DataW.trod enc Try.prog w base spare held k 3 ((cs.drop 0).take (Try.prog.cellsOf 3)) = xs[0]? := hf 0 _ rfl
    have f1 : DataW.trod enc Try.prog w base spare held k 2 ((cs.drop 1).take (Try.prog.cellsOf 2)) = xs[1]? := hf 1 _ rfl
    have f2 : DataW.trod enc Try.prog w base spare held k 22 ((cs.drop 2).take (Try.prog.cellsOf 22)) = xs[2]? := hf 2 _ rfl
    rw [hc3] at f0
    rw [hc2] at f1
    rw [hcs] at f2
    obtain ⟨x0, x1, x2, rfl⟩ : ∃ x0 x1 x2, xs = [x0, x1, x2] := by
      rename_i hxs
      match xs, hxs with
      | [a, b, c], _ => exact ⟨a, b, c, rfl⟩
    obtain ⟨a, e0, _, w0⟩ := DataW.trod_int Try.underlying3 f0
    obtain ⟨b, e1, _, w1⟩ := DataW.trod_int Try.underlying2 f1
    obtain ⟨ts, A, len, c, e2, hk⟩ := kids_trod (ih := ih) (by omega) f2
    obtain ⟨hk1, hk2, hk3⟩ := hk
    refine ⟨.node a b ts, _, _, _, cs3 hl e0 e1 e2, ?_⟩
    rw [TreeAt]
    subst hk1
    exact ⟨rfl, rfl, in64_of_wf w0, in64_of_wf w1, hk2, A, c, rfl, hk3⟩

theorem kids_read {m : Nat} {cs : List Value} {x : DataW H × List MemPlace} (h : DataW.trod enc Try.prog w base spare held m 22 cs = some x) : KidsRead w w.heap.size cs :=
  kids_trod (n := m + 1) (tree_trod (m + 1)) (by omega) h
end
theorem weights_mem_all {H : Type} {P : Program} {e : TypeId} {d : DataW H} {n : Nat} : ∀ {l : List (DataW H)}, d ∈ l → n ∈ d.weights P e → n ∈ DataW.weightsAll P e l
  | [], h, _ => by simp at h
  | x :: l, h, hn => by
    simp only [DataW.weightsAll, List.mem_append]
    rcases List.mem_cons.1 h with rfl | h
    · exact Or.inl hn
    · exact Or.inr (weights_mem_all h hn)
theorem strs_read {H : Type} {enc : TypeId × Value → H} {w : World} {base : Nat} {spare : Nat → Bool} {held : Bool} {m : Nat} {cs : List Value} {x : DataW H × List MemPlace} (h : DataW.trod enc Try.prog w base spare held m 23 cs = some x)
    (hw : ∀ n, n ∈ x.1.weights Try.prog 23 → n ≤ reachBytes) : ∃ ss A n c, cs = [.slice A n c] ∧ StrsAt w w.heap.size ss A n := by
  rcases open_strs Try.underlying23 Try.underlying9 (by kernel_rfl) h with ⟨rfl, _⟩ | ⟨a, len, cap, m, Sx, rfl, _, hl, hc, hm, hx, hcell⟩
  · exact ⟨[], none, 0, 0, rfl, rfl, by omega, by simp, fun h => by omega⟩
  · subst hx
    have hlm : len ≤ m := by rw [hm]; split <;> omega
    have hr : reachBytes = 140737488351232 := rfl
    have hbs : Try.prog.bytesOf 9 = 16 := by kernel_rfl
    have h1 := hw ((len + (m - len)) * Try.prog.bytesOf 9) (by simp only [DataW.weights, Try.underlying23, List.length_map, List.length_range, List.mem_cons, true_or])
    rw [hbs, hr] at h1
    have hsz : ∀ i, i < len → (Sx i).size ≤ 140737488355328 := fun i hi => by
      have h2 := hw (Sx i).data.toList.length (by
        simp only [DataW.weights, Try.underlying23, List.mem_cons, List.mem_append]
        exact Or.inr (Or.inl (weights_mem_all (d := .lit (.string (Sx i).data.toList)) (List.mem_map.2 ⟨i, List.mem_range.2 hi, rfl⟩) (by simp [DataW.weights]))))
      rw [hr] at h2
      have : (Sx i).size = (Sx i).data.toList.length := rfl
      omega
    refine ⟨(List.range len).map Sx, some a, len, cap, rfl, by simp, by omega, fun s hs => ?_, fun hp => ?_⟩
    · obtain ⟨i, hi, rfl⟩ := List.mem_map.1 hs
      exact hsz i (List.mem_range.1 hi)
    · have c0 := (hcell 0 (by omega)).1
      obtain ⟨b, off, spot⟩ := a
      have hs : spot = none := by simpa [Addr.add] using World.cell?_spot c0
      subst hs
      rw [Go.WideShapes.add_plain] at c0
      refine ⟨b, off, rfl, World.block_lt_of_cell? w _ c0, fun i s hi => ?_⟩
      have hil : i < len := by
        rcases Nat.lt_or_ge i len with h | h
        · exact h
        · rw [List.getElem?_eq_none (by simpa using h)] at hi; cases hi
      have c := (hcell i (by omega)).1
      rw [Go.WideShapes.add_plain] at c
      simp [hil] at hi
      subst hi
      exact c
theorem ask_read {H : Type} {enc : TypeId × Value → H} {w : World} {v : Value} {d : DataW H} {ps : List MemPlace} {cs : Array Value} (hv : v = .agg cs) (h : DataW.Trod enc Try.prog w 0 (fun _ => true) true 25 v d ps)
    (hsz : (DataW.weightsEach Try.prog [25] [d]).all (· ≤ reachBytes) = true) :
    ∃ ts ss TA tn tc SA sn sc, v = .agg #[.slice TA tn tc, .slice SA sn sc] ∧ KidsV w w.heap.size ts TA tn ∧ tn ≤ 140737488355328 ∧ StrsAt w w.heap.size ss SA sn := by
  subst hv
  obtain ⟨m, h⟩ := h
  obtain ⟨xs, k, hk, hxe, hl, hxs, hf⟩ := DataW.trod_struct Try.underlying25 h
  have hce : Try.prog.cellsOf 25 = 2 := by kernel_rfl
  have hc0 : Try.prog.cellsOf 22 = 1 := by kernel_rfl
  have hc1 : Try.prog.cellsOf 23 = 1 := by kernel_rfl
  have hbt : Try.prog.bytesOf 28 = 40 := by kernel_rfl
  have hr : reachBytes = 140737488351232 := rfl
  rw [hce] at hl
  have f0 : DataW.trod enc Try.prog w 0 (fun _ => true) true k 22 ((Value.cells (.agg cs)).toList.drop 0 |>.take (Try.prog.cellsOf 22)) = xs[0]? := hf 0 _ rfl
  have f1 : DataW.trod enc Try.prog w 0 (fun _ => true) true k 23 ((Value.cells (.agg cs)).toList.drop 1 |>.take (Try.prog.cellsOf 23)) = xs[1]? := hf 1 _ rfl
  rw [hc0] at f0
  rw [hc1] at f1
  obtain ⟨x0, x1, rfl⟩ : ∃ x0 x1, xs = [x0, x1] := by
    match xs, hxs with
    | [a, b], _ => exact ⟨a, b, rfl⟩
  simp only [Prod.mk.injEq] at hxe
  obtain ⟨rfl, _⟩ := hxe
  have hwt : ∀ n, n ∈ x0.1.weights Try.prog 22 ∨ n ∈ x1.1.weights Try.prog 23 → n ≤ reachBytes := fun n hn => by
    have := List.all_eq_true.1 hsz n (DataW.weights_mem_each (j := 0) rfl rfl n (by
      simp only [DataW.weights, Try.underlying25, List.map_cons, List.map_nil, DataW.weightsEach, List.append_nil]
      simpa using hn))
    simpa using this
  obtain ⟨ss, SA, sn, sc, e1, hS⟩ := strs_read f1 (fun n hn => hwt n (Or.inr hn))
  obtain ⟨ts, TA, tn, tc, e0, hT⟩ := kids_read f0
  have htn : tn ≤ 140737488355328 := by
    rcases DataW.trod_slice Try.underlying22 f0 with ⟨e, _⟩ | ⟨a, len, cap, elems, rest, _, _, e, hx, _, _, _, hel, _⟩
    · rw [e0] at e; simp at e; omega
    · rw [e0] at e
      have hx0 : x0 = (.slice (elems.map (·.1)) (rest.map (·.1)), MemPlace.row a ((elems.length + rest.length) * Try.prog.cellsOf 28) ++ (elems ++ rest).flatMap (·.2)) := by simpa using hx
      have h1 := hwt ((elems.length + rest.length) * Try.prog.bytesOf 28) (Or.inl (by rw [hx0]; simp only [DataW.weights, Try.underlying22, List.length_map, List.mem_cons, true_or]))
      rw [hbt, hr] at h1
      simp at e
      omega
  refine ⟨ts, ss, TA, tn, tc, SA, sn, sc, ?_, hT, htn, hS⟩
  have hcl : cs.toList.length = 2 := by simpa [Value.cells] using hl
  have hcs : cs.toList = [.slice TA tn tc, .slice SA sn sc] := by
    simp only [Value.cells] at e0 e1
    match hh : cs.toList, hcl with
    | [a, b], _ => rw [hh] at e0 e1; simp at e0 e1; rw [e0, e1]
  rw [← Array.toArray_toList (xs := cs), hcs]
end Go.Proofs.Ytjkgpolikpochaa
namespace Go.Proofs.Ytjkgpolikpochaa
open Go.RowKit

mutual
/-- A tree as its three cells; the blocks that it owns lie in S, each met once. -/
def OwnT (w : World) : (Nat → Prop) → T → Value → Value → Value → Prop
  | S, .node op x ks, v0, v1, v2 => v0 = .int .i64 op ∧ v1 = .int .i64 x ∧ In64 op ∧ In64 x ∧ ∃ xs S', w.ownsRow 0 28 3 v2 ks.length xs ∧ (∀ g, v2.ownBlock = some g → S g ∧ ¬ S' g) ∧ (∀ i, S' i → S i) ∧ OwnL w S' ks xs
def OwnL (w : World) : (Nat → Prop) → List T → List Value → Prop
  | _, [], xs => xs = []
  | S, k :: ks, xs => ∃ u0 u1 u2 us S1 S2, xs = u0 :: u1 :: u2 :: us ∧ (∀ i, S1 i → S i ∧ ¬ S2 i) ∧ (∀ i, S2 i → S i) ∧ OwnT w S1 k u0 u1 u2 ∧ OwnL w S2 ks us
end

mutual
theorem OwnT.mono {w : World} : ∀ (t : T) {S S' : Nat → Prop} {v0 v1 v2 : Value}, OwnT w S t v0 v1 v2 → (∀ i, S i → S' i) → OwnT w S' t v0 v1 v2
  | .node op x ks, S, S', v0, v1, v2, h, hS => by
    simp only [OwnT] at h ⊢
    obtain ⟨h0, h1, h2, h3, xs, S1, h4, h5, h6, h7⟩ := h
    exact ⟨h0, h1, h2, h3, xs, S1, h4, fun g hg => ⟨hS g (h5 g hg).1, (h5 g hg).2⟩, fun i hi => hS i (h6 i hi), h7⟩
end
theorem OwnL.mono {w : World} : ∀ (ks : List T) {S S' : Nat → Prop} {xs : List Value}, OwnL w S ks xs → (∀ i, S i → S' i) → OwnL w S' ks xs
  | [], S, S', xs, h, hS => by simpa only [OwnL] using h
  | k :: ks, S, S', xs, h, hS => by
    simp only [OwnL] at h ⊢
    obtain ⟨u0, u1, u2, us, S1, S2, h0, h1, h2, h3, h4⟩ := h
    exact ⟨u0, u1, u2, us, S1, S2, h0, fun i hi => ⟨hS i (h1 i hi).1, (h1 i hi).2⟩, fun i hi => hS i (h2 i hi), h3, h4⟩

theorem ownsRow_keep {w w' : World} {base : Nat} {e : TypeId} {size : Nat} {v : Value} {n : Nat} {xs : List Value} (h : w.ownsRow base e size v n xs) (hk : ∀ g, v.ownBlock = some g → w'.heap[g]? = w.heap[g]?) : w'.ownsRow base e size v n xs := by
  obtain ⟨h1, h2⟩ := h
  refine ⟨h1, ?_⟩
  rcases h2 with h2 | ⟨g, cap, cur, hv, hg, hh, r⟩
  · exact Or.inl h2
  · subst hv
    exact Or.inr ⟨g, cap, cur, rfl, hg, (hk g rfl).trans hh, r⟩

mutual
theorem OwnT.keep {w w' : World} : ∀ (t : T) {S : Nat → Prop} {v0 v1 v2 : Value}, OwnT w S t v0 v1 v2 → (∀ i, S i → w'.heap[i]? = w.heap[i]?) → OwnT w' S t v0 v1 v2
  | .node op x ks, S, v0, v1, v2, h, hS => by
    simp only [OwnT] at h ⊢
    obtain ⟨h0, h1, h2, h3, xs, S1, h4, h5, h6, h7⟩ := h
    exact ⟨h0, h1, h2, h3, xs, S1, ownsRow_keep h4 (fun g hg => hS g (h5 g hg).1), h5, h6, OwnL.keep ks h7 (fun i hi => hS i (h6 i hi))⟩
theorem OwnL.keep {w w' : World} : ∀ (ks : List T) {S : Nat → Prop} {xs : List Value}, OwnL w S ks xs → (∀ i, S i → w'.heap[i]? = w.heap[i]?) → OwnL w' S ks xs
  | [], S, xs, h, hS => by simpa only [OwnL] using h
  | k :: ks, S, xs, h, hS => by
    simp only [OwnL] at h ⊢
    obtain ⟨u0, u1, u2, us, S1, S2, h0, h1, h2, h3, h4⟩ := h
    exact ⟨u0, u1, u2, us, S1, S2, h0, h1, h2, OwnT.keep k h3 (fun i hi => hS i (h1 i hi).1), OwnL.keep ks h4 (fun i hi => hS i (h2 i hi))⟩
end

theorem OwnL.length {w : World} : ∀ (ks : List T) {S : Nat → Prop} {xs : List Value}, OwnL w S ks xs → xs.length = ks.length * 3
  | [], S, xs, h => by simp only [OwnL] at h; subst h; rfl
  | k :: ks, S, xs, h => by
    simp only [OwnL] at h
    obtain ⟨u0, u1, u2, us, S1, S2, h0, h1, h2, h3, h4⟩ := h
    subst h0
    have := OwnL.length ks h4
    simp [this]; omega

theorem OwnL.snoc {w : World} : ∀ (ks : List T) {S S' : Nat → Prop} {xs : List Value} {k : T} {u0 u1 u2 : Value}, OwnL w S ks xs → OwnT w S' k u0 u1 u2 → (∀ i, S i → ¬ S' i) → OwnL w (fun i => S i ∨ S' i) (ks ++ [k]) (xs ++ [u0, u1, u2])
  | [], S, S', xs, k, u0, u1, u2, h, hk, hd => by
    simp only [OwnL] at h
    subst h
    simp only [List.nil_append, OwnL]
    exact ⟨u0, u1, u2, [], S', fun _ => False, rfl, fun i hi => ⟨Or.inr hi, fun h => h⟩, fun i hi => hi.elim, hk, rfl⟩
  | a :: ks, S, S', xs, k, u0, u1, u2, h, hk, hd => by
    simp only [OwnL] at h
    obtain ⟨a0, a1, a2, us, S1, S2, h0, h1, h2, h3, h4⟩ := h
    subst h0
    have := OwnL.snoc ks h4 hk (fun i hi => hd i (h2 i hi))
    simp only [List.cons_append, OwnL]
    refine ⟨a0, a1, a2, us ++ [u0, u1, u2], S1, fun i => S2 i ∨ S' i, rfl, fun i hi => ⟨Or.inl (h1 i hi).1, fun h => ?_⟩, fun i hi => ?_, h3, this⟩
    · rcases h with h | h
      · exact (h1 i hi).2 h
      · exact hd i (h1 i hi).1 h
    · rcases hi with hi | hi
      · exact Or.inl (h2 i hi)
      · exact Or.inr hi

/-- One of the trees, and what is left beside it. -/
theorem OwnL.get {w : World} : ∀ (ks : List T) {S : Nat → Prop} {xs : List Value} {i : Nat} {k : T}, OwnL w S ks xs → ks[i]? = some k → ∃ u0 u1 u2, xs[i * 3]? = some u0 ∧ xs[i * 3 + 1]? = some u1 ∧ xs[i * 3 + 2]? = some u2 ∧ OwnT w S k u0 u1 u2
  | [], S, xs, i, k, h, hi => by simp at hi
  | a :: ks, S, xs, i, k, h, hi => by
    simp only [OwnL] at h
    obtain ⟨u0, u1, u2, us, S1, S2, h0, h1, h2, h3, h4⟩ := h
    subst h0
    cases i with
    | zero =>
      simp at hi
      subst hi
      exact ⟨u0, u1, u2, rfl, rfl, rfl, h3.mono _ (fun i hi => (h1 i hi).1)⟩
    | succ i =>
      simp at hi
      obtain ⟨a0, a1, a2, e0, e1, e2, e3⟩ := OwnL.get ks h4 hi
      refine ⟨a0, a1, a2, ?_, ?_, ?_, e3.mono _ h2⟩
      · rw [show (i + 1) * 3 = i * 3 + 1 + 1 + 1 by omega]; simpa using e0
      · rw [show (i + 1) * 3 + 1 = i * 3 + 1 + 1 + 1 + 1 by omega]; simpa using e1
      · rw [show (i + 1) * 3 + 2 = i * 3 + 2 + 1 + 1 + 1 by omega]; simpa using e2

mutual
/-- .. read as any tree. -/
theorem OwnT.tree {w : World} {B : Nat} : ∀ (t : T) {S : Nat → Prop} {v0 v1 v2 : Value}, OwnT w S t v0 v1 v2 → (∀ i, S i → i < B) → TreeAt w (Under B) t v0 v1 v2
  | .node op x ks, S, v0, v1, v2, h, hS => by
    simp only [OwnT] at h
    simp only [TreeAt]
    obtain ⟨h0, h1, h2, h3, xs, S1, h4, h5, h6, h7⟩ := h
    have hk := OwnL.kids ks h7 (fun i hi => hS i (h6 i hi))
    have hln := OwnL.length ks h7
    obtain ⟨hl, hr⟩ := id h4
    rcases hr with ⟨hv, hn⟩ | ⟨g, cap, cur, hv, hg, hh, hc1, hc2, hc3, hc4⟩
    · have hnil : ks = [] := List.length_eq_zero_iff.1 hn
      subst hnil
      exact ⟨h0, h1, h2, h3, by simp, none, 0, hv, fun hp => by simp at hp⟩
    · refine ⟨h0, h1, h2, h3, by unfold maxLen at hc2; omega, some ⟨g, 0, none⟩, cap, hv, fun hp => ⟨g, 0, rfl, hS g (h5 g (by rw [hv]; rfl)).1, ?_⟩⟩
      refine KidsAt.of (fun i k hi => ?_)
      obtain ⟨u0, u1, u2, e0, e1, e2, e3⟩ := hk i k hi
      have hcell : ∀ j u, xs[j]? = some u → w.cell? ⟨g, j, none⟩ = some u := fun j u hj => by
        rw [← hc4] at hj
        have hlt : j < ks.length * 3 := by
          rcases Nat.lt_or_ge j (ks.length * 3) with h | h
          · exact h
          · rw [List.getElem?_take, if_neg (by omega)] at hj; cases hj
        rw [List.getElem?_take, if_pos hlt, Array.getElem?_toList] at hj
        exact (Row.cell (cs := cur) (t := 28) hh hj)
      rw [show (0 : Nat) + i * 3 = i * 3 by omega]
      exact ⟨u0, u1, u2, hcell _ _ e0, hcell _ _ e1, hcell _ _ e2, e3⟩
theorem OwnL.kids {w : World} {B : Nat} : ∀ (ks : List T) {S : Nat → Prop} {xs : List Value}, OwnL w S ks xs → (∀ i, S i → i < B) → ∀ i k, ks[i]? = some k → ∃ u0 u1 u2, xs[i * 3]? = some u0 ∧ xs[i * 3 + 1]? = some u1 ∧ xs[i * 3 + 2]? = some u2 ∧ TreeAt w (Under B) k u0 u1 u2
  | [], S, xs, h, hS, i, k, hi => by simp at hi
  | a :: ks, S, xs, h, hS, i, k, hi => by
    simp only [OwnL] at h
    obtain ⟨u0, u1, u2, us, S1, S2, h0, h1, h2, h3, h4⟩ := h
    subst h0
    cases i with
    | zero =>
      simp at hi
      subst hi
      exact ⟨u0, u1, u2, rfl, rfl, rfl, OwnT.tree a h3 (fun i hi => hS i (h1 i hi).1)⟩
    | succ i =>
      simp at hi
      obtain ⟨a0, a1, a2, e0, e1, e2, e3⟩ := OwnL.kids ks h4 (fun i hi => hS i (h2 i hi)) i k hi
      refine ⟨a0, a1, a2, ?_, ?_, ?_, e3⟩
      · rw [show (i + 1) * 3 = i * 3 + 1 + 1 + 1 by omega]; simpa using e0
      · rw [show (i + 1) * 3 + 1 = i * 3 + 1 + 1 + 1 + 1 by omega]; simpa using e1
      · rw [show (i + 1) * 3 + 2 = i * 3 + 2 + 1 + 1 + 1 by omega]; simpa using e2
end

theorem OwnT.shape {w : World} {S : Nat → Prop} {t : T} {v0 v1 v2 : Value} (h : OwnT w S t v0 v1 v2) : ∃ A n c, v0 = .int .i64 t.op ∧ v1 = .int .i64 t.n ∧ v2 = .slice A n c ∧ In64 t.op ∧ In64 t.n := by
  obtain ⟨op, x, ks⟩ := t
  simp only [OwnT] at h
  obtain ⟨h0, h1, h2, h3, xs, S1, ⟨_, hr⟩, _⟩ := h
  rcases hr with ⟨hv, _⟩ | ⟨g, cap, cur, hv, _⟩
  · exact ⟨_, _, _, h0, h1, hv, h2, h3⟩
  · exact ⟨_, _, _, h0, h1, hv, h2, h3⟩

/-- A node over trees that are owned, its row the newest. -/
theorem OwnT.node {w : World} {S : Nat → Prop} {op x : Int} {ks : List T} {xs : List Value} {v : Value} {base : Nat} (ho : In64 op) (hx : In64 x) (hr : w.ownsRow base 28 3 v ks.length xs) (hl : OwnL w S ks xs) (hv : ∀ g, v.ownBlock = some g → ¬ S g) :
    OwnT w (fun i => S i ∨ v.ownBlock = some i) (.node op x ks) (.int .i64 op) (.int .i64 x) v := by
  rw [OwnT]
  refine ⟨rfl, rfl, ho, hx, xs, S, ?_, fun g hg => ⟨Or.inr hg, hv g hg⟩, fun i hi => Or.inl hi, hl⟩
  obtain ⟨h1, h2⟩ := hr
  refine ⟨h1, ?_⟩
  rcases h2 with h2 | ⟨g, cap, cur, hv, hg, r⟩
  · exact Or.inl h2
  · exact Or.inr ⟨g, cap, cur, hv, Nat.zero_le _, r⟩
theorem OwnT.leaf {w : World} {S : Nat → Prop} {op x : Int} (ho : In64 op) (hx : In64 x) : OwnT w S (.node op x []) (.int .i64 op) (.int .i64 x) (.slice none 0 0) := by
  rw [OwnT]
  exact ⟨rfl, rfl, ho, hx, [], fun _ => False, World.ownsRow_nil _ _ _ _, fun g hg => (by cases hg), fun i hi => hi.elim, (by rw [OwnL])⟩
end Go.Proofs.Ytjkgpolikpochaa
namespace Go.Proofs.Ytjkgpolikpochaa
open Go.RowKit

theorem tree_info : (Try.prog.info? 28).map (fun i => (i.zero, i.size, i.bytes)) = some (some (.agg #[.int .i64 0, .int .i64 0, .slice none 0 0]), 3, 40) := by kernel_rfl

structure RowAt (base : Nat) (w : World) (lv : Value) (k : Nat) (ts : List T) (xs : List Value) (S : Nat → Prop) : Prop where
  own : w.ownsRow base 28 3 lv k xs
  trees : OwnL w S ts xs
  sb : ∀ i, S i → base ≤ i ∧ i < w.heap.size ∧ ¬ lv.ownBlock = some i

theorem RowAt.lt {base : Nat} {w : World} {lv : Value} {k : Nat} {ts : List T} {xs : List Value} {S : Nat → Prop} (h : RowAt base w lv k ts xs S) {g : Nat} (hg : lv.ownBlock = some g) : base ≤ g ∧ g < w.heap.size := by
  obtain ⟨h1, cs, h2⟩ := ownsRow_row h.own hg
  exact ⟨h1, h2.lt⟩
theorem RowAt.wr {base : Nat} {w w' : World} {lv : Value} {k : Nat} {ts : List T} {xs : List Value} {S X : Nat → Prop} (h : RowAt base w lv k ts xs S) (hw : Wr X w w') (hX : ∀ i, X i → ¬ S i ∧ ¬ lv.ownBlock = some i) : RowAt base w' lv k ts xs S :=
  ⟨ownsRow_wr h.own hw (fun g hg hx => (hX g hx).2 hg), OwnL.keep ts h.trees (fun i hi => hw.block i (h.sb i hi).2.1 (fun hx => (hX i hx).1 hi)), fun i hi => ⟨(h.sb i hi).1, by have := (h.sb i hi).2.1; have := hw.size; omega, (h.sb i hi).2.2⟩⟩

theorem RowAt.next {base k g cap : Nat} {wr w1 W2 w3 W4 : World} {lv : Value} {ts : List T} {xs : List Value} {S S1 X : Nat → Prop} {t : T} {u0 u1 u2 : Value}
    (h : RowAt base wr lv k ts xs S) (hbase : base ≤ wr.heap.size) (h1 : Wr X wr w1) (hO : OwnT w1 S1 t u0 u1 u2) (hS1 : ∀ i, S1 i → wr.heap.size ≤ i ∧ i < w1.heap.size) (h2 : Wr X w1 W2)
    (hown : w3.ownsRow base 28 3 (.slice (some ⟨g, 0, none⟩) (k + 1) cap) (k + 1) (xs ++ [u0, u1, u2])) (hgrow : W2.grownBy w3 lv.ownBlock) (hat : lv.ownBlock = some g ∨ g = W2.heap.size) (h4 : Wr X w3 W4)
    (hX : ∀ i, X i → ¬ S i ∧ ¬ S1 i ∧ ¬ lv.ownBlock = some i ∧ ¬ i = g) :
    RowAt base W4 (.slice (some ⟨g, 0, none⟩) (k + 1) cap) (k + 1) (ts ++ [t]) (xs ++ [u0, u1, u2]) (fun i => S i ∨ S1 i) := by
  have z1 := h1.size
  have z2 := h2.size
  have z3 := hgrow.size
  have z4 := h4.size
  have hgo : ∀ i, (Value.slice (some ⟨g, 0, none⟩) (k + 1) cap).ownBlock = some i → i = g := fun i hi => by simp only [Value.ownBlock, Option.some.injEq] at hi; exact hi.symm
  have kS : ∀ i, S i → W4.heap[i]? = wr.heap[i]? := fun i hi => by
    have hb := h.sb i hi
    have hx : ¬ X i := fun hx => (hX i hx).1 hi
    exact (((h4.block i (by omega) hx).trans (hgrow.block i (by omega) (fun e => hb.2.2 e.symm))).trans (h2.block i (by omega) hx)).trans (h1.block i hb.2.1 hx)
  have kS1 : ∀ i, S1 i → W4.heap[i]? = w1.heap[i]? := fun i hi => by
    have hb := hS1 i hi
    have hx : ¬ X i := fun hx => (hX i hx).2.1 hi
    exact ((h4.block i (by omega) hx).trans (hgrow.block i (by omega) (fun e => by have := (h.lt e.symm).2; omega))).trans (h2.block i hb.2 hx)
  refine ⟨ownsRow_wr hown h4 (fun i hi hx => (hX i hx).2.2.2 (hgo i hi)), OwnL.snoc ts (OwnL.keep ts h.trees kS) (OwnT.keep t hO kS1) (fun i hi hi1 => by have := (h.sb i hi).2.1; have := (hS1 i hi1).1; omega), fun i hi => ?_⟩
  rcases hi with hi | hi
  · have hb := h.sb i hi
    refine ⟨hb.1, by omega, fun e => ?_⟩
    have e' := hgo i e
    subst e'
    rcases hat with hat | hat
    · exact hb.2.2 hat
    · omega
  · have hb := hS1 i hi
    refine ⟨by omega, by omega, fun e => ?_⟩
    have e' := hgo i e
    subst e'
    rcases hat with hat | hat
    · have := (h.lt hat).2; omega
    · omega
/-- The trees, read as any trees. -/
theorem RowAt.kids {base : Nat} {w : World} {lv : Value} {k : Nat} {ts : List T} {xs : List Value} {S : Nat → Prop} (h : RowAt base w lv k ts xs S) (hk : ts.length = k) {B : Nat} (hB : w.heap.size ≤ B) : ∃ A n cap, lv = .slice A n cap ∧ KidsV w B ts A n := by
  have ht := OwnL.kids ts h.trees (B := B) (fun i hi => by have := (h.sb i hi).2.1; omega)
  obtain ⟨hl, hr⟩ := h.own
  rcases hr with ⟨hv, hn⟩ | ⟨g, cap, cur, hv, hg, hh, hc1, hc2, hc3, hc4⟩
  · exact ⟨none, 0, 0, hv, by omega, by omega, fun hp => by omega⟩
  · have hglt : g < w.heap.size := Row.lt (t := 28) hh
    refine ⟨some ⟨g, 0, none⟩, k, cap, hv, hk, by unfold maxLen at hc2; omega, fun hp => ⟨g, 0, rfl, by omega, KidsAt.of (fun i t hi => ?_)⟩⟩
    obtain ⟨u0, u1, u2, e0, e1, e2, e3⟩ := ht i t hi
    have hcell : ∀ j u, xs[j]? = some u → w.cell? ⟨g, j, none⟩ = some u := fun j u hj => by
      rw [← hc4] at hj
      have hlt : j < k * 3 := by
        rcases Nat.lt_or_ge j (k * 3) with h | h
        · exact h
        · rw [List.getElem?_take, if_neg (by omega)] at hj; cases hj
      rw [List.getElem?_take, if_pos hlt, Array.getElem?_toList] at hj
      exact (Row.cell (cs := cur) (t := 28) hh hj)
    rw [show (0 : Nat) + i * 3 = i * 3 by omega]
    exact ⟨u0, u1, u2, hcell _ _ e0, hcell _ _ e1, hcell _ _ e2, e3⟩
theorem RowAt.nil (base : Nat) (w : World) : RowAt base w (.slice none 0 0) 0 [] [] (fun _ => False) :=
  ⟨World.ownsRow_nil _ _ _ _, by rw [OwnL], fun i hi => hi.elim⟩
theorem RowAt.node {base : Nat} {w : World} {lv : Value} {k : Nat} {ts : List T} {xs : List Value} {S : Nat → Prop} (h : RowAt base w lv k ts xs S) (hk : ts.length = k) {op x : Int} (ho : In64 op) (hx : In64 x) :
    OwnT w (fun i => S i ∨ lv.ownBlock = some i) (.node op x ts) (.int .i64 op) (.int .i64 x) lv :=
  OwnT.node ho hx (by rw [hk]; exact h.own) h.trees (fun g hg hs => (h.sb g hs).2.2 hg)
end Go.Proofs.Ytjkgpolikpochaa
namespace Go.Proofs.Ytjkgpolikpochaa
open Go.RowKit

/-- A value: a number, or (obj above 0) a place. -/
structure V where
  obj : Nat
  n : Int
deriving DecidableEq

/-- An object: its elements' bytes, its elements, whether it is alive. -/
structure MO where
  size : Int
  l : List V
  live : Bool

def MO.bytes (o : MO) : Int := o.size * o.l.length

def mget (M : List MO) (k : Nat) : MO := M.getD k ⟨0, [], false⟩

/-- A place moved by so many bytes. -/
def movedF (M : List MO) (a : V) (n : Int) : Option V :=
  if (mget M a.obj).live = true ∧ ¬ n < -a.n ∧ ¬ n > (mget M a.obj).bytes - a.n then some ⟨a.obj, a.n + n⟩ else none

def cmpF (M : List MO) (a b : V) : Bool :=
  (mget M a.obj).live && (mget M b.obj).live && (decide (a.obj = b.obj) || (decide (a.n < (mget M a.obj).bytes) && decide (b.n < (mget M b.obj).bytes)))

/-- An op of two values. -/
def binF (two : Int → Int → Int → Int) (M : List MO) (op : Int) (a b : V) : Option V :=
  if a.obj = 0 ∧ b.obj = 0 then some ⟨0, two op a.n b.n⟩
  else if op = 12 ∧ a.obj = 0 then movedF M b a.n
  else if op = 12 ∧ b.obj = 0 then movedF M a b.n
  else if op = 13 ∧ b.obj = 0 then if b.n = -9223372036854775808 then none else movedF M a (-b.n)
  else if op = 25 ∨ op = 26 then
    if a.obj = 0 ∧ a.n ≠ 0 ∨ b.obj = 0 ∧ b.n ≠ 0 then none
    else if a.obj > 0 ∧ b.obj > 0 ∧ cmpF M a b = false then none
    else some ⟨0, two op (if a = b then 1 else 0) 1⟩
  else if a.obj ≠ b.obj ∨ (mget M a.obj).live = false ∨ (op ≠ 13 ∧ ¬ (27 ≤ op ∧ op ≤ 30)) then none
  else some ⟨0, two op a.n b.n⟩
end Go.Proofs.Ytjkgpolikpochaa
