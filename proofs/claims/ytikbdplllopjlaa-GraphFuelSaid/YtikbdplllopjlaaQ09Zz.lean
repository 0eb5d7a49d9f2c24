/- The graph's machine: calls, whole. Conditions: as stated. The page's machine: how a run starts (plain). No condition. The graph's machine: how a run starts and ends (plain). Conditions: as stated. Kids, Size, Between, Num, IsLoad: small asks. No condition. The graph's checks: Size, within. No condition. Leaf, Is, Arity, Binary: small asks of the program. No condition but those stated. count, Tree: how many nodes a tree has, and whether it may be. Conditions: as stated. -/
import Derived.Test.YtikbdplllopjlaaGCallCZz
import Derived.Test.YtikbdplllopjlaaQ02Zz
import Derived.Test.YtikbdplllopjlaaQ01Zz
set_option linter.unusedVariables false
set_option linter.unusedSimpArgs false
namespace Go.Proofs.Ytikbdplllopjlaa
open Go.RowKit

theorem gcall_all {p : ProgS} (hp : ProgOkG p) {fuel : Int} (hf : fuel ≤ 100000000) : ∀ (d : Nat) (c : Int), (d : Int) + c = 64 → GCallOk p fuel c (callF p fuel d)
  | 0, c, hd => by
    intro f g args s base cb hb rb own P gv AA an acap w hg hal h hR hP horb hogv hI hc hgl hva han hargs
    rw [callF]
    rw [show stopF 4 s = { s with kind := 4 } from by unfold stopF; rw [if_pos hI.kind]]
    exact gcall_over base cb hb rb own P gv fuel p s f g args AA an acap w hg (hp.fns g (List.mem_of_getElem? hg)) hf hal h hR hP horb hogv hI hgl hva han hargs (by omega)
  | d + 1, c, hd => by
    intro f g args s base cb hb rb own P gv AA an acap w hg hal h hR hP horb hogv hI hc hgl hva han hargs
    have hfn := hp.fns g (List.mem_of_getElem? hg)
    obtain ⟨nt, hnt, _⟩ := hfn.nt
    by_cases hy : (stepF fuel (countsF g.locs) { s with calls := s.calls + 1, deep := max s.deep (s.calls + 1) }).1 = true
    · rw [callF_goG hg hnt hy]
      exact gcall_go base cb hb rb own P gv fuel p s f g args AA an acap w hg hfn hf hal h hR hP horb hogv hI hgl hva han hargs (callF p fuel d) (by omega) hy (gcall_all hp hf d _ (by omega)) (call_kept hp hf d) nt hnt
    · rw [callF_dryG hg (by simpa using hy)]
      exact gcall_dry base cb hb rb own P gv fuel p s f g args AA an acap w hg hfn hf hal h hR hP horb hogv hI hgl hva han hargs (by omega) (by simpa using hy)
end Go.Proofs.Ytikbdplllopjlaa
namespace Go.Proofs.Ytikbdplllopjlaa
open Go.RowKit

/-- The machine's state at the start. -/
def s00 (inp : List Int) : St := ⟨inp, 0, 0, [], 0, 0, 0, []⟩

theorem runF_main {p : ProgS} {inp : List Int} {fuel : Int} {f : Nat} (h : p.main = (f : Nat)) : runF p inp fuel = endF (callF p fuel (63 + 1) f [] { s00 inp with mem := makesF [] p.globs }) := by
  simp only [runF, h, s00, Nat.reduceAdd]

theorem ProgAt.up {w : World} {B B' : Nat} {P : Value × Value × Value} {p : ProgS} (h : ProgAt w B P p) (hB : B ≤ B') : ProgAt w B' P p :=
  ⟨h.1.below (Below.refl _ _) hB fun _ _ h => h.below (Below.refl _ _) hB, h.2.1.below (Below.refl _ _) hB fun _ _ h => h.below (Below.refl _ _) hB, h.2.2⟩

end Go.Proofs.Ytikbdplllopjlaa
namespace Go.Proofs.Ytikbdplllopjlaa
open Go.RowKit

/-- What a run answers. -/
def GRunSays (o : OutS) (base : Nat) (w : World) (e : Ending) (w' : World) : Prop :=
  ∃ outv, e = .returned (.tuple #[.agg #[.int .i64 o.kind, .int .i64 o.code, outv, .int .i64 o.steps, .int .i64 o.deep], .int .i64 0]) ∧ w'.ownsRow base 2 1 outv o.out.length (o.out.map (Value.int .i64)) ∧ Below w.heap.size w w'

theorem memOk_zero : MemOk [⟨0, [], false⟩] :=
  ⟨by simp, fun o h => by simpa using h.symm, fun k o h1 h2 => by rw [List.getElem?_cons] at h2; split at h2 <;> first | omega | (simp at h2), fun o ho v hv => by simp at ho; subst ho; simp at hv⟩
theorem numOk_zero : NumOk [⟨0, [], false⟩] := fun o h => by simp at h; subst h; simp
/-- The clock and the heap as they are made. -/
theorem s00_hc {w : World} {B : Nat} {fuel : Int} {inp : List Int} {inv : Value} (hB : B ≤ w.heap.size) (hin : InW w B inv inp) :
    HCs ((w.alloc (.cells (ccells fuel (s00 inp) inv (.slice none 0 0)) 45)).alloc (.cells #[.slice none 0 0] 49)) w.heap.size (fun k => k = w.heap.size ∨ k = w.heap.size + 1) w.heap.size (w.heap.size + 1) fuel (s00 inp) := by
  have hb := below2 w (.cells (ccells fuel (s00 inp) inv (.slice none 0 0)) 45) (.cells #[.slice none 0 0] 49)
  refine ⟨inv, .slice none 0 0, .slice none 0 0, fun _ => 0, (Row.new _ _ _).alloc _, Row.new' _ _ (by simp), Or.inl rfl, Or.inr rfl, ?_, World.ownsRow_nil _ _ _ _, fun g hg => (by cases hg), ⟨⟨[], World.ownsRow_nil _ _ _ _, fun k o h => (by simp [s00, memBase] at h)⟩, fun k o h => (by simp [s00, memBase] at h), fun i j h => (by simp [s00, memBase] at h), ?_, ?_⟩, fun g hg => (by cases hg), fun k hk => ?_⟩
  · obtain ⟨A, cap, h0, h1, h2, h3⟩ := hin
    refine ⟨A, cap, h0, h1, h2, fun hp => ?_⟩
    obtain ⟨b, off, hA, hlt, hc⟩ := h3 hp
    exact ⟨b, off, hA, by omega, fun j x hj => ⟨(hb.cell (p := ⟨b, off + j, none⟩) (show b < w.heap.size by omega)).trans (hc j x hj).1, (hc j x hj).2⟩⟩
  · exact memOk_zero
  · exact numOk_zero
  · simp only [World.size_alloc]
    rcases hk with rfl | rfl <;> omega
theorem s00_inv {fuel : Int} (hf : 0 ≤ fuel) {inp : List Int} (hin : ∀ x, x ∈ inp → In64 x) {l : List ObS} (hob : ∀ o, o ∈ l → ObOk o ∧ ∀ x, x ∈ o.init → In64 x) (hl : l.length ≤ 16) : GInv fuel { s00 inp with mem := makesF [] l } ∧ (memBase (makesF [] l)).length = l.length + 1 := by
  have h1 := memBase_makes [] l
  have h2 : (memBase ([] : List MO)).length = 1 := rfl
  have h3 : MemOk (memBase (makesF [] l)) := makes_ok l (M := []) memOk_zero hob (by omega)
  refine ⟨⟨rfl, Int.le_refl _, hf, ?_, Nat.zero_le _, Int.le_refl _, Int.le_refl _, hin, h3, ?_⟩, by omega⟩
  · show (memBase (makesF [] l)).length ≤ 20 + _
    omega
  · show NumOk (memBase (makesF [] l))
    rw [← makesF_base]
    exact numOk_zero.makes l
theorem InW.in64 {w : World} {B : Nat} {v : Value} {l : List Int} (h : InW w B v l) : ∀ x, x ∈ l → In64 x := by
  intro x hx
  obtain ⟨j, hj⟩ := List.mem_iff_getElem?.1 hx
  have hlt : 0 < l.length := List.length_pos_of_mem hx
  obtain ⟨A, cap, _, _, _, h3⟩ := h
  obtain ⟨b, off, _, _, hc⟩ := h3 hlt
  exact (hc j x hj).2
theorem setcells5 (w : World) (r : Nat) (a b c d e : Value) : Wr (fun i => i = r) w (((((w.setCell ⟨r, 0, none⟩ a).setCell ⟨r, 1, none⟩ b).setCell ⟨r, 2, none⟩ c).setCell ⟨r, 3, none⟩ d).setCell ⟨r, 4, none⟩ e) :=
  (((((Wr.cell1 w r 0 a).trans (Wr.cell1 _ r 1 b) (fun _ h => Or.inl h)).trans (Wr.cell1 _ r 2 c) (fun _ h => Or.inl h)).trans (Wr.cell1 _ r 3 d) (fun _ h => Or.inl h)).trans (Wr.cell1 _ r 4 e) (fun _ h => Or.inl h))
theorem globV_nums (n : Nat) : globV n = locV (numsF [] n) := by
  unfold globV locV numsF
  rw [List.map_map]
  refine List.map_congr_left (fun i _ => ?_)
  simp [Nat.add_comm]
theorem slice_of_own {w : World} {base : Nat} {e : TypeId} {size : Nat} {v : Value} {n : Nat} {xs : List Value} (h : w.ownsRow base e size v n xs) : ∃ A c, v = .slice A n c := by
  rcases h.2 with ⟨e, e'⟩ | ⟨gg, cap, cur, e, _⟩
  · exact ⟨none, 0, by rw [e, e']⟩
  · exact ⟨_, _, e⟩
theorem endF_ret {v : V} {s : St} : endF (some v, s) = endF (none, if v.obj > 0 then { s with kind := 3 } else { s with code := v.n, kind := 1 }) := by
  unfold endF
  by_cases h : v.obj > 0
  · simp only [h, if_true]
  · simp only [h, if_false]
end Go.Proofs.Ytikbdplllopjlaa
namespace Go.Proofs.Ytikbdplllopjlaa
open Go.RowKit

def kidsI (op : Int) : Int := if op < 1 ∨ op > 36 then -1 else if op ≤ 4 then 0 else if 12 ≤ op ∧ op ≤ 30 then 2 else 1

def sizeB (n : Int) : Bool := decide (n = 1 ∨ n = 2 ∨ n = 4 ∨ n = 8)
def betwB (n a b : Int) : Bool := decide (a ≤ n ∧ n ≤ b)
def numB (n b : Int) : Bool := decide (0 ≤ n ∧ n ≤ b)
def loadB (op : Int) : Bool := decide (5 ≤ op ∧ op ≤ 11)

end Go.Proofs.Ytikbdplllopjlaa
namespace Go.Proofs.Ytikbdplllopjlaa
open Go.RowKit

theorem gsize_any (n : Int) (w : World) :
    Calls Try.prog 28 #[.int .i64 n] w fun e w' => e = .returned (.bool (sizeB n)) ∧ w = w' := by
  have h : n = 1 ∨ n = 2 ∨ n = 4 ∨ n = 8 ∨ (n ≠ 1 ∧ n ≠ 2 ∧ n ≠ 4 ∧ n ≠ 8) := by omega
  rcases h with rfl | rfl | rfl | rfl | ⟨h1, h2, h3, h4⟩
  all_goals
    go_enter Try.func28, Try.ntmps28
    go_wp2
    go_ret
    exact ⟨ret_b (by simp [sizeB, *]), rfl⟩
theorem gwithin_any (n most : Int) (w : World) :
    Calls Try.prog 19 #[.int .i64 n, .int .i64 most] w fun e w' => e = .returned (.bool (decide (0 ≤ n ∧ n < most))) ∧ w = w' := by
  go_enter Try.func19, Try.ntmps19
  go_wp2
  all_goals go_ret
  all_goals exact ⟨ret_b (by simp; try omega), rfl⟩
end Go.Proofs.Ytikbdplllopjlaa
namespace Go.Proofs.Ytikbdplllopjlaa
open Go.RowKit

def leafB (op : Int) : Bool := decide (1 ≤ op ∧ op ≤ 4)
def arityI (op : Int) : Int := if 1 ≤ op ∧ op ≤ 4 then 0 else if 12 ≤ op ∧ op ≤ 30 then 2 else 1

theorem leaf_any (op : Int) (w : World) :
    Calls Try.prog 63 #[.int .i64 op] w fun e w' => e = .returned (.bool (leafB op)) ∧ w = w' := by
  unfold leafB
  go_enter Try.func63, Try.ntmps63
  go_wp2
  all_goals go_ret
  · exact ⟨ret_b (by simp [*]), rfl⟩
  · exact ⟨ret_b (by simp; omega), rfl⟩
theorem is_any (op : Int) (w : World) :
    Calls Try.prog 61 #[.int .i64 op] w fun e w' => e = .returned (.bool (decide (1 ≤ op ∧ op ≤ 36))) ∧ w = w' := by
  go_enter Try.func61, Try.ntmps61
  go_wp2
  all_goals go_ret
  · exact ⟨ret_b (by simp [*]), rfl⟩
  · exact ⟨ret_b (by simp; omega), rfl⟩
theorem binary_any (op : Int) (w : World) :
    Calls Try.prog 66 #[.int .i64 op] w fun e w' => e = .returned (.bool (decide (12 ≤ op ∧ op ≤ 30))) ∧ w = w' := by
  go_enter Try.func66, Try.ntmps66
  go_wp2
  all_goals go_ret
  · exact ⟨ret_b (by simp [*]), rfl⟩
  · exact ⟨ret_b (by simp; omega), rfl⟩

set_option maxHeartbeats 1000000 in
theorem arity_any (op : Int) (w : World) :
    Calls Try.prog 62 #[.int .i64 op] w fun e w' => e = .returned (.int .i64 (arityI op)) ∧ w = w' := by
  have HL := Lib.hid (leaf_any op w)
  have HB := Lib.hid (binary_any op w)
  unfold arityI
  unfold leafB at HL
  by_cases h1 : 1 ≤ op ∧ op ≤ 4
  · rw [if_pos h1]
    rw [decide_eq_true h1] at HL
    clear h1
    go_enter Try.func62, Try.ntmps62
    go_wp2_with (go_at_call 63; refine HL.out.mono ?_; rintro e w' ⟨rfl, rfl⟩)
    go_ret
    exact ⟨rfl, rfl⟩
  · rw [if_neg h1]
    rw [decide_eq_false h1] at HL
    by_cases h2 : 12 ≤ op ∧ op ≤ 30
    · rw [if_pos h2]
      rw [decide_eq_true h2] at HB
      clear h1 h2
      go_enter Try.func62, Try.ntmps62
      go_wp2_with (first | (go_at_call 63; refine HL.out.mono ?_; rintro e w' ⟨rfl, rfl⟩) | (go_at_call 66; refine HB.out.mono ?_; rintro e w' ⟨rfl, rfl⟩))
      go_ret
      exact ⟨rfl, rfl⟩
    · rw [if_neg h2]
      rw [decide_eq_false h2] at HB
      clear h1 h2
      go_enter Try.func62, Try.ntmps62
      go_wp2_with (first | (go_at_call 63; refine HL.out.mono ?_; rintro e w' ⟨rfl, rfl⟩) | (go_at_call 66; refine HB.out.mono ?_; rintro e w' ⟨rfl, rfl⟩))
      go_ret
      exact ⟨rfl, rfl⟩

end Go.Proofs.Ytikbdplllopjlaa
namespace Go.Proofs.Ytikbdplllopjlaa
open Go.RowKit

/-- A node that may not be. -/
def badN (op x : Int) (ks : Nat) : Bool := decide ((ks : Int) ≠ kidsI op ∨ (op > 4 ∧ x ≠ 0) ∨ (op ≠ 1 ∧ x < 0))

mutual
def cnt : T → Int → Int × Bool
  | .node op x ks, n => if n + 1 > 200 ∨ badN op x ks.length = true then (n + 1, false) else cnts ks (n + 1)
def cnts : List T → Int → Int × Bool
  | [], n => (n, true)
  | k :: ks, n => if (cnt k n).2 = false then ((cnt k n).1, false) else cnts ks (cnt k n).1
end

mutual
theorem cnt_bd : ∀ (t : T) (n : Int), 0 ≤ n → n ≤ 200 → n ≤ (cnt t n).1 ∧ (cnt t n).1 ≤ 201 ∧ ((cnt t n).2 = true → (cnt t n).1 ≤ 200)
  | .node op x ks, n, h0, h1 => by
    unfold cnt
    split
    · exact ⟨by simp only; omega, by simp only; omega, fun h => by cases h⟩
    · rename_i h
      have h2 : ¬ n + 1 > 200 := fun h' => h (Or.inl h')
      have := cnts_bd ks (n + 1) (by omega) (by omega)
      exact ⟨by omega, this.2⟩
theorem cnts_bd : ∀ (ks : List T) (n : Int), 0 ≤ n → n ≤ 200 → n ≤ (cnts ks n).1 ∧ (cnts ks n).1 ≤ 201 ∧ ((cnts ks n).2 = true → (cnts ks n).1 ≤ 200)
  | [], n, h0, h1 => by unfold cnts; exact ⟨by simp only; omega, by simp only; omega, fun _ => by simp only; omega⟩
  | k :: ks, n, h0, h1 => by
    unfold cnts
    have hk := cnt_bd k n h0 h1
    split
    · exact ⟨hk.1, hk.2.1, fun h => by cases h⟩
    · rename_i h
      have h2 : (cnt k n).2 = true := by simpa using h
      have := cnts_bd ks (cnt k n).1 (by omega) (hk.2.2 h2)
      exact ⟨by omega, this.2⟩
end

theorem drop_of {α : Type} {l : List α} {j : Nat} {x : α} (h : l[j]? = some x) : l.drop j = x :: l.drop (j + 1) := by
  have hlt : j < l.length := by
    rcases Nat.lt_or_ge j l.length with h' | h'
    · exact h'
    · rw [List.getElem?_eq_none h'] at h; cases h
  rw [List.drop_eq_getElem_cons hlt]
  rw [List.getElem?_eq_getElem hlt] at h
  injection h with h
  rw [h]
theorem TreeAt.shape0 {w : World} {C : Nat → Nat → Prop} {t : T} {v0 v1 v2 : Value} (h : TreeAt w C t v0 v1 v2) : ∃ a b A n c, v0 = .int .i64 a ∧ v1 = .int .i64 b ∧ v2 = .slice A n c := by
  obtain ⟨op, n, ks⟩ := t
  simp only [TreeAt] at h
  obtain ⟨h0, h1, _, _, _, A, cap, h5, _⟩ := h
  exact ⟨_, _, _, _, _, h0, h1, h5⟩
theorem drop_nil_of {α : Type} {l : List α} {n : Nat} (h : l.length ≤ n) : l.drop n = [] := List.drop_eq_nil_of_le h

/-- A tree that may be: how many nodes. -/
def treeC (t : T) : Int × Bool := cnt t 0

end Go.Proofs.Ytikbdplllopjlaa
