/- The graph's machine: calls, whole. Conditions: as stated. The graph's machine: how a run starts and ends (plain). Conditions: as stated. -/
import Derived.Test.YtikbdplllopjlaaGCallCZz
import Derived.Test.YtikbdplllopjlaaQ09Zz
set_option linter.unusedVariables false
set_option linter.unusedSimpArgs false
namespace Go.Proofs.Ytikbdplllopjlaa
open Go.RowKit

theorem gcall_all {p : ProgS} (hp : ProgOkG p) {fuel : Int} (hf : fuel ≤ 100000000) : ∀ (d : Nat) (c : Int), (d : Int) + c = 64 → GCallOk p fuel c (callF p fuel d)
  | 0, c, hd => by
    intro f g args s base cb hb rb own P gv AA an acap w hg hal h hR hP horb hogv hI hc hgl hva han hargs
    rw [callF]
    rw [show stopF 4 s = { s with kind := 4 } from by unfold stopF; rw [if_pos hI.kind]]
    exact gcall_over base cb hb rb own P gv fuel p s f g args AA an acap w hg (hp.fns g (List.mem_of_getElem? hg)) hf hal h hR hP horb hogv hI hgl hva han hargs (by omega)
  | d + 1, c, hd => by
    intro f g args s base cb hb rb own P gv AA an acap w hg hal h hR hP horb hogv hI hc hgl hva han hargs
    have hfn := hp.fns g (List.mem_of_getElem? hg)
    obtain ⟨nt, hnt, _⟩ := hfn.nt
    by_cases hy : (stepF fuel (countsF g.locs) { s with calls := s.calls + 1, deep := max s.deep (s.calls + 1) }).1 = true
    · rw [callF_goG hg hnt hy]
      exact gcall_go base cb hb rb own P gv fuel p s f g args AA an acap w hg hfn hf hal h hR hP horb hogv hI hgl hva han hargs (callF p fuel d) (by omega) hy (gcall_all hp hf d _ (by omega)) (call_kept hp hf d) nt hnt
    · rw [callF_dryG hg (by simpa using hy)]
      exact gcall_dry base cb hb rb own P gv fuel p s f g args AA an acap w hg hfn hf hal h hR hP horb hogv hI hgl hva han hargs (by omega) (by simpa using hy)
end Go.Proofs.Ytikbdplllopjlaa
namespace Go.Proofs.Ytikbdplllopjlaa
open Go.RowKit

/-- What a run answers. -/
def GRunSays (o : OutS) (base : Nat) (w : World) (e : Ending) (w' : World) : Prop :=
  ∃ outv, e = .returned (.tuple #[.agg #[.int .i64 o.kind, .int .i64 o.code, outv, .int .i64 o.steps, .int .i64 o.deep], .int .i64 0]) ∧ w'.ownsRow base 2 1 outv o.out.length (o.out.map (Value.int .i64)) ∧ Below w.heap.size w w'

theorem memOk_zero : MemOk [⟨0, [], false⟩] :=
  ⟨by simp, fun o h => by simpa using h.symm, fun k o h1 h2 => by rw [List.getElem?_cons] at h2; split at h2 <;> first | omega | (simp at h2), fun o ho v hv => by simp at ho; subst ho; simp at hv⟩
theorem numOk_zero : NumOk [⟨0, [], false⟩] := fun o h => by simp at h; subst h; simp
/-- The clock and the heap as they are made. -/
theorem s00_hc {w : World} {B : Nat} {fuel : Int} {inp : List Int} {inv : Value} (hB : B ≤ w.heap.size) (hin : InW w B inv inp) :
    HCs ((w.alloc (.cells (ccells fuel (s00 inp) inv (.slice none 0 0)) 45)).alloc (.cells #[.slice none 0 0] 49)) w.heap.size (fun k => k = w.heap.size ∨ k = w.heap.size + 1) w.heap.size (w.heap.size + 1) fuel (s00 inp) := by
  have hb := below2 w (.cells (ccells fuel (s00 inp) inv (.slice none 0 0)) 45) (.cells #[.slice none 0 0] 49)
  refine ⟨inv, .slice none 0 0, .slice none 0 0, fun _ => 0, (Row.new _ _ _).alloc _, Row.new' _ _ (by simp), Or.inl rfl, Or.inr rfl, ?_, World.ownsRow_nil _ _ _ _, fun g hg => (by cases hg), ⟨⟨[], World.ownsRow_nil _ _ _ _, fun k o h => (by simp [s00, memBase] at h)⟩, fun k o h => (by simp [s00, memBase] at h), fun i j h => (by simp [s00, memBase] at h), ?_, ?_⟩, fun g hg => (by cases hg), fun k hk => ?_⟩
  · obtain ⟨A, cap, h0, h1, h2, h3⟩ := hin
    refine ⟨A, cap, h0, h1, h2, fun hp => ?_⟩
    obtain ⟨b, off, hA, hlt, hc⟩ := h3 hp
    exact ⟨b, off, hA, by omega, fun j x hj => ⟨(hb.cell (p := ⟨b, off + j, none⟩) (show b < w.heap.size by omega)).trans (hc j x hj).1, (hc j x hj).2⟩⟩
  · exact memOk_zero
  · exact numOk_zero
  · simp only [World.size_alloc]
    rcases hk with rfl | rfl <;> omega
theorem s00_inv {fuel : Int} (hf : 0 ≤ fuel) {inp : List Int} (hin : ∀ x, x ∈ inp → In64 x) {l : List ObS} (hob : ∀ o, o ∈ l → ObOk o ∧ ∀ x, x ∈ o.init → In64 x) (hl : l.length ≤ 16) : GInv fuel { s00 inp with mem := makesF [] l } ∧ (memBase (makesF [] l)).length = l.length + 1 := by
  have h1 := memBase_makes [] l
  have h2 : (memBase ([] : List MO)).length = 1 := rfl
  have h3 : MemOk (memBase (makesF [] l)) := makes_ok l (M := []) memOk_zero hob (by omega)
  refine ⟨⟨rfl, Int.le_refl _, hf, ?_, Nat.zero_le _, Int.le_refl _, Int.le_refl _, hin, h3, ?_⟩, by omega⟩
  · show (memBase (makesF [] l)).length ≤ 20 + _
    omega
  · show NumOk (memBase (makesF [] l))
    rw [← makesF_base]
    exact numOk_zero.makes l
theorem InW.in64 {w : World} {B : Nat} {v : Value} {l : List Int} (h : InW w B v l) : ∀ x, x ∈ l → In64 x := by
  intro x hx
  obtain ⟨j, hj⟩ := List.mem_iff_getElem?.1 hx
  have hlt : 0 < l.length := List.length_pos_of_mem hx
  obtain ⟨A, cap, _, _, _, h3⟩ := h
  obtain ⟨b, off, _, _, hc⟩ := h3 hlt
  exact (hc j x hj).2
theorem setcells5 (w : World) (r : Nat) (a b c d e : Value) : Wr (fun i => i = r) w (((((w.setCell ⟨r, 0, none⟩ a).setCell ⟨r, 1, none⟩ b).setCell ⟨r, 2, none⟩ c).setCell ⟨r, 3, none⟩ d).setCell ⟨r, 4, none⟩ e) :=
  (((((Wr.cell1 w r 0 a).trans (Wr.cell1 _ r 1 b) (fun _ h => Or.inl h)).trans (Wr.cell1 _ r 2 c) (fun _ h => Or.inl h)).trans (Wr.cell1 _ r 3 d) (fun _ h => Or.inl h)).trans (Wr.cell1 _ r 4 e) (fun _ h => Or.inl h))
theorem globV_nums (n : Nat) : globV n = locV (numsF [] n) := by
  unfold globV locV numsF
  rw [List.map_map]
  refine List.map_congr_left (fun i _ => ?_)
  simp [Nat.add_comm]
theorem slice_of_own {w : World} {base : Nat} {e : TypeId} {size : Nat} {v : Value} {n : Nat} {xs : List Value} (h : w.ownsRow base e size v n xs) : ∃ A c, v = .slice A n c := by
  rcases h.2 with ⟨e, e'⟩ | ⟨gg, cap, cur, e, _⟩
  · exact ⟨none, 0, by rw [e, e']⟩
  · exact ⟨_, _, e⟩
theorem endF_ret {v : V} {s : St} : endF (some v, s) = endF (none, if v.obj > 0 then { s with kind := 3 } else { s with code := v.n, kind := 1 }) := by
  unfold endF
  by_cases h : v.obj > 0
  · simp only [h, if_true]
  · simp only [h, if_false]
end Go.Proofs.Ytikbdplllopjlaa
