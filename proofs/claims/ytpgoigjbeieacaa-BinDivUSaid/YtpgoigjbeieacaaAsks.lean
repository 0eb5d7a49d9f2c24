/- A slice of structs opened to cells (the guide's block, for any number of one-cell fields), and a slice of asks. No condition. -/
import Derived.Test.YtpgoigjbeieacaaRows
import Derived.ProofKit
import Derived.WalkKit
import Derived.Deep.Slices
import Derived.Deep.Fields
import Derived.ChangeSame
namespace Go.Proofs.Ytpgoigjbeieacaa
open Go.ChangeShapes Go.WideShapes Go.ChangeAt Go.RowKit Go.Deep

section
variable {H : Type} {enc : TypeId × Value → H} {P : Program} {w : World} {base : Nat} {spare : Nat → Bool} {held : Bool}
theorem open_slice_fields {t e : TypeId} {fs : Array Field} {fuel : Nat} {cs : List Value} {x : DataW H × List MemPlace} (ht : P.underlying t = some (.slice e)) (he : P.underlying e = some (.struct fs))
    (hone : oneCellFields P fs = true) (hC : P.cellsOf e = fs.size) (h : DataW.trod enc P w base spare held fuel t cs = some x) :
    (cs = [.slice none 0 0] ∧ x = (.nil, [])) ∨
    ∃ (a : Addr) (len cap m : Nat) (D : Nat → DataW H) (Pl : Nat → List MemPlace), cs = [.slice (some a) len cap] ∧ base ≤ a.block ∧ len ≤ cap ∧ cap ≤ maxLen ∧ m = (if spare a.block then cap else len) ∧
      x = (.slice ((List.range len).map D) ((List.range (m - len)).map fun j => D (len + j)), MemPlace.row a (m * fs.size) ++ (List.range m).flatMap Pl) ∧
      ∀ i, i < m → ∃ (ys : List (DataW H × List MemPlace)) (n : Nat), D i = .agg (ys.map (·.1)) ∧ Pl i = ys.flatMap (·.2) ∧ ys.length = fs.size ∧
        ∀ (j : Nat) (f : Field), fs[j]? = some f → ∃ (v : Value) (y : DataW H × List MemPlace), w.cell? (a.add (i * fs.size + j)) = some v ∧ ys[j]? = some y ∧ DataW.trod enc P w base spare held n f.type [v] = some y := by
  rcases open_slice ht h with h0 | ⟨a, len, cap, m, n, D, Pl, hcs, hb, hl, hm, hmm, hx, hi⟩
  · exact .inl h0
  · refine .inr ⟨a, len, cap, m, D, Pl, hcs, hb, hl, hm, hmm, by rw [hC] at hx; exact hx, fun i him => ?_⟩
    obtain ⟨cs', hc, ht'⟩ := hi i him
    rw [hC] at hc
    obtain ⟨ys, n', hn', hy, hlen, hyl, hf⟩ := DataW.trod_struct he ht'
    obtain ⟨_, hcl, hat⟩ := World.cells?_some hc
    simp only [Prod.mk.injEq] at hy
    refine ⟨ys, n', hy.1, hy.2, hyl, fun j f hj => ?_⟩
    obtain ⟨ho, hk⟩ := hone_of hone j f hj
    have hjl : j < fs.size := (Array.getElem?_eq_some_iff.1 hj).1
    have hcell := hat j hjl
    have hv : cs'[j]? = some (cs'[j]'(by omega)) := List.getElem?_eq_getElem (by omega)
    have h1 := hf j f hj
    rw [ho, hk] at h1
    have hone' : (cs'.drop j).take 1 = [cs'[j]'(by omega)] := by
      rw [List.drop_eq_getElem_cons (by omega)]
      rfl
    rw [hone'] at h1
    have hys : ys[j]? = some (ys[j]'(by omega)) := List.getElem?_eq_getElem (by omega)
    refine ⟨_, _, ?_, hys, h1.trans hys⟩
    rw [← Go.Deep.add_add, hcell, hv]
end

def In64 (n : Int) : Prop := -9223372036854775808 ≤ n ∧ n ≤ 9223372036854775807

theorem in64_of_wf {n : Int} (h : (Lit.int .i64 n).wf = true) : In64 n := by
  have h1 : IntKind.i64.min = -9223372036854775808 := rfl
  have h2 : IntKind.i64.max = 9223372036854775807 := rfl
  simp only [Lit.wf, Bool.and_eq_true, decide_eq_true_eq] at h
  unfold In64
  omega

def cellInt (w : World) (p : Addr) : Int := match w.cell? p with | some (.int _ n) => n | _ => 0

/-- A slice of asks: each element's two numbers, where there is one. -/
def AsksAt (w : World) (A : Option Addr) (len : Nat) (D E : Nat → Int) : Prop :=
  0 < len → ∃ b off, A = some ⟨b, off, none⟩ ∧ b < w.heap.size ∧
    ∀ i, i < len → (w.cell? ⟨b, off + i * 4, none⟩ = some (.int .i64 (D i)) ∧ w.cell? ⟨b, off + i * 4 + 1, none⟩ = some (.int .i64 (E i))) ∧ In64 (D i) ∧ In64 (E i)

theorem cells_ask : Try.prog.cellsOf 26 = 4 := by kernel_rfl

theorem add_plain' (b off n : Nat) : (⟨b, off, none⟩ : Addr).add n = ⟨b, off + n, none⟩ := by
  unfold Addr.add; split <;> simp_all

theorem asks_of {H : Type} {enc : TypeId × Value → H} {W : World} {base : Nat} {v : Value} {d : DataW H} {p : List MemPlace}
    (hv : Value.okWide Try.prog W .any base 22 v) (h : DataW.Trod enc Try.prog W 0 (fun _ => true) true 22 v d p) (hlt : ∀ x ∈ p, x.block < W.heap.size) :
    ∃ A len cap D E, v = .slice A len cap ∧ len ≤ 9223372036854775807 ∧ AsksAt W A len D E := by
  obtain ⟨A, len, cap, rfl⟩ := okWide_slice Try.underlying22 hv
  obtain ⟨fuel, hf⟩ := h
  rcases open_slice_fields Try.underlying22 Try.underlying26 (by kernel_rfl) cells_ask hf with ⟨hcs, hx⟩ | ⟨a, len', cap', m, D, Pl, hcs, _, hl, hm, hmm, hx, hi⟩
  · simp [Value.cells] at hcs
    obtain ⟨rfl, rfl, rfl⟩ := hcs
    exact ⟨none, 0, 0, fun _ => 0, fun _ => 0, rfl, by omega, fun h => absurd h (by omega)⟩
  · simp [Value.cells] at hcs
    obtain ⟨rfl, rfl, rfl⟩ := hcs
    have hmm' : m = cap := by simpa using hmm
    subst hmm'
    simp only [Prod.mk.injEq] at hx
    obtain ⟨rfl, rfl⟩ := hx
    refine ⟨some a, len, m, fun i => cellInt W (a.add (i * 4)), fun i => cellInt W (a.add (i * 4 + 1)), rfl, by unfold maxLen at hm; omega, fun h0 => ?_⟩
    obtain ⟨b, off, spot⟩ := a
    have key : ∀ i, i < len → ∀ (j : Nat), j < 2 → ∃ n, W.cell? ((⟨b, off, spot⟩ : Addr).add (i * 4 + j)) = some (.int .i64 n) ∧ (Lit.int .i64 n).wf = true := by
      intro i hil j hj
      obtain ⟨ys, n, _, _, _, hf⟩ := hi i (by omega)
      match j, hj with
      | 0, _ =>
        obtain ⟨v, y, hcell, hy, ht⟩ := hf 0 _ rfl
        obtain ⟨x, e0, _, wx⟩ := DataW.trod_int Try.underlying2 ht
        simp at e0
        subst e0
        exact ⟨x, hcell, wx⟩
      | 1, _ =>
        obtain ⟨v, y, hcell, hy, ht⟩ := hf 1 _ rfl
        obtain ⟨x, e0, _, wx⟩ := DataW.trod_int Try.underlying2 ht
        simp at e0
        subst e0
        exact ⟨x, hcell, wx⟩
    have hspot : spot = none := by
      obtain ⟨n, hn, _⟩ := key 0 h0 0 (by omega)
      simpa [Addr.add] using World.cell?_spot hn
    subst hspot
    refine ⟨b, off, rfl, ?_, fun i hil => ?_⟩
    · exact hlt (.cell b off) (List.mem_append_left _ (MemPlace.mem_row.2 ⟨0, by simp; omega, by simp⟩))
    · obtain ⟨x, hx, wx⟩ := key i hil 0 (by omega)
      obtain ⟨y, hy, wy⟩ := key i hil 1 (by omega)
      simp only [Nat.add_zero] at hx
      simp only [cellInt, hx, hy]
      rw [add_plain'] at hx hy
      exact ⟨⟨hx, by rw [Nat.add_assoc]; exact hy⟩, in64_of_wf wx, in64_of_wf wy⟩

end Go.Proofs.Ytpgoigjbeieacaa
