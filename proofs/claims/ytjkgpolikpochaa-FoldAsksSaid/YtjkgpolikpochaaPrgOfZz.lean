/- prog: the program of one tree. Conditions: as stated. -/
import Derived.Test.YtjkgpolikpochaaPrgZz
import Derived.Test.YtjkgpolikpochaaQ03Zz
set_option linter.unusedVariables false
set_option linter.unusedSimpArgs false
namespace Go.Proofs.Ytjkgpolikpochaa
open Go.RowKit

def obsOf : List ObS := [⟨8, 2, [7, -1]⟩, ⟨4, 3, [-5, 2]⟩]
def locT : T := .node 3 1 []
def stepsOf : List StepS := [⟨5, 0, 0, 0, []⟩, ⟨1, 1, 0, 0, [locT]⟩]
def graphOf (t : T) : GraphS := ⟨0, 2, obsOf, [⟨stepsOf, 3, t, 0, 0⟩]⟩
/-- The program of a tree. -/
def progOf (t : T) : ProgS := ⟨obsOf, [graphOf t], 0⟩

theorem cellE {W : World} {g : Nat} {cs : Array Value} {t : TypeId} {u : Value} {i sz j : Nat} (h : Row W g cs t) (hj : cs[0 + i * sz + j]? = some u) : (fun j => W.cell? ⟨g, 0 + i * sz + j, none⟩) j = some u := h.cell hj
theorem i64s (n : Int) (h : -100 ≤ n ∧ n ≤ 100) : In64 n := by unfold In64; omega
theorem prgV {W : World} {t : T} {a b : Int} {A : Option Addr} {n c l0 l1 ob tb sb bb gb : Nat}
    (r2 : Row W l0 #[.int .i64 7, .int .i64 (-1)] 2) (r3 : Row W l1 #[.int .i64 (-5), .int .i64 2] 2)
    (r4 : Row W ob #[.int .i64 8, .int .i64 2, .slice (some ⟨l0, 0, none⟩) 2 2, .int .i64 4, .int .i64 3, .slice (some ⟨l1, 0, none⟩) 2 2] 69)
    (r5 : Row W tb #[.int .i64 3, .int .i64 1, .slice none 0 0] 28)
    (r6 : Row W sb #[.int .i64 5, .int .i64 0, .int .i64 0, .int .i64 0, .slice none 0 0, .int .i64 1, .int .i64 1, .int .i64 0, .int .i64 0, .slice (some ⟨tb, 0, none⟩) 1 1] 71)
    (r7 : Row W bb #[.slice (some ⟨sb, 0, none⟩) 2 2, .int .i64 3, .int .i64 a, .int .i64 b, .slice A n c, .int .i64 0, .int .i64 0] 74)
    (r8 : Row W gb #[.int .i64 0, .int .i64 2, .slice (some ⟨ob, 0, none⟩) 2 2, .slice (some ⟨bb, 0, none⟩) 1 1] 77)
    (hT : TreeAt W (Under W.heap.size) t (.int .i64 a) (.int .i64 b) (.slice A n c)) :
    ProgV W W.heap.size (.slice (some ⟨ob, 0, none⟩) 2 2, .slice (some ⟨gb, 0, none⟩) 1 1, .int .i64 0) (progOf t) := by
  have hl0 : LongsAt W W.heap.size [7, -1] (.slice (some ⟨l0, 0, none⟩) 2 2) := ⟨_, _, rfl, by decide, fun _ => ⟨l0, 0, rfl, r2.lt, fun i x hi => by
    rcases i with _ | _ | i
    · simp at hi; subst hi; exact ⟨cellE r2 rfl, i64s _ (by omega)⟩
    · simp at hi; subst hi; exact ⟨cellE r2 rfl, i64s _ (by omega)⟩
    · simp at hi⟩⟩
  have hl1 : LongsAt W W.heap.size [-5, 2] (.slice (some ⟨l1, 0, none⟩) 2 2) := ⟨_, _, rfl, by decide, fun _ => ⟨l1, 0, rfl, r3.lt, fun i x hi => by
    rcases i with _ | _ | i
    · simp at hi; subst hi; exact ⟨cellE r3 rfl, i64s _ (by omega)⟩
    · simp at hi; subst hi; exact ⟨cellE r3 rfl, i64s _ (by omega)⟩
    · simp at hi⟩⟩
  have hobs : SliceAt W W.heap.size 3 (ObE W W.heap.size) obsOf (.slice (some ⟨ob, 0, none⟩) 2 2) := ⟨_, _, rfl, by decide, fun _ => ⟨ob, 0, rfl, r4.lt, fun i x hi => by
    rcases i with _ | _ | i
    · simp [obsOf] at hi; subst hi; exact ⟨cellE r4 rfl, cellE r4 rfl, ⟨_, cellE r4 rfl, hl0⟩, i64s _ (by simp), i64s _ (by simp)⟩
    · simp [obsOf] at hi; subst hi; exact ⟨cellE r4 rfl, cellE r4 rfl, ⟨_, cellE r4 rfl, hl1⟩, i64s _ (by simp), i64s _ (by simp)⟩
    · simp [obsOf] at hi⟩⟩
  have hloc : KidsV W W.heap.size [locT] (some ⟨tb, 0, none⟩) 1 := ⟨rfl, by decide, fun _ => ⟨tb, 0, rfl, r5.lt, KidsAt.of (fun i k hi => by
    rcases i with _ | i
    · simp at hi
      subst hi
      refine ⟨.int .i64 3, .int .i64 1, .slice none 0 0, r5.cell rfl, r5.cell rfl, r5.cell rfl, ?_⟩
      rw [locT, TreeAt]
      exact ⟨rfl, rfl, i64s _ (by omega), i64s _ (by omega), by simp, none, 0, rfl, fun h => by simp at h⟩
    · simp at hi)⟩⟩
  have hst : SliceAt W W.heap.size 5 (StepE W W.heap.size) stepsOf (.slice (some ⟨sb, 0, none⟩) 2 2) := ⟨_, _, rfl, by decide, fun _ => ⟨sb, 0, rfl, r6.lt, fun i x hi => by
    rcases i with _ | _ | i
    · simp [stepsOf] at hi; subst hi
      exact ⟨cellE r6 rfl, cellE r6 rfl, cellE r6 rfl, cellE r6 rfl, ⟨_, cellE r6 rfl, none, 0, 0, rfl, rfl, by decide, fun h => absurd h (by omega)⟩, i64s _ (by simp), i64s _ (by simp), i64s _ (by simp), i64s _ (by simp)⟩
    · simp [stepsOf] at hi; subst hi
      exact ⟨cellE r6 rfl, cellE r6 rfl, cellE r6 rfl, cellE r6 rfl, ⟨_, cellE r6 rfl, _, 1, 1, rfl, hloc⟩, i64s _ (by simp), i64s _ (by simp), i64s _ (by simp), i64s _ (by simp)⟩
    · simp [stepsOf] at hi⟩⟩
  have hbl : SliceAt W W.heap.size 7 (BlockE W W.heap.size) (graphOf t).blocks (.slice (some ⟨bb, 0, none⟩) 1 1) := ⟨_, _, rfl, by simp [graphOf], fun _ => ⟨bb, 0, rfl, r7.lt, fun i x hi => by
    rcases i with _ | i
    · simp [graphOf] at hi; subst hi
      exact ⟨⟨_, cellE r7 rfl, hst⟩, cellE r7 rfl, ⟨_, _, _, cellE r7 rfl, cellE r7 rfl, cellE r7 rfl, hT⟩, cellE r7 rfl, cellE r7 rfl, i64s _ (by simp), i64s _ (by simp), i64s _ (by simp)⟩
    · simp [graphOf] at hi⟩⟩
  refine ⟨hobs, ⟨_, _, rfl, by simp [progOf], fun _ => ⟨gb, 0, rfl, r8.lt, fun i x hi => ?_⟩⟩, rfl, i64s _ (by simp [progOf])⟩
  rcases i with _ | i
  · simp [progOf] at hi; subst hi
    exact ⟨cellE r8 rfl, cellE r8 rfl, ⟨_, cellE r8 rfl, hobs⟩, ⟨_, cellE r8 rfl, hbl⟩, i64s _ (by simp [graphOf]), i64s _ (by simp [graphOf])⟩
  · simp [progOf] at hi

/-- Where the program of a tree lies. -/
def PrgRows (W : World) (lo hi : Nat) (a b : Int) (A : Option Addr) (n c : Nat) (P : Value × Value × Value) : Prop :=
  ∃ l0 l1 ob tb sb bb gb : Nat, (lo ≤ l0 ∧ l0 < hi) ∧ (lo ≤ l1 ∧ l1 < hi) ∧ (lo ≤ ob ∧ ob < hi) ∧ (lo ≤ tb ∧ tb < hi) ∧ (lo ≤ sb ∧ sb < hi) ∧ (lo ≤ bb ∧ bb < hi) ∧ (lo ≤ gb ∧ gb < hi) ∧
    Row W l0 #[.int .i64 7, .int .i64 (-1)] 2 ∧ Row W l1 #[.int .i64 (-5), .int .i64 2] 2 ∧
    Row W ob #[.int .i64 8, .int .i64 2, .slice (some ⟨l0, 0, none⟩) 2 2, .int .i64 4, .int .i64 3, .slice (some ⟨l1, 0, none⟩) 2 2] 69 ∧
    Row W tb #[.int .i64 3, .int .i64 1, .slice none 0 0] 28 ∧
    Row W sb #[.int .i64 5, .int .i64 0, .int .i64 0, .int .i64 0, .slice none 0 0, .int .i64 1, .int .i64 1, .int .i64 0, .int .i64 0, .slice (some ⟨tb, 0, none⟩) 1 1] 71 ∧
    Row W bb #[.slice (some ⟨sb, 0, none⟩) 2 2, .int .i64 3, .int .i64 a, .int .i64 b, .slice A n c, .int .i64 0, .int .i64 0] 74 ∧
    Row W gb #[.int .i64 0, .int .i64 2, .slice (some ⟨ob, 0, none⟩) 2 2, .slice (some ⟨bb, 0, none⟩) 1 1] 77 ∧
    P = (.slice (some ⟨ob, 0, none⟩) 2 2, .slice (some ⟨gb, 0, none⟩) 1 1, .int .i64 0)
theorem PrgRows.wr {W W' : World} {F : Nat → Prop} {lo hi : Nat} {a b : Int} {A : Option Addr} {n c : Nat} {P : Value × Value × Value} (h : PrgRows W lo hi a b A n c P) (hw : Wr F W W') (hF : ∀ i, F i → i < lo ∨ hi ≤ i) : PrgRows W' lo hi a b A n c P := by
  obtain ⟨l0, l1, ob, tb, sb, bb, gb, h0, h1, h2, h3, h4, h5, h6, r0, r1, r2, r3, r4, r5, r6, hP⟩ := h
  exact ⟨l0, l1, ob, tb, sb, bb, gb, h0, h1, h2, h3, h4, h5, h6, r0.wr hw (fun h => by have := hF _ h; omega), r1.wr hw (fun h => by have := hF _ h; omega), r2.wr hw (fun h => by have := hF _ h; omega), r3.wr hw (fun h => by have := hF _ h; omega), r4.wr hw (fun h => by have := hF _ h; omega), r5.wr hw (fun h => by have := hF _ h; omega), r6.wr hw (fun h => by have := hF _ h; omega), hP⟩
theorem PrgRows.progV {W : World} {lo hi : Nat} {t : T} {a b : Int} {A : Option Addr} {n c : Nat} {P : Value × Value × Value} (h : PrgRows W lo hi a b A n c P) (hT : TreeAt W (Under W.heap.size) t (.int .i64 a) (.int .i64 b) (.slice A n c)) : ProgV W W.heap.size P (progOf t) := by
  obtain ⟨l0, l1, ob, tb, sb, bb, gb, _, _, _, _, _, _, _, r0, r1, r2, r3, r4, r5, r6, hP⟩ := h
  rw [hP]
  exact prgV r0 r1 r2 r3 r4 r5 r6 hT
theorem PrgRows.shape {W : World} {lo hi : Nat} {a b : Int} {A : Option Addr} {n c : Nat} {P : Value × Value × Value} (h : PrgRows W lo hi a b A n c P) : ∃ A0 n0 c0 A1 n1 c1, P = (.slice A0 n0 c0, .slice A1 n1 c1, .int .i64 0) := by
  obtain ⟨l0, l1, ob, tb, sb, bb, gb, _, _, _, _, _, _, _, r0, r1, r2, r3, r4, r5, r6, hP⟩ := h
  exact ⟨_, _, _, _, _, _, hP⟩

/-- What 'prog' answers. -/
def PrgEnd (a b : Int) (A : Option Addr) (n c : Nat) (w : World) (e : Ending) (w' : World) : Prop := ∃ P : Value × Value × Value, e = .returned (.agg #[P.1, P.2.1, P.2.2]) ∧ PrgRows w' w.heap.size w'.heap.size a b A n c P ∧ Below w.heap.size w w'

set_option maxRecDepth 100000 in
set_option maxHeartbeats 4000000 in
theorem prgOf_any (a b : Int) (A : Option Addr) (n c : Nat) (w : World) :
    Calls Try.prog 30 #[.agg #[.int .i64 a, .int .i64 b, .slice A n c]] w (PrgEnd a b A n c w) := by
  go_enter Try.func30, Try.ntmps30
  refine wp_letter (fun Q hQ => ?_)
  have HQ := Lib.hid hQ
  clear hQ
  go_wp2_with fail
  refine HQ.out _ _ _ ?_
  have hb9 : ∀ (o1 o2 o3 o4 o5 o6 o7 o8 o9 : Obj), Below w.heap.size w (((((((((w.alloc o1).alloc o2).alloc o3).alloc o4).alloc o5).alloc o6).alloc o7).alloc o8).alloc o9) := fun o1 o2 o3 o4 o5 o6 o7 o8 o9 =>
    ((((((below3 w o1 o2 o3).alloc (by simp; omega) o4).alloc (by simp; omega) o5).alloc (by simp; omega) o6).alloc (by simp; omega) o7).alloc (by simp; omega) o8).alloc (by simp; omega) o9
  refine bodyPost_ret (v := .agg #[.slice (some ⟨w.heap.size + 1 + 1 + 1 + 1, 0, none⟩) 2 2, .slice (some ⟨w.heap.size + 1 + 1 + 1 + 1 + 1 + 1 + 1 + 1, 0, none⟩) 1 1, .int .i64 0]) (by simp [results, Try.results30, go_sem]) rfl ⟨(_, _, _), rfl, ?_, hb9 _ _ _ _ _ _ _ _ _⟩
  refine ⟨w.heap.size + 1 + 1, w.heap.size + 1 + 1 + 1, w.heap.size + 1 + 1 + 1 + 1, w.heap.size + 1 + 1 + 1 + 1 + 1, w.heap.size + 1 + 1 + 1 + 1 + 1 + 1, w.heap.size + 1 + 1 + 1 + 1 + 1 + 1 + 1, w.heap.size + 1 + 1 + 1 + 1 + 1 + 1 + 1 + 1, ?_, ?_, ?_, ?_, ?_, ?_, ?_, ?_, ?_, ?_, ?_, ?_, ?_, ?_, rfl⟩
  · exact ⟨by omega, by simp only [World.size_alloc]; omega⟩
  · exact ⟨by omega, by simp only [World.size_alloc]; omega⟩
  · exact ⟨by omega, by simp only [World.size_alloc]; omega⟩
  · exact ⟨by omega, by simp only [World.size_alloc]; omega⟩
  · exact ⟨by omega, by simp only [World.size_alloc]; omega⟩
  · exact ⟨by omega, by simp only [World.size_alloc]; omega⟩
  · exact ⟨by omega, by simp only [World.size_alloc]; omega⟩
  · exact ((((((Row.new' _ _ (by simp)).alloc _).alloc _).alloc _).alloc _).alloc _).alloc _
  · exact (((((Row.new' _ _ (by simp)).alloc _).alloc _).alloc _).alloc _).alloc _
  · exact ((((Row.new' _ _ (by simp)).alloc _).alloc _).alloc _).alloc _
  · exact (((Row.new' _ _ (by simp)).alloc _).alloc _).alloc _
  · exact ((Row.new' _ _ (by simp)).alloc _).alloc _
  · exact (Row.new' _ _ (by simp)).alloc _
  · exact Row.new' _ _ (by simp)
end Go.Proofs.Ytjkgpolikpochaa
