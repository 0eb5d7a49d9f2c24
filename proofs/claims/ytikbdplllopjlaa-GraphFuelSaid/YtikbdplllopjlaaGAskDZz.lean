/- The graph's asker: a step's shape. Conditions: as stated. -/
import Derived.Test.YtikbdplllopjlaaGAskCZz
set_option linter.unusedVariables false
set_option linter.unusedSimpArgs false
namespace Go.Proofs.Ytikbdplllopjlaa
open Go.RowKit

def gshape (p : ProgS) (x : StepS) : Int × Bool × Bool :=
  if x.op = 1 then (1, true, true) else if x.op = 2 then (2, false, sizeB x.size)
  else if x.op = 3 then (if 0 ≤ x.fn ∧ x.fn < p.funcs.length then ((p.funcs.getD x.fn.toNat noGraph).params, x.to != -1, true) else (0, false, false))
  else if x.op = 4 ∨ x.op = 6 then (1, false, true) else if x.op = 5 then (0, true, true) else (0, false, false)
/-- The asker's block tells of a program and a function. -/
structure AskOk (w : World) (B : Nat) (a : AskAt) (p : ProgS) (g : GraphS) : Prop where
  ng : a.ng = p.globs.length
  fns : SliceAt w B 4 (GraphE w B) p.funcs (.slice a.fa a.nf a.fc)
  temps : a.temps = g.temps
  nl : a.nl = g.locs.length
  nb : a.nb = g.blocks.length
theorem AskOk.below {w w' : World} {B : Nat} {a : AskAt} {p : ProgS} {g : GraphS} (h : AskOk w B a p g) (hb : Below B w w') : AskOk w' B a p g :=
  ⟨h.ng, h.fns.below hb (Nat.le_refl _) (fun _ _ h => h.below hb (Nat.le_refl _)), h.temps, h.nl, h.nb⟩
def ShapeSays (r : Int × Bool × Bool) (w : World) (e : Ending) (w' : World) : Prop := e = .returned (.tuple #[.int .i64 r.1, .bool r.2.1, .bool r.2.2]) ∧ Below w.heap.size w w'

set_option maxRecDepth 100000 in
set_option maxHeartbeats 8000000 in
theorem gshape_any (a : AskAt) (ab : Nat) (n : Int) (p : ProgS) (g : GraphS) (x : StepS) (A : Option Addr) (kn kc : Nat) (B : Nat) (w : World) (hB : B ≤ w.heap.size) (ha : AskOk w B a p g) (hr : ARow w ab a n) (hfn : In64 x.fn) :
    Calls Try.prog 35 #[.pointer (some ⟨ab, 0, none⟩), .agg #[.int .i64 x.op, .int .i64 x.to, .int .i64 x.size, .int .i64 x.fn, .slice A kn kc]] w fun e w' => ShapeSays (gshape p x) w e w' := by
  obtain ⟨op, to, size, fn, ks⟩ := x
  simp only at hfn ⊢
  have hln := ha.fns.len
  have r1 : w.cell? ⟨ab, 1, none⟩ = some (.slice a.fa a.nf a.fc) := Row.cell hr rfl
  have hrl := Row.lt hr
  have hrl1 : ab < w.heap.size + 1 := by omega
  have HS := Lib.hid (fun W => gsize_any size W)
  have HWI := Lib.hid (fun W => gwithin_any fn (a.nf : Nat) W)
  have HA := Lib.hid ha
  clear ha hr
  have h : op = 1 ∨ op = 2 ∨ op = 3 ∨ op = 4 ∨ op = 6 ∨ op = 5 ∨ (op ≠ 1 ∧ op ≠ 2 ∧ op ≠ 3 ∧ op ≠ 4 ∧ op ≠ 6 ∧ op ≠ 5) := by omega
  rcases h with rfl | rfl | rfl | rfl | rfl | rfl | ⟨h1, h2, h3, h4, h6, h5⟩
  · rw [show gshape p ⟨1, to, size, fn, ks⟩ = (1, true, true) from by simp [gshape]]
    go_enter Try.func35, Try.ntmps35
    go_wp2_with fail
    exact bodyPost_ret (v := .tuple #[.int .i64 1, .bool true, .bool true]) (by simp [results, Try.results35, go_sem]) rfl ⟨rfl, below1 _ _⟩
  · rw [show gshape p ⟨2, to, size, fn, ks⟩ = (2, false, sizeB size) from by simp [gshape]]
    go_enter Try.func35, Try.ntmps35
    go_wp2_with fail
    refine (HS.out _).mono ?_
    rintro e w' ⟨rfl, rfl⟩
    go_wp2_with fail
    exact bodyPost_ret (v := .tuple #[.int .i64 2, .bool false, .bool (sizeB size)]) (by simp [results, Try.results35, go_sem]) rfl ⟨rfl, below1 _ _⟩
  · by_cases hin : 0 ≤ fn ∧ fn < (a.nf : Int)
    · obtain ⟨f, rfl⟩ := Int.eq_ofNat_of_zero_le hin.1
      have hfl : f < a.nf := by omega
      obtain ⟨b, off, g', hA, hb, hg', g0, _⟩ := HA.out.fns.get hfl
      simp only [Nat.add_zero] at g0
      rw [show gshape p ⟨3, to, size, (f : Int), ks⟩ = (g'.params, to != -1, true) from by
        unfold gshape
        rw [if_neg (show ¬ (3 : Int) = 1 by decide), if_neg (show ¬ (3 : Int) = 2 by decide), if_pos rfl, if_pos (show 0 ≤ (f : Int) ∧ (f : Int) < (p.funcs.length : Int) from ⟨by omega, by omega⟩), Int.toNat_natCast, List.getD_eq_getElem?_getD, hg', Option.getD_some]]
      have HW2 := Lib.hid (show ∀ W, Calls Try.prog 19 #[.int .i64 (f : Int), .int .i64 (a.nf : Nat)] W fun e w' => e = .returned (.bool true) ∧ W = w' from fun W => by have := HWI.out W; rwa [decide_eq_true hin] at this)
      rw [hA] at r1
      have hbl : b < w.heap.size := by omega
      have hfi : (f : Int) < (a.nf : Int) := by omega
      clear hin hg' hA
      go_enter Try.func35, Try.ntmps35
      go_wp2_with fail
      go_quiet ((go_at_call 19; exact Calls.quiet_of_same ((HW2.out _).mono fun _ _ h => ⟨h.1, h.2.symm⟩)))
      go_wp2_with fail
      go_region
      go_wp2_with fail
      exact bodyPost_ret (v := .tuple #[.int .i64 g'.params, .bool (to != -1), .bool true]) (by simp [results, Try.results35, go_sem]) rfl ⟨rfl, below_drewN (below1 _ _) _⟩
    · rw [show gshape p ⟨3, to, size, fn, ks⟩ = (0, false, false) from by
        unfold gshape
        rw [if_neg (show ¬ (3 : Int) = 1 by decide), if_neg (show ¬ (3 : Int) = 2 by decide), if_pos rfl, if_neg (show ¬ (0 ≤ fn ∧ fn < (p.funcs.length : Int)) by omega)]]
      have HW2 := Lib.hid (show ∀ W, Calls Try.prog 19 #[.int .i64 fn, .int .i64 (a.nf : Nat)] W fun e w' => e = .returned (.bool false) ∧ W = w' from fun W => by have := HWI.out W; rwa [decide_eq_false hin] at this)
      clear hin
      go_enter Try.func35, Try.ntmps35
      go_wp2_with fail
      go_quiet ((go_at_call 19; exact Calls.quiet_of_same ((HW2.out _).mono fun _ _ h => ⟨h.1, h.2.symm⟩)))
      go_wp2_with fail
      exact bodyPost_ret (v := .tuple #[.int .i64 0, .bool false, .bool false]) (by simp [results, Try.results35, go_sem]) rfl ⟨rfl, below_drewN (below1 _ _) _⟩
  · rw [show gshape p ⟨4, to, size, fn, ks⟩ = (1, false, true) from by simp [gshape]]
    go_enter Try.func35, Try.ntmps35
    go_wp2_with fail
    exact bodyPost_ret (v := .tuple #[.int .i64 1, .bool false, .bool true]) (by simp [results, Try.results35, go_sem]) rfl ⟨rfl, below1 _ _⟩
  · rw [show gshape p ⟨6, to, size, fn, ks⟩ = (1, false, true) from by simp [gshape]]
    go_enter Try.func35, Try.ntmps35
    go_wp2_with fail
    exact bodyPost_ret (v := .tuple #[.int .i64 1, .bool false, .bool true]) (by simp [results, Try.results35, go_sem]) rfl ⟨rfl, below1 _ _⟩
  · rw [show gshape p ⟨5, to, size, fn, ks⟩ = (0, true, true) from by simp [gshape]]
    go_enter Try.func35, Try.ntmps35
    go_wp2_with fail
    exact bodyPost_ret (v := .tuple #[.int .i64 0, .bool true, .bool true]) (by simp [results, Try.results35, go_sem]) rfl ⟨rfl, below1 _ _⟩
  · rw [show gshape p ⟨op, to, size, fn, ks⟩ = (0, false, false) from by
      unfold gshape
      rw [if_neg h1, if_neg h2, if_neg h3, if_neg (show ¬ (op = 4 ∨ op = 6) by omega), if_neg h5]]
    have e1 : (op == 1) = false := by simpa using h1
    have e2 : (op == 2) = false := by simpa using h2
    have e3 : (op == 3) = false := by simpa using h3
    have e4 : (op == 4) = false := by simpa using h4
    have e5 : (op == 5) = false := by simpa using h5
    have e6 : (op == 6) = false := by simpa using h6
    clear h1 h2 h3 h4 h5 h6
    go_enter Try.func35, Try.ntmps35
    go_wp2_with fail
    exact bodyPost_ret (v := .tuple #[.int .i64 0, .bool false, .bool false]) (by simp [results, Try.results35, go_sem]) rfl ⟨rfl, below1 _ _⟩
end Go.Proofs.Ytikbdplllopjlaa
