/- live's Next. Conditions: as stated. -/
import Derived.Test.YtlenilbkifofjaaDoorLvEZz
set_option linter.unusedVariables false
set_option linter.unusedSimpArgs false
namespace Go.Proofs.YtlenilbkifofjaaDoor
open Go.RowKit

def nextI (l : List InsS) (k : Nat) : List Int := (nextL l k).map fun (j : Nat) => (j : Int)
/-- Labels that are named are there. -/
def Named (l : List InsS) : Prop := ∀ x, x ∈ l → (x.op = 15 ∨ x.op = 16) → labI l x.n = true
theorem longs_new1 (w : World) (b : Nat) (hb : w.heap.size = b) (a : Int) (h : In64 a) : LongsAt (w.alloc (.cells #[.int .i64 a] 3)) (w.alloc (.cells #[.int .i64 a] 3)).heap.size [a] (.slice (some ⟨b, 0, none⟩) 1 1) := by
  subst hb
  refine ⟨some ⟨w.heap.size, 0, none⟩, 1, rfl, by simp, fun _ => ⟨w.heap.size, 0, rfl, by simp, fun i x hi => ?_⟩⟩
  cases i with
  | zero => simp at hi; subst hi; exact ⟨(Row.new w #[.int .i64 a] 3).cell (j := 0) rfl, h⟩
  | succ i => simp at hi
theorem longs_new2 (w : World) (g : Nat) (hg : w.heap.size = g) (a b : Int) (h : In64 a) (h' : In64 b) : LongsAt (w.alloc (.cells #[.int .i64 a, .int .i64 b] 3)) (w.alloc (.cells #[.int .i64 a, .int .i64 b] 3)).heap.size [a, b] (.slice (some ⟨g, 0, none⟩) 2 2) := by
  subst hg
  refine ⟨some ⟨w.heap.size, 0, none⟩, 2, rfl, by simp, fun _ => ⟨w.heap.size, 0, rfl, by simp, fun i x hi => ?_⟩⟩
  match i, hi with
  | 0, hi => simp at hi; subst hi; exact ⟨(Row.new w #[.int .i64 a, .int .i64 b] 3).cell (j := 0) rfl, h⟩
  | 1, hi => simp at hi; subst hi; exact ⟨(Row.new w #[.int .i64 a, .int .i64 b] 3).cell (j := 1) rfl, h'⟩
  | i + 2, hi => simp at hi
theorem newInts_nil (w w' : World) (hb : Below w.heap.size w w') : NewInts [] w (.returned (.slice none 0 0)) w' := ⟨none, 0, rfl, ⟨none, 0, rfl, by simp, fun h => by simp at h⟩, fun _ => ⟨rfl, rfl⟩, Nat.le_refl _, hb⟩
theorem labN_lt {l : List InsS} {n : Int} (h : labI l n = true) : labN l n < l.length := by
  unfold labI at h
  exact List.findIdx_lt_length.2 (by simpa using h)
theorem nextL_cases {l : List InsS} {k : Nat} {x : InsS} (h : l[k]? = some x) : nextL l k = if x.op = 17 ∨ x.op = 13 then [] else if x.op = 15 then [labN l x.n] else if x.op = 16 then [k + 1, labN l x.n] else [k + 1] := by
  unfold nextL
  rw [h]
theorem labO_getD {l : List InsS} {n : Int} (h : labI l n = true) : (labO l n).getD 0 = labN l n := by
  unfold labO
  rw [if_pos h]
  rfl
set_option maxRecDepth 100000 in
set_option maxHeartbeats 8000000 in
theorem lnext_any (c : CodeS) (LA : Option Addr) (lc : Nat) (BA : Option Addr) (bc mb n k B : Nat) (w : World) (hB : B ≤ w.heap.size) (hK : SliceAt w B 6 (InsE w B) c.ins (.slice BA c.ins.length bc)) (hM : LabM w mb n (labO c.ins)) (hN : Named c.ins) (hk : k < c.ins.length) (hlen : c.ins.length ≤ 8000) :
    Calls Tryd.prog 64 #[.agg #[.int .i64 c.params, .int .i64 c.regs, .slice LA c.locs.length lc, .slice BA c.ins.length bc], .map (some mb), .int .i64 (k : Nat)] w fun e w' => NewInts (nextI c.ins k) w e w' := by
  obtain ⟨bb, boff, x, rfl, hbb, hbk, b0, b1, b2, b3, b4, ⟨sv, b5, hst⟩, hx0, hx1, hx2, hx3, hx4⟩ := SliceAt.get hK hk
  simp only [Nat.add_zero] at b0 b1 b2 b3 b4 b5
  obtain ⟨SA, scap, hsv⟩ : ∃ SA scap, sv = .slice SA x.arg.length scap := (by obtain ⟨A', c', h, _⟩ := hst; exact ⟨_, _, h⟩)
  subst hsv
  have hkb : (k : Int) < (c.ins.length : Int) := by omega
  have hbbl : bb < w.heap.size := by omega
  have HMW := Lib.hid (fun W (hW : Below w.heap.size w W) => (hM.below hW).look hx4)
  have HX := Lib.hid (nextL_cases hbk)
  have HNM := Lib.hid (fun h => hN x (List.mem_of_getElem? hbk) h)
  have H64 := Lib.hid (show ∀ j : Nat, j ≤ 8000 → In64 (j : Int) from fun j hj => by unfold In64; omega)
  have hB2 := below2 w (.cells #[.int .i64 c.params, .int .i64 c.regs, .slice LA c.locs.length lc, .slice (some ⟨bb, boff, none⟩) c.ins.length bc] 33) (.cells #[.int .i64 x.op, .int .i64 x.dst, .int .i64 x.a, .int .i64 x.b, .int .i64 x.n, .slice SA x.arg.length scap] 38)
  have HB2 := Lib.hid hB2
  have hlook := HMW.out _ hB2
  clear hK hM hN hbk hst hB2
  obtain ⟨op, dst, a, b, nn, arg⟩ := x
  simp only at b0 b1 b2 b3 b4 b5 HX HNM hlook HB2
  have hcase : (op = 17 ∨ op = 13) ∨ op = 15 ∨ op = 16 ∨ ((op == 17) = false ∧ (op == 13) = false ∧ (op == 15) = false ∧ (op == 16) = false) := by
    simp only [beq_eq_false_iff_ne]
    omega
  rcases hcase with (rfl | rfl) | rfl | rfl | ⟨d1, d2, d3, d4⟩
  · have HY := Lib.hid (show nextI c.ins k = [] from by unfold nextI; rw [HX.out]; simp)
    clear hlook
    go_enter Tryd.func64, Tryd.ntmps64
    refine wp_letter (fun Q hQ => ?_)
    have HQ := Lib.hid hQ
    clear hQ
    go_wp2_with fail
    refine HQ.out _ _ _ ?_
    rw [HY.out]
    exact bodyPost_ret (v := .slice none 0 0) (by simp [results, Tryd.results64, go_sem]) rfl (newInts_nil _ _ HB2.out)
  · have HY := Lib.hid (show nextI c.ins k = [] from by unfold nextI; rw [HX.out]; simp)
    clear hlook
    go_enter Tryd.func64, Tryd.ntmps64
    refine wp_letter (fun Q hQ => ?_)
    have HQ := Lib.hid hQ
    clear hQ
    go_wp2_with fail
    refine HQ.out _ _ _ ?_
    rw [HY.out]
    exact bodyPost_ret (v := .slice none 0 0) (by simp [results, Tryd.results64, go_sem]) rfl (newInts_nil _ _ HB2.out)
  · have hl := HNM.out (by simp)
    have h3 := labN_lt hl
    rw [labO_getD hl] at hlook
    have HY := Lib.hid (show nextI c.ins k = [((labN c.ins nn : Nat) : Int)] from by unfold nextI; rw [HX.out]; simp)
    have HI := Lib.hid (H64.out (labN c.ins nn) (by omega))
    clear hl h3
    go_enter Tryd.func64, Tryd.ntmps64
    refine wp_letter (fun Q hQ => ?_)
    have HQ := Lib.hid hQ
    clear hQ
    go_wp2_with fail
    refine HQ.out _ _ _ ?_
    rw [HY.out]
    exact bodyPost_ret (v := .slice (some ⟨w.heap.size + 2, 0, none⟩) 1 1) (by simp [results, Tryd.results64, go_sem]) rfl ⟨_, _, rfl, longs_new1 _ _ (by simp) _ HI.out, fun h => by simp at h, Nat.le_refl _, HB2.out.trans ((below1 _ _).mono (HB2.out.size))⟩
  · have hl := HNM.out (by simp)
    have h3 := labN_lt hl
    rw [labO_getD hl] at hlook
    have HY := Lib.hid (show nextI c.ins k = [(k : Int) + 1, ((labN c.ins nn : Nat) : Int)] from by unfold nextI; rw [HX.out]; simp)
    have HI := Lib.hid (H64.out (labN c.ins nn) (by omega))
    have HJ := Lib.hid (show In64 ((k : Int) + 1) from by unfold In64; omega)
    clear hl h3
    go_enter Tryd.func64, Tryd.ntmps64
    refine wp_letter (fun Q hQ => ?_)
    have HQ := Lib.hid hQ
    clear hQ
    go_wp2_with fail
    refine HQ.out _ _ _ ?_
    rw [HY.out]
    exact bodyPost_ret (v := .slice (some ⟨w.heap.size + 2, 0, none⟩) 2 2) (by simp [results, Tryd.results64, go_sem]) rfl ⟨_, _, rfl, longs_new2 _ _ (by simp) _ _ HJ.out HI.out, fun h => by simp at h, Nat.le_refl _, HB2.out.trans ((below1 _ _).mono (HB2.out.size))⟩
  · have HY := Lib.hid (show nextI c.ins k = [(k : Int) + 1] from by
      simp only [beq_eq_false_iff_ne] at d1 d2 d3 d4
      unfold nextI
      rw [HX.out]
      simp [d1, d2, d3, d4])
    have HJ := Lib.hid (show In64 ((k : Int) + 1) from by unfold In64; omega)
    clear hlook
    go_enter Tryd.func64, Tryd.ntmps64
    refine wp_letter (fun Q hQ => ?_)
    have HQ := Lib.hid hQ
    clear hQ
    go_wp2_with fail
    refine HQ.out _ _ _ ?_
    rw [HY.out]
    exact bodyPost_ret (v := .slice (some ⟨w.heap.size + 2, 0, none⟩) 1 1) (by simp [results, Tryd.results64, go_sem]) rfl ⟨_, _, rfl, longs_new1 _ _ (by simp) _ HJ.out, fun h => by simp at h, Nat.le_refl _, HB2.out.trans ((below1 _ _).mono (HB2.out.size))⟩
end Go.Proofs.YtlenilbkifofjaaDoor
