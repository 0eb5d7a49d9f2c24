/- between: the tree of two trees, made in whatever order. Conditions: as stated. -/
import Derived.Test.YtjkgpolikpochaaQ02Zz
import Derived.Test.YtjkgpolikpochaaQ09Zz
import Derived.IntWalk
set_option linter.unusedVariables false
set_option linter.unusedSimpArgs false
namespace Go.Proofs.Ytjkgpolikpochaa
open Go.RowKit

structure BJ (w W : World) (cst : Nat → Value) (six : Array Value) (op : Int) (L : Array Bool) (Y : Nat → Value) : Prop where
  below : Below w.heap.size w W
  const : ∀ i, i < 12 → L.getD i false = true → Y i = cst i
  s12 : L.getD 12 false = true → ∃ g, Y 12 = .slice (some ⟨g, 0, none⟩) 2 2 ∧ w.heap.size ≤ g ∧ Row W g six 28
  s13 : L.getD 13 false = true → L.getD 12 false = true ∧ Y 13 = .agg #[.int .i64 op, .int .i64 0, Y 12]
  s14 : L.getD 14 false = true → ∃ p cs, Y 14 = .pointer (some ⟨p, 0, none⟩) ∧ w.heap.size ≤ p ∧ Row W p cs 28 ∧ cs.size = 3 ∧ (L.getD 15 false = true → L.getD 12 false = true ∧ cs = #[.int .i64 op, .int .i64 0, Y 12])
  d15 : L.getD 15 false = true → L.getD 14 false = true

theorem ls_ne' {L : Array Bool} {i j : Nat} (h : (L.setIfInBounds i true).getD j false = true) (hij : j ≠ i) : L.getD j false = true := (ls_set' h).resolve_left hij
theorem ls_up {L : Array Bool} {i j : Nat} (h : L.getD j false = true) : (L.setIfInBounds i true).getD j false = true := by
  by_cases hij : i = j
  · subst hij
    rcases Nat.lt_or_ge i L.size with hj | hj
    · simp [Array.getD, hj]
    · simp [Array.getD, Nat.not_lt.2 hj] at h
  · rw [getD_set_ne false hij]; exact h
theorem ls_on {L : Array Bool} {i : Nat} (hi : i < L.size) : (L.setIfInBounds i true).getD i false = true := by simp [Array.getD, hi]
section
variable {w W W' : World} {cst : Nat → Value} {six : Array Value} {op : Int} {L : Array Bool} {Y : Nat → Value}
theorem BJ.start (w : World) (Y : Nat → Value) : BJ w w.drew cst six op (Array.replicate 16 false) Y := by
  have hf : ∀ j, (Array.replicate 16 false).getD j false = true → False := fun j h => by
    rcases Nat.lt_or_ge j 16 with hj | hj
    · simp [Array.getD, hj] at h
    · simp [Array.getD, Nat.not_lt.2 hj] at h
  exact ⟨(Below.refl _ _).drew, fun i _ h => (hf i h).elim, fun h => (hf _ h).elim, fun h => (hf _ h).elim, fun h => (hf _ h).elim, fun h => (hf _ h).elim⟩
theorem BJ.load (h : BJ w W cst six op L Y) {i : Nat} (hi : i < 12) : BJ w W cst six op (L.setIfInBounds i true) (upd Y i (cst i)) := by
  refine ⟨h.below, fun j hj g => ?_, fun g => ?_, fun g => ?_, fun g => ?_, fun g => ?_⟩
  · by_cases hji : j = i
    · subst hji; rw [upd_self]
    · rw [upd_ne Y _ hji]; exact h.const j hj (ls_ne' g hji)
  · rw [upd_ne Y _ (by omega)]; exact h.s12 (ls_ne' g (by omega))
  · rw [upd_ne Y _ (by omega), upd_ne Y _ (by omega)]; obtain ⟨x, y⟩ := h.s13 (ls_ne' g (by omega)); exact ⟨ls_up x, y⟩
  · rw [upd_ne Y _ (by omega), upd_ne Y _ (by omega)]
    obtain ⟨p, cs, x, y, z, u, v⟩ := h.s14 (ls_ne' g (by omega))
    exact ⟨p, cs, x, y, z, u, fun g' => by obtain ⟨a, b⟩ := v (ls_ne' g' (by omega)); exact ⟨ls_up a, b⟩⟩
  · exact ls_up (h.d15 (ls_ne' g (by omega)))
theorem BJ.made (h : BJ w W cst six op L Y) (hsz : L.size = 16) (hn : L.getD 12 true = false) : BJ w (W.alloc (.cells six 28)) cst six op (L.setIfInBounds 12 true) (upd Y 12 (.slice (some ⟨W.heap.size, 0, none⟩) 2 2)) := by
  have no : L.getD 12 false = true → False := fun g => by simp [Array.getD, hsz] at g hn; rw [hn] at g; cases g
  refine ⟨h.below.alloc h.below.size _, fun j hj g => ?_, fun g => ?_, fun g => ?_, fun g => ?_, fun g => ?_⟩
  · rw [upd_ne Y _ (by omega)]; exact h.const j hj (ls_ne' g (by omega))
  · rw [upd_self]; exact ⟨_, rfl, h.below.size, Row.new _ _ _⟩
  · exact (no (h.s13 (ls_ne' g (by omega))).1).elim
  · rw [upd_ne Y _ (by omega)]
    obtain ⟨p, cs, x, y, z, u, v⟩ := h.s14 (ls_ne' g (by omega))
    exact ⟨p, cs, x, y, z.alloc _, u, fun g' => (no (v (ls_ne' g' (by omega))).1).elim⟩
  · exact ls_up (h.d15 (ls_ne' g (by omega)))
theorem BJ.built (h : BJ w W cst six op L Y) (h12 : L.getD 12 false = true) : BJ w W cst six op (L.setIfInBounds 13 true) (upd Y 13 (.agg #[.int .i64 op, .int .i64 0, Y 12])) := by
  refine ⟨h.below, fun j hj g => ?_, fun g => ?_, fun g => ?_, fun g => ?_, fun g => ?_⟩
  · rw [upd_ne Y _ (by omega)]; exact h.const j hj (ls_ne' g (by omega))
  · rw [upd_ne Y _ (by omega)]; exact h.s12 (ls_ne' g (by omega))
  · rw [upd_self, upd_ne Y _ (by omega)]; exact ⟨ls_up h12, rfl⟩
  · rw [upd_ne Y _ (by omega), upd_ne Y _ (by omega)]
    obtain ⟨p, cs, x, y, z, u, v⟩ := h.s14 (ls_ne' g (by omega))
    exact ⟨p, cs, x, y, z, u, fun g' => by obtain ⟨a, b⟩ := v (ls_ne' g' (by omega)); exact ⟨ls_up a, b⟩⟩
  · exact ls_up (h.d15 (ls_ne' g (by omega)))
theorem BJ.boxed (h : BJ w W cst six op L Y) (hsz : L.size = 16) (hn : L.getD 14 true = false) {cs : Array Value} (hcs : cs.size = 3) : BJ w (W.alloc (.cells cs 28)) cst six op (L.setIfInBounds 14 true) (upd Y 14 (.pointer (some ⟨W.heap.size, 0, none⟩))) := by
  have no : L.getD 14 false = true → False := fun g => by simp [Array.getD, hsz] at g hn; rw [hn] at g; cases g
  refine ⟨h.below.alloc h.below.size _, fun j hj g => ?_, fun g => ?_, fun g => ?_, fun g => ?_, fun g => ?_⟩
  · rw [upd_ne Y _ (by omega)]; exact h.const j hj (ls_ne' g (by omega))
  · rw [upd_ne Y _ (by omega)]; obtain ⟨q, x, y, z⟩ := h.s12 (ls_ne' g (by omega)); exact ⟨q, x, y, z.alloc _⟩
  · rw [upd_ne Y _ (by omega), upd_ne Y _ (by omega)]; obtain ⟨x, y⟩ := h.s13 (ls_ne' g (by omega)); exact ⟨ls_up x, y⟩
  · rw [upd_self]
    exact ⟨_, cs, rfl, h.below.size, Row.new _ _ _, hcs, fun g' => (no (h.d15 (ls_ne' g' (by omega)))).elim⟩
  · exact (no (h.d15 (ls_ne' g (by omega)))).elim
theorem BJ.stored (h : BJ w W cst six op L Y) (h6 : six.size = 6) (h12 : L.getD 12 false = true) (h14 : L.getD 14 false = true) {p : Nat} (hp : Y 14 = .pointer (some ⟨p, 0, none⟩)) {cs : Array Value} (hcs : cs = #[.int .i64 op, .int .i64 0, Y 12]) (hw : Wr (fun i => i = p) W W') (hr : Row W' p cs 28) (v : Value) :
    BJ w W' cst six op (L.setIfInBounds 15 true) (upd Y 15 v) := by
  obtain ⟨p', cs', x, y, z, u, _⟩ := h.s14 h14
  obtain rfl : p = p' := by rw [hp] at x; simpa using x
  refine ⟨h.below.trans (hw.below h.below.size (fun i hi => by omega)), fun j hj g => ?_, fun g => ?_, fun g => ?_, fun g => ?_, fun g => ls_up h14⟩
  · rw [upd_ne Y _ (by omega)]; exact h.const j hj (ls_ne' g (by omega))
  · rw [upd_ne Y _ (by omega)]
    obtain ⟨q, a, b, c⟩ := h.s12 (ls_ne' g (by omega))
    refine ⟨q, a, b, c.wr hw (fun e => ?_)⟩
    subst e
    unfold Row at c z
    rw [c] at z
    simp at z
    rw [← z] at u
    omega
  · rw [upd_ne Y _ (by omega), upd_ne Y _ (by omega)]; obtain ⟨x, y⟩ := h.s13 (ls_ne' g (by omega)); exact ⟨ls_up x, y⟩
  · rw [upd_ne Y _ (by omega), upd_ne Y _ (by omega)]
    exact ⟨p, cs, hp, y, hr, by rw [hcs]; rfl, fun _ => ⟨ls_up h12, hcs⟩⟩
end

theorem size3 {cs : Array Value} (h : cs.size = 3) : ∃ a b c, cs = #[a, b, c] := by
  obtain ⟨l⟩ := cs
  match l, h with
  | [a, b, c], _ => exact ⟨a, b, c, rfl⟩
def regsOf : Code → List Code
  | .region i l b => [.region i l b]
  | .loop c => regsOf c
  | .seq a b => regsOf a ++ regsOf b
  | .block _ c => regsOf c
  | .scope c => regsOf c
  | .cond _ a b => regsOf a ++ regsOf b
  | _ => []
noncomputable def betwReg : Code := (regsOf (Try.f20.body.getD .skip)).getD 8 .skip
def betwC (p1 b off k tn tc : Nat) (op x0 x1 z0 z1 : Int) (x2 z2 : Value) : Nat → Value
  | 0 => .int .i64 op
  | 1 => .pointer (some ⟨p1, 0, none⟩)
  | 2 => .slice (some ⟨b, off, none⟩) tn tc
  | 3 => .int .i64 (k : Nat)
  | 4 => .pointer (some ⟨b, off + k * 3, none⟩)
  | 5 => .agg #[.int .i64 x0, .int .i64 x1, x2]
  | 6 => .pointer (some ⟨p1, 0, none⟩)
  | 7 => .slice (some ⟨b, off, none⟩) tn tc
  | 8 => .int .i64 (k : Nat)
  | 9 => .int .i64 ((k : Nat) + 1)
  | 10 => .pointer (some ⟨b, off + (k + 1) * 3, none⟩)
  | _ => .agg #[.int .i64 z0, .int .i64 z1, z2]

set_option maxRecDepth 1000000 in
set_option maxHeartbeats 8000000 in
theorem betw_region (p1 b off k tn tc : Nat) (op x0 x1 z0 z1 : Int) (XA : Option Addr) (xl xc : Nat) (ZA : Option Addr) (zl zc : Nat) (w : World) (sv : Value)
    (hbox : Row w p1 #[.slice (some ⟨b, off, none⟩) tn tc, sv] 25) (hb : b < w.heap.size) (htn : tn ≤ 140737488355328) (hk : k + 1 < tn)
    (g0 : w.cell? ⟨b, off + k * 3, none⟩ = some (.int .i64 x0)) (g1 : w.cell? ⟨b, off + k * 3 + 1, none⟩ = some (.int .i64 x1)) (g2 : w.cell? ⟨b, off + k * 3 + 2, none⟩ = some (.slice XA xl xc))
    (h0 : w.cell? ⟨b, off + (k + 1) * 3, none⟩ = some (.int .i64 z0)) (h1 : w.cell? ⟨b, off + (k + 1) * 3 + 1, none⟩ = some (.int .i64 z1)) (h2 : w.cell? ⟨b, off + (k + 1) * 3 + 2, none⟩ = some (.slice ZA zl zc))
    (c0 c1 c2 c4 c5 c6 c7 c10 c11 c12 c13 c14 c15 c16 c17 c18 c19 c20 c21 c22 c23 c24 c25 c26 c27 c28 c29 c30 c31 c32 c33 c34 c35 c36 c37 c38 c39 c40 c41 c42 c43 c44 c45 c46 c47 c48 c49 c50 c51 c52 c53 c54 c55 c56 c57 c58 c59 c60 c61 c62 c63 c64 c65 c66 c67 c68 : Value) (Q : Exit → Act → World → Prop)
    (hexit : ∀ (W : World) (g p : Nat) (Y : Nat → Value), Below w.heap.size w W → w.heap.size ≤ g → w.heap.size ≤ p → Row W g #[.int .i64 x0, .int .i64 x1, .slice XA xl xc, .int .i64 z0, .int .i64 z1, .slice ZA zl zc] 28 → Row W p #[.int .i64 op, .int .i64 0, .slice (some ⟨g, 0, none⟩) 2 2] 28 → g ≠ p →
      Q .normal ⟨List.toArray (c0 :: c1 :: c2 :: (Value.pointer (some ⟨p1, 0, none⟩)) :: c4 :: c5 :: c6 :: c7 :: (Value.int .i64 (k : Nat)) :: (Value.int .i64 op) :: (Value.pointer (some ⟨p, 0, none⟩)) :: c11 :: c12 :: c13 :: c14 :: c15 :: c16 :: c17 :: c18 :: c19 :: c20 :: c21 :: c22 :: c23 :: c24 :: c25 :: c26 :: c27 :: c28 :: c29 :: c30 :: c31 :: Y 0 :: Y 1 :: Y 2 :: Y 3 :: Y 4 :: Y 5 :: Y 6 :: Y 7 :: Y 8 :: Y 9 :: Y 10 :: Y 11 :: Y 12 :: Y 13 :: c46 :: c47 :: c48 :: c49 :: c50 :: c51 :: c52 :: c53 :: c54 :: c55 :: c56 :: c57 :: c58 :: c59 :: c60 :: c61 :: c62 :: c63 :: c64 :: c65 :: c66 :: c67 :: c68 :: []), []⟩ W) :
    Code.wp Try.prog betwReg Q ⟨List.toArray (c0 :: c1 :: c2 :: (Value.pointer (some ⟨p1, 0, none⟩)) :: c4 :: c5 :: c6 :: c7 :: (Value.int .i64 (k : Nat)) :: (Value.int .i64 op) :: c10 :: c11 :: c12 :: c13 :: c14 :: c15 :: c16 :: c17 :: c18 :: c19 :: c20 :: c21 :: c22 :: c23 :: c24 :: c25 :: c26 :: c27 :: c28 :: c29 :: c30 :: c31 :: c32 :: c33 :: c34 :: c35 :: c36 :: c37 :: c38 :: c39 :: c40 :: c41 :: c42 :: c43 :: c44 :: c45 :: c46 :: c47 :: c48 :: c49 :: c50 :: c51 :: c52 :: c53 :: c54 :: c55 :: c56 :: c57 :: c58 :: c59 :: c60 :: c61 :: c62 :: c63 :: c64 :: c65 :: c66 :: c67 :: c68 :: []), []⟩ w := by
  have HB := Lib.hid hb
  have HBOX := Lib.hid hbox
  have HEX := Lib.hid hexit
  have hk0 : (0 : Int) ≤ (k : Int) := by omega
  have hk1 : (k : Int) < (tn : Int) := by omega
  have hk2 : (0 : Int) ≤ (k : Int) + 1 := by omega
  have hk3 : (k : Int) + 1 < (tn : Int) := by omega
  have HWR := Lib.hid (show IntKind.i64.wrap ((k : Int) + 1) = (k : Int) + 1 from IntWalk.i64_in _ (by omega))
  have HG0 := Lib.hid g0
  have HG1 := Lib.hid g1
  have HG2 := Lib.hid g2
  have HH0 := Lib.hid h0
  have HH1 := Lib.hid h1
  have HH2 := Lib.hid h2
  clear hb hbox hexit g0 g1 g2 h0 h1 h2
  conv => arg 2; whnf
  refine wp_region_inv (by kernel_rfl) (fun L act W => L.size = 16 ∧ ∃ Y : Nat → Value, act = ⟨List.toArray (c0 :: c1 :: c2 :: (Value.pointer (some ⟨p1, 0, none⟩)) :: c4 :: c5 :: c6 :: c7 :: (Value.int .i64 (k : Nat)) :: (Value.int .i64 op) :: Y 14 :: c11 :: c12 :: c13 :: c14 :: c15 :: c16 :: c17 :: c18 :: c19 :: c20 :: c21 :: c22 :: c23 :: c24 :: c25 :: c26 :: c27 :: c28 :: c29 :: c30 :: c31 :: Y 0 :: Y 1 :: Y 2 :: Y 3 :: Y 4 :: Y 5 :: Y 6 :: Y 7 :: Y 8 :: Y 9 :: Y 10 :: Y 11 :: Y 12 :: Y 13 :: c46 :: c47 :: c48 :: c49 :: c50 :: c51 :: c52 :: c53 :: c54 :: c55 :: c56 :: c57 :: c58 :: c59 :: c60 :: c61 :: c62 :: c63 :: c64 :: c65 :: c66 :: c67 :: c68 :: []), []⟩ ∧ BJ w W (betwC p1 b off k tn tc op x0 x1 z0 z1 (.slice XA xl xc) (.slice ZA zl zc)) #[.int .i64 x0, .int .i64 x1, .slice XA xl xc, .int .i64 z0, .int .i64 z1, .slice ZA zl zc] op L Y) ?_ ?_ ?_
  · refine ⟨by simp, fun i => if i = 14 then c10 else if i = 0 then c32 else if i = 1 then c33 else if i = 2 then c34 else if i = 3 then c35 else if i = 4 then c36 else if i = 5 then c37 else if i = 6 then c38 else if i = 7 then c39 else if i = 8 then c40 else if i = 9 then c41 else if i = 10 then c42 else if i = 11 then c43 else if i = 12 then c44 else c45, rfl, BJ.start _ _⟩
  · rintro L act W i hi ⟨hsz, Y, rfl, hJ⟩
    obtain ⟨hn, o, ho, hall⟩ := mem_ready.1 hi
    have HJ := Lib.hid hJ
    have HW := Lib.hid (hJ.below)
    clear hJ hi
    rcases i with _ | _ | _ | _ | _ | _ | _ | _ | _ | _ | _ | _ | _ | _ | _ | _ | i
    · simp at ho; subst ho
      clear hall
      refine wpOp_plain rfl rfl (fun K' hK' => ?_)
      go_simp
      have hh := hK' _ _ ⟨by simp [hsz], _, rfl, HJ.out.load (i := 0) (by omega)⟩
      simpa [upd, betwC] using hh
    · simp at ho; subst ho
      clear hall
      refine wpOp_plain rfl rfl (fun K' hK' => ?_)
      go_simp
      have hh := hK' _ _ ⟨by simp [hsz], _, rfl, HJ.out.load (i := 1) (by omega)⟩
      simpa [upd, betwC] using hh
    · simp at ho; subst ho
      have d1 : Y 1 = _ := HJ.out.const 1 (by omega) (hall { on := 1, ground := Ground.data } (by simp) rfl)
      simp only [betwC] at d1
      have q0 := cell_below (HBOX.out.cell (j := 0) rfl) HW.out HBOX.out.lt
      clear hall
      refine wpOp_plain rfl rfl (fun K' hK' => ?_)
      go_simp
      have hh := hK' _ _ ⟨by simp [hsz], _, rfl, HJ.out.load (i := 2) (by omega)⟩
      simpa [upd, betwC, d1] using hh
    · simp at ho; subst ho
      clear hall
      refine wpOp_plain rfl rfl (fun K' hK' => ?_)
      go_simp
      have hh := hK' _ _ ⟨by simp [hsz], _, rfl, HJ.out.load (i := 3) (by omega)⟩
      simpa [upd, betwC] using hh
    · simp at ho; subst ho
      have d2 : Y 2 = _ := HJ.out.const 2 (by omega) (hall { on := 2, ground := Ground.data } (by simp) rfl)
      have d3 : Y 3 = _ := HJ.out.const 3 (by omega) (hall { on := 3, ground := Ground.data } (by simp) rfl)
      simp only [betwC] at d2 d3
      clear hall
      refine wpOp_plain rfl rfl (fun K' hK' => ?_)
      go_simp
      have hh := hK' _ _ ⟨by simp [hsz], _, rfl, HJ.out.load (i := 4) (by omega)⟩
      simpa [upd, betwC, d2, d3] using hh
    · simp at ho; subst ho
      have d4 : Y 4 = _ := HJ.out.const 4 (by omega) (hall { on := 4, ground := Ground.data } (by simp) rfl)
      simp only [betwC] at d4
      have q0 := cell_below HG0.out HW.out HB.out
      have q1 := cell_below HG1.out HW.out HB.out
      have q2 := cell_below HG2.out HW.out HB.out
      clear hall
      refine wpOp_plain rfl rfl (fun K' hK' => ?_)
      go_simp
      have hh := hK' _ _ ⟨by simp [hsz], _, rfl, HJ.out.load (i := 5) (by omega)⟩
      simpa [upd, betwC, d4] using hh
    · simp at ho; subst ho
      clear hall
      refine wpOp_plain rfl rfl (fun K' hK' => ?_)
      go_simp
      have hh := hK' _ _ ⟨by simp [hsz], _, rfl, HJ.out.load (i := 6) (by omega)⟩
      simpa [upd, betwC] using hh
    · simp at ho; subst ho
      have d6 : Y 6 = _ := HJ.out.const 6 (by omega) (hall { on := 6, ground := Ground.data } (by simp) rfl)
      simp only [betwC] at d6
      have q0 := cell_below (HBOX.out.cell (j := 0) rfl) HW.out HBOX.out.lt
      clear hall
      refine wpOp_plain rfl rfl (fun K' hK' => ?_)
      go_simp
      have hh := hK' _ _ ⟨by simp [hsz], _, rfl, HJ.out.load (i := 7) (by omega)⟩
      simpa [upd, betwC, d6] using hh
    · simp at ho; subst ho
      clear hall
      refine wpOp_plain rfl rfl (fun K' hK' => ?_)
      go_simp
      have hh := hK' _ _ ⟨by simp [hsz], _, rfl, HJ.out.load (i := 8) (by omega)⟩
      simpa [upd, betwC] using hh
    · simp at ho; subst ho
      have d8 : Y 8 = _ := HJ.out.const 8 (by omega) (hall { on := 8, ground := Ground.data } (by simp) rfl)
      simp only [betwC] at d8
      clear hall
      refine wpOp_plain rfl rfl (fun K' hK' => ?_)
      go_simp
      have hh := hK' _ _ ⟨by simp [hsz], _, rfl, HJ.out.load (i := 9) (by omega)⟩
      simpa [upd, betwC, d8, HWR.out] using hh
    · simp at ho; subst ho
      have d7 : Y 7 = _ := HJ.out.const 7 (by omega) (hall { on := 7, ground := Ground.data } (by simp) rfl)
      have d9 : Y 9 = _ := HJ.out.const 9 (by omega) (hall { on := 9, ground := Ground.data } (by simp) rfl)
      simp only [betwC] at d7 d9
      clear hall
      refine wpOp_plain rfl rfl (fun K' hK' => ?_)
      go_simp
      have hh := hK' _ _ ⟨by simp [hsz], _, rfl, HJ.out.load (i := 10) (by omega)⟩
      simpa [upd, betwC, d7, d9] using hh
    · simp at ho; subst ho
      have d10 : Y 10 = _ := HJ.out.const 10 (by omega) (hall { on := 10, ground := Ground.data } (by simp) rfl)
      simp only [betwC] at d10
      have q0 := cell_below HH0.out HW.out HB.out
      have q1 := cell_below HH1.out HW.out HB.out
      have q2 := cell_below HH2.out HW.out HB.out
      clear hall
      refine wpOp_plain rfl rfl (fun K' hK' => ?_)
      go_simp
      have hh := hK' _ _ ⟨by simp [hsz], _, rfl, HJ.out.load (i := 11) (by omega)⟩
      simpa [upd, betwC, d10] using hh
    · simp at ho; subst ho
      have d5 : Y 5 = _ := HJ.out.const 5 (by omega) (hall { on := 5, ground := Ground.data } (by simp) rfl)
      have d11 : Y 11 = _ := HJ.out.const 11 (by omega) (hall { on := 11, ground := Ground.data } (by simp) rfl)
      simp only [betwC] at d5 d11
      clear hall
      refine wpOp_plain rfl rfl (fun K' hK' => ?_)
      go_simp
      have hh := hK' _ _ ⟨by simp [hsz], _, rfl, HJ.out.made hsz hn⟩
      simpa [upd, betwC, d5, d11] using hh
    · simp at ho; subst ho
      have d0 : Y 0 = _ := HJ.out.const 0 (by omega) (hall { on := 0, ground := Ground.data } (by simp) rfl)
      have f12 := hall { on := 12, ground := Ground.data } (by simp) rfl
      obtain ⟨g, d12, _, _⟩ := HJ.out.s12 f12
      simp only [betwC] at d0
      clear hall
      refine wpOp_plain rfl rfl (fun K' hK' => ?_)
      go_simp
      have hh := hK' _ _ ⟨by simp [hsz], _, rfl, HJ.out.built f12⟩
      simpa [upd, betwC, d0, d12] using hh
    · simp at ho; subst ho
      clear hall
      refine wpOp_plain rfl rfl (fun K' hK' => ?_)
      go_simp
      have hh := hK' _ _ ⟨by simp [hsz], _, rfl, HJ.out.boxed hsz hn (cs := #[.int .i64 0, .int .i64 0, .slice none 0 0]) rfl⟩
      simpa [upd, betwC] using hh
    · simp at ho; subst ho
      have f13 := hall { on := 13, ground := Ground.data } (by simp) rfl
      have f14 := hall { on := 14, ground := Ground.data } (by simp) rfl
      obtain ⟨f12, d13⟩ := HJ.out.s13 f13
      obtain ⟨g, d12, _, _⟩ := HJ.out.s12 f12
      obtain ⟨p, cs, d14, _, hrow, hcs, _⟩ := HJ.out.s14 f14
      rw [d12] at d13
      obtain ⟨e0, e1, e2, rfl⟩ := size3 hcs
      have q0 := hrow.cell (j := 0) rfl
      have q1 := hrow.cell (j := 1) rfl
      have q2 := hrow.cell (j := 2) rfl
      have k0 := hrow.free 0
      have k1 := hrow.free 1
      have k2 := hrow.free 2
      have HROW := Lib.hid hrow
      clear hall hrow hcs
      refine wpOp_plain rfl rfl (fun K' hK' => ?_)
      go_simp
      have hh := hK' _ _ ⟨by simp [hsz], _, rfl, HJ.out.stored rfl f12 f14 d14 (by rw [d12]; rfl) ((((Wr.refl (fun i => i = p) W).setR p _ _ (Or.inl rfl)).setR p _ _ (Or.inl rfl)).setR p _ _ (Or.inl rfl)) (((HROW.out.set 0 _).set 1 _).set 2 _) undef⟩
      simpa [upd, betwC, d12, d13, d14] using hh
    · simp at ho
  · rintro L act W hr ⟨hsz, Y, rfl, hJ⟩
    have t0 := flag_of (j := 0) (by omega) hr rfl (fun e he => by simp at he)
    have t1 := flag_of (j := 1) (by omega) hr rfl (fun e he => by simp at he)
    have t2 := flag_of (j := 2) (by omega) hr rfl (fun e he => by simp at he; subst he <;> assumption)
    have t3 := flag_of (j := 3) (by omega) hr rfl (fun e he => by simp at he)
    have t4 := flag_of (j := 4) (by omega) hr rfl (fun e he => by simp at he; rcases he with rfl | rfl <;> assumption)
    have t5 := flag_of (j := 5) (by omega) hr rfl (fun e he => by simp at he; subst he <;> assumption)
    have t6 := flag_of (j := 6) (by omega) hr rfl (fun e he => by simp at he)
    have t7 := flag_of (j := 7) (by omega) hr rfl (fun e he => by simp at he; subst he <;> assumption)
    have t8 := flag_of (j := 8) (by omega) hr rfl (fun e he => by simp at he)
    have t9 := flag_of (j := 9) (by omega) hr rfl (fun e he => by simp at he; subst he <;> assumption)
    have t10 := flag_of (j := 10) (by omega) hr rfl (fun e he => by simp at he; rcases he with rfl | rfl <;> assumption)
    have t11 := flag_of (j := 11) (by omega) hr rfl (fun e he => by simp at he; subst he <;> assumption)
    have t12 := flag_of (j := 12) (by omega) hr rfl (fun e he => by simp at he; rcases he with rfl | rfl <;> assumption)
    have t13 := flag_of (j := 13) (by omega) hr rfl (fun e he => by simp at he; rcases he with rfl | rfl <;> assumption)
    have t14 := flag_of (j := 14) (by omega) hr rfl (fun e he => by simp at he)
    have t15 := flag_of (j := 15) (by omega) hr rfl (fun e he => by simp at he; (repeat' (rcases he with rfl | he)); all_goals first | assumption | (subst he; assumption))
    obtain ⟨g, d12, hg, hrg⟩ := hJ.s12 t12
    obtain ⟨p, cs, d14, hp, hrp, _, hcs⟩ := hJ.s14 t14
    obtain ⟨_, rfl⟩ := hcs t15
    rw [d12] at hrp
    have hne : g ≠ p := by
      rintro rfl
      unfold Row at hrg hrp
      rw [hrg] at hrp
      simp at hrp
    rw [d14]
    exact HEX.out W g p Y hJ.below hg hp hrg hrp hne
end Go.Proofs.Ytjkgpolikpochaa
