/- virt.Alone: what is known of the calls, the function. Conditions: as stated. -/
import Derived.Test.YtlenilbkifofjaaDoorVAskFZz
import Derived.Test.YtlenilbkifofjaaDoorLvQZz
import Derived.Test.YtlenilbkifofjaaDoorLvMZz
set_option linter.unusedVariables false
set_option linter.unusedSimpArgs false
namespace Go.Proofs.YtlenilbkifofjaaDoor
open Go.RowKit Go.Maps

theorem know_law : Keyed Tryd.prog 3 := int_keyed Tryd.underlying3
theorem know_key {k : Int} (h : In64 k) : keyOf Tryd.prog 3 (.int .i64 k) = some (.int .i64 k) := keyOf_int_mk Tryd.underlying3 (WalkArith.wf_i64 (by unfold In64 at h; omega))
def KnowM (w : World) (b n : Nat) (f : Int → Option Nat) : Prop := ∃ D : DataW Unit, w.ownsMap Tryd.prog 3 (plainElem Tryd.prog 3) b n D ∧ LabD f D
theorem KnowM.made (w : World) : KnowM (w.alloc (.map #[] 0)) w.heap.size 0 noneK :=
  ⟨.map [], World.ownsMap_made _ _ _ _, fun k _ => ⟨rfl, rfl⟩⟩
theorem KnowM.heap {w w' : World} {b n : Nat} {f : Int → Option Nat} (h : KnowM w b n f) (hb : w'.heap[b]? = w.heap[b]?) : KnowM w' b n f := by
  obtain ⟨D, ⟨es, clock, h1, h2⟩, h3⟩ := h
  exact ⟨D, ⟨es, clock, hb.trans h1, h2⟩, h3⟩
theorem KnowM.lt {w : World} {b n : Nat} {f : Int → Option Nat} (h : KnowM w b n f) : b < w.heap.size := by
  obtain ⟨D, h1, _⟩ := h
  exact h1.lt
theorem KnowM.wr {F : Nat → Prop} {w w' : World} {b n : Nat} {f : Int → Option Nat} (h : KnowM w b n f) (hw : Wr F w w') (hF : ¬ F b) : KnowM w' b n f := h.heap (hw.block b h.lt hF)
theorem KnowM.ne {w : World} {b n g : Nat} {f : Int → Option Nat} {cs : Array Value} {t : TypeId} (h : KnowM w b n f) (hr : Row w g cs t) : b ≠ g := by
  rintro rfl
  obtain ⟨D, ⟨es, clock, h1, _⟩, _⟩ := h
  have h2 := h1.symm.trans (show w.heap[b]? = some (.cells cs t (0, 0)) from hr)
  exact Obj.noConfusion (Option.some.inj h2)
set_option maxRecDepth 100000 in
theorem KnowM.look {w : World} {b n : Nat} {f : Int → Option Nat} (h : KnowM w b n f) {k : Int} (hk : In64 k) : (Instr.lookup 70 (.map (some b)) (.int .i64 k) false).run Tryd.prog w = .ok (.int .i64 ((f k).getD 0 : Nat)) w := by
  obtain ⟨D, h1, h2⟩ := h
  obtain ⟨c, hrun, hat, _⟩ := h1.lookup_int know_law Tryd.underlying70 Tryd.underlying3 (lab_zero w) (know_key hk)
  have := (h2 k hk).2
  rw [hat] at this
  injection this with this
  injection this with _ this
  rw [hrun, this]
set_option maxRecDepth 100000 in
theorem KnowM.look2 {w : World} {b n : Nat} {f : Int → Option Nat} (h : KnowM w b n f) {k : Int} (hk : In64 k) : (Instr.lookup 70 (.map (some b)) (.int .i64 k) true).run Tryd.prog w = .ok (.tuple #[.int .i64 ((f k).getD 0 : Nat), .bool (f k).isSome]) w := by
  obtain ⟨D, h1, h2⟩ := h
  obtain ⟨v, ps, hrun, hR⟩ := h1.look_ok know_law Tryd.underlying70 (lab_zero w) (plainElem_int Tryd.underlying3 (a := 0) rfl) (know_key hk)
  obtain ⟨a, rfl, hz, _⟩ := plainElem_int_inv Tryd.underlying3 hR
  obtain ⟨h3, h4⟩ := h2 k hk
  have he : D.atKey (.int .i64 k) (.lit (.int .i64 0)) = .lit (.int .i64 a) := congrArg Prod.fst hz
  rw [h4] at he
  injection he with he
  injection he with _ he
  rw [hrun, h3, he]
/-- How many functions are known. -/
def cntK (s : Int → Option Nat) : Nat := ((List.range 8).filter fun (i : Nat) => (s (i : Int)).isSome).length
theorem filter_le {p q : Nat → Bool} (h : ∀ x, p x = true → q x = true) : ∀ L : List Nat, (L.filter p).length ≤ (L.filter q).length
  | [] => Nat.le_refl _
  | x :: L => by
    have ih := filter_le h L
    cases hp : p x with
    | true => rw [List.filter_cons_of_pos hp, List.filter_cons_of_pos (h x hp), List.length_cons, List.length_cons]; omega
    | false =>
      rw [List.filter_cons_of_neg (by rw [hp]; decide)]
      cases hq : q x with
      | true => rw [List.filter_cons_of_pos hq, List.length_cons]; omega
      | false => rw [List.filter_cons_of_neg (by rw [hq]; decide)]; exact ih
theorem filter_lt {p q : Nat → Bool} (h : ∀ x, p x = true → q x = true) {a : Nat} (ha : p a = false) (hb : q a = true) : ∀ L : List Nat, a ∈ L → (L.filter p).length + 1 ≤ (L.filter q).length
  | [], hm => by simp at hm
  | x :: L, hm => by
    have il := filter_le h L
    by_cases e : a = x
    · subst e
      rw [List.filter_cons_of_neg (by rw [ha]; decide), List.filter_cons_of_pos hb, List.length_cons]
      omega
    · have ih := filter_lt h ha hb L ((List.mem_cons.1 hm).resolve_left e)
      cases hp : p x with
      | true => rw [List.filter_cons_of_pos hp, List.filter_cons_of_pos (h x hp), List.length_cons, List.length_cons]; omega
      | false =>
        rw [List.filter_cons_of_neg (by rw [hp]; decide)]
        cases hq : q x with
        | true => rw [List.filter_cons_of_pos hq, List.length_cons]; omega
        | false => rw [List.filter_cons_of_neg (by rw [hq]; decide)]; exact ih
theorem cntK_le (s : Int → Option Nat) : cntK s ≤ 8 := Nat.le_trans (List.length_filter_le _ _) (by simp)
theorem cntK_put {s : Int → Option Nat} {m k : Nat} (hm : m < 8) (hs : s (m : Int) = none) : cntK s + 1 ≤ cntK (fun j => if j = (m : Int) then some k else s j) := by
  unfold cntK
  refine filter_lt (fun x hx => ?_) (a := m) (by rw [hs]; rfl) (by simp) _ (List.mem_range.2 hm)
  by_cases e : (x : Int) = (m : Int)
  · simp [e]
  · simp only [if_neg e]
    exact hx
/-- What is known, in memory. -/
structure Knows (kb mb : Nat) (s : Int → Option Nat) (w : World) : Prop where
  row : Row w kb #[.map (some mb)] 70
  map : ∃ n, n ≤ cntK s ∧ KnowM w mb n s
theorem Knows.wr {kb mb : Nat} {s : Int → Option Nat} {F : Nat → Prop} {w w' : World} (h : Knows kb mb s w) (hw : Wr F w w') (h1 : ¬ F kb) (h2 : ¬ F mb) : Knows kb mb s w' := by
  obtain ⟨n, hn, hm⟩ := h.map
  exact ⟨h.row.wr hw h1, n, hn, hm.wr hw h2⟩
set_option maxRecDepth 100000 in
set_option maxHeartbeats 8000000 in
theorem lpar_any (kb mb : Nat) (s : Int → Option Nat) (n : Int) (k : Nat) (W : World) (hn : 0 ≤ n ∧ n < 8) (hk : k ≤ 9223372036854775807) (hs : Knows kb mb s W) :
    Calls Tryd.prog 38 #[.int .i64 n, .int .i64 k, .pointer (some ⟨kb, 0, none⟩)] W fun e w' => e = .returned (.bool (parK s n k).1) ∧ Knows kb mb (parK s n k).2 w' ∧ Wr (fun i => i = mb) W w' := by
  obtain ⟨m, rfl⟩ : ∃ m : Nat, n = (m : Int) := ⟨n.toNat, by omega⟩
  have hm8 : m < 8 := by omega
  have hIn : In64 (m : Int) := by unfold In64; omega
  obtain ⟨cn, hcn, hmap⟩ := hs.map
  have hlk := hmap.look2 hIn
  have r0 := hs.row.cell (j := 0) rfl
  have rl := hs.row.lt
  have hne := hmap.ne hs.row
  cases hsm : s (m : Int) with
  | none =>
    rw [hsm] at hlk
    have HS2 := Lib.hid (show parK s (m : Int) k = (decide (k ≤ 4), fun j => if j = (m : Int) then some k else s j) from by unfold parK; rw [if_pos hsm])
    obtain ⟨D, hown, hD⟩ := hmap
    have HD := Lib.hid hD
    have HROW := Lib.hid hs.row
    have HCN := Lib.hid (Nat.le_trans (Nat.add_le_add_right hcn 1) (cntK_put (k := k) hm8 hsm))
    have HIN := Lib.hid hIn
    have hc8 := cntK_le s
    have hee : ((k : Int) == (k : Int)) = true := beq_self_eq_true _
    clear hs hsm hD hIn
    go_enter Tryd.func38, Tryd.ntmps38
    refine wp_letter (fun Q hQ => ?_)
    have HQ := Lib.hid hQ
    clear hQ
    go_wp2_with (first | (at_mapUpdate; refine wpList_mapUpdate_own _ rfl _ _ _ 70 rfl 3 3 know_law Tryd.underlying70 _ mb cn _ rfl hown (by unfold maxLen; omega) _ _ _ rfl rfl (know_key HIN.out) _ [] (plainElem_int Tryd.underlying3 (WalkArith.wf_i64 (by omega))) ?_) | go_in)
    intro w2 hown2 hg2
    have hD2 := labD_put (g := fun j => if j = (m : Int) then some k else s j) hown.isMap HD.out k (if_pos rfl) (fun j hj => if_neg hj)
    have hwg := Wr.grown (F := fun i => i = mb) hg2 (fun k hk => by cases hk; rfl)
    have hrow2 := HROW.out.wr hwg (fun e => hne e.symm)
    have hmap2 : KnowM w2 mb (cn + 1) (fun j => if j = (m : Int) then some k else s j) := ⟨_, hown2, hD2⟩
    have hlk2 := hmap2.look HIN.out
    rw [if_pos rfl, Option.getD_some] at hlk2
    have r02 := hrow2.cell (j := 0) rfl
    have rl2 := hrow2.lt
    have HWG := Lib.hid hwg
    have HK2 := Lib.hid (⟨hrow2, cn + 1, HCN.out, hmap2⟩ : Knows kb mb (fun j => if j = (m : Int) then some k else s j) w2)
    clear hown hown2 hg2 hD2 hwg hrow2 hmap2 hlk r0 rl
    by_cases h4 : k ≤ 4
    · have d4 : decide ((k : Int) ≤ 4) = true := decide_eq_true (by omega)
      have HP := Lib.hid (show decide (k ≤ 4) = true from decide_eq_true h4)
      go_wp2_with fail
      refine HQ.out _ _ _ ?_
      exact bodyPost_ret (v := .bool true) (by simp [results, Tryd.results38, go_sem]) rfl ⟨by rw [HS2.out, HP.out], by rw [HS2.out]; exact HK2.out, HWG.out⟩
    · have d4 : decide ((k : Int) ≤ 4) = false := decide_eq_false (by omega)
      have HP := Lib.hid (show decide (k ≤ 4) = false from decide_eq_false h4)
      go_wp2_with fail
      refine HQ.out _ _ _ ?_
      exact bodyPost_ret (v := .bool false) (by simp [results, Tryd.results38, go_sem]) rfl ⟨by rw [HS2.out, HP.out], by rw [HS2.out]; exact HK2.out, HWG.out⟩
  | some j =>
    have hlk2 := hmap.look hIn
    rw [hsm] at hlk hlk2
    rw [Option.getD_some] at hlk hlk2
    have HS2 := Lib.hid (show parK s (m : Int) k = (decide (j = k) && decide (k ≤ 4), s) from by
      unfold parK
      rw [if_neg (by rw [hsm]; simp), hsm]
      simp)
    have HK := Lib.hid hs
    clear hs hsm hmap
    by_cases hjk : j = k
    · have hee : ((j : Int) == (k : Int)) = true := by rw [hjk]; exact beq_self_eq_true _
      have HJ := Lib.hid (show decide (j = k) = true from decide_eq_true hjk)
      by_cases h4 : k ≤ 4
      · have d4 : decide ((k : Int) ≤ 4) = true := decide_eq_true (by omega)
        have HP := Lib.hid (show decide (k ≤ 4) = true from decide_eq_true h4)
        clear hjk
        go_enter Tryd.func38, Tryd.ntmps38
        refine wp_letter (fun Q hQ => ?_)
        have HQ := Lib.hid hQ
        clear hQ
        go_wp2_with fail
        refine HQ.out _ _ _ ?_
        exact bodyPost_ret (v := .bool true) (by simp [results, Tryd.results38, go_sem]) rfl ⟨by rw [HS2.out, HP.out, HJ.out]; rfl, by rw [HS2.out]; exact HK.out, Wr.refl _ _⟩
      · have d4 : decide ((k : Int) ≤ 4) = false := decide_eq_false (by omega)
        have HP := Lib.hid (show decide (k ≤ 4) = false from decide_eq_false h4)
        clear hjk
        go_enter Tryd.func38, Tryd.ntmps38
        refine wp_letter (fun Q hQ => ?_)
        have HQ := Lib.hid hQ
        clear hQ
        go_wp2_with fail
        refine HQ.out _ _ _ ?_
        exact bodyPost_ret (v := .bool false) (by simp [results, Tryd.results38, go_sem]) rfl ⟨by rw [HS2.out, HP.out, HJ.out]; rfl, by rw [HS2.out]; exact HK.out, Wr.refl _ _⟩
    · have hee : ((j : Int) == (k : Int)) = false := beq_eq_false_iff_ne.2 (by omega)
      have HJ := Lib.hid (show decide (j = k) = false from decide_eq_false hjk)
      clear hjk
      go_enter Tryd.func38, Tryd.ntmps38
      refine wp_letter (fun Q hQ => ?_)
      have HQ := Lib.hid hQ
      clear hQ
      go_wp2_with fail
      refine HQ.out _ _ _ ?_
      exact bodyPost_ret (v := .bool false) (by simp [results, Tryd.results38, go_sem]) rfl ⟨by rw [HS2.out, HJ.out]; rfl, by rw [HS2.out]; exact HK.out, Wr.refl _ _⟩
set_option maxRecDepth 100000 in
set_option maxHeartbeats 8000000 in
theorem lalone_any (c : CodeS) (LA : Option Addr) (lc : Nat) (BA : Option Addr) (bc B : Nat) (w : World) (hB : B ≤ w.heap.size) (hL : SliceAt w B 3 (ObE w B) c.locs (.slice LA c.locs.length lc)) (hK : SliceAt w B 6 (InsE w B) c.ins (.slice BA c.ins.length bc)) :
    Calls Tryd.prog 25 #[.agg #[.int .i64 c.params, .int .i64 c.regs, .slice LA c.locs.length lc, .slice BA c.ins.length bc]] w fun e w' => e = .returned (.bool (aloneB c)) ∧ Below w.heap.size w w' := by
  have hmm := @run_makeMap Tryd.prog
  have hmf : ∀ (fn : Fn) (first cap : Array Value) (w : World), (Instr.makeFunc fn first cap).run Tryd.prog w = .ok (.func fn first cap) w := fun _ _ _ _ => rfl
  have hb3 : Below w.heap.size w (((w.alloc (.cells #[.int .i64 c.params, .int .i64 c.regs, .slice LA c.locs.length lc, .slice BA c.ins.length bc] 33)).alloc (.map #[] 0)).alloc (.cells #[.map (some (w.heap.size + 1))] 70)) := (below2 w _ _).trans ((below1 _ _).mono (by simp; omega))
  have hb4 : Below w.heap.size w ((((w.alloc (.cells #[.int .i64 c.params, .int .i64 c.regs, .slice LA c.locs.length lc, .slice BA c.ins.length bc] 33)).alloc (.map #[] 0)).alloc (.cells #[.map (some (w.heap.size + 1))] 70)).alloc (.cells #[.int .i64 c.params, .int .i64 c.regs, .slice LA c.locs.length lc, .slice BA c.ins.length bc, .int .i64 8, .int .i64 16, .func (.func 38) #[] #[.pointer (some ⟨w.heap.size + 1 + 1, 0, none⟩)], .map none] 75)) := hb3.trans ((below1 _ _).mono hb3.size)
  have hk0 : KnowM ((w.alloc (.cells #[.int .i64 c.params, .int .i64 c.regs, .slice LA c.locs.length lc, .slice BA c.ins.length bc] 33)).alloc (.map #[] 0)) (w.heap.size + 1) 0 noneK := by
    have := KnowM.made (w.alloc (.cells #[.int .i64 c.params, .int .i64 c.regs, .slice LA c.locs.length lc, .slice BA c.ins.length bc] 33))
    rwa [show (w.alloc (.cells #[.int .i64 c.params, .int .i64 c.regs, .slice LA c.locs.length lc, .slice BA c.ins.length bc] 33)).heap.size = w.heap.size + 1 from by simp] at this
  have hk3 : Knows (w.heap.size + 1 + 1) (w.heap.size + 1) noneK (((w.alloc (.cells #[.int .i64 c.params, .int .i64 c.regs, .slice LA c.locs.length lc, .slice BA c.ins.length bc] 33)).alloc (.map #[] 0)).alloc (.cells #[.map (some (w.heap.size + 1))] 70)) := ⟨Row.new' _ _ (by simp), 0, Nat.zero_le _, hk0.wr (F := fun _ => False) (Wr.of_below (below1 _ _)) (fun h => h)⟩
  have hk4 : Knows (w.heap.size + 1 + 1) (w.heap.size + 1) noneK ((((w.alloc (.cells #[.int .i64 c.params, .int .i64 c.regs, .slice LA c.locs.length lc, .slice BA c.ins.length bc] 33)).alloc (.map #[] 0)).alloc (.cells #[.map (some (w.heap.size + 1))] 70)).alloc (.cells #[.int .i64 c.params, .int .i64 c.regs, .slice LA c.locs.length lc, .slice BA c.ins.length bc, .int .i64 8, .int .i64 16, .func (.func 38) #[] #[.pointer (some ⟨w.heap.size + 1 + 1, 0, none⟩)], .map none] 75)) := hk3.wr (F := fun _ => False) (Wr.of_below (below1 _ _)) (fun h => h) (fun h => h)
  have HFN := Lib.hid (vfn_any (Knows (w.heap.size + 1 + 1) (w.heap.size + 1)) parK (fun k => k = w.heap.size + 1) noneK (w.heap.size + 1 + 1 + 1) c LA lc BA bc 8 16 (.pointer (some ⟨w.heap.size + 1 + 1, 0, none⟩)) (.map none) B ((((w.alloc (.cells #[.int .i64 c.params, .int .i64 c.regs, .slice LA c.locs.length lc, .slice BA c.ins.length bc] 33)).alloc (.map #[] 0)).alloc (.cells #[.map (some (w.heap.size + 1))] 70)).alloc (.cells #[.int .i64 c.params, .int .i64 c.regs, .slice LA c.locs.length lc, .slice BA c.ins.length bc, .int .i64 8, .int .i64 16, .func (.func 38) #[] #[.pointer (some ⟨w.heap.size + 1 + 1, 0, none⟩)], .map none] 75)) (Row.new' _ _ (by simp)) (by simp; omega) (by omega)
    (hL.below (hb4.mono hB) (Nat.le_refl _) (fun _ _ h => h.below (hb4.mono hB) (Nat.le_refl _))) (hK.below (hb4.mono hB) (Nat.le_refl _) (fun _ _ h => h.below (hb4.mono hB) (Nat.le_refl _)))
    (fun k hk => by subst hk; refine ⟨by omega, by first | (simp; done) | (simp; omega), by omega⟩) hk4 (fun s W W' h hw => h.wr hw (by omega) (by omega)) (fun s n k W hn hk hs _ => lpar_any _ _ s n k W hn hk hs))
  have HB4 := Lib.hid hb4
  clear hL hK hb3 hb4 hk0 hk3 hk4
  go_enter Tryd.func25, Tryd.ntmps25
  refine wp_letter (fun Q hQ => ?_)
  have HQ := Lib.hid hQ
  clear hQ
  go_wp2_with fail
  refine HFN.out.mono ?_
  rintro e w' ⟨rfl, _, hw⟩
  have HW := Lib.hid hw
  clear hw
  go_wp2_with fail
  refine HQ.out _ _ _ ?_
  exact bodyPost_ret (v := .bool (aloneB c)) (by simp [results, Tryd.results25, go_sem, aloneB]) rfl ⟨rfl, HB4.out.trans (HW.out.below HB4.out.size (fun k hk => by rcases hk with rfl | rfl <;> omega))⟩
end Go.Proofs.YtlenilbkifofjaaDoor
