/- The graph's asker: a tree; none. Conditions: as stated. -/
import Derived.Test.YtikbdplllopjlaaGAskBZz
import Derived.Deep.RegionWith
set_option linter.unusedVariables false
set_option linter.unusedSimpArgs false
namespace Go.Proofs.Ytikbdplllopjlaa
open Go.RowKit

def gtreeB (na nb nc : Int) (n : Int) (t : T) : Bool × Int := if mayB t = true ∧ gnamesB na nb nc t = true then (decide (n + t.size ≤ 8000), n + t.size) else (false, n)
def AskSays (a : AskAt) (ab : Nat) (r : Bool × Int) (w : World) (e : Ending) (w' : World) : Prop := e = .returned (.bool r.1) ∧ ARow w' ab a r.2 ∧ Wr (fun k => k = ab) w w'
theorem ARow.below {w w' : World} {ab : Nat} {a : AskAt} {n : Int} (h : ARow w ab a n) (hb : Below w.heap.size w w') : ARow w' ab a n := Row.below h hb (Row.lt h)
theorem thenq_mono {K : Act → World → Prop} {X Y : Exit → Act → World → Prop} {e : Exit} {a : Act} {w : World} (h : ∀ e a w, X e a w → Y e a w) (hx : Exit.then K X e a w) : Exit.then K Y e a w := by
  cases e <;> first | exact hx | exact h _ _ _ hx

set_option maxRecDepth 100000 in
set_option maxHeartbeats 8000000 in
theorem gtree_any (a : AskAt) (ab : Nat) (n : Int) (t : T) (B : Nat) (w : World) (v0 v1 v2 : Value) (hB : B ≤ w.heap.size) (hv : TreeAt w (Under B) t v0 v1 v2) (hr : ARow w ab a n) (hn0 : 0 ≤ n) (hn1 : n ≤ 1000000) :
    Calls Try.prog 36 #[.pointer (some ⟨ab, 0, none⟩), .agg #[v0, v1, v2]] w fun e w' => AskSays a ab (gtreeB a.temps a.nl a.ng n t) w e w' := by
  obtain ⟨a0, b0, A1, n1, c1, rfl, rfl, rfl⟩ := hv.shape0
  have HM := Lib.hid (fun W (hW : Below w.heap.size w W) => may_any t B W _ _ _ (by have := hW.size; omega) (hv.below (hW.mono hB) (Nat.le_refl _)))
  have HN := Lib.hid (fun W (hW : Below w.heap.size w W) => gnames_all a ab n t.size t B W _ _ _ (Nat.le_refl _) (by have := hW.size; omega) (hv.below (hW.mono hB) (Nat.le_refl _)) (hr.below hW))
  have HNO := Lib.hid (fun (hm : t.size ≤ 1000000) W (hW : Below w.heap.size w W) => nodes_any t B W _ _ _ (by have := hW.size; omega) (hv.below (hW.mono hB) (Nat.le_refl _)) hm)
  have HR := Lib.hid hr
  have HBX := Lib.hid (Row.new w #[.int .i64 a0, .int .i64 b0, .slice A1 n1 c1] 62)
  have habl := Row.lt hr
  clear hv hr
  by_cases hm : mayB t = true
  · have hsz := (may_iff.1 hm).2
    have HNO2 := Lib.hid (HNO.out (by omega))
    clear HNO
    by_cases hn : gnamesB a.temps a.nl a.ng t = true
    · rw [show gtreeB a.temps a.nl a.ng n t = (decide (n + t.size ≤ 8000), n + t.size) from by unfold gtreeB; rw [if_pos ⟨hm, hn⟩]]
      rw [hm] at HM
      rw [hn] at HN
      have hwr : IntKind.i64.wrap (n + (t.size : Int)) = n + (t.size : Int) := IntWalk.i64_in _ (by omega)
      clear hm hn
      go_enter Try.func36, Try.ntmps36
      refine wp_letter (fun Q hQ => ?_)
      have HQ := Lib.hid hQ
      clear hQ
      go_wp2_with fail
      refine (HM.out _ (below1 _ _)).mono ?_
      rintro e w1 ⟨rfl, hb1⟩
      have HB1 := Lib.hid ((below1 w (.cells #[.int .i64 a0, .int .i64 b0, .slice A1 n1 c1] 62)).trans (hb1.mono (below1 w (.cells #[.int .i64 a0, .int .i64 b0, .slice A1 n1 c1] 62)).size))
      have hbx1 := HBX.out.below hb1 HBX.out.lt
      have HBX1 := Lib.hid hbx1
      have x0 := hbx1.cell (j := 0) rfl
      have x1 := hbx1.cell (j := 1) rfl
      have x2 := hbx1.cell (j := 2) rfl
      have xl := hbx1.lt
      clear hb1 hbx1
      go_wp2_with fail
      refine (HN.out _ HB1.out).mono ?_
      rintro e w2 ⟨rfl, hb2⟩
      have HB2 := Lib.hid (HB1.out.trans (hb2.mono HB1.out.size))
      have hbx2 := HBX1.out.below hb2 HBX1.out.lt
      have HBX2 := Lib.hid hbx2
      have y0 := hbx2.cell (j := 0) rfl
      have y1 := hbx2.cell (j := 1) rfl
      have y2 := hbx2.cell (j := 2) rfl
      have yl := hbx2.lt
      have hr2 := HR.out.below HB2.out
      have HR2 := Lib.hid hr2
      have n7 : w2.cell? ⟨ab, 7, none⟩ = some (.int .i64 n) := Row.cell hr2 rfl
      have f7 : w2.frozen? ⟨ab, 7, none⟩ = false := Row.free hr2 7
      have l7 := Row.lt hr2
      clear hb2 hbx2 hr2 x0 x1 x2 xl
      go_wp2_with fail
      have HNA := Lib.hid (HNO2.out w2.drew HB2.out.drew)
      refine Code.wp_mono (fun e a w h => thenq_mono HQ.out h) ?_
      go_region_with (go_at_call 49; refine HNA.out.mono ?_; rintro e w3 ⟨rfl, hb3⟩; have hr3 := HR2.out.below ((Below.refl _ _).drew.trans hb3); have n7 : w3.cell? ⟨ab, 7, none⟩ = some (.int .i64 n) := Row.cell hr3 rfl; have f7 : w3.frozen? ⟨ab, 7, none⟩ = false := Row.free hr3 7; have l7 := Row.lt hr3)
      all_goals (have HW3 := Lib.hid ((Wr.of_below (F := fun k => k = ab) (HB2.out.trans (((Below.refl _ _).drew.trans hb3).mono HB2.out.size))).trans (Wr.setCell (F := fun k => k = ab) w3 ⟨ab, 7, none⟩ (.int .i64 (n + (t.size : Int))) rfl) (fun _ h => Or.inl h)))
      all_goals (have HR9 := Lib.hid (show ARow (w3.setCell ⟨ab, 7, none⟩ (.int .i64 (n + (t.size : Int)))) ab a (n + t.size) from Row.set hr3 7 _))
      all_goals (clear hb3 hr3)
      all_goals (go_wp2_with fail)
      all_goals (refine HQ.out _ _ _ ?_)
      all_goals (exact bodyPost_ret (v := .bool (decide (n + (t.size : Int) ≤ 8000))) (by simp [results, Try.results36, go_sem]) rfl ⟨rfl, HR9.out, HW3.out⟩)
    · have hn' : gnamesB a.temps a.nl a.ng t = false := by simpa using hn
      rw [show gtreeB a.temps a.nl a.ng n t = (false, n) from by unfold gtreeB; rw [if_neg (fun h => hn h.2)]]
      rw [hm] at HM
      rw [hn'] at HN
      clear hm hn hn'
      go_enter Try.func36, Try.ntmps36
      refine wp_letter (fun Q hQ => ?_)
      have HQ := Lib.hid hQ
      clear hQ
      go_wp2_with fail
      refine (HM.out _ (below1 _ _)).mono ?_
      rintro e w1 ⟨rfl, hb1⟩
      have HB1 := Lib.hid ((below1 w (.cells #[.int .i64 a0, .int .i64 b0, .slice A1 n1 c1] 62)).trans (hb1.mono (below1 w (.cells #[.int .i64 a0, .int .i64 b0, .slice A1 n1 c1] 62)).size))
      have hbx1 := HBX.out.below hb1 HBX.out.lt
      have HBX1 := Lib.hid hbx1
      have x0 := hbx1.cell (j := 0) rfl
      have x1 := hbx1.cell (j := 1) rfl
      have x2 := hbx1.cell (j := 2) rfl
      have xl := hbx1.lt
      clear hb1 hbx1
      go_wp2_with fail
      refine (HN.out _ HB1.out).mono ?_
      rintro e w2 ⟨rfl, hb2⟩
      have HB2 := Lib.hid (HB1.out.trans (hb2.mono HB1.out.size))
      have hbx2 := HBX1.out.below hb2 HBX1.out.lt
      have HBX2 := Lib.hid hbx2
      have y0 := hbx2.cell (j := 0) rfl
      have y1 := hbx2.cell (j := 1) rfl
      have y2 := hbx2.cell (j := 2) rfl
      have yl := hbx2.lt
      have hr2 := HR.out.below HB2.out
      have HR2 := Lib.hid hr2
      have n7 : w2.cell? ⟨ab, 7, none⟩ = some (.int .i64 n) := Row.cell hr2 rfl
      have f7 : w2.frozen? ⟨ab, 7, none⟩ = false := Row.free hr2 7
      have l7 := Row.lt hr2
      clear hb2 hbx2 hr2 x0 x1 x2 xl
      go_wp2_with fail
      refine HQ.out _ _ _ ?_
      exact bodyPost_ret (v := .bool false) (by simp [results, Try.results36, go_sem]) rfl ⟨rfl, HR.out.below HB2.out, Wr.of_below HB2.out⟩
  · have hm' : mayB t = false := by simpa using hm
    rw [show gtreeB a.temps a.nl a.ng n t = (false, n) from by unfold gtreeB; rw [if_neg (fun h => hm h.1)]]
    rw [hm'] at HM
    clear hm hm'
    go_enter Try.func36, Try.ntmps36
    refine wp_letter (fun Q hQ => ?_)
    have HQ := Lib.hid hQ
    clear hQ
    go_wp2_with fail
    refine (HM.out _ (below1 _ _)).mono ?_
    rintro e w1 ⟨rfl, hb1⟩
    have HB1 := Lib.hid ((below1 w (.cells #[.int .i64 a0, .int .i64 b0, .slice A1 n1 c1] 62)).trans (hb1.mono (below1 w (.cells #[.int .i64 a0, .int .i64 b0, .slice A1 n1 c1] 62)).size))
    have hbx1 := HBX.out.below hb1 HBX.out.lt
    have HBX1 := Lib.hid hbx1
    have x0 := hbx1.cell (j := 0) rfl
    have x1 := hbx1.cell (j := 1) rfl
    have x2 := hbx1.cell (j := 2) rfl
    have xl := hbx1.lt
    clear hb1 hbx1
    go_wp2_with fail
    refine HQ.out _ _ _ ?_
    exact bodyPost_ret (v := .bool false) (by simp [results, Try.results36, go_sem]) rfl ⟨rfl, HR.out.below HB1.out, Wr.of_below HB1.out⟩

def gnoneB : T → Bool
  | .node op x ks => decide (op = 0 ∧ x = 0 ∧ ks.length = 0)
set_option maxHeartbeats 4000000 in
theorem gnone_any (t : T) (B : Nat) (w : World) (v0 v1 v2 : Value) (hv : TreeAt w (Under B) t v0 v1 v2) :
    Calls Try.prog 37 #[.agg #[v0, v1, v2]] w fun e w' => e = .returned (.bool (gnoneB t)) ∧ Below w.heap.size w w' := by
  obtain ⟨op, x, ks⟩ := t
  obtain ⟨A, cap, len, rfl, rfl, _, _, rfl, hk⟩ := KidsV.of_tree hv
  have hl := hk.1
  have hlm := hk.2.1
  rw [show gnoneB (.node op x ks) = decide (op = 0 ∧ x = 0 ∧ len = 0) from by simp [gnoneB, hl]]
  clear hv hk hl
  by_cases h0 : op = 0
  · subst h0
    by_cases h1 : x = 0
    · subst h1
      by_cases h2 : len = 0
      · subst h2
        go_enter Try.func37, Try.ntmps37
        go_wp2
        go_ret
        exact ⟨ret_b (by simp), below1 _ _⟩
      · have e : ((len : Int) == 0) = false := by simp; omega
        go_enter Try.func37, Try.ntmps37
        go_wp2
        go_ret
        exact ⟨ret_b (by simp [h2]), below1 _ _⟩
    · have e : (x == 0) = false := by simpa using h1
      go_enter Try.func37, Try.ntmps37
      go_wp2
      go_ret
      exact ⟨ret_b (by simp [h1]), below1 _ _⟩
  · have e : (op == 0) = false := by simpa using h0
    go_enter Try.func37, Try.ntmps37
    go_wp2
    go_ret
    exact ⟨ret_b (by simp [h0]), below1 _ _⟩
end Go.Proofs.Ytikbdplllopjlaa
