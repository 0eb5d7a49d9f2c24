/- The graph's asker: how a block ends. Conditions: as stated. -/
import Derived.Test.YtikbdplllopjlaaGAskEZz
set_option linter.unusedVariables false
set_option linter.unusedSimpArgs false
namespace Go.Proofs.Ytikbdplllopjlaa
open Go.RowKit

def gendB (p : ProgS) (g : GraphS) (n : Int) (b : BlockS) : Bool × Int :=
  if b.fin = 1 then (if (0 ≤ b.next ∧ b.next < g.blocks.length) ∧ b.els = 0 then (gnoneB b.cond, n) else (false, n))
  else if b.fin = 2 then (if (0 ≤ b.next ∧ b.next < g.blocks.length) ∧ (0 ≤ b.els ∧ b.els < g.blocks.length) then gtreeB g.temps g.locs.length p.globs.length n b.cond else (false, n))
  else if b.fin = 3 then (if b.next = 0 ∧ b.els = 0 then gtreeB g.temps g.locs.length p.globs.length n b.cond else (false, n)) else (false, n)

set_option maxRecDepth 100000 in
set_option maxHeartbeats 16000000 in
theorem gend_ask (a : AskAt) (ab : Nat) (n : Int) (p : ProgS) (g : GraphS) (b : BlockS) (SV : Value) (CA : Option Addr) (cl cc : Nat) (ca cb : Int) (B : Nat) (w : World) (hB : B ≤ w.heap.size) (hab : B ≤ ab) (ha : AskOk w B a p g) (hr : ARow w ab a n) (hn0 : 0 ≤ n) (hn1 : n ≤ 8000) (hsv : ∃ A l c, SV = .slice A l c)
    (hct : TreeAt w (Under B) b.cond (.int .i64 ca) (.int .i64 cb) (.slice CA cl cc)) (hnb : g.blocks.length ≤ 9223372036854775807) :
    Calls Try.prog 30 #[.pointer (some ⟨ab, 0, none⟩), .agg #[SV, .int .i64 b.fin, .int .i64 ca, .int .i64 cb, .slice CA cl cc, .int .i64 b.next, .int .i64 b.els]] w fun e w' => AskSays a ab (gendB p g n b) w e w' := by
  obtain ⟨steps, fin, cond, next, els⟩ := b
  obtain ⟨SA, sl, sc, rfl⟩ := hsv
  simp only at hct ⊢
  have HT := Lib.hid (fun W (hW : Below w.heap.size w W) => gtree_any a ab n cond B W _ _ _ (by have := hW.size; omega) (hct.below (hW.mono hB) (Nat.le_refl _)) (hr.below hW) hn0 (by omega))
  rw [ha.temps, ha.nl, ha.ng] at HT
  simp only [AskSays] at HT
  have HNO := Lib.hid (fun W (hW : Below w.heap.size w W) => gnone_any cond B W _ _ _ (hct.below (hW.mono hB) (Nat.le_refl _)))
  have HR := Lib.hid hr
  have hanb := ha.nb
  have r6 : w.cell? ⟨ab, 6, none⟩ = some (.slice a.ba a.nb a.bc) := Row.cell hr rfl
  have hrl := Row.lt hr
  have hrl1 : ab < w.heap.size + 1 := by omega
  clear hr ha hct
  have h : fin = 1 ∨ fin = 2 ∨ fin = 3 ∨ (fin ≠ 1 ∧ fin ≠ 2 ∧ fin ≠ 3) := by omega
  rcases h with rfl | rfl | rfl | ⟨f1, f2, f3⟩
  · by_cases h1 : 0 ≤ next ∧ next < (a.nb : Int)
    · have h1' : 0 ≤ next ∧ next < (g.blocks.length : Int) := by omega
      by_cases h2 : els = 0
      · subst h2
        rw [show gendB p g n ⟨steps, 1, cond, next, 0⟩ = (gnoneB cond, n) from by unfold gendB; rw [if_pos rfl, if_pos ⟨h1', rfl⟩]]
        have HW1 := Lib.hid (show ∀ W, Calls Try.prog 19 #[.int .i64 next, .int .i64 (a.nb : Nat)] W fun e w' => e = .returned (.bool true) ∧ W = w' from fun W => by have := gwithin_any next (a.nb : Nat) W; rwa [decide_eq_true h1] at this)
        clear h1 h1'
        clear hanb
        go_enter Try.func30, Try.ntmps30
        refine wp_letter (fun Q hQ => ?_)
        have HQ := Lib.hid hQ
        clear hQ
        go_wp2_with fail
        refine (HW1.out _).mono ?_
        rintro e w' ⟨rfl, rfl⟩
        go_wp2_with fail
        refine (HNO.out _ (below1 _ _)).mono ?_
        rintro e w3 ⟨rfl, hb3⟩
        have HB3 := Lib.hid ((below1 w _).trans (hb3.mono (below1 w _).size))
        clear hb3
        go_wp2_with fail
        refine HQ.out _ _ _ ?_
        exact bodyPost_ret (v := .bool (gnoneB cond)) (by simp [results, Try.results30, go_sem]) rfl ⟨rfl, HR.out.below HB3.out, Wr.of_below HB3.out⟩
      · have e2 : (els == 0) = false := by simpa using h2
        rw [show gendB p g n ⟨steps, 1, cond, next, els⟩ = (false, n) from by unfold gendB; rw [if_pos rfl, if_neg (fun h => h2 h.2)]]
        have HW1 := Lib.hid (show ∀ W, Calls Try.prog 19 #[.int .i64 next, .int .i64 (a.nb : Nat)] W fun e w' => e = .returned (.bool true) ∧ W = w' from fun W => by have := gwithin_any next (a.nb : Nat) W; rwa [decide_eq_true h1] at this)
        clear h1 h1' h2
        clear hanb
        go_enter Try.func30, Try.ntmps30
        refine wp_letter (fun Q hQ => ?_)
        have HQ := Lib.hid hQ
        clear hQ
        go_wp2_with fail
        refine (HW1.out _).mono ?_
        rintro e w' ⟨rfl, rfl⟩
        go_wp2_with fail
        refine HQ.out _ _ _ ?_
        exact bodyPost_ret (v := .bool false) (by simp [results, Try.results30, go_sem]) rfl ⟨rfl, HR.out.below (below1 _ _), Wr.of_below (below1 _ _)⟩
    · have h1' : ¬ (0 ≤ next ∧ next < (g.blocks.length : Int)) := by omega
      rw [show gendB p g n ⟨steps, 1, cond, next, els⟩ = (false, n) from by unfold gendB; rw [if_pos rfl, if_neg (fun h => h1' h.1)]]
      have HW1 := Lib.hid (show ∀ W, Calls Try.prog 19 #[.int .i64 next, .int .i64 (a.nb : Nat)] W fun e w' => e = .returned (.bool false) ∧ W = w' from fun W => by have := gwithin_any next (a.nb : Nat) W; rwa [decide_eq_false h1] at this)
      clear h1 h1'
      clear hanb
      go_enter Try.func30, Try.ntmps30
      refine wp_letter (fun Q hQ => ?_)
      have HQ := Lib.hid hQ
      clear hQ
      go_wp2_with fail
      refine (HW1.out _).mono ?_
      rintro e w' ⟨rfl, rfl⟩
      go_wp2_with fail
      refine HQ.out _ _ _ ?_
      exact bodyPost_ret (v := .bool false) (by simp [results, Try.results30, go_sem]) rfl ⟨rfl, HR.out.below (below1 _ _), Wr.of_below (below1 _ _)⟩
  · by_cases h1 : 0 ≤ next ∧ next < (a.nb : Int)
    · have h1' : 0 ≤ next ∧ next < (g.blocks.length : Int) := by omega
      by_cases h2 : 0 ≤ els ∧ els < (a.nb : Int)
      · have h2' : 0 ≤ els ∧ els < (g.blocks.length : Int) := by omega
        rw [show gendB p g n ⟨steps, 2, cond, next, els⟩ = gtreeB g.temps g.locs.length p.globs.length n cond from by unfold gendB; rw [if_neg (show ¬ (2 : Int) = 1 by decide), if_pos rfl, if_pos ⟨h1', h2'⟩]]
        have HW1 := Lib.hid (show ∀ W, Calls Try.prog 19 #[.int .i64 next, .int .i64 (a.nb : Nat)] W fun e w' => e = .returned (.bool true) ∧ W = w' from fun W => by have := gwithin_any next (a.nb : Nat) W; rwa [decide_eq_true h1] at this)
        have HW2 := Lib.hid (show ∀ W, Calls Try.prog 19 #[.int .i64 els, .int .i64 (a.nb : Nat)] W fun e w' => e = .returned (.bool true) ∧ W = w' from fun W => by have := gwithin_any els (a.nb : Nat) W; rwa [decide_eq_true h2] at this)
        clear h1 h1' h2 h2'
        clear hanb
        go_enter Try.func30, Try.ntmps30
        refine wp_letter (fun Q hQ => ?_)
        have HQ := Lib.hid hQ
        clear hQ
        go_wp2_with fail
        refine (HW1.out _).mono ?_
        rintro e w' ⟨rfl, rfl⟩
        go_wp2_with fail
        refine (HW2.out _).mono ?_
        rintro e w' ⟨rfl, rfl⟩
        go_wp2_with fail
        refine (HT.out _ (below1 _ _)).mono ?_
        rintro e w3 ⟨rfl, hr3, hw3⟩
        have HR3 := Lib.hid hr3
        have HW3 := Lib.hid ((Wr.of_below (F := fun k => k = ab) (below1 w _)).trans hw3 (fun _ h => Or.inl h))
        clear hr3 hw3
        go_wp2_with fail
        refine HQ.out _ _ _ ?_
        exact bodyPost_ret (v := .bool (gtreeB g.temps g.locs.length p.globs.length n cond).1) (by simp [results, Try.results30, go_sem]) rfl ⟨rfl, HR3.out, HW3.out⟩
      · have h2' : ¬ (0 ≤ els ∧ els < (g.blocks.length : Int)) := by omega
        rw [show gendB p g n ⟨steps, 2, cond, next, els⟩ = (false, n) from by unfold gendB; rw [if_neg (show ¬ (2 : Int) = 1 by decide), if_pos rfl, if_neg (fun h => h2' h.2)]]
        have HW1 := Lib.hid (show ∀ W, Calls Try.prog 19 #[.int .i64 next, .int .i64 (a.nb : Nat)] W fun e w' => e = .returned (.bool true) ∧ W = w' from fun W => by have := gwithin_any next (a.nb : Nat) W; rwa [decide_eq_true h1] at this)
        have HW2 := Lib.hid (show ∀ W, Calls Try.prog 19 #[.int .i64 els, .int .i64 (a.nb : Nat)] W fun e w' => e = .returned (.bool false) ∧ W = w' from fun W => by have := gwithin_any els (a.nb : Nat) W; rwa [decide_eq_false h2] at this)
        clear h1 h1' h2 h2'
        clear hanb
        go_enter Try.func30, Try.ntmps30
        refine wp_letter (fun Q hQ => ?_)
        have HQ := Lib.hid hQ
        clear hQ
        go_wp2_with fail
        refine (HW1.out _).mono ?_
        rintro e w' ⟨rfl, rfl⟩
        go_wp2_with fail
        refine (HW2.out _).mono ?_
        rintro e w' ⟨rfl, rfl⟩
        go_wp2_with fail
        refine HQ.out _ _ _ ?_
        exact bodyPost_ret (v := .bool false) (by simp [results, Try.results30, go_sem]) rfl ⟨rfl, HR.out.below (below1 _ _), Wr.of_below (below1 _ _)⟩
    · have h1' : ¬ (0 ≤ next ∧ next < (g.blocks.length : Int)) := by omega
      rw [show gendB p g n ⟨steps, 2, cond, next, els⟩ = (false, n) from by unfold gendB; rw [if_neg (show ¬ (2 : Int) = 1 by decide), if_pos rfl, if_neg (fun h => h1' h.1)]]
      have HW1 := Lib.hid (show ∀ W, Calls Try.prog 19 #[.int .i64 next, .int .i64 (a.nb : Nat)] W fun e w' => e = .returned (.bool false) ∧ W = w' from fun W => by have := gwithin_any next (a.nb : Nat) W; rwa [decide_eq_false h1] at this)
      clear h1 h1'
      clear hanb
      go_enter Try.func30, Try.ntmps30
      refine wp_letter (fun Q hQ => ?_)
      have HQ := Lib.hid hQ
      clear hQ
      go_wp2_with fail
      refine (HW1.out _).mono ?_
      rintro e w' ⟨rfl, rfl⟩
      go_wp2_with fail
      refine HQ.out _ _ _ ?_
      exact bodyPost_ret (v := .bool false) (by simp [results, Try.results30, go_sem]) rfl ⟨rfl, HR.out.below (below1 _ _), Wr.of_below (below1 _ _)⟩
  · by_cases h1 : next = 0
    · subst h1
      by_cases h2 : els = 0
      · subst h2
        rw [show gendB p g n ⟨steps, 3, cond, 0, 0⟩ = gtreeB g.temps g.locs.length p.globs.length n cond from by unfold gendB; rw [if_neg (show ¬ (3 : Int) = 1 by decide), if_neg (show ¬ (3 : Int) = 2 by decide), if_pos rfl, if_pos ⟨rfl, rfl⟩]]
        clear hanb
        go_enter Try.func30, Try.ntmps30
        refine wp_letter (fun Q hQ => ?_)
        have HQ := Lib.hid hQ
        clear hQ
        go_wp2_with fail
        refine (HT.out _ (below1 _ _)).mono ?_
        rintro e w3 ⟨rfl, hr3, hw3⟩
        have HR3 := Lib.hid hr3
        have HW3 := Lib.hid ((Wr.of_below (F := fun k => k = ab) (below1 w _)).trans hw3 (fun _ h => Or.inl h))
        clear hr3 hw3
        go_wp2_with fail
        refine HQ.out _ _ _ ?_
        exact bodyPost_ret (v := .bool (gtreeB g.temps g.locs.length p.globs.length n cond).1) (by simp [results, Try.results30, go_sem]) rfl ⟨rfl, HR3.out, HW3.out⟩
      · have e2 : (els == 0) = false := by simpa using h2
        rw [show gendB p g n ⟨steps, 3, cond, 0, els⟩ = (false, n) from by unfold gendB; rw [if_neg (show ¬ (3 : Int) = 1 by decide), if_neg (show ¬ (3 : Int) = 2 by decide), if_pos rfl, if_neg (fun h => h2 h.2)]]
        clear h2
        clear hanb
        go_enter Try.func30, Try.ntmps30
        refine wp_letter (fun Q hQ => ?_)
        have HQ := Lib.hid hQ
        clear hQ
        go_wp2_with fail
        refine HQ.out _ _ _ ?_
        exact bodyPost_ret (v := .bool false) (by simp [results, Try.results30, go_sem]) rfl ⟨rfl, HR.out.below (below1 _ _), Wr.of_below (below1 _ _)⟩
    · have e1 : (next == 0) = false := by simpa using h1
      rw [show gendB p g n ⟨steps, 3, cond, next, els⟩ = (false, n) from by unfold gendB; rw [if_neg (show ¬ (3 : Int) = 1 by decide), if_neg (show ¬ (3 : Int) = 2 by decide), if_pos rfl, if_neg (fun h => h1 h.1)]]
      clear h1
      clear hanb
      go_enter Try.func30, Try.ntmps30
      refine wp_letter (fun Q hQ => ?_)
      have HQ := Lib.hid hQ
      clear hQ
      go_wp2_with fail
      refine HQ.out _ _ _ ?_
      exact bodyPost_ret (v := .bool false) (by simp [results, Try.results30, go_sem]) rfl ⟨rfl, HR.out.below (below1 _ _), Wr.of_below (below1 _ _)⟩
  · have e1 : (fin == 1) = false := by simpa using f1
    have e2 : (fin == 2) = false := by simpa using f2
    have e3 : (fin == 3) = false := by simpa using f3
    rw [show gendB p g n ⟨steps, fin, cond, next, els⟩ = (false, n) from by unfold gendB; rw [if_neg f1, if_neg f2, if_neg f3]]
    clear f1 f2 f3
    clear hanb
    go_enter Try.func30, Try.ntmps30
    refine wp_letter (fun Q hQ => ?_)
    have HQ := Lib.hid hQ
    clear hQ
    go_wp2_with fail
    refine HQ.out _ _ _ ?_
    exact bodyPost_ret (v := .bool false) (by simp [results, Try.results30, go_sem]) rfl ⟨rfl, HR.out.below (below1 _ _), Wr.of_below (below1 _ _)⟩
end Go.Proofs.Ytikbdplllopjlaa
