/- Copies of programs in memory of their own. Conditions: as stated. -/
import Derived.Test.YtlenilbkifofjaaDoorQ03Zz
set_option linter.unusedVariables false
set_option linter.unusedSimpArgs false
namespace Go.Proofs.YtlenilbkifofjaaDoor
open Go.RowKit

theorem clong_info : (Tryd.prog.info? 2).map (fun i => (i.zero, i.size, i.bytes)) = some (some (.int .i64 0), 1, 8) := by kernel_rfl
set_option maxRecDepth 100000 in
set_option maxHeartbeats 8000000 in
theorem copyLongs_any (l : List Int) (A : Option Addr) (cap : Nat) (B : Nat) (w : World) (hB : B ≤ w.heap.size) (hv : LongsAt w B l (.slice A l.length cap)) (hln : l.length * 8 ≤ 140737488351232) :
    Calls Tryd.prog 60 #[.slice A l.length cap] w (ListEnd LongE 1 l w) := by
  have hn := (SliceAt.len hv).2
  have HV := Lib.hid hv
  clear hv
  obtain ⟨i0, hi, hz0, hz1, hz2⟩ := info_parts clong_info
  go_enter Tryd.func60, Tryd.ntmps60
  refine wp_letter (fun Q hQ => ?_)
  have HQ := Lib.hid hQ
  clear hQ
  go_wp2_with fail
  go_loopw [3, 4] (fun r i wr => ∃ (k : Nat) (LA : Option Addr) (ln lc : Nat) (xs : List Value), k ≤ l.length ∧ i = .int .i64 k ∧ r = .slice LA ln lc ∧ RowE LongE 2 1 w.heap.size wr (.slice LA ln lc) (l.take k) xs ∧ Below w.heap.size w wr) (fun _ i _ => l.length - (intOf i).toNat)
  case atStart => exact ⟨0, none, 0, 0, [], by omega, rfl, rfl, RowE.nil _ _ _ _ _, Below.refl _ _⟩
  case round =>
    obtain ⟨k, LA, ln, lc, xs, hk, rfl, rfl, hR, hbw⟩ := hrel
    have HR := Lib.hid hR
    have HBW := Lib.hid hbw
    have hzw := hbw.size
    by_cases hlt : k < l.length
    · obtain ⟨b, off, x, rfl, hb, hk1, hx, hx64⟩ := SliceAt.get (LongsAt.below HV.out (hbw.mono hB) (Nat.le_refl _)) hlt
      have HK1 := Lib.hid hk1
      have HX := Lib.hid hx64
      have hklt : (k : Int) < (l.length : Int) := by omega
      have hbl : b < wr.heap.size := by omega
      have htl : (l.take k).length = k := by simp; omega
      have HTL := Lib.hid htl
      simp only [Nat.add_zero, Nat.mul_one] at hx
      clear hR hbw hk1 hx64 htl
      go_wp2_with (at_builtin; refine wpList_append_lies _ rfl (.tmp 11) (.tmp 16) 23 rfl w.heap.size 2 i0 (.int .i64 0) 1 8 Tryd.underlying23 hi hz0 hz1 hz2 rfl (by decide) _ k xs rfl (by have h := HR.out.own; rw [HTL.out] at h; exact (ownsRow_wr h ((Wr.refl (fun _ => False) _).allocR _) (fun _ _ h => h))) ⟨wr.heap.size, 0, none⟩ 1 1 [.int .i64 x] rfl rfl ?c1 ?c2 (by decide) ?c3 ?c4 ?c5 _ rfl ?_)
      case c1 => exact cells_new _ _ _
      case c2 => intro u hu; simp at hu; rcases hu with rfl; rfl
      case c3 => unfold maxLen; omega
      case c4 => omega
      case c5 => first | omega | (simp <;> omega)
      · intro g cap' w3 hown3 hgrow hat hglt
        have HN := Lib.hid (show RowE LongE 2 1 w.heap.size w3 (.slice (some ⟨g, 0, none⟩) (k + 1) cap') (l.take (k + 1)) (xs ++ [.int .i64 x]) from by
          have h := RowE.next LongE.mono HR.out (by omega) (Below.refl _ _) (us := [.int .i64 x]) (x := x) ⟨rfl, HX.out⟩ rfl (below1 wr _) (by rw [HTL.out]; exact hown3) hgrow (by simpa using hat)
          rw [HTL.out] at h
          rw [take_succ_of HK1.out]
          exact h)
        have HBN := Lib.hid (show Below w.heap.size w w3 from HBW.out.trans (((Below.refl _ _).alloc (by omega) _).grown hgrow (by first | omega | (simp <;> omega)) (fun g hg => by have := (HR.out.lt hg); omega)))
        clear hown3 hgrow hat
        go_wp2_with fail
        go_roundw
        case rel => exact ⟨k + 1, _, _, _, _, by omega, by go_num, rfl, HN.out, HBN.out⟩
        case measure => simp [intOf]; omega
    · obtain rfl : k = l.length := by omega
      rw [List.take_length] at hR
      have HR2 := Lib.hid hR
      clear hR hbw
      go_wp2_with fail
      refine HQ.out _ _ _ ?_
      exact bodyPost_ret (v := .slice LA ln lc) (by simp [results, Tryd.results60, go_sem]) rfl (ListEnd.of_row LongE.mono HR2.out HBW.out)
theorem cint_info : (Tryd.prog.info? 3).map (fun i => (i.zero, i.size, i.bytes)) = some (some (.int .i64 0), 1, 8) := by kernel_rfl
set_option maxRecDepth 100000 in
set_option maxHeartbeats 8000000 in
theorem copyNumbers_any (l : List Int) (A : Option Addr) (cap : Nat) (B : Nat) (w : World) (hB : B ≤ w.heap.size) (hv : LongsAt w B l (.slice A l.length cap)) (hln : l.length * 8 ≤ 140737488351232) :
    Calls Tryd.prog 35 #[.slice A l.length cap] w (ListEnd LongE 1 l w) := by
  have hn := (SliceAt.len hv).2
  have HV := Lib.hid hv
  clear hv
  obtain ⟨i0, hi, hz0, hz1, hz2⟩ := info_parts cint_info
  go_enter Tryd.func35, Tryd.ntmps35
  refine wp_letter (fun Q hQ => ?_)
  have HQ := Lib.hid hQ
  clear hQ
  go_wp2_with fail
  go_loopw [3, 4] (fun r i wr => ∃ (k : Nat) (LA : Option Addr) (ln lc : Nat) (xs : List Value), k ≤ l.length ∧ i = .int .i64 k ∧ r = .slice LA ln lc ∧ RowE LongE 3 1 w.heap.size wr (.slice LA ln lc) (l.take k) xs ∧ Below w.heap.size w wr) (fun _ i _ => l.length - (intOf i).toNat)
  case atStart => exact ⟨0, none, 0, 0, [], by omega, rfl, rfl, RowE.nil _ _ _ _ _, Below.refl _ _⟩
  case round =>
    obtain ⟨k, LA, ln, lc, xs, hk, rfl, rfl, hR, hbw⟩ := hrel
    have HR := Lib.hid hR
    have HBW := Lib.hid hbw
    have hzw := hbw.size
    by_cases hlt : k < l.length
    · obtain ⟨b, off, x, rfl, hb, hk1, hx, hx64⟩ := SliceAt.get (LongsAt.below HV.out (hbw.mono hB) (Nat.le_refl _)) hlt
      have HK1 := Lib.hid hk1
      have HX := Lib.hid hx64
      have hklt : (k : Int) < (l.length : Int) := by omega
      have hbl : b < wr.heap.size := by omega
      have htl : (l.take k).length = k := by simp; omega
      have HTL := Lib.hid htl
      simp only [Nat.add_zero, Nat.mul_one] at hx
      clear hR hbw hk1 hx64 htl
      go_wp2_with (at_builtin; refine wpList_append_lies _ rfl (.tmp 11) (.tmp 16) 35 rfl w.heap.size 3 i0 (.int .i64 0) 1 8 Tryd.underlying35 hi hz0 hz1 hz2 rfl (by decide) _ k xs rfl (by have h := HR.out.own; rw [HTL.out] at h; exact (ownsRow_wr h ((Wr.refl (fun _ => False) _).allocR _) (fun _ _ h => h))) ⟨wr.heap.size, 0, none⟩ 1 1 [.int .i64 x] rfl rfl ?c1 ?c2 (by decide) ?c3 ?c4 ?c5 _ rfl ?_)
      case c1 => exact cells_new _ _ _
      case c2 => intro u hu; simp at hu; rcases hu with rfl; rfl
      case c3 => unfold maxLen; omega
      case c4 => omega
      case c5 => first | omega | (simp <;> omega)
      · intro g cap' w3 hown3 hgrow hat hglt
        have HN := Lib.hid (show RowE LongE 3 1 w.heap.size w3 (.slice (some ⟨g, 0, none⟩) (k + 1) cap') (l.take (k + 1)) (xs ++ [.int .i64 x]) from by
          have h := RowE.next LongE.mono HR.out (by omega) (Below.refl _ _) (us := [.int .i64 x]) (x := x) ⟨rfl, HX.out⟩ rfl (below1 wr _) (by rw [HTL.out]; exact hown3) hgrow (by simpa using hat)
          rw [HTL.out] at h
          rw [take_succ_of HK1.out]
          exact h)
        have HBN := Lib.hid (show Below w.heap.size w w3 from HBW.out.trans (((Below.refl _ _).alloc (by omega) _).grown hgrow (by first | omega | (simp <;> omega)) (fun g hg => by have := (HR.out.lt hg); omega)))
        clear hown3 hgrow hat
        go_wp2_with fail
        go_roundw
        case rel => exact ⟨k + 1, _, _, _, _, by omega, by go_num, rfl, HN.out, HBN.out⟩
        case measure => simp [intOf]; omega
    · obtain rfl : k = l.length := by omega
      rw [List.take_length] at hR
      have HR2 := Lib.hid hR
      clear hR hbw
      go_wp2_with fail
      refine HQ.out _ _ _ ?_
      exact bodyPost_ret (v := .slice LA ln lc) (by simp [results, Tryd.results35, go_sem]) rfl (ListEnd.of_row LongE.mono HR2.out HBW.out)
theorem ObE.shape {w : World} {B : Nat} {c : Nat → Option Value} {x : ObS} (h : ObE w B c x) : ∃ (A2 : Option Addr) (c2 : Nat), c 0 = some (.int .i64 x.size) ∧ c 1 = some (.int .i64 x.count) ∧ c 2 = some (.slice A2 x.init.length c2) ∧ LongsAt w B x.init (.slice A2 x.init.length c2) ∧ In64 x.size ∧ In64 x.count := by
  obtain ⟨h0, h1, ⟨v2, h2, r2⟩, i0, i1⟩ := h
  obtain ⟨A2, c2, rfl, _⟩ := id r2
  exact ⟨A2, c2, h0, h1, h2, r2, i0, i1⟩
/-- What Obj's copy says. -/
def CopiedObj (x : ObS) (w : World) (e : Ending) (w' : World) : Prop :=
  ∃ u0 u1 u2 : Value, e = .returned (.agg #[u0, u1, u2]) ∧ ObE (only w' (From w.heap.size)) w'.heap.size (fun j => [u0, u1, u2][j]?) x ∧ Below w.heap.size w w'
set_option maxRecDepth 100000 in
set_option maxHeartbeats 8000000 in
theorem copyObj_any (x : ObS) (B : Nat) (w : World) (c : Nat → Option Value) (v0 v1 v2 : Value) (hB : B ≤ w.heap.size) (hx : ObE w B c x) (k0 : c 0 = some v0) (k1 : c 1 = some v1) (k2 : c 2 = some v2) (hsz : ObjF x) :
    Calls Tryd.prog 36 #[.agg #[v0, v1, v2]] w (CopiedObj x w) := by
  obtain ⟨A2, c2, h0, h1, h2, r2, i0, i1⟩ := hx.shape
  rw [h0] at k0; injection k0 with k0; subst k0
  rw [h1] at k1; injection k1 with k1; subst k1
  rw [h2] at k2; injection k2 with k2; subst k2
  have z2 : ObjF x := hsz
  unfold ObjF at z2
  have HC0 := Lib.hid (fun W (hb : Below w.heap.size w W) => copyLongs_any x.init A2 c2 B W (by have := hb.size; omega) (r2.below (hb.mono hB) (Nat.le_refl _)) z2)
  have HI0 := Lib.hid i0
  have HI1 := Lib.hid i1
  have HB3 := Lib.hid (below3 w (.cells #[.int .i64 x.size, .int .i64 x.count, .slice A2 x.init.length c2] 67) (.cells #[.int .i64 0, .int .i64 0, .slice none 0 0] 67) (.cells #[.int .i64 x.size, .int .i64 x.count, .slice A2 x.init.length c2] 67))
  clear hx h0 h1 h2 r2 i0 i1 z2
  go_enter Tryd.func36, Tryd.ntmps36
  refine wp_letter (fun Q hQ => ?_)
  have HQ := Lib.hid hQ
  clear hQ
  go_wp2_with fail
  refine (HC0.out _ (by exact HB3.out)).mono ?_
  rintro e w1 ⟨A2', c2', rfl, hs, _, hb0⟩
  have HS0 := Lib.hid hs
  clear hs
  have hz0 : w.heap.size + 1 + 1 + 1 ≤ w1.heap.size := by have := hb0.size; first | omega | (simp at this; omega)
  have x00 : w1.cell? ⟨w.heap.size + 1 + 1, 0, none⟩ = some (.int .i64 x.size) := cell_below (by simp [go_sem]) hb0 (by first | omega | (simp <;> omega))
  have f00 : w1.frozen? ⟨w.heap.size + 1 + 1, 0, none⟩ = false := ((bcell hb0).2 _ _ (by first | omega | (simp <;> omega))).trans (by simp [go_sem])
  have q00 : w1.cell? ⟨w.heap.size + 1, 0, none⟩ = some (.int .i64 0) := cell_below (by simp [go_sem]) hb0 (by first | omega | (simp <;> omega))
  have g00 : w1.frozen? ⟨w.heap.size + 1, 0, none⟩ = false := ((bcell hb0).2 _ _ (by first | omega | (simp <;> omega))).trans (by simp [go_sem])
  have a00 : w1.cell? ⟨w.heap.size, 0, none⟩ = some (.int .i64 x.size) := cell_below (by simp [go_sem]) hb0 (by first | omega | (simp <;> omega))
  have x01 : w1.cell? ⟨w.heap.size + 1 + 1, 1, none⟩ = some (.int .i64 x.count) := cell_below (by simp [go_sem]) hb0 (by first | omega | (simp <;> omega))
  have f01 : w1.frozen? ⟨w.heap.size + 1 + 1, 1, none⟩ = false := ((bcell hb0).2 _ _ (by first | omega | (simp <;> omega))).trans (by simp [go_sem])
  have q01 : w1.cell? ⟨w.heap.size + 1, 1, none⟩ = some (.int .i64 0) := cell_below (by simp [go_sem]) hb0 (by first | omega | (simp <;> omega))
  have g01 : w1.frozen? ⟨w.heap.size + 1, 1, none⟩ = false := ((bcell hb0).2 _ _ (by first | omega | (simp <;> omega))).trans (by simp [go_sem])
  have a01 : w1.cell? ⟨w.heap.size, 1, none⟩ = some (.int .i64 x.count) := cell_below (by simp [go_sem]) hb0 (by first | omega | (simp <;> omega))
  have x02 : w1.cell? ⟨w.heap.size + 1 + 1, 2, none⟩ = some (.slice A2 x.init.length c2) := cell_below (by simp [go_sem]) hb0 (by first | omega | (simp <;> omega))
  have f02 : w1.frozen? ⟨w.heap.size + 1 + 1, 2, none⟩ = false := ((bcell hb0).2 _ _ (by first | omega | (simp <;> omega))).trans (by simp [go_sem])
  have q02 : w1.cell? ⟨w.heap.size + 1, 2, none⟩ = some (.slice none 0 0) := cell_below (by simp [go_sem]) hb0 (by first | omega | (simp <;> omega))
  have g02 : w1.frozen? ⟨w.heap.size + 1, 2, none⟩ = false := ((bcell hb0).2 _ _ (by first | omega | (simp <;> omega))).trans (by simp [go_sem])
  have a02 : w1.cell? ⟨w.heap.size, 2, none⟩ = some (.slice A2 x.init.length c2) := cell_below (by simp [go_sem]) hb0 (by first | omega | (simp <;> omega))
  have HY0 := Lib.hid hb0
  have HBF := Lib.hid (HB3.out.trans (hb0.mono (by first | omega | (simp <;> omega))))
  clear hb0
  go_wp2_with fail
  refine HQ.out _ _ _ ?_
  refine bodyPost_ret (v := .agg #[.int .i64 x.size, .int .i64 x.count, .slice A2' x.init.length c2']) (by simp [results, Tryd.results36, go_sem, x00, x01, x02, q00, q01, q02]) rfl ?_
  refine of_wr (X := fun i => i = w.heap.size + 1 ∨ i = w.heap.size + 1 + 1) (w := w1) ?_ (fun hw => ?_)
  · repeat (first | (with_reducible exact Wr.refl _ _) | (with_reducible refine Wr.drewR ?_) | (with_reducible refine Wr.allocR ?_ _) | (with_reducible refine Wr.setR ?_ _ _ _ (Or.inl ?_)) | exact Or.inl rfl | exact Or.inr rfl)
  have R2 := LongsAt.sub (w := only w1 _) HS0.out (only_later hw (N := w.heap.size) (fun i hi => by rcases hi with hi | hi <;> subst hi <;> first | omega | (simp <;> omega)) (by first | omega | (simp <;> omega))) hw.size
  exact ⟨_, _, _, rfl, ⟨rfl, rfl, ⟨_, rfl, R2⟩, HI0.out, HI1.out⟩, HBF.out.trans (hw.below (by omega) (fun i hi => by rcases hi with hi | hi <;> subst hi <;> omega))⟩
theorem cobj_info : (Tryd.prog.info? 67).map (fun i => (i.zero, i.size, i.bytes)) = some (some (.agg #[.int .i64 0, .int .i64 0, .slice none 0 0]), 3, 40) := by kernel_rfl
set_option maxRecDepth 100000 in
set_option maxHeartbeats 8000000 in
theorem copyObjs_any (l : List ObS) (A : Option Addr) (cap : Nat) (B : Nat) (w : World) (hB : B ≤ w.heap.size) (hv : SliceAt w B 3 (ObE w B) l (.slice A l.length cap)) (hln : l.length * 40 ≤ 140737488351232) (hsz : ∀ y, y ∈ l → ObjF y) :
    Calls Tryd.prog 23 #[.slice A l.length cap] w (ListEnd ObE 3 l w) := by
  have hn := hv.len.2
  have HV := Lib.hid hv
  have HSZ := Lib.hid hsz
  clear hv hsz
  obtain ⟨i0, hi, hz0, hz1, hz2⟩ := info_parts cobj_info
  go_enter Tryd.func23, Tryd.ntmps23
  refine wp_letter (fun Q hQ => ?_)
  have HQ := Lib.hid hQ
  clear hQ
  go_wp2_with fail
  go_loopw [3, 4] (fun r i wr => ∃ (k : Nat) (LA : Option Addr) (ln lc : Nat) (xs : List Value), k ≤ l.length ∧ i = .int .i64 k ∧ r = .slice LA ln lc ∧ RowE ObE 67 3 w.heap.size wr (.slice LA ln lc) (l.take k) xs ∧ Below w.heap.size w wr) (fun _ i _ => l.length - (intOf i).toNat)
  case atStart => exact ⟨0, none, 0, 0, [], by omega, rfl, rfl, RowE.nil _ _ _ _ _, Below.refl _ _⟩
  case round =>
    obtain ⟨k, LA, ln, lc, xs, hk, rfl, rfl, hR, hbw⟩ := hrel
    have HR := Lib.hid hR
    have HBW := Lib.hid hbw
    have hzw := hbw.size
    by_cases hlt : k < l.length
    · obtain ⟨b, off, x, rfl, hb, hk1, hx⟩ := (HV.out.below (hbw.mono hB) (Nat.le_refl _) (fun _ _ h => h.below (hbw.mono hB) (Nat.le_refl _))).get hlt
      obtain ⟨A2, c2, h0, h1, h2, r2, i0, i1⟩ := hx.shape
      have HC := Lib.hid (copyObj_any x B wr _ (.int .i64 x.size) (.int .i64 x.count) (.slice A2 x.init.length c2) (by omega) hx h0 h1 h2 (HSZ.out x (List.mem_of_getElem? hk1)))
      have HK1 := Lib.hid hk1
      have hklt : (k : Int) < (l.length : Int) := by omega
      have hbl : b < wr.heap.size := by omega
      have htl : (l.take k).length = k := by simp; omega
      have HTL := Lib.hid htl
      simp only [Nat.add_zero] at h0 h1 h2
      clear hR hbw hk1 hx htl r2 i0 i1
      go_wp2_with fail
      refine HC.out.mono ?_
      rintro e w1 ⟨u0, u1, u2, rfl, hy, hb1⟩
      obtain ⟨A2s, c2s, e0, e1, e2, r2s, i0s, i1s⟩ := hy.shape
      obtain rfl := Option.some.inj e0
      obtain rfl := Option.some.inj e1
      obtain rfl := Option.some.inj e2
      have hz1' := hb1.size
      have HY := Lib.hid hy
      have HB1 := Lib.hid hb1
      clear hy hb1 e0 e1 e2 r2s i0s i1s
      go_wp2_with (at_builtin; refine wpList_append_lies _ rfl (.tmp 11) (.tmp 17) 27 rfl w.heap.size 67 i0 (.agg #[.int .i64 0, .int .i64 0, .slice none 0 0]) 3 40 Tryd.underlying27 hi hz0 hz1 hz2 rfl (by decide) _ k xs rfl (by have h := HR.out.own; rw [HTL.out] at h; exact (ownsRow_wr h ((Wr.of_below (F := fun _ => False) HB1.out).allocR _) (fun _ _ h => h))) ⟨w1.heap.size, 0, none⟩ 1 1 [.int .i64 x.size, .int .i64 x.count, .slice A2s x.init.length c2s] rfl rfl ?c1 ?c2 (by decide) ?c3 ?c4 ?c5 _ rfl ?_)
      case c1 => exact cells_new _ _ _
      case c2 => intro u hu; simp at hu; rcases hu with rfl | rfl | rfl <;> rfl
      case c3 => unfold maxLen; omega
      case c4 => omega
      case c5 => first | omega | (simp <;> omega)
      · intro g cap' w3 hown3 hgrow hat hglt
        have HN := Lib.hid (show RowE ObE 67 3 w.heap.size w3 (.slice (some ⟨g, 0, none⟩) (k + 1) cap') (l.take (k + 1)) (xs ++ [.int .i64 x.size, .int .i64 x.count, .slice A2s x.init.length c2s]) from by
          have h := RowE.next ObE.mono HR.out (by omega) HB1.out HY.out rfl (below1 w1 _) (by rw [HTL.out]; exact hown3) hgrow (by simpa using hat)
          rw [HTL.out] at h
          rw [take_succ_of HK1.out]
          exact h)
        have HBN := Lib.hid (show Below w.heap.size w w3 from (HBW.out.trans (HB1.out.mono hzw)).trans (((Below.refl _ _).alloc (by omega) _).grown hgrow (by first | omega | (simp <;> omega)) (fun g hg => by have := (HR.out.lt hg); omega)))
        clear hown3 hgrow hat
        go_wp2_with fail
        go_roundw
        case rel => exact ⟨k + 1, _, _, _, _, by omega, by go_num, rfl, HN.out, HBN.out⟩
        case measure => simp [intOf]; omega
    · obtain rfl : k = l.length := by omega
      rw [List.take_length] at hR
      have HR2 := Lib.hid hR
      clear hR hbw
      go_wp2_with fail
      refine HQ.out _ _ _ ?_
      exact bodyPost_ret (v := .slice LA ln lc) (by simp [results, Tryd.results23, go_sem]) rfl (ListEnd.of_row ObE.mono HR2.out HBW.out)
theorem InsE.shape {w : World} {B : Nat} {c : Nat → Option Value} {x : InsS} (h : InsE w B c x) : ∃ (A5 : Option Addr) (c5 : Nat), c 0 = some (.int .i64 x.op) ∧ c 1 = some (.int .i64 x.dst) ∧ c 2 = some (.int .i64 x.a) ∧ c 3 = some (.int .i64 x.b) ∧ c 4 = some (.int .i64 x.n) ∧ c 5 = some (.slice A5 x.arg.length c5) ∧ LongsAt w B x.arg (.slice A5 x.arg.length c5) ∧ In64 x.op ∧ In64 x.dst ∧ In64 x.a ∧ In64 x.b ∧ In64 x.n := by
  obtain ⟨h0, h1, h2, h3, h4, ⟨v5, h5, r5⟩, i0, i1, i2, i3, i4⟩ := h
  obtain ⟨A5, c5, rfl, _⟩ := id r5
  exact ⟨A5, c5, h0, h1, h2, h3, h4, h5, r5, i0, i1, i2, i3, i4⟩
/-- What Ins's copy says. -/
def CopiedIns (x : InsS) (w : World) (e : Ending) (w' : World) : Prop :=
  ∃ u0 u1 u2 u3 u4 u5 : Value, e = .returned (.agg #[u0, u1, u2, u3, u4, u5]) ∧ InsE (only w' (From w.heap.size)) w'.heap.size (fun j => [u0, u1, u2, u3, u4, u5][j]?) x ∧ Below w.heap.size w w'
set_option maxRecDepth 100000 in
set_option maxHeartbeats 8000000 in
theorem copyIns_any (x : InsS) (B : Nat) (w : World) (c : Nat → Option Value) (v0 v1 v2 v3 v4 v5 : Value) (hB : B ≤ w.heap.size) (hx : InsE w B c x) (k0 : c 0 = some v0) (k1 : c 1 = some v1) (k2 : c 2 = some v2) (k3 : c 3 = some v3) (k4 : c 4 = some v4) (k5 : c 5 = some v5) (hsz : InsF x) :
    Calls Tryd.prog 37 #[.agg #[v0, v1, v2, v3, v4, v5]] w (CopiedIns x w) := by
  obtain ⟨A5, c5, h0, h1, h2, h3, h4, h5, r5, i0, i1, i2, i3, i4⟩ := hx.shape
  rw [h0] at k0; injection k0 with k0; subst k0
  rw [h1] at k1; injection k1 with k1; subst k1
  rw [h2] at k2; injection k2 with k2; subst k2
  rw [h3] at k3; injection k3 with k3; subst k3
  rw [h4] at k4; injection k4 with k4; subst k4
  rw [h5] at k5; injection k5 with k5; subst k5
  have z5 : InsF x := hsz
  unfold InsF at z5
  have HC0 := Lib.hid (fun W (hb : Below w.heap.size w W) => copyNumbers_any x.arg A5 c5 B W (by have := hb.size; omega) (r5.below (hb.mono hB) (Nat.le_refl _)) z5)
  have HI0 := Lib.hid i0
  have HI1 := Lib.hid i1
  have HI2 := Lib.hid i2
  have HI3 := Lib.hid i3
  have HI4 := Lib.hid i4
  have HB3 := Lib.hid (below3 w (.cells #[.int .i64 x.op, .int .i64 x.dst, .int .i64 x.a, .int .i64 x.b, .int .i64 x.n, .slice A5 x.arg.length c5] 38) (.cells #[.int .i64 0, .int .i64 0, .int .i64 0, .int .i64 0, .int .i64 0, .slice none 0 0] 38) (.cells #[.int .i64 x.op, .int .i64 x.dst, .int .i64 x.a, .int .i64 x.b, .int .i64 x.n, .slice A5 x.arg.length c5] 38))
  clear hx h0 h1 h2 h3 h4 h5 r5 i0 i1 i2 i3 i4 z5
  go_enter Tryd.func37, Tryd.ntmps37
  refine wp_letter (fun Q hQ => ?_)
  have HQ := Lib.hid hQ
  clear hQ
  go_wp2_with fail
  refine (HC0.out _ (by exact HB3.out)).mono ?_
  rintro e w1 ⟨A5', c5', rfl, hs, _, hb0⟩
  have HS0 := Lib.hid hs
  clear hs
  have hz0 : w.heap.size + 1 + 1 + 1 ≤ w1.heap.size := by have := hb0.size; first | omega | (simp at this; omega)
  have x00 : w1.cell? ⟨w.heap.size + 1 + 1, 0, none⟩ = some (.int .i64 x.op) := cell_below (by simp [go_sem]) hb0 (by first | omega | (simp <;> omega))
  have f00 : w1.frozen? ⟨w.heap.size + 1 + 1, 0, none⟩ = false := ((bcell hb0).2 _ _ (by first | omega | (simp <;> omega))).trans (by simp [go_sem])
  have q00 : w1.cell? ⟨w.heap.size + 1, 0, none⟩ = some (.int .i64 0) := cell_below (by simp [go_sem]) hb0 (by first | omega | (simp <;> omega))
  have g00 : w1.frozen? ⟨w.heap.size + 1, 0, none⟩ = false := ((bcell hb0).2 _ _ (by first | omega | (simp <;> omega))).trans (by simp [go_sem])
  have a00 : w1.cell? ⟨w.heap.size, 0, none⟩ = some (.int .i64 x.op) := cell_below (by simp [go_sem]) hb0 (by first | omega | (simp <;> omega))
  have x01 : w1.cell? ⟨w.heap.size + 1 + 1, 1, none⟩ = some (.int .i64 x.dst) := cell_below (by simp [go_sem]) hb0 (by first | omega | (simp <;> omega))
  have f01 : w1.frozen? ⟨w.heap.size + 1 + 1, 1, none⟩ = false := ((bcell hb0).2 _ _ (by first | omega | (simp <;> omega))).trans (by simp [go_sem])
  have q01 : w1.cell? ⟨w.heap.size + 1, 1, none⟩ = some (.int .i64 0) := cell_below (by simp [go_sem]) hb0 (by first | omega | (simp <;> omega))
  have g01 : w1.frozen? ⟨w.heap.size + 1, 1, none⟩ = false := ((bcell hb0).2 _ _ (by first | omega | (simp <;> omega))).trans (by simp [go_sem])
  have a01 : w1.cell? ⟨w.heap.size, 1, none⟩ = some (.int .i64 x.dst) := cell_below (by simp [go_sem]) hb0 (by first | omega | (simp <;> omega))
  have x02 : w1.cell? ⟨w.heap.size + 1 + 1, 2, none⟩ = some (.int .i64 x.a) := cell_below (by simp [go_sem]) hb0 (by first | omega | (simp <;> omega))
  have f02 : w1.frozen? ⟨w.heap.size + 1 + 1, 2, none⟩ = false := ((bcell hb0).2 _ _ (by first | omega | (simp <;> omega))).trans (by simp [go_sem])
  have q02 : w1.cell? ⟨w.heap.size + 1, 2, none⟩ = some (.int .i64 0) := cell_below (by simp [go_sem]) hb0 (by first | omega | (simp <;> omega))
  have g02 : w1.frozen? ⟨w.heap.size + 1, 2, none⟩ = false := ((bcell hb0).2 _ _ (by first | omega | (simp <;> omega))).trans (by simp [go_sem])
  have a02 : w1.cell? ⟨w.heap.size, 2, none⟩ = some (.int .i64 x.a) := cell_below (by simp [go_sem]) hb0 (by first | omega | (simp <;> omega))
  have x03 : w1.cell? ⟨w.heap.size + 1 + 1, 3, none⟩ = some (.int .i64 x.b) := cell_below (by simp [go_sem]) hb0 (by first | omega | (simp <;> omega))
  have f03 : w1.frozen? ⟨w.heap.size + 1 + 1, 3, none⟩ = false := ((bcell hb0).2 _ _ (by first | omega | (simp <;> omega))).trans (by simp [go_sem])
  have q03 : w1.cell? ⟨w.heap.size + 1, 3, none⟩ = some (.int .i64 0) := cell_below (by simp [go_sem]) hb0 (by first | omega | (simp <;> omega))
  have g03 : w1.frozen? ⟨w.heap.size + 1, 3, none⟩ = false := ((bcell hb0).2 _ _ (by first | omega | (simp <;> omega))).trans (by simp [go_sem])
  have a03 : w1.cell? ⟨w.heap.size, 3, none⟩ = some (.int .i64 x.b) := cell_below (by simp [go_sem]) hb0 (by first | omega | (simp <;> omega))
  have x04 : w1.cell? ⟨w.heap.size + 1 + 1, 4, none⟩ = some (.int .i64 x.n) := cell_below (by simp [go_sem]) hb0 (by first | omega | (simp <;> omega))
  have f04 : w1.frozen? ⟨w.heap.size + 1 + 1, 4, none⟩ = false := ((bcell hb0).2 _ _ (by first | omega | (simp <;> omega))).trans (by simp [go_sem])
  have q04 : w1.cell? ⟨w.heap.size + 1, 4, none⟩ = some (.int .i64 0) := cell_below (by simp [go_sem]) hb0 (by first | omega | (simp <;> omega))
  have g04 : w1.frozen? ⟨w.heap.size + 1, 4, none⟩ = false := ((bcell hb0).2 _ _ (by first | omega | (simp <;> omega))).trans (by simp [go_sem])
  have a04 : w1.cell? ⟨w.heap.size, 4, none⟩ = some (.int .i64 x.n) := cell_below (by simp [go_sem]) hb0 (by first | omega | (simp <;> omega))
  have x05 : w1.cell? ⟨w.heap.size + 1 + 1, 5, none⟩ = some (.slice A5 x.arg.length c5) := cell_below (by simp [go_sem]) hb0 (by first | omega | (simp <;> omega))
  have f05 : w1.frozen? ⟨w.heap.size + 1 + 1, 5, none⟩ = false := ((bcell hb0).2 _ _ (by first | omega | (simp <;> omega))).trans (by simp [go_sem])
  have q05 : w1.cell? ⟨w.heap.size + 1, 5, none⟩ = some (.slice none 0 0) := cell_below (by simp [go_sem]) hb0 (by first | omega | (simp <;> omega))
  have g05 : w1.frozen? ⟨w.heap.size + 1, 5, none⟩ = false := ((bcell hb0).2 _ _ (by first | omega | (simp <;> omega))).trans (by simp [go_sem])
  have a05 : w1.cell? ⟨w.heap.size, 5, none⟩ = some (.slice A5 x.arg.length c5) := cell_below (by simp [go_sem]) hb0 (by first | omega | (simp <;> omega))
  have HY0 := Lib.hid hb0
  have HBF := Lib.hid (HB3.out.trans (hb0.mono (by first | omega | (simp <;> omega))))
  clear hb0
  go_wp2_with fail
  refine HQ.out _ _ _ ?_
  refine bodyPost_ret (v := .agg #[.int .i64 x.op, .int .i64 x.dst, .int .i64 x.a, .int .i64 x.b, .int .i64 x.n, .slice A5' x.arg.length c5']) (by simp [results, Tryd.results37, go_sem, x00, x01, x02, x03, x04, x05, q00, q01, q02, q03, q04, q05]) rfl ?_
  refine of_wr (X := fun i => i = w.heap.size + 1 ∨ i = w.heap.size + 1 + 1) (w := w1) ?_ (fun hw => ?_)
  · repeat (first | (with_reducible exact Wr.refl _ _) | (with_reducible refine Wr.drewR ?_) | (with_reducible refine Wr.allocR ?_ _) | (with_reducible refine Wr.setR ?_ _ _ _ (Or.inl ?_)) | exact Or.inl rfl | exact Or.inr rfl)
  have R5 := LongsAt.sub (w := only w1 _) HS0.out (only_later hw (N := w.heap.size) (fun i hi => by rcases hi with hi | hi <;> subst hi <;> first | omega | (simp <;> omega)) (by first | omega | (simp <;> omega))) hw.size
  exact ⟨_, _, _, _, _, _, rfl, ⟨rfl, rfl, rfl, rfl, rfl, ⟨_, rfl, R5⟩, HI0.out, HI1.out, HI2.out, HI3.out, HI4.out⟩, HBF.out.trans (hw.below (by omega) (fun i hi => by rcases hi with hi | hi <;> subst hi <;> omega))⟩
theorem cins_info : (Tryd.prog.info? 38).map (fun i => (i.zero, i.size, i.bytes)) = some (some (.agg #[.int .i64 0, .int .i64 0, .int .i64 0, .int .i64 0, .int .i64 0, .slice none 0 0]), 6, 64) := by kernel_rfl
set_option maxRecDepth 100000 in
set_option maxHeartbeats 8000000 in
theorem copyInss_any (l : List InsS) (A : Option Addr) (cap : Nat) (B : Nat) (w : World) (hB : B ≤ w.heap.size) (hv : SliceAt w B 6 (InsE w B) l (.slice A l.length cap)) (hln : l.length * 64 ≤ 140737488351232) (hsz : ∀ y, y ∈ l → InsF y) :
    Calls Tryd.prog 24 #[.slice A l.length cap] w (ListEnd InsE 6 l w) := by
  have hn := hv.len.2
  have HV := Lib.hid hv
  have HSZ := Lib.hid hsz
  clear hv hsz
  obtain ⟨i0, hi, hz0, hz1, hz2⟩ := info_parts cins_info
  go_enter Tryd.func24, Tryd.ntmps24
  refine wp_letter (fun Q hQ => ?_)
  have HQ := Lib.hid hQ
  clear hQ
  go_wp2_with fail
  go_loopw [3, 4] (fun r i wr => ∃ (k : Nat) (LA : Option Addr) (ln lc : Nat) (xs : List Value), k ≤ l.length ∧ i = .int .i64 k ∧ r = .slice LA ln lc ∧ RowE InsE 38 6 w.heap.size wr (.slice LA ln lc) (l.take k) xs ∧ Below w.heap.size w wr) (fun _ i _ => l.length - (intOf i).toNat)
  case atStart => exact ⟨0, none, 0, 0, [], by omega, rfl, rfl, RowE.nil _ _ _ _ _, Below.refl _ _⟩
  case round =>
    obtain ⟨k, LA, ln, lc, xs, hk, rfl, rfl, hR, hbw⟩ := hrel
    have HR := Lib.hid hR
    have HBW := Lib.hid hbw
    have hzw := hbw.size
    by_cases hlt : k < l.length
    · obtain ⟨b, off, x, rfl, hb, hk1, hx⟩ := (HV.out.below (hbw.mono hB) (Nat.le_refl _) (fun _ _ h => h.below (hbw.mono hB) (Nat.le_refl _))).get hlt
      obtain ⟨A5, c5, h0, h1, h2, h3, h4, h5, r5, i0, i1, i2, i3, i4⟩ := hx.shape
      have HC := Lib.hid (copyIns_any x B wr _ (.int .i64 x.op) (.int .i64 x.dst) (.int .i64 x.a) (.int .i64 x.b) (.int .i64 x.n) (.slice A5 x.arg.length c5) (by omega) hx h0 h1 h2 h3 h4 h5 (HSZ.out x (List.mem_of_getElem? hk1)))
      have HK1 := Lib.hid hk1
      have hklt : (k : Int) < (l.length : Int) := by omega
      have hbl : b < wr.heap.size := by omega
      have htl : (l.take k).length = k := by simp; omega
      have HTL := Lib.hid htl
      simp only [Nat.add_zero] at h0 h1 h2 h3 h4 h5
      clear hR hbw hk1 hx htl r5 i0 i1 i2 i3 i4
      go_wp2_with fail
      refine HC.out.mono ?_
      rintro e w1 ⟨u0, u1, u2, u3, u4, u5, rfl, hy, hb1⟩
      obtain ⟨A5s, c5s, e0, e1, e2, e3, e4, e5, r5s, i0s, i1s, i2s, i3s, i4s⟩ := hy.shape
      obtain rfl := Option.some.inj e0
      obtain rfl := Option.some.inj e1
      obtain rfl := Option.some.inj e2
      obtain rfl := Option.some.inj e3
      obtain rfl := Option.some.inj e4
      obtain rfl := Option.some.inj e5
      have hz1' := hb1.size
      have HY := Lib.hid hy
      have HB1 := Lib.hid hb1
      clear hy hb1 e0 e1 e2 e3 e4 e5 r5s i0s i1s i2s i3s i4s
      go_wp2_with (at_builtin; refine wpList_append_lies _ rfl (.tmp 11) (.tmp 17) 31 rfl w.heap.size 38 i0 (.agg #[.int .i64 0, .int .i64 0, .int .i64 0, .int .i64 0, .int .i64 0, .slice none 0 0]) 6 64 Tryd.underlying31 hi hz0 hz1 hz2 rfl (by decide) _ k xs rfl (by have h := HR.out.own; rw [HTL.out] at h; exact (ownsRow_wr h ((Wr.of_below (F := fun _ => False) HB1.out).allocR _) (fun _ _ h => h))) ⟨w1.heap.size, 0, none⟩ 1 1 [.int .i64 x.op, .int .i64 x.dst, .int .i64 x.a, .int .i64 x.b, .int .i64 x.n, .slice A5s x.arg.length c5s] rfl rfl ?c1 ?c2 (by decide) ?c3 ?c4 ?c5 _ rfl ?_)
      case c1 => exact cells_new _ _ _
      case c2 => intro u hu; simp at hu; rcases hu with rfl | rfl | rfl | rfl | rfl | rfl <;> rfl
      case c3 => unfold maxLen; omega
      case c4 => omega
      case c5 => first | omega | (simp <;> omega)
      · intro g cap' w3 hown3 hgrow hat hglt
        have HN := Lib.hid (show RowE InsE 38 6 w.heap.size w3 (.slice (some ⟨g, 0, none⟩) (k + 1) cap') (l.take (k + 1)) (xs ++ [.int .i64 x.op, .int .i64 x.dst, .int .i64 x.a, .int .i64 x.b, .int .i64 x.n, .slice A5s x.arg.length c5s]) from by
          have h := RowE.next InsE.mono HR.out (by omega) HB1.out HY.out rfl (below1 w1 _) (by rw [HTL.out]; exact hown3) hgrow (by simpa using hat)
          rw [HTL.out] at h
          rw [take_succ_of HK1.out]
          exact h)
        have HBN := Lib.hid (show Below w.heap.size w w3 from (HBW.out.trans (HB1.out.mono hzw)).trans (((Below.refl _ _).alloc (by omega) _).grown hgrow (by first | omega | (simp <;> omega)) (fun g hg => by have := (HR.out.lt hg); omega)))
        clear hown3 hgrow hat
        go_wp2_with fail
        go_roundw
        case rel => exact ⟨k + 1, _, _, _, _, by omega, by go_num, rfl, HN.out, HBN.out⟩
        case measure => simp [intOf]; omega
    · obtain rfl : k = l.length := by omega
      rw [List.take_length] at hR
      have HR2 := Lib.hid hR
      clear hR hbw
      go_wp2_with fail
      refine HQ.out _ _ _ ?_
      exact bodyPost_ret (v := .slice LA ln lc) (by simp [results, Tryd.results24, go_sem]) rfl (ListEnd.of_row InsE.mono HR2.out HBW.out)
theorem CodeE.shape {w : World} {B : Nat} {c : Nat → Option Value} {x : CodeS} (h : CodeE w B c x) : ∃ (A2 : Option Addr) (c2 : Nat) (A3 : Option Addr) (c3 : Nat), c 0 = some (.int .i64 x.params) ∧ c 1 = some (.int .i64 x.regs) ∧ c 2 = some (.slice A2 x.locs.length c2) ∧ c 3 = some (.slice A3 x.ins.length c3) ∧ SliceAt w B 3 (ObE w B) x.locs (.slice A2 x.locs.length c2) ∧ SliceAt w B 6 (InsE w B) x.ins (.slice A3 x.ins.length c3) ∧ In64 x.params ∧ In64 x.regs := by
  obtain ⟨h0, h1, ⟨v2, h2, r2⟩, ⟨v3, h3, r3⟩, i0, i1⟩ := h
  obtain ⟨A2, c2, rfl, _⟩ := id r2
  obtain ⟨A3, c3, rfl, _⟩ := id r3
  exact ⟨A2, c2, A3, c3, h0, h1, h2, h3, r2, r3, i0, i1⟩
/-- What Code's copy says. -/
def CopiedCode (x : CodeS) (w : World) (e : Ending) (w' : World) : Prop :=
  ∃ u0 u1 u2 u3 : Value, e = .returned (.agg #[u0, u1, u2, u3]) ∧ CodeE (only w' (From w.heap.size)) w'.heap.size (fun j => [u0, u1, u2, u3][j]?) x ∧ Below w.heap.size w w'
set_option maxRecDepth 100000 in
set_option maxHeartbeats 8000000 in
theorem copyCode_any (x : CodeS) (B : Nat) (w : World) (c : Nat → Option Value) (v0 v1 v2 v3 : Value) (hB : B ≤ w.heap.size) (hx : CodeE w B c x) (k0 : c 0 = some v0) (k1 : c 1 = some v1) (k2 : c 2 = some v2) (k3 : c 3 = some v3) (hsz : CodeF x) :
    Calls Tryd.prog 12 #[.agg #[v0, v1, v2, v3]] w (CopiedCode x w) := by
  obtain ⟨A2, c2, A3, c3, h0, h1, h2, h3, r2, r3, i0, i1⟩ := hx.shape
  rw [h0] at k0; injection k0 with k0; subst k0
  rw [h1] at k1; injection k1 with k1; subst k1
  rw [h2] at k2; injection k2 with k2; subst k2
  rw [h3] at k3; injection k3 with k3; subst k3
  obtain ⟨z2, y2, z3, y3⟩ := hsz
  have HC0 := Lib.hid (fun W (hb : Below w.heap.size w W) => copyObjs_any x.locs A2 c2 B W (by have := hb.size; omega) (r2.below (hb.mono hB) (Nat.le_refl _) (fun _ _ h => h.below (hb.mono hB) (Nat.le_refl _))) z2 y2)
  have HC1 := Lib.hid (fun W (hb : Below w.heap.size w W) => copyInss_any x.ins A3 c3 B W (by have := hb.size; omega) (r3.below (hb.mono hB) (Nat.le_refl _) (fun _ _ h => h.below (hb.mono hB) (Nat.le_refl _))) z3 y3)
  have HI0 := Lib.hid i0
  have HI1 := Lib.hid i1
  have HB3 := Lib.hid (below3 w (.cells #[.int .i64 x.params, .int .i64 x.regs, .slice A2 x.locs.length c2, .slice A3 x.ins.length c3] 33) (.cells #[.int .i64 0, .int .i64 0, .slice none 0 0, .slice none 0 0] 33) (.cells #[.int .i64 x.params, .int .i64 x.regs, .slice A2 x.locs.length c2, .slice A3 x.ins.length c3] 33))
  clear hx h0 h1 h2 h3 r2 r3 i0 i1 z2 y2 z3 y3
  go_enter Tryd.func12, Tryd.ntmps12
  refine wp_letter (fun Q hQ => ?_)
  have HQ := Lib.hid hQ
  clear hQ
  go_wp2_with fail
  refine (HC0.out _ (by exact HB3.out)).mono ?_
  rintro e w1 ⟨A2', c2', rfl, hs, _, hb0⟩
  have HS0 := Lib.hid hs
  clear hs
  have hz0 : w.heap.size + 1 + 1 + 1 ≤ w1.heap.size := by have := hb0.size; first | omega | (simp at this; omega)
  have x00 : w1.cell? ⟨w.heap.size + 1 + 1, 0, none⟩ = some (.int .i64 x.params) := cell_below (by simp [go_sem]) hb0 (by first | omega | (simp <;> omega))
  have f00 : w1.frozen? ⟨w.heap.size + 1 + 1, 0, none⟩ = false := ((bcell hb0).2 _ _ (by first | omega | (simp <;> omega))).trans (by simp [go_sem])
  have q00 : w1.cell? ⟨w.heap.size + 1, 0, none⟩ = some (.int .i64 0) := cell_below (by simp [go_sem]) hb0 (by first | omega | (simp <;> omega))
  have g00 : w1.frozen? ⟨w.heap.size + 1, 0, none⟩ = false := ((bcell hb0).2 _ _ (by first | omega | (simp <;> omega))).trans (by simp [go_sem])
  have a00 : w1.cell? ⟨w.heap.size, 0, none⟩ = some (.int .i64 x.params) := cell_below (by simp [go_sem]) hb0 (by first | omega | (simp <;> omega))
  have x01 : w1.cell? ⟨w.heap.size + 1 + 1, 1, none⟩ = some (.int .i64 x.regs) := cell_below (by simp [go_sem]) hb0 (by first | omega | (simp <;> omega))
  have f01 : w1.frozen? ⟨w.heap.size + 1 + 1, 1, none⟩ = false := ((bcell hb0).2 _ _ (by first | omega | (simp <;> omega))).trans (by simp [go_sem])
  have q01 : w1.cell? ⟨w.heap.size + 1, 1, none⟩ = some (.int .i64 0) := cell_below (by simp [go_sem]) hb0 (by first | omega | (simp <;> omega))
  have g01 : w1.frozen? ⟨w.heap.size + 1, 1, none⟩ = false := ((bcell hb0).2 _ _ (by first | omega | (simp <;> omega))).trans (by simp [go_sem])
  have a01 : w1.cell? ⟨w.heap.size, 1, none⟩ = some (.int .i64 x.regs) := cell_below (by simp [go_sem]) hb0 (by first | omega | (simp <;> omega))
  have x02 : w1.cell? ⟨w.heap.size + 1 + 1, 2, none⟩ = some (.slice A2 x.locs.length c2) := cell_below (by simp [go_sem]) hb0 (by first | omega | (simp <;> omega))
  have f02 : w1.frozen? ⟨w.heap.size + 1 + 1, 2, none⟩ = false := ((bcell hb0).2 _ _ (by first | omega | (simp <;> omega))).trans (by simp [go_sem])
  have q02 : w1.cell? ⟨w.heap.size + 1, 2, none⟩ = some (.slice none 0 0) := cell_below (by simp [go_sem]) hb0 (by first | omega | (simp <;> omega))
  have g02 : w1.frozen? ⟨w.heap.size + 1, 2, none⟩ = false := ((bcell hb0).2 _ _ (by first | omega | (simp <;> omega))).trans (by simp [go_sem])
  have a02 : w1.cell? ⟨w.heap.size, 2, none⟩ = some (.slice A2 x.locs.length c2) := cell_below (by simp [go_sem]) hb0 (by first | omega | (simp <;> omega))
  have x03 : w1.cell? ⟨w.heap.size + 1 + 1, 3, none⟩ = some (.slice A3 x.ins.length c3) := cell_below (by simp [go_sem]) hb0 (by first | omega | (simp <;> omega))
  have f03 : w1.frozen? ⟨w.heap.size + 1 + 1, 3, none⟩ = false := ((bcell hb0).2 _ _ (by first | omega | (simp <;> omega))).trans (by simp [go_sem])
  have q03 : w1.cell? ⟨w.heap.size + 1, 3, none⟩ = some (.slice none 0 0) := cell_below (by simp [go_sem]) hb0 (by first | omega | (simp <;> omega))
  have g03 : w1.frozen? ⟨w.heap.size + 1, 3, none⟩ = false := ((bcell hb0).2 _ _ (by first | omega | (simp <;> omega))).trans (by simp [go_sem])
  have a03 : w1.cell? ⟨w.heap.size, 3, none⟩ = some (.slice A3 x.ins.length c3) := cell_below (by simp [go_sem]) hb0 (by first | omega | (simp <;> omega))
  have HB0' := Lib.hid (HB3.out.trans (hb0.mono (by first | omega | (simp <;> omega))))
  have HY0 := Lib.hid hb0
  clear hb0
  go_wp2_with fail
  have HB0 := Lib.hid (HB0'.out.trans (show Below w.heap.size w1 (w1.setCell ⟨w.heap.size + 1 + 1, 2, none⟩ (.slice A2' x.locs.length c2')) from Below.setCell (Below.refl _ _) (by first | omega | (simp <;> omega)) _))
  refine (HC1.out _ (by exact HB0.out)).mono ?_
  rintro e w2 ⟨A3', c3', rfl, hs, _, hb1⟩
  have HS1 := Lib.hid hs
  clear hs
  have hz1 : w.heap.size + 1 + 1 + 1 ≤ w2.heap.size := by have := hb1.size; first | omega | (simp at this; omega)
  have x10 : w2.cell? ⟨w.heap.size + 1 + 1, 0, none⟩ = some (.int .i64 x.params) := cell_below (by simp [go_sem, x00, x01, x02, x03]) hb1 (by first | omega | (simp <;> omega))
  have f10 : w2.frozen? ⟨w.heap.size + 1 + 1, 0, none⟩ = false := ((bcell hb1).2 _ _ (by first | omega | (simp <;> omega))).trans (by simp [go_sem, f00, f01, f02, f03])
  have q10 : w2.cell? ⟨w.heap.size + 1, 0, none⟩ = some (.int .i64 0) := cell_below (by simp [go_sem, q00, q01, q02, q03]) hb1 (by first | omega | (simp <;> omega))
  have g10 : w2.frozen? ⟨w.heap.size + 1, 0, none⟩ = false := ((bcell hb1).2 _ _ (by first | omega | (simp <;> omega))).trans (by simp [go_sem, g00, g01, g02, g03])
  have a10 : w2.cell? ⟨w.heap.size, 0, none⟩ = some (.int .i64 x.params) := cell_below (by simp [go_sem, a00, a01, a02, a03]) hb1 (by first | omega | (simp <;> omega))
  have x11 : w2.cell? ⟨w.heap.size + 1 + 1, 1, none⟩ = some (.int .i64 x.regs) := cell_below (by simp [go_sem, x00, x01, x02, x03]) hb1 (by first | omega | (simp <;> omega))
  have f11 : w2.frozen? ⟨w.heap.size + 1 + 1, 1, none⟩ = false := ((bcell hb1).2 _ _ (by first | omega | (simp <;> omega))).trans (by simp [go_sem, f00, f01, f02, f03])
  have q11 : w2.cell? ⟨w.heap.size + 1, 1, none⟩ = some (.int .i64 0) := cell_below (by simp [go_sem, q00, q01, q02, q03]) hb1 (by first | omega | (simp <;> omega))
  have g11 : w2.frozen? ⟨w.heap.size + 1, 1, none⟩ = false := ((bcell hb1).2 _ _ (by first | omega | (simp <;> omega))).trans (by simp [go_sem, g00, g01, g02, g03])
  have a11 : w2.cell? ⟨w.heap.size, 1, none⟩ = some (.int .i64 x.regs) := cell_below (by simp [go_sem, a00, a01, a02, a03]) hb1 (by first | omega | (simp <;> omega))
  have x12 : w2.cell? ⟨w.heap.size + 1 + 1, 2, none⟩ = some (.slice A2' x.locs.length c2') := cell_below (by simp [go_sem, x00, x01, x02, x03]) hb1 (by first | omega | (simp <;> omega))
  have f12 : w2.frozen? ⟨w.heap.size + 1 + 1, 2, none⟩ = false := ((bcell hb1).2 _ _ (by first | omega | (simp <;> omega))).trans (by simp [go_sem, f00, f01, f02, f03])
  have q12 : w2.cell? ⟨w.heap.size + 1, 2, none⟩ = some (.slice none 0 0) := cell_below (by simp [go_sem, q00, q01, q02, q03]) hb1 (by first | omega | (simp <;> omega))
  have g12 : w2.frozen? ⟨w.heap.size + 1, 2, none⟩ = false := ((bcell hb1).2 _ _ (by first | omega | (simp <;> omega))).trans (by simp [go_sem, g00, g01, g02, g03])
  have a12 : w2.cell? ⟨w.heap.size, 2, none⟩ = some (.slice A2 x.locs.length c2) := cell_below (by simp [go_sem, a00, a01, a02, a03]) hb1 (by first | omega | (simp <;> omega))
  have x13 : w2.cell? ⟨w.heap.size + 1 + 1, 3, none⟩ = some (.slice A3 x.ins.length c3) := cell_below (by simp [go_sem, x00, x01, x02, x03]) hb1 (by first | omega | (simp <;> omega))
  have f13 : w2.frozen? ⟨w.heap.size + 1 + 1, 3, none⟩ = false := ((bcell hb1).2 _ _ (by first | omega | (simp <;> omega))).trans (by simp [go_sem, f00, f01, f02, f03])
  have q13 : w2.cell? ⟨w.heap.size + 1, 3, none⟩ = some (.slice none 0 0) := cell_below (by simp [go_sem, q00, q01, q02, q03]) hb1 (by first | omega | (simp <;> omega))
  have g13 : w2.frozen? ⟨w.heap.size + 1, 3, none⟩ = false := ((bcell hb1).2 _ _ (by first | omega | (simp <;> omega))).trans (by simp [go_sem, g00, g01, g02, g03])
  have a13 : w2.cell? ⟨w.heap.size, 3, none⟩ = some (.slice A3 x.ins.length c3) := cell_below (by simp [go_sem, a00, a01, a02, a03]) hb1 (by first | omega | (simp <;> omega))
  have HY1 := Lib.hid hb1
  have HBF := Lib.hid (HB0.out.trans (hb1.mono (by first | omega | (simp <;> omega))))
  clear hb1
  clear x00 x01 x02 x03 f00 f01 f02 f03 q00 q01 q02 q03 g00 g01 g02 g03 a00 a01 a02 a03
  go_wp2_with fail
  refine HQ.out _ _ _ ?_
  refine bodyPost_ret (v := .agg #[.int .i64 x.params, .int .i64 x.regs, .slice A2' x.locs.length c2', .slice A3' x.ins.length c3']) (by simp [results, Tryd.results12, go_sem, x10, x11, x12, x13, q10, q11, q12, q13]) rfl ?_
  refine of_wr (X := fun i => i = w.heap.size + 1 ∨ i = w.heap.size + 1 + 1) (w := w2) ?_ (fun hw => ?_)
  · repeat (first | (with_reducible exact Wr.refl _ _) | (with_reducible refine Wr.drewR ?_) | (with_reducible refine Wr.allocR ?_ _) | (with_reducible refine Wr.setR ?_ _ _ _ (Or.inl ?_)) | exact Or.inl rfl | exact Or.inr rfl)
  have hw0 : Wr (fun i => i = w.heap.size + 1 ∨ i = w.heap.size + 1 + 1) w1 (w1.setCell ⟨w.heap.size + 1 + 1, 2, none⟩ (.slice A2' x.locs.length c2')) := by
    repeat (first | (with_reducible exact Wr.refl _ _) | (with_reducible refine Wr.setR ?_ _ _ _ (Or.inl ?_)) | exact Or.inl rfl | exact Or.inr rfl)
  have hw1 := (hw0.trans (Wr.of_below (F := fun _ => False) HY1.out) (fun _ h => h.elim)).trans hw (fun i hi => Or.inl hi)
  have R2 := SliceAt.sub ObE.mono HS0.out (only_later hw1 (N := w.heap.size) (fun i hi => by rcases hi with hi | hi <;> subst hi <;> first | omega | (simp <;> omega)) (by first | omega | (simp <;> omega))) hw1.size
  have R3 := SliceAt.sub InsE.mono HS1.out (only_later hw (N := w.heap.size) (fun i hi => by rcases hi with hi | hi <;> subst hi <;> first | omega | (simp <;> omega)) (by first | omega | (simp <;> omega))) hw.size
  exact ⟨_, _, _, _, rfl, ⟨rfl, rfl, ⟨_, rfl, R2⟩, ⟨_, rfl, R3⟩, HI0.out, HI1.out⟩, HBF.out.trans (hw.below (by omega) (fun i hi => by rcases hi with hi | hi <;> subst hi <;> omega))⟩
theorem ccode_info : (Tryd.prog.info? 33).map (fun i => (i.zero, i.size, i.bytes)) = some (some (.agg #[.int .i64 0, .int .i64 0, .slice none 0 0, .slice none 0 0]), 4, 64) := by kernel_rfl
theorem VirtE.shape {w : World} {B : Nat} {c : Nat → Option Value} {x : VirtS} (h : VirtE w B c x) : ∃ (A0 : Option Addr) (c0 : Nat) (A1 : Option Addr) (c1 : Nat), c 0 = some (.slice A0 x.globs.length c0) ∧ c 1 = some (.slice A1 x.funcs.length c1) ∧ c 2 = some (.int .i64 x.main) ∧ SliceAt w B 3 (ObE w B) x.globs (.slice A0 x.globs.length c0) ∧ SliceAt w B 4 (CodeE w B) x.funcs (.slice A1 x.funcs.length c1) ∧ In64 x.main := by
  obtain ⟨⟨v0, h0, r0⟩, ⟨v1, h1, r1⟩, h2, i2⟩ := h
  obtain ⟨A0, c0, rfl, _⟩ := id r0
  obtain ⟨A1, c1, rfl, _⟩ := id r1
  exact ⟨A0, c0, A1, c1, h0, h1, h2, r0, r1, i2⟩
/-- What Virt's copy says. -/
def CopiedVirt (x : VirtS) (w : World) (e : Ending) (w' : World) : Prop :=
  ∃ u0 u1 u2 : Value, e = .returned (.agg #[u0, u1, u2]) ∧ VirtE (only w' (From w.heap.size)) w'.heap.size (fun j => [u0, u1, u2][j]?) x ∧ Below w.heap.size w w'
end Go.Proofs.YtlenilbkifofjaaDoor
